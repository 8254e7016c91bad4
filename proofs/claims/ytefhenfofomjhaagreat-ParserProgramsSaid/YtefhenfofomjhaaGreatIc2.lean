/- Integers: more contracts, the specification's too. -/
import Derived.Test.YtefhenfofomjhaaGreatEvY
import Derived.Test.YtefhenfofomjhaaGreatEv1
import Derived.Test.YtefhenfofomjhaaGreatIn2
set_option linter.unusedSimpArgs false
set_option linter.unusedVariables false
set_option maxRecDepth 20000
namespace Go.Proofs.YtefhenfofomjhaaGreat
open Go Go.RowKit Go.V
def Ex.to:Ex→Exit
 | .nrm=>.normal
 | .ret=>.ret
 | .ex i=>.exit i
theorem denVs_len {E:En}:∀ {l:List SV} {vs:List Value},denVs E l=some vs→vs.length=l.length
 | [],_,h=>by injection h with h;subst h;rfl
 | c::r,_,h=>by
  obtain ⟨a,b,_,h2,rfl⟩:=zat h
  simp [denVs_len h2]
theorem denVs_get {E:En}:∀ {l:List SV} {vs:List Value} {i:Nat} {c:SV},denVs E l=some vs→l[i]? = some c→∃ v,vs[i]? = some v∧denV E c=some v
 | [],_,i,c,_,h=>by simp at h
 | d::r,_,i,c,h,hi=>by
  obtain ⟨a,b,h1,h2,rfl⟩:=zat h
  cases i with
  | zero=>simp at hi;subst hi;exact ⟨a,rfl,h1⟩
  | succ i=>simpa using denVs_get h2 (by simpa using hi)
theorem args_den {E:En} {xs:List SV} {vs:List Value} (h:denVs E xs=some vs) (n:Nat):SatG E (xs++List.replicate n undS) (argG vs):=by
 intro t x hx
 rw [argG_getD]
 have hl:=denVs_len h
 by_cases hlt:t<xs.length
 ·rw [List.getElem?_append_left hlt] at hx
  obtain ⟨v,h1,h2⟩:=denVs_get h hx
  rw [List.getD_eq_getElem?_getD,h1];exact h2
 ·rw [List.getElem?_append_right (by omega),List.getElem?_replicate] at hx
  split at hx
  ·injection hx with hx;subst hx
   rw [List.getD_eq_getElem?_getD,List.getElem?_eq_none (by omega)];rfl
  ·cases hx
theorem denT_map {E:En}:∀ {l:List S1} {vs:List Value},denT E l=some vs→denVs E (l.map .v)=some vs
 | [],_,h=>h
 | c::r,_,h=>by
  obtain ⟨a,b,h1,h2,rfl⟩:=zat h
  simp only [List.map_cons,denVs,denT_map h2]
  show op2 _ (den1 E c) _=_
  rw [h1];rfl
theorem resS_den {P:Program} {S:SS} {E:En} {g:G} {w:World} (HG:SatG E S.g g) (HO:SatO E S.sz) (HB:SatB E S.h w):∀ {rs:List ResultVar} {l:List S1},resS P S rs=some l→zaD P w g rs∧denT E l=some (zam P w g rs)
 | [],_,h=>by injection h with h;subst h;exact ⟨trivial,rfl⟩
 | .tmp t::r,_,h=>by
  obtain ⟨a,b,h1,h2,rfl⟩:=zat h
  obtain ⟨h3,h4⟩:=resS_den HG HO HB h2
  refine ⟨h3,?_⟩
  split at h1
  ·rename_i x hx
   injection h1 with h1;subst h1
   have:=HG t _ hx
   simp only [denT,zam,h4]
   rw [show den1 E x=some (g t) from this];rfl
  ·cases h1
 | .cell ad t::r,_,h=>by
  obtain ⟨a,b,h1,h2,rfl⟩:=zat h
  obtain ⟨h3,h4⟩:=resS_den HG HO HB h2
  split at h1
  ·rename_i bk off hx
   have hl:lightS P S (.load t (.tmp ad))=some (.v a):=by
    simp only [lightS,opnd,hx,h1,vv]
   obtain ⟨h5,h6⟩:=light_den (ty:=0) HG HO HB hl
   refine ⟨⟨h5,h3⟩,?_⟩
   simp only [denT,zam,h4]
   rw [show den1 E a=_ from h6];rfl
  ·cases h1
def CS (P:Program) (Γ:Gam) (s L:Nat) (call:Nat→List SV→SS→Tr (List S1 × SS)) (plans:Nat→Option Pn) (n lo lf B:Nat) (c:Code):Prop :=
 ∀ (S:SS) (E:En) (g:G) (w:World) (Q:Ex × SS→Ev→Prop) (Qx:Exit→G→World→Prop),SatG E S.g g→SatM s E S.h S.sz w→(∀ b β,E.bl b=some β→lo≤b→B≤β)→B≤w.heap.size→(evC P Γ L call plans n lo lf c S).sat Γ Q E.env →
  (∀ p E' g' w',Q p E'.env→SatG E' p.2.g g'→SatM s E' p.2.h p.2.sz w'→Ext B E w E' w'→Qx p.1.to g' w')→W P n c Qx g w
theorem loop_sound {P:Program} {Γ:Gam} {s L:Nat} {call:Nat→List SV→SS→Tr (List S1 × SS)} {plans:Nat→Option Pn} {n lo lf B:Nat} {x:Code} (ih:CS P Γ s L call plans n lo lf B x) (m:Nat) (S:SS) (E:En) (g:G) (w:World) (Q:Ex × SS→Ev→Prop) (Qx:Exit→G→World→Prop) (HG:SatG E S.g g) (HM:SatM s E S.h S.sz w) (Fr:∀ b β,E.bl b=some β→lo≤b→B≤β) (hB:B≤w.heap.size)
  (hsat:(evLoop (evC P Γ L call plans n lo lf x) m S).sat Γ Q E.env) (himp:∀ p E' g' w',Q p E'.env→SatG E' p.2.g g'→SatM s E' p.2.h p.2.sz w'→Ext B E w E' w'→Qx p.1.to g' w'):W P n (.loop x) Qx g w:=by
 refine zaz (fun m g1 w1=>∃ S1 E1,SatG E1 S1.g g1∧SatM s E1 S1.h S1.sz w1∧Ext B E w E1 w1∧(evLoop (evC P Γ L call plans n lo lf x) m S1).sat Γ Q E1.env) m ⟨S,E,HG,HM,Ext.refl _ _ _,hsat⟩ ?_
 rintro m g1 w1 ⟨S1,E1,HG1,HM1,hx1,hs1⟩
 cases m with
 | zero=>exact hs1.elim
 | succ m =>
  simp only [evLoop] at hs1
  rw [zbe] at hs1
  refine ih S1 E1 g1 w1 _ _ HG1 HM1 (Fr_ext Fr hB hx1) (Nat.le_trans hB hx1.bel.size) hs1 ?_
  intro p E' g' w' hq hg hm' hx
  split at hq
  ·rename_i hp
   rw [hp]
   exact ⟨m,Nat.lt_succ_self m,p.2,E',hg,hm',hx1.trans hx,hq⟩
  ·rename_i hp
   rw [hp]
   exact himp (.ret,p.2) E' g' w' hq hg hm' (hx1.trans hx)
  ·rename_i i hp
   rw [hp]
   exact himp (.ex i,p.2) E' g' w' hq hg hm' (hx1.trans hx)
theorem isBlk_all {s:Nat} {E:En} {S:SS} {w:World} (HM:SatM s E S.h S.sz w) {X:List Nat} (hX:X.all (isBlk S.h)=true):∀ b,memN X b=true→∃ k,E.bl b=some k:=by
 intro b hb
 have hmem:b∈X:=by
  clear hX
  induction X with
  | nil=>cases hb
  | cons a r ih =>
   simp only [memN,Bool.or_eq_true] at hb
   rcases hb with h|h
   ·have:a=b:=by simpa using h
    subst this;exact List.mem_cons_self
   ·exact List.mem_cons_of_mem _ (ih h)
 have:=(List.all_eq_true.1 hX) b hmem
 unfold isBlk at this
 split at this
 ·rename_i cs hc
  obtain ⟨β,_,_,h1,_⟩:=HM.blocks b cs hc
  exact ⟨β,h1⟩
 ·cases this
section
variable {P:Program} {Γ:Gam} {s L:Nat} {call:Nat→List SV→SS→Tr (List S1 × SS)} (hm:P.follows .mixedOrders=true) (hΓ:GamOk P Γ) (hs:s≤L) (hcall:CallOk P Γ s call)
include hm hΓ hs hcall
theorem evR_sound {plans:Nat→Option Pn} {n lo B id:Nat} {ops:Array Oper} {draw:Bool} {S:SS} {E:En} {g:G} {w:World} {Q:SS→Ev→Prop} {Qx:Exit→G→World→Prop} (HG:SatG E S.g g) (HM:SatM s E S.h S.sz w) (Fr:∀ b β,E.bl b=some β→lo≤b→B≤β) (hB:B≤w.heap.size)
  (hsat:(evR P Γ L call plans n lo id ops draw S).sat Γ Q E.env) (himp:∀ S' E' g' w',Q S' E'.env→SatG E' S'.g g'→SatM s E' S'.h S'.sz w'→Ext B E w E' w'→Qx .normal g' w'):W P n (.region id ops draw) Qx g w:=by
 have hd:=Below.drew1 w
 have hxd:Ext B E w E w.drew:=⟨En.Le.refl E,fun _ _ h=>.inl h,hd.mono hB⟩
 have HMd:=HM.keep hd
 have hBd:B≤w.drew.heap.size:=Nat.le_trans hB hd.size
 unfold evR at hsat
 split at hsat
 ·split at hsat
  ·rename_i hok
   obtain ⟨l⟩:=ops
   show W P n (.region id l.toArray false) Qx g w
   refine W_text hok fun K hK=>?_
   exact evL_sound hΓ hs hcall l S E g w HG HM Fr hB hsat (fun S' E' g' w' q1 q2 q3 q4=>hK _ _ (himp S' E' g' w' q1 q2 q3 q4))
  ·exact hsat.elim
 ·split at hsat
  ·rename_i l hl
   split at hsat
   ·rename_i hok
    refine zbE l hm hok fun K hK=>?_
    exact evP_sound hΓ hs hcall l S E g _ HG HMd Fr hBd hsat (fun S' E' g' w' q1 q2 q3 q4=>hK _ _ (himp S' E' g' w' q1 q2 q3 (hxd.trans q4)))
   ·split at hsat
    ·rename_i hok
     unfold evXR at hsat
     generalize zet S.g ops.toList ops.toList=X at hsat
     split at hsat
     ·rename_i hX
      have hX':∀ b,memN X b=true→∃ k,E.bl b=some k:=by
       intro b hb
       have hmem:b∈X:=by
        clear hX hsat
        induction X with
        | nil=>cases hb
        | cons a r ih =>
         simp only [memN,Bool.or_eq_true] at hb
         rcases hb with h|h
         ·have:a=b:=by simpa using h
          subst this;exact List.mem_cons_self
         ·exact List.mem_cons_of_mem _ (ih h)
       have:=(List.all_eq_true.1 hX) b hmem
       unfold isBlk at this
       split at this
       ·rename_i cs hc
        obtain ⟨β,_,_,h1,_⟩:=HM.blocks b cs hc
        exact ⟨β,h1⟩
       ·cases this
      refine W_drawX (RX.preO (fun k=>∃ b,memN X b=true∧E.bl b=some k)) l hm hok fun K hK=>?_
      exact evX_sound hΓ hs hcall (E0:=E) (fun k=>Iff.rfl) hX' l S E g _ (En.Le.refl E) HG HMd Fr hBd hsat (fun S' E' g' w' q1 q2 q3 q4=>hK _ _ (himp S' E' g' w' q1 q2 q3 (hxd.trans q4)))
     ·exact hsat.elim
    ·exact hsat.elim
  ·rename_i p hp
   split at hsat
   ·rename_i hok
    split at hsat
    ·refine W_drawT p hm hok fun K hK=>?_
     refine evT_sound hΓ hs hcall (h0:=S.h) p { S with h:=S.h++List.replicate ops.size none,sz:=S.sz++List.replicate ops.size none } E g _ HG ((HMd.room ops.size).roomO ops.size) HMd.blocks (fun b β hb hl=>?_) (Nat.le_refl _) hsat (fun S' E' g' w' q1 q2 q3 q4=>hK _ _ (himp S' E' g' w' q1 q2 q3 (hxd.trans (q4.weak hBd))))
     obtain ⟨cs,hc⟩:=HM.hdom b β hb
     have:=(List.getElem?_eq_some_iff.1 hc).1
     omega
    ·generalize zet S.g ops.toList ops.toList=X at hsat
     split at hsat
     ·rename_i hX
      have hX':=isBlk_all HM hX
      refine W_drawTX (RX.preO (fun k=>(∃ b,memN X b=true∧E.bl b=some k)∨w.drew.heap.size≤k)) p hm hok fun K hK=>?_
      refine evTX_sound hΓ hs hcall (E0:=E) (h0:=maskX X 0 S.h) (m:=w.drew.heap.size) (fun k=>Iff.rfl) hX' p { S with h:=S.h++List.replicate ops.size none,sz:=S.sz++List.replicate ops.size none } E g _ (En.Le.refl E) HG ((HMd.room ops.size).roomO ops.size) (fun w' hw'=>?_) Fr hBd (fun b β hb hl=>?_) (Nat.le_refl _) hsat (fun S' E' g' w' q1 q2 q3 q4=>hK _ _ (himp S' E' g' w' q1 q2 q3 (hxd.trans q4)))
      ·intro b cs hb
       obtain ⟨h1,h2⟩:=mask_get X S.h 0 b cs hb
       rw [Nat.zero_add] at h2
       obtain ⟨β,t,vs,h3,h4,h5⟩:=HMd.blocks b cs h1
       refine ⟨β,t,vs,h3,h4,h5.same (hw'.block β h5.lt ?_) hw'.size⟩
       ·rintro (⟨b',h6,h7⟩|hb')
        ·have:=HM.inj b b' β h3 h7
         subst this
         rw [h6] at h2;cases h2
        ·have:=h5.lt;omega
      ·obtain ⟨cs,hc⟩:=HM.hdom b β hb
       have:=(List.getElem?_eq_some_iff.1 hc).1
       omega
     ·exact hsat.elim
   ·exact hsat.elim
  ·exact hsat.elim
theorem zcK {plans:Nat→Option Pn} {n lo lf B:Nat}:∀ c:Code,CS P Γ s L call plans n lo lf B c
 | .skip=>fun S E g w Q Qx HG HM Fr hB hsat himp=>za7 (himp (.nrm,S) E g w hsat HG HM (Ext.refl _ _ _))
 | .region id ops draw=>fun S E g w Q Qx HG HM Fr hB hsat himp=>by
  simp only [evC] at hsat
  rw [zbe] at hsat
  exact evR_sound hm hΓ hs hcall HG HM Fr hB hsat (fun S' E' g' w' q1 q2 q3 q4=>himp (.nrm,S') E' g' w' q1 q2 q3 q4)
 | .seq x y=>fun S E g w Q Qx HG HM Fr hB hsat himp=>by
  simp only [evC] at hsat
  rw [zbe] at hsat
  refine zab fun K hK=>?_
  refine zcK x S E g w _ _ HG HM Fr hB hsat ?_
  intro p E' g' w' hq hg hm' hx
  split at hq
  ·rename_i hp
   rw [hp]
   apply hK
   exact zcK y p.2 E' g' w' _ _ hg hm' (Fr_ext Fr hB hx) (Nat.le_trans hB hx.bel.size) hq (fun p2 E2 g2 w2 q1 q2 q3 q4=>himp p2 E2 g2 w2 q1 q2 q3 (hx.trans q4))
  ·rename_i hp
   rw [hp]
   exact himp (.ret,p.2) E' g' w' hq hg hm' hx
  ·rename_i i hp
   rw [hp]
   exact himp (.ex i,p.2) E' g' w' hq hg hm' hx
 | .cond c x y=>fun S E g w Q Qx HG HM Fr hB hsat himp=>by
  simp only [evC] at hsat
  split at hsat
  ·rename_i hsl
   split at hsat
   ·rename_i c' hc
    split at hsat
    ·rename_i he
     obtain ⟨z,h1,h2⟩:=zdK HM.o he (zbh HG hc)
     injection h1 with h1;subst h1
     exact W_cond hsl h2 (fun _=>zcK x S E g w Q Qx HG HM Fr hB hsat himp) (fun h=>by cases h)
    ·rename_i he
     obtain ⟨z,h1,h2⟩:=zdK HM.o he (zbh HG hc)
     injection h1 with h1;subst h1
     exact W_cond hsl h2 (fun h=>by cases h) (fun _=>zcK y S E g w Q Qx HG HM Fr hB hsat himp)
    ·rename_i e he _ _
     obtain ⟨z,h1,h2⟩:=zdK HM.o (by assumption) (zbh HG hc)
     exact W_cond hsl h2 (fun hz=>zcK x S E g w Q Qx HG HM Fr hB (hsat.1 (by rw [h1,hz])) himp) (fun hz=>zcK y S E g w Q Qx HG HM Fr hB (hsat.2 (by rw [h1,hz])) himp)
    ·exact hsat.elim
   ·exact hsat.elim
  ·exact hsat.elim
 | .block id x=>fun S E g w Q Qx HG HM Fr hB hsat himp=>by
  simp only [evC] at hsat
  rw [zbe] at hsat
  refine zac ?_
  refine zcK x S E g w _ _ HG HM Fr hB hsat ?_
  intro p E' g' w' hq hg hm' hx
  split at hq
  ·rename_i hp
   rw [hp]
   exact himp (.nrm,p.2) E' g' w' hq hg hm' hx
  ·rename_i hp
   rw [hp]
   exact himp (.ret,p.2) E' g' w' hq hg hm' hx
  ·rename_i i hp
   rw [hp]
   show zd1 id Qx (.exit i) g' w'
   have hq':Q (if Nat.beq i id then Ex.nrm else .ex i,p.2) E'.env:=hq
   by_cases hi:i=id
   ·subst hi
    rw [if_pos (by simp)] at hq'
    simp only [zd1,if_true]
    exact himp (.nrm,p.2) E' g' w' hq' hg hm' hx
   ·rw [if_neg (by simpa using hi)] at hq'
    simp only [zd1,if_neg hi]
    exact himp (.ex i,p.2) E' g' w' hq' hg hm' hx
 | .loop x=>fun S E g w Q Qx HG HM Fr hB hsat himp=>loop_sound (zcK x) lf S E g w Q Qx HG HM Fr hB hsat himp
 | .exit i=>fun S E g w Q Qx HG HM Fr hB hsat himp=>zav (himp (.ex i,S) E g w hsat HG HM (Ext.refl _ _ _))
 | .ret=>fun S E g w Q Qx HG HM Fr hB hsat himp=>zad (himp (.ret,S) E g w hsat HG HM (Ext.refl _ _ _))
 | .rangeFunc ..=>fun S E g w Q Qx HG HM Fr hB hsat himp=>hsat.elim
 | .scope _=>fun S E g w Q Qx HG HM Fr hB hsat himp=>hsat.elim
 | .label _=>fun S E g w Q Qx HG HM Fr hB hsat himp=>hsat.elim
 | .goto _=>fun S E g w Q Qx HG HM Fr hB hsat himp=>hsat.elim
 | .refuse _=>fun S E g w Q Qx HG HM Fr hB hsat himp=>hsat.elim
theorem evFn_sound {plans:Nat→Nat→Option Pn} {lf:Nat}:CallOk P Γ s (evFn P Γ L call plans lf):=by
 intro f xs S E w vs R Q HM hd hsat himp
 unfold evFn at hsat
 split at hsat
 ·exact hsat.elim
 ·rename_i fn hf
  split at hsat
  ·exact hsat.elim
  ·rename_i c hc
   split at hsat
   ·rename_i hok
    simp only [Bool.and_eq_true,Nat.ble_eq] at hok
    rw [zbe] at hsat
    have hl:=denVs_len hd
    refine za5 (args:=vs) (rs:=fn.results.toList) (n:=fn.ntmps) hf hc rfl (by simp) (by rw [hok.1,Bool.true_and,decide_eq_true_eq];omega) ?_
    refine zcK hm hΓ hs hcall (lo:=S.h.length) (B:=w.heap.size) c { S with g:=xs++List.replicate (fn.ntmps-xs.length) undS } E _ w _ _ (args_den hd _) HM (fun b β hb hl=>?_) (Nat.le_refl _) hsat ?_
    ·obtain ⟨cs,hc⟩:=HM.hdom b β hb
     have:=(List.getElem?_eq_some_iff.1 hc).1
     omega
    ·intro p E' g' w' hq hg hm' hx
     have key:(match resS P p.2 fn.results.toList with
      | some l=>Tr.leaf (l,p.2)
      | none=>Tr.bad:Tr (List S1 × SS)).sat Γ Q E'.env→zaD P w' g' fn.results.toList∧R (.returned (zar (zam P w' g' fn.results.toList))) w':=by
      intro hq
      split at hq
      ·rename_i l hl
       obtain ⟨h1,h2⟩:=resS_den hg hm'.o hm'.blocks hl
       exact ⟨h1,himp (l,p.2) E' w' _ hq hm' h2 hx⟩
      ·exact hq.elim
     obtain ⟨ex,S'⟩:=p
     cases ex with
     | nrm=>exact key hq
     | ret=>exact key hq
     | ex i=>exact hq.elim
   ·exact hsat.elim
end
theorem evF_sound {P:Program} {Γ:Gam} {s L:Nat} (hm:P.follows .mixedOrders=true) (hΓ:GamOk P Γ) (hs:s≤L) (plans:Nat→Nat→Option Pn) (lf:Nat):∀ k,CallOk P Γ s (evF P Γ L plans lf k)
 | 0=>fun f xs S E w vs R Q HM hd hsat himp=>hsat.elim
 | k+1=>evFn_sound hm hΓ hs (evF_sound hm hΓ hs plans lf k)
theorem den_sat {Γ:Gam} {r:List At}:∀ (t:Tr (List SA)) (e:Ev),t.den Γ e=some r→t.sat Γ (fun sas e'=>zbK e' sas=some r) e
 | .leaf a,e,h=>h
 | .br c t f,e,h=>by
  simp only [Tr.den] at h
  refine ⟨fun hc=>?_,fun hc=>?_⟩
  ·rw [hc] at h;exact den_sat t e h
  ·rw [hc] at h;exact den_sat f e h
 | .call f args base t,e,h=>by
  simp only [Tr.den] at h
  split at h
  ·rename_i c als hc ha
   split at h
   ·rename_i r' hr
    exact ⟨c,als,r',hc,ha,hr,den_sat t _ h⟩
   ·cases h
  ·cases h
 | .obj l base t,e,h=>den_sat t _ h
 | .bad,e,h=>by cases h
def zdh (als:List At):Ev:=extE (fun _=>none) 0 als
theorem top_ok {P:Program} {Γ:Gam} (hm:P.follows .mixedOrders=true) (hΓ:GamOk P Γ) {plans:Nat→Nat→Option Pn} {lf k f L A B:Nat} {args res:List (List Sh)} {t:Tr (List SA)} (h:evTop P Γ plans lf k f args res L A B=t) :
  Ct.ok P f { args:=args,res:=res,F:=fun als=>t.den Γ (zdh als),L:=L,A:=A,B:=B }:=by
 intro s w vs als r hs hr hz hF
 have hno:args.all noSl=true:=by
  cases hb:args.all noSl with
  | true=>rfl
  | false =>
   have hsat:=den_sat t (zdh als) hF
   rw [←h] at hsat
   unfold evTop at hsat
   rw [hb] at hsat
   exact hsat.elim
 obtain ⟨obs,o1,o2,o3,o4⟩:=RepVs_obs hno hr
 let E:En:={ bl:=fun _=>none,ob:=fun k=>obs[k]?,cv:=fun _=>0 }
 have henv:E.env=zdh als:=by
  funext k
  unfold En.env zdh extE
  simp only [E]
  have:Nat.ble 0 k=true:=by simp
  rw [this,if_pos rfl,Nat.sub_zero,←o1,List.getElem?_map]
  cases obs[k]?<;>rfl
 have hdt:=o4 E 0 (fun i q hi=>by simpa [E] using hi)
 have HM:SatM s E [] (argsSz args.flatten) w:=by
  refine ⟨fun b cs hb=>(by simp at hb),(fun b b' β hb=>by cases hb),(fun b β hb=>by cases hb),(fun b β hb=>by cases hb),fun k p hk=>?_,fun k q hk=>?_⟩
  ·simp only [argsSz,List.getElem?_map] at hk
   cases hf:args.flatten[k]? with
   | none=>simp [hf] at hk
   | some sh =>
    simp only [hf,Option.map_some,Option.some.injEq] at hk
    subst hk
    rw [←o3,List.getElem?_map] at hf
    cases ho:obs[k]? with
    | none=>simp [ho] at hf
    | some q =>
     simp only [ho,Option.map_some,Option.some.injEq] at hf
     have hmem:=List.mem_of_getElem? ho
     refine ⟨q.1,q.2,ho,hf,o2 q hmem,?_⟩
     have:=hz q.1 (by rw [←o1];exact List.mem_map_of_mem hmem)
     simpa using this
  ·have hlt:=(List.getElem?_eq_some_iff.1 hk).1
   have hlen:obs.length=args.flatten.length:=by rw [←o3];simp
   simp only [argsSz,List.getElem?_map]
   exact ⟨_,by rw [List.getElem?_eq_getElem (by omega)];rfl⟩
 have hsat:=den_sat t (zdh als) hF
 rw [←h,←henv] at hsat
 unfold evTop at hsat
 rw [if_pos hno,zbe] at hsat
 refine evF_sound hm hΓ hs plans lf k f _ _ E w vs _ _ HM (denT_map hdt) hsat ?_
 intro p E' w' rvs hq hm' hdt' hx
 unfold outS at hq
 split at hq
 ·rename_i sas hp
  split at hq
  ·rename_i q hsz
   split at hq
   ·rename_i hle
    simp only [Bool.and_eq_true,Nat.ble_eq] at hle
    obtain ⟨als',g1,g2,g3⟩:=zdT hm' hp (denT_map hdt')
    have hq':zbK E'.env sas=some r:=hq
    rw [g1] at hq';injection hq' with hq';subst hq'
    refine ⟨rvs,rfl,g2,fun a ha=>?_,hx.bel⟩
    have:=g3 q hsz a ha
    have m1:q.1*s≤A*s:=Nat.mul_le_mul_right _ hle.1
    simp only
    omega
   ·exact hq.elim
  ·exact hq.elim
 ·exact hq.elim
def zcU (x y:Option At):Option At:=match x with
 | some a=>some a
 | none=>y
theorem zaZ (e:Ev) (base:Nat) (als:List At) (k:Nat):extE e base als k=if base≤k then zcU als[k-base]? (e k) else e k:=by
 unfold extE zcU
 by_cases h:base≤k
 ·rw [if_pos h,if_pos (Nat.ble_eq_true_of_le h)];cases als[k-base]?<;>rfl
 ·rw [if_neg h,if_neg (fun h'=>h (Nat.le_of_ble_eq_true h'))]
def gamOf:List (Nat × Ct)→Gam
 | [],_=>none
 | (f,c)::r,g=>if Nat.beq f g then some c else gamOf r g
def AllOk (P:Program):List (Nat × Ct)→Prop
 | []=>True
 | p::r=>p.2.ok P (p.1 % 8192)∧AllOk P r
theorem gamOk_of {P:Program}:∀ {l:List (Nat × Ct)},AllOk P l→GamOk P (gamOf l)
 | [],_=>fun f c h=>by cases h
 | (g,d)::r,h=>fun f c hc=>by
  simp only [gamOf] at hc
  split at hc
  ·rename_i e
   injection hc with hc;subst hc
   have e':g=f:=by simpa using e
   subst e'
   exact h.1
  ·exact gamOk_of h.2 f c hc
def lookP:List (Nat × Nat × Pn)→Nat→Nat→Option Pn
 | [],_,_=>none
 | (f,i,p)::r,g,j=>if Nat.beq f g && Nat.beq i j then some p else lookP r g j
theorem Ct.ok.weaken {P:Program} {f:Nat} {c:Ct} (h:c.ok P f) {F:List At→Option (List At)} (hF:∀ als r,F als=some r→c.F als=some r):Ct.ok P f { c with F:=F } :=
 fun s w vs als r h1 h2 h3 h4=>h s w vs als r h1 h2 h3 (hF als r h4)
def inI (z:Int):Prop:=-9223372036854775808≤z∧z<9223372036854775808
instance (z:Int):Decidable (inI z):=inferInstanceAs (Decidable (_∧_))
section
variable {w:World} {als:List At} {vs:List Value} {v:Value}
theorem repV_n:RepV w [.n] als v↔∃ z,als=[.n z]∧v = .int .i64 z:=by
 constructor
 ·rintro ⟨cs,⟨a,r,c1,c2,rfl,rfl,h1,h2,rfl,rfl⟩,rfl⟩
  cases a<;>simp [At.sh] at h1
  simp only [At.Rep] at h2;subst h2
  exact ⟨_,rfl,rfl⟩
 ·rintro ⟨z,rfl,rfl⟩
  exact ⟨[_],⟨_,_,[_],[],rfl,rfl,rfl,rfl,rfl,rfl⟩,rfl⟩
theorem repV_b:RepV w [.b] als v↔∃ z,als=[.b z]∧v = .bool z:=by
 constructor
 ·rintro ⟨cs,⟨a,r,c1,c2,rfl,rfl,h1,h2,rfl,rfl⟩,rfl⟩
  cases a<;>simp [At.sh] at h1
  simp only [At.Rep] at h2;subst h2
  exact ⟨_,rfl,rfl⟩
 ·rintro ⟨z,rfl,rfl⟩
  exact ⟨[_],⟨_,_,[_],[],rfl,rfl,rfl,rfl,rfl,rfl⟩,rfl⟩
theorem repV_s:RepV w [.s] als v↔∃ l:List UInt8,als=[.s l]∧v = .string ⟨l.toArray⟩:=by
 constructor
 ·rintro ⟨cs,⟨a,r,c1,c2,rfl,rfl,h1,h2,rfl,rfl⟩,rfl⟩
  cases a<;>simp [At.sh] at h1
  simp only [At.Rep] at h2;subst h2
  exact ⟨_,rfl,rfl⟩
 ·rintro ⟨z,rfl,rfl⟩
  exact ⟨[_],⟨_,_,[_],[],rfl,rfl,rfl,rfl,rfl,rfl⟩,rfl⟩
theorem repV_w:RepV w [.w] als v↔∃ z,als=[.w z]∧v=z∧z.oneCell'=true∧no16 z=true:=by
 constructor
 ·rintro ⟨cs,⟨a,r,c1,c2,rfl,rfl,h1,h2,rfl,rfl⟩,rfl⟩
  cases a<;>simp [At.sh] at h1
  obtain ⟨rfl,h3,h4⟩:=h2
  exact ⟨_,rfl,rfl,h3,h4⟩
 ·rintro ⟨z,rfl,rfl,h3,h4⟩
  exact ⟨[_],⟨_,_,[_],[],rfl,rfl,rfl,⟨rfl,h3,h4⟩,rfl,rfl⟩,rfl⟩
theorem zdN:RepV w [.u] als v↔∃ l a c,als=[.u l]∧v = .slice a l.length c∧RD w a c l:=by
 constructor
 ·rintro ⟨cs,⟨a,r,c1,c2,rfl,rfl,h1,h2,rfl,rfl⟩,rfl⟩
  cases a<;>simp [At.sh] at h1
  obtain ⟨a,c,rfl,h3⟩:=h2
  exact ⟨_,a,c,rfl,rfl,h3⟩
 ·rintro ⟨l,a,c,rfl,rfl,h⟩
  exact ⟨[_],⟨_,_,[_],[],rfl,rfl,rfl,⟨a,c,rfl,h⟩,rfl,rfl⟩,rfl⟩
theorem repV_y:RepV w [.y] als v↔∃ neg l a c,als=[.y neg l]∧v = .agg #[.bool neg,.slice a l.length c]∧RD w a c l:=by
 constructor
 ·rintro ⟨cs,⟨a,r,c1,c2,rfl,rfl,h1,h2,rfl,rfl⟩,rfl⟩
  cases a<;>simp [At.sh] at h1
  obtain ⟨a,c,rfl,h3⟩:=h2
  exact ⟨_,_,a,c,rfl,rfl,h3⟩
 ·rintro ⟨neg,l,a,c,rfl,rfl,h⟩
  exact ⟨[_,_],⟨_,_,[_,_],[],rfl,rfl,rfl,⟨a,c,rfl,h⟩,rfl,rfl⟩,rfl⟩
theorem repV_r:RepV w [.r] als v↔∃ neg l m a c a' c',als=[.r neg l m]∧v = .agg #[.bool neg,.slice a l.length c,.slice a' m.length c']∧RD w a c l∧RD w a' c' m:=by
 constructor
 ·rintro ⟨cs,⟨a,r,c1,c2,rfl,rfl,h1,h2,rfl,rfl⟩,rfl⟩
  cases a<;>simp [At.sh] at h1
  obtain ⟨a,c,a',c',rfl,h3,h4⟩:=h2
  exact ⟨_,_,_,a,c,a',c',rfl,rfl,h3,h4⟩
 ·rintro ⟨neg,l,m,a,c,a',c',rfl,rfl,h,h'⟩
  exact ⟨[_,_,_],⟨_,_,[_,_,_],[],rfl,rfl,rfl,⟨a,c,a',c',rfl,h,h'⟩,rfl,rfl⟩,rfl⟩
end
theorem ret1 {w w':World} {c:Ct} {s:Nat} {r:List At} {e:Ending} {v:Value} {shs:List Sh} (hres:c.res=[shs]) (he:e = .returned v) (hv:RepV w' shs r v) (hz:∀ a∈r,a.sz≤c.A*s+c.B) (hE:Below w.heap.size w w') :
  ∃ rvs,e = .returned (zar rvs)∧zeK w' c.res r rvs∧(∀ a∈r,a.sz≤c.A*s+c.B)∧Below w.heap.size w w' :=
 ⟨[v],he,by rw [hres];exact ⟨r,[],v,[],by simp,rfl,hv,rfl,rfl⟩,hz,hE⟩
theorem ret2 {w w':World} {c:Ct} {s:Nat} {r1 r2:List At} {e:Ending} {v u:Value} {shs tss:List Sh} (hres:c.res=[shs,tss]) (he:e = .returned (.tuple #[v,u])) (hv:RepV w' shs r1 v) (hu:RepV w' tss r2 u) (hz:∀ a∈r1++r2,a.sz≤c.A*s+c.B) (hE:Below w.heap.size w w') :
  ∃ rvs,e = .returned (zar rvs)∧zeK w' c.res (r1++r2) rvs∧(∀ a∈r1++r2,a.sz≤c.A*s+c.B)∧Below w.heap.size w w' :=
 ⟨[v,u],he,by rw [hres];exact ⟨r1,r2,v,[u],rfl,rfl,hv,r2,[],u,[],by simp,rfl,hu,rfl,rfl⟩,hz,hE⟩
theorem ret3 {w w':World} {c:Ct} {s:Nat} {r1 r2 r3:List At} {e:Ending} {v u x:Value} {shs tss uss:List Sh} (hres:c.res=[shs,tss,uss]) (he:e = .returned (.tuple #[v,u,x])) (hv:RepV w' shs r1 v) (hu:RepV w' tss r2 u) (hx:RepV w' uss r3 x) (hz:∀ a∈r1++(r2++r3),a.sz≤c.A*s+c.B) (hE:Below w.heap.size w w') :
  ∃ rvs,e = .returned (zar rvs)∧zeK w' c.res (r1++(r2++r3)) rvs∧(∀ a∈r1++(r2++r3),a.sz≤c.A*s+c.B)∧Below w.heap.size w w' :=
 ⟨[v,u,x],he,by rw [hres];exact ⟨r1,r2++r3,v,[u,x],rfl,rfl,hv,r2,r3,u,[x],rfl,rfl,hu,r3,[],x,[],by simp,rfl,hx,rfl,rfl⟩,hz,hE⟩
def za (z:Int):At:=.y (decide (z<0)) (lim z.natAbs)
theorem RetI.rep {w w':World} {z:Int} {e:Ending} (h:RetI w z e w'):∃ v,e = .returned v∧RepV w' [.y] [za z] v∧Below w.heap.size w w':=by
 obtain ⟨a,c,he,hr,hE⟩:=h
 exact ⟨_,he,repV_y.2 ⟨_,_,a,c,rfl,rfl,hr⟩,hE⟩
def f_yyy (g:Bool→List Nat→Bool→List Nat→Int):List At→Option (List At)
 | [.y a l,.y b m]=>some [za (g a l b m)]
 | _=>none
theorem vs2 {w:World} {x y:List Sh} {als:List At} {vs:List Value} (h:zeK w [x,y] als vs):∃ a1 a2 v u,als=a1++a2∧vs=[v,u]∧RepV w x a1 v∧RepV w y a2 u:=by
 obtain ⟨a1,a2,v,q,rfl,rfl,h1,b1,b2,u,q',rfl,rfl,h2,rfl,rfl⟩:=h
 exact ⟨a1,b1,v,u,by simp,rfl,h1,h2⟩
theorem vs1 {w:World} {x:List Sh} {als:List At} {vs:List Value} (h:zeK w [x] als vs):∃ v,vs=[v]∧RepV w x als v:=by
 obtain ⟨a1,a2,v,q,rfl,rfl,h1,rfl,rfl⟩:=h
 exact ⟨v,rfl,by simpa using h1⟩
theorem ok_yyy {P:Program} {f L A B:Nat} {g:Bool→List Nat→Bool→List Nat→Int}
  (h:∀ neg peg l m a b c d w,RD w a c l→RD w b d m→l.length≤L→m.length≤L→Calls P f #[.agg #[.bool neg,.slice a l.length c],.agg #[.bool peg,.slice b m.length d]] w (RetI w (g neg l peg m)))
  (hz:∀ neg l peg m s,Ok l→Ok m→l.length≤s→m.length≤s→(lim (g neg l peg m).natAbs).length≤A*s+B):Ct.ok P f { args:=[[.y],[.y]],res:=[[.y]],F:=f_yyy g,L:=L,A:=A,B:=B }:=by
 intro s w vs als r hs hr hsz hF
 obtain ⟨a1,a2,v,u,rfl,rfl,h1,h2⟩:=vs2 hr
 obtain ⟨neg,l,a,c,rfl,rfl,r1⟩:=repV_y.1 h1
 obtain ⟨peg,m,b,d,rfl,rfl,r2⟩:=repV_y.1 h2
 have hF':some [za (g neg l peg m)]=some r:=hF
 injection hF' with hF';subst hF'
 have s1:l.length≤s:=hsz (.y neg l) (by simp)
 have s2:m.length≤s:=hsz (.y peg m) (by simp)
 refine (h neg peg l m a b c d w r1 r2 (Nat.le_trans s1 hs) (Nat.le_trans s2 hs)).mono ?_
 intro e w' hret
 obtain ⟨v,he,hv,hE⟩:=hret.rep
 refine ret1 rfl he hv ?_ hE
 intro x hx
 simp at hx;subst hx
 exact hz neg l peg m s r1.ok r2.ok s1 s2
def f_yb (g:Bool→List Nat→Bool):List At→Option (List At)
 | [.y a l]=>some [.b (g a l)]
 | _=>none
def f_yn (g:Bool→List Nat→Int):List At→Option (List At)
 | [.y a l]=>some [.n (g a l)]
 | _=>none
theorem ok_yn {P:Program} {f L:Nat} {g:Bool→List Nat→Int}
  (h:∀ neg l a c w,RD w a c l→l.length≤L→Calls P f #[.agg #[.bool neg,.slice a l.length c]] w fun e w'=>e = .returned (.int .i64 (g neg l))∧Below w.heap.size w w'):Ct.ok P f { args:=[[.y]],res:=[[.n]],F:=f_yn g,L:=L,A:=0,B:=0 }:=by
 intro s w vs als r hs hr hsz hF
 obtain ⟨v,rfl,h1⟩:=vs1 hr
 obtain ⟨neg,l,a,c,rfl,rfl,r1⟩:=repV_y.1 h1
 injection hF with hF;subst hF
 have s1:l.length≤s:=hsz (.y neg l) (by simp)
 refine (h neg l a c w r1 (Nat.le_trans s1 hs)).mono ?_
 rintro e w' ⟨he,hE⟩
 exact ret1 rfl he (repV_n.2 ⟨_,rfl,rfl⟩) (fun x hx=>by simp at hx;subst hx;simp [At.sz]) hE
def f_yy (g:Bool→List Nat→Int):List At→Option (List At)
 | [.y a l]=>some [za (g a l)]
 | _=>none
theorem ok_yy {P:Program} {f L A B:Nat} {g:Bool→List Nat→Int}
  (h:∀ neg l a c w,RD w a c l→l.length≤L→Calls P f #[.agg #[.bool neg,.slice a l.length c]] w (RetI w (g neg l)))
  (hz:∀ neg l s,Ok l→l.length≤s→(lim (g neg l).natAbs).length≤A*s+B):Ct.ok P f { args:=[[.y]],res:=[[.y]],F:=f_yy g,L:=L,A:=A,B:=B }:=by
 intro s w vs als r hs hr hsz hF
 obtain ⟨v,rfl,h1⟩:=vs1 hr
 obtain ⟨neg,l,a,c,rfl,rfl,r1⟩:=repV_y.1 h1
 injection hF with hF;subst hF
 have s1:l.length≤s:=hsz (.y neg l) (by simp)
 refine (h neg l a c w r1 (Nat.le_trans s1 hs)).mono ?_
 intro e w' hret
 obtain ⟨v,he,hv,hE⟩:=hret.rep
 exact ret1 rfl he hv (fun x hx=>by simp at hx;subst hx;exact hz neg l s r1.ok s1) hE
def planL:List (Nat × Nat × Pn):=[(5,6,.lin [(0,0),(1,0),(2,0),(5,0),(6,0),(7,0),(3,1),(4,0),(8,1),(9,0),(10,1),(11,2)]),(5,12,.lin [(1,0),(2,0),(3,0),(4,0),(5,0),(6,0),(7,0),(8,0),(9,0),(10,0),(0,1),(11,2),(12,0),(13,0)]),(6,15,.lin [(1,0),(2,0),(3,0),(4,0),(5,0),(6,0),(0,1),(7,2),(8,0),(9,0)]),(7,6,.lin [(0,0),(1,0),(2,0),(3,0),(4,0),(5,0),(6,0),(7,0),(8,0),(9,0),(10,1),(11,0)]),(8,6,.lin [(0,0),(1,0),(2,0),(3,1),(4,1),(5,2),(6,0),(7,2)]),(8,8,.lin [(1,0),(2,0),(3,0),(4,0),(5,0),(6,0),(7,0),(8,0),(9,0),(10,0),(11,0),(12,0),(0,1),(13,2),(14,0),(15,0)]),(9,8,.lin [(1,0),(2,0),(3,0),(4,0),(5,0),(6,0),(0,1),(7,2),(8,0),(9,0)]),(10,6,.lin [(0,0),(1,0),(2,0),(3,0),(4,0),(5,0),(6,0),(7,0),(8,0),(9,0),(10,0),(11,0),(12,0),(13,0),(14,0),(15,0),(16,0),(17,0),(18,0),(19,0),(20,0),(21,0),(22,0),(23,0),(24,0),(25,0),(26,1),(27,0),(28,0)]),(13,1,.lin [(0,0),(1,0),(2,0),(3,0),(4,0),(5,0),(6,0),(7,0),(8,0),(9,0),(10,2)]),(14,13,.lin [(0,0),(1,0),(2,0),(3,0),(4,0),(5,0),(6,1),(7,1),(8,2),(9,0),(10,2)]),(18,4,.lin [(0,0),(1,0),(3,0),(4,0),(2,1),(5,1),(6,0),(7,0)]),(19,6,.lin [(0,0),(1,0),(2,0),(3,0),(4,0),(5,0),(6,0),(7,0),(8,0),(9,0),(11,0),(12,0),(10,1),(13,2),(14,0),(15,0)]),(20,6,.lin [(0,0),(1,0),(2,0),(3,0),(4,0),(5,0),(6,0),(7,0),(8,0),(9,0),(10,1),(11,0)]),(23,12,.lin [(0,0),(1,0),(2,0),(3,0),(4,0),(5,0),(6,0),(7,0),(8,0),(9,0),(10,0)]),(28,6,.lin [(0,0),(2,0),(3,0),(4,0),(1,1),(5,1),(6,0),(7,0)]),(39,1,.lin [(0,0),(1,0),(2,0),(3,0),(5,0),(6,0),(4,1),(7,1),(8,0),(9,0),(10,0)]),(40,1,.tree (.li 0 (.li 1 (.li 2 (.li 3 (.li 4 (.li 6 (.li 7 (.li 8 (.li 9 (.li 10 (.fork 5 (.fork 11 (.hv 12 (.hv 13 .done)) (.hv 12 (.hv 11 (.hv 13 .done)))) (.hv 12 (.hv 5 (.hv 11 (.hv 13 .done)))))))))))))))),(43,2,.lin [(0,0),(1,0),(2,0),(3,0),(4,0),(5,0),(6,1),(7,1),(8,2),(9,0),(10,2)]),(43,4,.lin [(0,0),(1,0),(2,0),(3,0),(4,0),(5,0),(6,1),(7,1),(8,2),(9,0),(10,2)]),(44,2,.lin [(0,0),(1,0),(2,0),(3,0),(4,0),(5,0),(6,1),(7,1),(8,2),(9,0),(10,2)]),(53,6,.lin [(0,0),(1,0),(2,0),(3,0),(4,0),(5,0),(6,0)]),(53,7,.lin [(0,0),(1,0),(2,0),(3,0),(4,0),(5,0),(6,0),(7,1),(8,0)]),(53,14,.lin [(0,0),(1,0),(2,0),(3,0),(4,0),(5,0),(6,0),(7,0),(8,0),(9,0),(10,0)]),(53,31,.lin [(0,0),(1,0),(2,0),(3,0),(4,0),(5,0),(6,0),(7,0),(8,0),(9,0),(10,0)]),(54,5,.lin [(0,0),(1,0),(2,0),(3,0),(4,0),(5,0),(6,0),(7,0),(8,0),(9,0),(10,0),(11,0),(12,0)]),(57,3,.lin [(0,0),(1,0),(4,0),(5,0),(2,1),(3,1),(6,1),(7,1),(8,1),(9,0),(10,0),(11,2),(12,0)]),(65,18,.tree (.li 0 (.li 1 (.li 2 (.li 3 (.li 4 (.fork 5 (.fork 6 (.li 7 (.li 8 (.li 9 (.hv 10 (.hv 11 (.li 12 .done)))))) (.hv 10 (.hv 6 (.li 7 (.li 8 (.li 9 (.hv 11 (.li 12 .done)))))))) (.hv 10 (.hv 5 (.hv 6 (.li 7 (.li 8 (.li 9 (.hv 11 (.li 12 .done))))))))))))))),(66,6,.lin [(0,0),(1,0),(2,0),(3,0),(4,0),(5,0),(6,0),(7,0),(8,0)]),(75,6,.lin [(0,0),(1,1),(2,1),(3,2),(4,0)]),(75,10,.lin [(0,0),(1,0),(2,1),(3,1),(4,0),(5,0),(6,2),(7,0)]),(76,3,.lin [(0,0),(1,0),(2,0),(3,0),(4,2),(5,0)]),(79,1,.lin [(0,0),(1,0),(2,0),(3,0),(4,0),(5,0),(6,0),(7,0),(8,0),(9,1),(10,1),(11,2)]),(84,1,.lin [(0,0),(1,0),(3,0),(4,0),(2,1),(5,1),(6,2)]),(85,1,.lin [(0,0),(2,0),(1,1),(3,1),(4,2),(5,2)]),(85,2,.lin [(0,0),(1,0),(2,0),(3,0),(6,0),(7,0),(8,0),(9,0),(4,1),(5,1),(10,1),(11,1),(12,1),(13,0),(14,0),(15,2),(16,0)]),(97,7,.lin [(0,0),(1,0),(2,0),(3,0),(4,0),(5,0)]),(99,8,.lin [(0,0),(1,1),(2,1),(3,2),(4,0)]),(104,1,.lin [(0,0),(1,0),(2,0),(3,0),(4,0),(5,0),(6,0),(7,0),(8,0),(9,1),(10,1),(11,2)]),(107,3,.lin [(0,0),(1,0),(2,0),(3,0),(4,0),(5,0),(6,0),(7,0),(8,0),(9,0),(10,0),(11,0)]),(113,9,.lin [(0,0),(1,0),(2,0),(3,0),(4,0),(5,0),(6,0),(7,0),(8,0)]),(113,11,.lin [(0,0),(1,0),(2,0),(3,0),(4,0),(5,0),(6,0),(7,0),(8,0)]),(117,6,.lin [(0,0),(1,0),(2,0),(3,0),(4,0),(5,0),(6,0),(7,0),(8,0),(9,0),(10,0),(11,0),(12,0),(13,0),(14,0),(15,0),(16,0),(17,0)]),(117,7,.tree (.li 0 (.li 1 (.li 2 (.li 3 (.li 4 (.li 5 (.li 6 (.li 7 (.li 8 (.li 9 (.li 10 (.li 11 (.li 12 (.li 13 (.li 14 (.li 15 (.fork 16 (.hv 17 (.hv 18 (.hv 19 .done))) (.hv 17 (.hv 16 (.hv 18 (.hv 19 .done)))))))))))))))))))))),(117,11,.lin [(0,0),(1,0),(2,0),(3,0),(4,0),(5,0),(6,0),(7,0),(8,2)]),(117,12,.lin [(0,0),(1,0),(2,0),(3,0),(4,0),(5,0),(6,0),(7,0),(8,0),(9,0),(10,1)]),(117,14,.lin [(0,0),(1,0),(2,0),(3,0),(4,0),(5,0),(6,0),(7,0),(8,1)]),(120,11,.lin [(0,0),(3,0),(4,0),(5,0),(6,0),(7,0),(1,1),(2,1),(8,1),(9,1),(10,0)]),(127,9,.lin [(0,0),(1,0),(2,0),(3,0),(4,0),(5,0),(6,0),(7,0),(8,0),(9,0),(10,0),(11,0),(12,0),(13,0),(18,0),(14,1),(15,0),(16,0),(17,0),(19,0),(20,0)]),(130,1,.lin [(0,0),(1,0),(2,0),(3,0),(4,0),(5,0),(6,0),(7,0),(8,0),(9,0),(10,0),(11,0),(12,0),(13,0),(14,0),(15,0),(16,0),(17,0),(18,0),(19,0),(20,0),(21,0),(22,0),(23,0),(24,0)])]
def planF:Nat→Nat→Option Pn:=lookP planL
def vz (neg:Bool) (l:List Nat):Int:=iv neg (val l)
theorem vz_lt {neg:Bool} {l:List Nat} {s:Nat} (h:Ok l) (hl:l.length≤s):(lim (vz neg l).natAbs).length≤s:=by
 unfold vz;rw [zcf];exact ze2 h hl
theorem vz_pow {neg:Bool} {l:List Nat} {s:Nat} (h:Ok l) (hl:l.length≤s):(vz neg l).natAbs<65536 ^ s:=by
 unfold vz;rw [zcf];exact Nat.lt_of_lt_of_le (zck l h) (Nat.pow_le_pow_right (by decide) hl)
theorem lz_mul' {z y:Int} {s t:Nat} (h1:z.natAbs<65536 ^ s) (h2:y.natAbs<65536 ^ t):(lim (z*y).natAbs).length≤s+t:=by
 rw [Int.natAbs_mul]
 exact zbx _ _ (by rw [Nat.pow_add];exact Nat.mul_lt_mul'' h1 h2)
def ct_imul:Ct:={ args:=[[.y],[.y]],res:=[[.y]],F:=f_yyy fun a l b m=>vz a l*vz b m,L:=1000000000,A:=2,B:=0 }
theorem zbO:ct_imul.F=f_yyy fun a l b m=>vz a l*vz b m:=rfl
theorem ok_imul:ct_imul.ok Tryz.prog 79:=ok_yyy (fun neg peg l m a b c d w hr hs hl hm=>iMul_any neg peg l m a b c d w hr hs hl hm) (fun neg l peg m s h1 h2 h3 h4=>by have:=lz_mul' (s:=s) (t:=s) (vz_pow (neg:=neg) h1 h3) (vz_pow (neg:=peg) h2 h4);omega)
def ct_inorm:Ct:={ args:=[[.y]],res:=[[.y]],F:=f_yy fun a l=>vz a l,L:=1000000000,A:=1,B:=0 }
theorem zaL:ct_inorm.F=f_yy fun a l=>vz a l:=rfl
theorem ok_inorm:ct_inorm.ok Tryz.prog 95:=ok_yy (fun neg l a c w hr hl=>iNorm_any neg l a c w hr (by unfold zbZ;omega)) (fun neg l s h1 h3=>by rw [Nat.one_mul];exact vz_lt h1 h3)
def ct_isign:Ct:={ args:=[[.y]],res:=[[.n]],F:=f_yn fun a l=>sg (vz a l),L:=1000000000000,A:=0,B:=0 }
theorem zbi:ct_isign.F=f_yn fun a l=>sg (vz a l):=rfl
theorem ok_isign:ct_isign.ok Tryz.prog 77:=ok_yn (fun neg l a c w hr hl=>iSign_any neg l a c w hr hl)
theorem zby (z:Int):vz (decide (z<0)) (lim z.natAbs)=z:=by unfold vz;rw [zao,iv_self]
def GAs0:Gam:=gamOf []
theorem GAs0_ok:GamOk Tryz.prog GAs0:=gamOk_of trivial
def tr_asort:Tr (List SA):=(.br (.le (.lit 10) (.var 0)) (.br (.le (.var 0) (.lit 24)) (.leaf [(.n (.lit 1))]) (.br (.le (.lit 40) (.var 0)) (.br (.le (.var 0) (.lit 43)) (.leaf [(.n (.lit 2))]) (.br (.le (.lit 50) (.var 0)) (.br (.le (.var 0) (.lit 51)) (.leaf [(.n (.lit 3))]) (.br (.le (.lit 60) (.var 0)) (.br (.le (.var 0) (.lit 68)) (.leaf [(.n (.lit 4))]) (.leaf [(.n (.lit 0))])) (.leaf [(.n (.lit 0))]))) (.br (.le (.lit 60) (.var 0)) (.br (.le (.var 0) (.lit 68)) (.leaf [(.n (.lit 4))]) (.leaf [(.n (.lit 0))])) (.leaf [(.n (.lit 0))])))) (.br (.le (.lit 50) (.var 0)) (.br (.le (.var 0) (.lit 51)) (.leaf [(.n (.lit 3))]) (.br (.le (.lit 60) (.var 0)) (.br (.le (.var 0) (.lit 68)) (.leaf [(.n (.lit 4))]) (.leaf [(.n (.lit 0))])) (.leaf [(.n (.lit 0))]))) (.br (.le (.lit 60) (.var 0)) (.br (.le (.var 0) (.lit 68)) (.leaf [(.n (.lit 4))]) (.leaf [(.n (.lit 0))])) (.leaf [(.n (.lit 0))]))))) (.br (.le (.lit 40) (.var 0)) (.br (.le (.var 0) (.lit 43)) (.leaf [(.n (.lit 2))]) (.br (.le (.lit 50) (.var 0)) (.br (.le (.var 0) (.lit 51)) (.leaf [(.n (.lit 3))]) (.br (.le (.lit 60) (.var 0)) (.br (.le (.var 0) (.lit 68)) (.leaf [(.n (.lit 4))]) (.leaf [(.n (.lit 0))])) (.leaf [(.n (.lit 0))]))) (.br (.le (.lit 60) (.var 0)) (.br (.le (.var 0) (.lit 68)) (.leaf [(.n (.lit 4))]) (.leaf [(.n (.lit 0))])) (.leaf [(.n (.lit 0))])))) (.br (.le (.lit 50) (.var 0)) (.br (.le (.var 0) (.lit 51)) (.leaf [(.n (.lit 3))]) (.br (.le (.lit 60) (.var 0)) (.br (.le (.var 0) (.lit 68)) (.leaf [(.n (.lit 4))]) (.leaf [(.n (.lit 0))])) (.leaf [(.n (.lit 0))]))) (.br (.le (.lit 60) (.var 0)) (.br (.le (.var 0) (.lit 68)) (.leaf [(.n (.lit 4))]) (.leaf [(.n (.lit 0))])) (.leaf [(.n (.lit 0))])))))
theorem ev_asort:Ct.ok Tryz.prog 51 { args:=[[.n]],res:=[[.n]],F:=fun als=>tr_asort.den GAs0 (zdh als),L:=1000,A:=0,B:=0 } :=
 top_ok (by kernel_rfl) GAs0_ok (plans:=planF) (lf:=60) (k:=20) (by kernel_rfl)
def tr_aword_0:Tr (List SA):=(.br (.eq (.var 0) (.lit 50)) (.leaf [(.s (.lit [99,105,114,99,108,101]))]) (.br (.eq (.var 0) (.lit 51)) (.leaf [(.s (.lit [99,105,114,99,117,109]))]) (.leaf [(.s (.lit []))])))
def tr_aword_1:Tr (List SA):=(.br (.eq (.var 0) (.lit 66)) (.leaf [(.s (.lit [97,110,103,108,101]))]) (.br (.eq (.var 0) (.lit 67)) (.leaf [(.s (.lit [115,97,109,101]))]) (.leaf [(.s (.lit [114,97,116,105,111]))])))
def tr_aword_2:Tr (List SA):=(.br (.eq (.var 0) (.lit 43)) (.leaf [(.s (.lit [98,105,115,101,99,116,111,114]))]) tr_aword_0)
def tr_aword_3:Tr (List SA):=(.br (.eq (.var 0) (.lit 65)) (.leaf [(.s (.lit [99,111,110,99,121,99,108,105,99]))]) tr_aword_1)
def tr_aword_4:Tr (List SA):=(.br (.eq (.var 0) (.lit 64)) (.leaf [(.s (.lit [109,105,100,112,111,105,110,116]))]) tr_aword_3)
def tr_aword_5:Tr (List SA):=(.br (.eq (.var 0) (.lit 42)) (.leaf [(.s (.lit [112,101,114,112,101,110,100,105,99,117,108,97,114]))]) tr_aword_2)
def tr_aword_6:Tr (List SA):=(.br (.eq (.var 0) (.lit 63)) (.leaf [(.s (.lit [99,111,110,103,114,117,101,110,116]))]) tr_aword_4)
def tr_aword_7:Tr (List SA):=(.br (.eq (.var 0) (.lit 41)) (.leaf [(.s (.lit [112,97,114,97,108,108,101,108]))]) tr_aword_5)
def tr_aword_8:Tr (List SA):=(.br (.eq (.var 0) (.lit 40)) (.leaf [(.s (.lit [108,105,110,101]))]) tr_aword_7)
def tr_aword_9:Tr (List SA):=(.br (.eq (.var 0) (.lit 62)) (.leaf [(.s (.lit [112,101,114,112,101,110,100,105,99,117,108,97,114]))]) tr_aword_6)
def tr_aword_10:Tr (List SA):=(.br (.eq (.var 0) (.lit 61)) (.leaf [(.s (.lit [112,97,114,97,108,108,101,108]))]) tr_aword_9)
def tr_aword_11:Tr (List SA):=(.br (.eq (.var 0) (.lit 60)) (.leaf [(.s (.lit [99,111,108,108,105,110,101,97,114]))]) tr_aword_10)
def tr_aword_12:Tr (List SA):=(.br (.le (.var 0) (.lit 68)) tr_aword_11 tr_aword_8)
def tr_aword_13:Tr (List SA):=(.br (.le (.lit 60) (.var 0)) tr_aword_12 tr_aword_8)
def tr_aword_14:Tr (List SA):=(.br (.le (.var 0) (.lit 51)) tr_aword_8 tr_aword_13)
def tr_aword_15:Tr (List SA):=(.br (.le (.lit 50) (.var 0)) tr_aword_14 tr_aword_13)
def tr_aword_16:Tr (List SA):=(.br (.le (.var 0) (.lit 43)) tr_aword_8 tr_aword_15)
def tr_aword_17:Tr (List SA):=(.br (.le (.lit 40) (.var 0)) tr_aword_16 tr_aword_15)
def tr_aword:Tr (List SA):=(.br (.le (.lit 10) (.var 0)) (.br (.le (.var 0) (.lit 24)) (.br (.eq (.var 0) (.lit 10)) (.leaf [(.s (.lit [109,105,100,112,111,105,110,116]))]) (.br (.eq (.var 0) (.lit 11)) (.leaf [(.s (.lit [100,105,118,105,100,101]))]) (.br (.eq (.var 0) (.lit 12)) (.leaf [(.s (.lit [114,101,102,108,101,99,116]))]) (.br (.eq (.var 0) (.lit 13)) (.leaf [(.s (.lit [109,105,114,114,111,114]))]) (.br (.eq (.var 0) (.lit 14)) (.leaf [(.s (.lit [102,111,111,116]))]) (.br (.eq (.var 0) (.lit 15)) (.leaf [(.s (.lit [109,101,101,116]))]) (.br (.eq (.var 0) (.lit 16)) (.leaf [(.s (.lit [111,110]))]) (.br (.eq (.var 0) (.lit 17)) (.leaf [(.s (.lit [111,116,104,101,114]))]) (.br (.eq (.var 0) (.lit 18)) (.leaf [(.s (.lit [99,111,109,109,111,110]))]) (.br (.eq (.var 0) (.lit 19)) (.leaf [(.s (.lit [99,101,110,116,101,114]))]) (.br (.eq (.var 0) (.lit 20)) (.leaf [(.s (.lit [115,104,105,102,116]))]) (.br (.eq (.var 0) (.lit 21)) (.leaf [(.s (.lit [116,117,114,110]))]) (.br (.eq (.var 0) (.lit 22)) (.leaf [(.s (.lit [99,117,116]))]) (.br (.eq (.var 0) (.lit 23)) (.leaf [(.s (.lit [99,114,111,115,115]))]) (.leaf [(.s (.lit [97,112,101,120]))]))))))))))))))) tr_aword_17) tr_aword_17)
theorem ev_aword:Ct.ok Tryz.prog 50 { args:=[[.n]],res:=[[.s]],F:=fun als=>tr_aword.den GAs0 (zdh als),L:=1000,A:=0,B:=0 } :=
 top_ok (by kernel_rfl) GAs0_ok (plans:=planF) (lf:=60) (k:=20) (by kernel_rfl)
def KT:List (Int × Int × List UInt8 × List Int):=[
 (10,1,[109,105,100,112,111,105,110,116],[1,1]),
 (11,1,[100,105,118,105,100,101],[1,1]),
 (12,1,[114,101,102,108,101,99,116],[1,1]),
 (13,1,[109,105,114,114,111,114],[1,2]),
 (14,1,[102,111,111,116],[1,2]),
 (15,1,[109,101,101,116],[2,2]),
 (16,1,[111,110],[0]),
 (17,1,[111,116,104,101,114],[1,1,1]),
 (18,1,[99,111,109,109,111,110],[1,1,1]),
 (19,1,[99,101,110,116,101,114],[1,1,1]),
 (20,1,[115,104,105,102,116],[1,1,1]),
 (21,1,[116,117,114,110],[1,1]),
 (22,1,[99,117,116],[2,3]),
 (23,1,[99,114,111,115,115],[3,3]),
 (24,1,[97,112,101,120],[1,1]),
 (40,2,[108,105,110,101],[1,1]),
 (41,2,[112,97,114,97,108,108,101,108],[1,2]),
 (42,2,[112,101,114,112,101,110,100,105,99,117,108,97,114],[1,2]),
 (43,2,[98,105,115,101,99,116,111,114],[1,1]),
 (50,3,[99,105,114,99,108,101],[1,1]),
 (51,3,[99,105,114,99,117,109],[1,1,1]),
 (60,4,[99,111,108,108,105,110,101,97,114],[1,1,1]),
 (61,4,[112,97,114,97,108,108,101,108],[2,2]),
 (62,4,[112,101,114,112,101,110,100,105,99,117,108,97,114],[2,2]),
 (63,4,[99,111,110,103,114,117,101,110,116],[1,1,1,1]),
 (64,4,[109,105,100,112,111,105,110,116],[1,1,1]),
 (65,4,[99,111,110,99,121,99,108,105,99],[1,1,1,1]),
 (66,4,[97,110,103,108,101],[1,1,1,1,1,1]),
 (67,4,[115,97,109,101],[1,1]),
 (68,4,[114,97,116,105,111],[1,1,1,1])]
def zaj (i:Nat):Int × Int × List UInt8 × List Int:=KT.getD i (0,0,[],[])
def kIx (k:Int):Nat :=
 if 10≤k∧k≤24 then (k-10).toNat else if 40≤k∧k≤43 then (k-25).toNat else if 50≤k∧k≤51 then (k-31).toNat else if 60≤k∧k≤68 then (k-39).toNat else 30
def sortK (k:Int):Int:=(zaj (kIx k)).2.1
def zeI (k:Int):List UInt8:=(zaj (kIx k)).2.2.1
def zc6 (k:Int):List Int:=(zaj (kIx k)).2.2.2
def hasR (k:Int):Bool:=decide (k=11) || decide (k=68)
theorem aword_den {k:Int} (h1:10≤k) (h2:k≤68):tr_aword.den GAs0 (zdh [.n k])=some [.s (zeI k)]:=by
 have h:k=10∨k=11∨k=12∨k=13∨k=14∨k=15∨k=16∨k=17∨k=18∨k=19∨k=20∨k=21∨k=22∨k=23∨k=24∨k=25∨k=26∨k=27∨k=28∨k=29∨k=30∨k=31∨k=32∨k=33∨k=34∨k=35∨k=36∨k=37∨k=38∨k=39∨k=40∨k=41∨k=42∨k=43∨k=44∨k=45∨k=46∨k=47∨k=48∨k=49∨k=50∨k=51∨k=52∨k=53∨k=54∨k=55∨k=56∨k=57∨k=58∨k=59∨k=60∨k=61∨k=62∨k=63∨k=64∨k=65∨k=66∨k=67∨k=68:=by omega
 rcases h with rfl|rfl|rfl|rfl|rfl|rfl|rfl|rfl|rfl|rfl|rfl|rfl|rfl|rfl|rfl|rfl|rfl|rfl|rfl|rfl|rfl|rfl|rfl|rfl|rfl|rfl|rfl|rfl|rfl|rfl|rfl|rfl|rfl|rfl|rfl|rfl|rfl|rfl|rfl|rfl|rfl|rfl|rfl|rfl|rfl|rfl|rfl|rfl|rfl|rfl|rfl|rfl|rfl|rfl|rfl|rfl|rfl|rfl|rfl
 all_goals rfl
theorem asort_den {k:Int} (h1:10≤k) (h2:k≤68):tr_asort.den GAs0 (zdh [.n k])=some [.n (sortK k)]:=by
 have h:k=10∨k=11∨k=12∨k=13∨k=14∨k=15∨k=16∨k=17∨k=18∨k=19∨k=20∨k=21∨k=22∨k=23∨k=24∨k=25∨k=26∨k=27∨k=28∨k=29∨k=30∨k=31∨k=32∨k=33∨k=34∨k=35∨k=36∨k=37∨k=38∨k=39∨k=40∨k=41∨k=42∨k=43∨k=44∨k=45∨k=46∨k=47∨k=48∨k=49∨k=50∨k=51∨k=52∨k=53∨k=54∨k=55∨k=56∨k=57∨k=58∨k=59∨k=60∨k=61∨k=62∨k=63∨k=64∨k=65∨k=66∨k=67∨k=68:=by omega
 rcases h with rfl|rfl|rfl|rfl|rfl|rfl|rfl|rfl|rfl|rfl|rfl|rfl|rfl|rfl|rfl|rfl|rfl|rfl|rfl|rfl|rfl|rfl|rfl|rfl|rfl|rfl|rfl|rfl|rfl|rfl|rfl|rfl|rfl|rfl|rfl|rfl|rfl|rfl|rfl|rfl|rfl|rfl|rfl|rfl|rfl|rfl|rfl|rfl|rfl|rfl|rfl|rfl|rfl|rfl|rfl|rfl|rfl|rfl|rfl
 all_goals rfl
def na (x:Nat):At:=.u (lim x)
theorem RetN.rep {w w':World} {x:Nat} {e:Ending} (h:RetN w (lim x) e w'):∃ v,e = .returned v∧RepV w' [.u] [na x] v∧Below w.heap.size w w':=by
 obtain ⟨a,c,he,hr,hE⟩:=h
 exact ⟨_,he,zdN.2 ⟨_,a,c,rfl,rfl,hr⟩,hE⟩
def f_uu (g:List Nat→Nat):List At→Option (List At)
 | [.u l]=>some [na (g l)]
 | _=>none
theorem ok_uu {P:Program} {f L A B:Nat} {g:List Nat→Nat}
  (h:∀ l a c w,RD w a c l→l.length≤L→Calls P f #[.slice a l.length c] w (RetN w (lim (g l))))
  (hz:∀ l s,Ok l→l.length≤s→(lim (g l)).length≤A*s+B):Ct.ok P f { args:=[[.u]],res:=[[.u]],F:=f_uu g,L:=L,A:=A,B:=B }:=by
 intro s w vs als r hs hr hsz hF
 obtain ⟨v,rfl,h1⟩:=vs1 hr
 obtain ⟨l,a,c,rfl,rfl,r1⟩:=zdN.1 h1
 injection hF with hF;subst hF
 have s1:l.length≤s:=hsz (.u l) (by simp)
 refine (h l a c w r1 (Nat.le_trans s1 hs)).mono ?_
 intro e w' hret
 obtain ⟨v,he,hv,hE⟩:=hret.rep
 exact ret1 rfl he hv (fun x hx=>by simp at hx;subst hx;exact hz l s r1.ok s1) hE
def f_uuu (g:List Nat→List Nat→Nat):List At→Option (List At)
 | [.u l,.u m]=>some [na (g l m)]
 | _=>none
theorem ok_uuu {P:Program} {f L A B:Nat} {g:List Nat→List Nat→Nat}
  (h:∀ l m a b c d w,RD w a c l→RD w b d m→l.length≤L→m.length≤L→Calls P f #[.slice a l.length c,.slice b m.length d] w (RetN w (lim (g l m))))
  (hz:∀ l m s,Ok l→Ok m→l.length≤s→m.length≤s→(lim (g l m)).length≤A*s+B):Ct.ok P f { args:=[[.u],[.u]],res:=[[.u]],F:=f_uuu g,L:=L,A:=A,B:=B }:=by
 intro s w vs als r hs hr hsz hF
 obtain ⟨a1,a2,v,u,rfl,rfl,h1,h2⟩:=vs2 hr
 obtain ⟨l,a,c,rfl,rfl,r1⟩:=zdN.1 h1
 obtain ⟨m,b,d,rfl,rfl,r2⟩:=zdN.1 h2
 have hF':some [na (g l m)]=some r:=hF
 injection hF' with hF';subst hF'
 have s1:l.length≤s:=hsz (.u l) (by simp)
 have s2:m.length≤s:=hsz (.u m) (by simp)
 refine (h l m a b c d w r1 r2 (Nat.le_trans s1 hs) (Nat.le_trans s2 hs)).mono ?_
 intro e w' hret
 obtain ⟨v,he,hv,hE⟩:=hret.rep
 exact ret1 rfl he hv (fun x hx=>by simp at hx;subst hx;exact hz l m s r1.ok r2.ok s1 s2) hE
def f_un (g:List Nat→Int):List At→Option (List At)
 | [.u l]=>some [.n (g l)]
 | _=>none
def f_ub (g:List Nat→Bool):List At→Option (List At)
 | [.u l]=>some [.b (g l)]
 | _=>none
def f_uub (g:List Nat→List Nat→Bool):List At→Option (List At)
 | [.u l,.u m]=>some [.b (g l m)]
 | _=>none
def f_div:List At→Option (List At)
 | [.u l,.u m]=>some (if val m=0 then [.u [],.u [],.n 3] else [na (val l / val m),na (val l % val m),.n 0])
 | _=>none
theorem ok_div {P:Program} {f L:Nat} (h:∀ l m a b c d w,RD w a c l→RD w b d m→l.length≤L→m.length≤L→Calls P f #[.slice a l.length c,.slice b m.length d] w (DivPost w (val l) (val m))):Ct.ok P f { args:=[[.u],[.u]],res:=[[.u],[.u],[.n]],F:=f_div,L:=L,A:=1,B:=0 }:=by
 intro s w vs als r hs hr hsz hF
 obtain ⟨a1,a2,v,u,rfl,rfl,h1,h2⟩:=vs2 hr
 obtain ⟨l,a,c,rfl,rfl,r1⟩:=zdN.1 h1
 obtain ⟨m,b,d,rfl,rfl,r2⟩:=zdN.1 h2
 have hF':some (if val m=0 then [.u [],.u [],.n 3] else [na (val l / val m),na (val l % val m),.n 0])=some r:=hF
 injection hF' with hF';subst hF'
 have s1:l.length≤s:=hsz (.u l) (by simp)
 have s2:m.length≤s:=hsz (.u m) (by simp)
 refine (h l m a b c d w r1 r2 (Nat.le_trans s1 hs) (Nat.le_trans s2 hs)).mono ?_
 rintro e w' (⟨h0,rfl,hE⟩|⟨h0,a,c,a',c',rfl,g1,g2,hE⟩)
 ·rw [if_pos h0]
  exact ret3 (r1:=[.u []]) (r2:=[.u []]) (r3:=[.n 3]) rfl rfl (zdN.2 ⟨[],none,0,rfl,rfl,RD.nil _ _ _⟩) (zdN.2 ⟨[],none,0,rfl,rfl,RD.nil _ _ _⟩) (repV_n.2 ⟨3,rfl,rfl⟩) (fun x hx=>by simp at hx;rcases hx with rfl|rfl<;>simp [At.sz]) hE
 ·rw [if_neg h0]
  refine ret3 (r1:=[na (val l / val m)]) (r2:=[na (val l % val m)]) (r3:=[.n 0]) rfl rfl (zdN.2 ⟨_,a,c,rfl,rfl,g1⟩) (zdN.2 ⟨_,a',c',rfl,rfl,g2⟩) (repV_n.2 ⟨0,rfl,rfl⟩) (fun x hx=>?_) hE
  have q1:=ze2 r1.ok s1
  simp at hx
  rcases hx with rfl|rfl|rfl
  ·have:=lim_mono (Nat.div_le_self (val l) (val m)) q1
   simp only [na,At.sz];omega
  ·have:=lim_mono (Nat.mod_le (val l) (val m)) q1
   simp only [na,At.sz];omega
  ·simp [At.sz]
def f_sqrt:List At→Option (List At)
 | [.u l]=>some [na (isq (val l)),na (val l-isq (val l)*isq (val l))]
 | _=>none
def f_nof:List At→Option (List At)
 | [.w (.int .u64 z)]=>if 0≤z∧z<18446744073709551616 then some [na z.toNat] else none
 | _=>none
theorem ok_nof {P:Program} {f:Nat} (h:∀ (n:Nat) w,n<18446744073709551616→Calls P f #[.int .u64 n] w (RetN w (lim n))):Ct.ok P f { args:=[[.w]],res:=[[.u]],F:=f_nof,L:=100000000000000,A:=0,B:=4 }:=by
 intro s w vs als r hs hr hsz hF
 obtain ⟨v,rfl,h1⟩:=vs1 hr
 obtain ⟨x,rfl,rfl,_⟩:=repV_w.1 h1
 obtain ⟨z,rfl⟩:∃ z,v = .int .u64 z:=by
  simp only [f_nof] at hF
  split at hF
  ·rename_i z h2
   simp only [List.cons.injEq,At.w.injEq,and_true] at h2
   exact ⟨z,h2⟩
  ·cases hF
 have hF':(if 0≤z∧z<18446744073709551616 then some [na z.toNat] else none)=some r:=hF
 split at hF'
 ·rename_i hz
  injection hF' with hF';subst hF'
  have:=h z.toNat w (by omega)
  rw [Int.toNat_of_nonneg hz.1] at this
  refine this.mono ?_
  intro e w' hret
  obtain ⟨v,he,hv,hE⟩:=hret.rep
  exact ret1 rfl he hv (fun x hx=>by simp at hx;subst hx;have:=zbx 4 z.toNat (by simp;omega);simp only [na,At.sz];omega) hE
 ·cases hF'
theorem ok_ub {P:Program} {f L:Nat} {g:List Nat→Bool}
  (h:∀ l a c w,RD w a c l→l.length≤L→Calls P f #[.slice a l.length c] w fun e w'=>e = .returned (.bool (g l))∧Below w.heap.size w w'):Ct.ok P f { args:=[[.u]],res:=[[.b]],F:=f_ub g,L:=L,A:=0,B:=0 }:=by
 intro s w vs als r hs hr hsz hF
 obtain ⟨v,rfl,h1⟩:=vs1 hr
 obtain ⟨l,a,c,rfl,rfl,r1⟩:=zdN.1 h1
 injection hF with hF;subst hF
 have s1:l.length≤s:=hsz (.u l) (by simp)
 refine (h l a c w r1 (Nat.le_trans s1 hs)).mono ?_
 rintro e w' ⟨he,hE⟩
 exact ret1 rfl he (repV_b.2 ⟨_,rfl,rfl⟩) (fun x hx=>by simp at hx;subst hx;simp [At.sz]) hE
theorem ok_un {P:Program} {f L:Nat} {g:List Nat→Int}
  (h:∀ l a c w,RD w a c l→l.length≤L→Calls P f #[.slice a l.length c] w fun e w'=>e = .returned (.int .i64 (g l))∧Below w.heap.size w w'):Ct.ok P f { args:=[[.u]],res:=[[.n]],F:=f_un g,L:=L,A:=0,B:=0 }:=by
 intro s w vs als r hs hr hsz hF
 obtain ⟨v,rfl,h1⟩:=vs1 hr
 obtain ⟨l,a,c,rfl,rfl,r1⟩:=zdN.1 h1
 injection hF with hF;subst hF
 have s1:l.length≤s:=hsz (.u l) (by simp)
 refine (h l a c w r1 (Nat.le_trans s1 hs)).mono ?_
 rintro e w' ⟨he,hE⟩
 exact ret1 rfl he (repV_n.2 ⟨_,rfl,rfl⟩) (fun x hx=>by simp at hx;subst hx;simp [At.sz]) hE
theorem refl_below {w w':World} (h:w=w'):Below w.heap.size w w':=by subst h;exact Below.refl _ _
theorem lz_n {l:List Nat} {s:Nat} (h:Ok l) (hl:l.length≤s):(lim (val l)).length≤1*s+0:=by have:=ze2 h hl;omega
theorem gcd_le_max (a b:Nat):Nat.gcd a b≤max a b:=by
 rcases Nat.eq_zero_or_pos a with h|h
 ·subst h;rw [Nat.gcd_zero_left];omega
 ·have:=Nat.gcd_le_left b h;omega
theorem lz_gcd {l m:List Nat} {s:Nat} (h1:Ok l) (h2:Ok m) (hl:l.length≤s) (hm:m.length≤s):(lim (Nat.gcd (val l) (val m))).length≤1*s+0:=by
 have q1:=ze2 h1 hl
 have q2:=ze2 h2 hm
 have:(lim (max (val l) (val m))).length≤s:=by
                           rcases Nat.le_total (val l) (val m) with h|h
                           ·rw [Nat.max_eq_right h];exact q2
                           ·rw [Nat.max_eq_left h];exact q1
 have:=lim_mono (gcd_le_max (val l) (val m)) this
 omega
theorem lz_nmul {l m:List Nat} {s:Nat} (h1:Ok l) (h2:Ok m) (hl:l.length≤s) (hm:m.length≤s):(lim (val l*val m)).length≤2*s+0:=by
 have:=zbx (s+s) (val l*val m) (by rw [Nat.pow_add];exact Nat.mul_lt_mul'' (Nat.lt_of_lt_of_le (zck l h1) (Nat.pow_le_pow_right (by decide) hl)) (Nat.lt_of_lt_of_le (zck m h2) (Nat.pow_le_pow_right (by decide) hm)))
 omega
def ct_nnorm:Ct:={ args:=[[.u]],res:=[[.u]],F:=f_uu val,L:=10000000000,A:=1,B:=0 }
theorem zaM:ct_nnorm.F=f_uu val:=rfl
theorem ok_nnorm:ct_nnorm.ok Tryz.prog 94:=ok_uu (fun l a c w hr hl=>by rw [zaO l hr.ok];exact norm_any l a c w hr (by unfold zbZ;omega)) (fun l s h1 h2=>lz_n h1 h2)
def ct_rnorm:Ct:={ args:=[[.u]],res:=[[.u]],F:=f_uu val,L:=10000000000,A:=1,B:=0 }
theorem zaN:ct_rnorm.F=f_uu val:=rfl
theorem ok_rnorm:ct_rnorm.ok Tryz.prog 121:=ok_uu (fun l a c w hr hl=>by rw [zaO l hr.ok];exact zc7 l a c w hr (by unfold zbZ;omega)) (fun l s h1 h2=>lz_n h1 h2)
def ct_ngcd:Ct:={ args:=[[.u],[.u]],res:=[[.u]],F:=f_uuu fun l m=>Nat.gcd (val l) (val m),L:=10000000000,A:=1,B:=0 }
theorem zeu:ct_ngcd.F=f_uuu fun l m=>Nat.gcd (val l) (val m):=rfl
theorem ok_ngcd:ct_ngcd.ok Tryz.prog 97:=ok_uuu (fun l m a b c d w hr hs hl hm=>gcd_any l m a b c d w hr hs (by unfold zcH;omega) (by unfold zcH;omega)) (fun l m s h1 h2 h3 h4=>lz_gcd h1 h2 h3 h4)
def ct_rgcd:Ct:={ args:=[[.u],[.u]],res:=[[.u]],F:=f_uuu fun l m=>Nat.gcd (val l) (val m),L:=10000000000,A:=1,B:=0 }
theorem zev:ct_rgcd.F=f_uuu fun l m=>Nat.gcd (val l) (val m):=rfl
theorem ok_rgcd:ct_rgcd.ok Tryz.prog 122:=ok_uuu (fun l m a b c d w hr hs hl hm=>gcdR_any l m a b c d w hr hs (by unfold zcH;omega) (by unfold zcH;omega)) (fun l m s h1 h2 h3 h4=>lz_gcd h1 h2 h3 h4)
def ct_nmul:Ct:={ args:=[[.u],[.u]],res:=[[.u]],F:=f_uuu fun l m=>val l*val m,L:=10000000000,A:=2,B:=0 }
theorem zbP:ct_nmul.F=f_uuu fun l m=>val l*val m:=rfl
theorem ok_nmul:ct_nmul.ok Tryz.prog 93:=ok_uuu (fun l m a b c d w hr hs hl hm=>mul_any l m a b c d w hr hs (by unfold zcH;omega) (by unfold zcH;omega)) (fun l m s h1 h2 h3 h4=>lz_nmul h1 h2 h3 h4)
def ct_rmul:Ct:={ args:=[[.u],[.u]],res:=[[.u]],F:=f_uuu fun l m=>val l*val m,L:=10000000000,A:=2,B:=0 }
theorem zbQ:ct_rmul.F=f_uuu fun l m=>val l*val m:=rfl
theorem ok_rmul:ct_rmul.ok Tryz.prog 127:=ok_uuu (fun l m a b c d w hr hs hl hm=>mulR_any l m a b c d w hr hs (by unfold zcH;omega) (by unfold zcH;omega)) (fun l m s h1 h2 h3 h4=>lz_nmul h1 h2 h3 h4)
def ct_ndiv:Ct:={ args:=[[.u],[.u]],res:=[[.u],[.u],[.n]],F:=f_div,L:=10000000000,A:=1,B:=0 }
theorem zew:ct_ndiv.F=f_div:=rfl
theorem ok_ndiv:ct_ndiv.ok Tryz.prog 98:=ok_div (fun l m a b c d w hr hs hl hm=>divmod_any l m a b c d w hr hs (by unfold zcH;omega) (by unfold zcH;omega))
def ct_rdiv:Ct:={ args:=[[.u],[.u]],res:=[[.u],[.u],[.n]],F:=f_div,L:=10000000000,A:=1,B:=0 }
theorem zex:ct_rdiv.F=f_div:=rfl
theorem ok_rdiv:ct_rdiv.ok Tryz.prog 123:=ok_div (fun l m a b c d w hr hs hl hm=>divmodR_any l m a b c d w hr hs (by unfold zcH;omega) (by unfold zcH;omega))
def ct_nbits:Ct:={ args:=[[.u]],res:=[[.n]],F:=f_un fun l=>(ze9 (val l):Int),L:=10000000000,A:=0,B:=0 }
theorem zbj:ct_nbits.F=f_un fun l=>(ze9 (val l):Int):=rfl
theorem ok_nbits:ct_nbits.ok Tryz.prog 91:=ok_un (fun l a c w hr hl=>(bits_any l a c w hr (by unfold zbZ;omega)).mono fun e w' h=>⟨h.1,refl_below h.2⟩)
def ct_rnof:Ct:={ args:=[[.w]],res:=[[.u]],F:=f_nof,L:=100000000000000,A:=0,B:=4 }
theorem zaU:ct_rnof.F=f_nof:=rfl
theorem ok_rnof:ct_rnof.ok Tryz.prog 119:=ok_nof (fun n w hn=>ofR_any n w hn)
def f_yyn (g:Bool→List Nat→Bool→List Nat→Int):List At→Option (List At)
 | [.y a l,.y b m]=>some [.n (g a l b m)]
 | _=>none
def f_idiv:List At→Option (List At)
 | [.y a l,.y b m]=>some [za (qq (vz a l) (vz b m)),za (rr (vz a l) (vz b m)),.n (ee (vz b m))]
 | _=>none
def f_iof:List At→Option (List At)
 | [.n z]=>if -9223372036854775808≤z∧z<9223372036854775808 then some [za z] else none
 | _=>none
def ct_rimul:Ct:={ args:=[[.y],[.y]],res:=[[.y]],F:=f_yyy fun a l b m=>vz a l*vz b m,L:=1000000000,A:=2,B:=0 }
theorem zbk:ct_rimul.F=f_yyy fun a l b m=>vz a l*vz b m:=rfl
theorem ok_rimul:ct_rimul.ok Tryz.prog 104:=ok_yyy (fun neg peg l m a b c d w hr hs hl hm=>iMulR_any neg peg l m a b c d w hr hs hl hm) (fun neg l peg m s h1 h2 h3 h4=>by have:=lz_mul' (s:=s) (t:=s) (vz_pow (neg:=neg) h1 h3) (vz_pow (neg:=peg) h2 h4);omega)
def ct_rineg:Ct:={ args:=[[.y]],res:=[[.y]],F:=f_yy fun a l=>vz (!a) l,L:=1000000000,A:=1,B:=0 }
theorem zbl:ct_rineg.F=f_yy fun a l=>vz (!a) l:=rfl
theorem ok_rineg:ct_rineg.ok Tryz.prog 101:=ok_yy (fun neg l a c w hr hl=>iNegR_any neg l a c w hr (by unfold zbZ;omega)) (fun neg l s h1 h3=>by rw [Nat.one_mul];exact vz_lt h1 h3)
def ct_rinorm:Ct:={ args:=[[.y]],res:=[[.y]],F:=f_yy fun a l=>vz a l,L:=1000000000,A:=1,B:=0 }
theorem zaB:ct_rinorm.F=f_yy fun a l=>vz a l:=rfl
theorem ok_rinorm:ct_rinorm.ok Tryz.prog 124:=ok_yy (fun neg l a c w hr hl=>iNormR_any neg l a c w hr (by unfold zbZ;omega)) (fun neg l s h1 h3=>by rw [Nat.one_mul];exact vz_lt h1 h3)
def ct_risign:Ct:={ args:=[[.y]],res:=[[.n]],F:=f_yn fun a l=>sg (vz a l),L:=1000000000000,A:=0,B:=0 }
theorem zaV:ct_risign.F=f_yn fun a l=>sg (vz a l):=rfl
theorem ok_risign:ct_risign.ok Tryz.prog 126:=ok_yn (fun neg l a c w hr hl=>iSignR_any neg l a c w hr hl)
end Go.Proofs.YtefhenfofomjhaaGreat
