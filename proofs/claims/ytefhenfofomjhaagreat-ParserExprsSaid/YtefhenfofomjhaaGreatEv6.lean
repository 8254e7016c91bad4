/- Symbolic evaluation: a region. -/
import Derived.Test.YtefhenfofomjhaaGreatEv4
import Derived.Conc.MuLone
set_option linter.unusedSimpArgs false
set_option linter.unusedVariables false
namespace Go.Proofs.YtefhenfofomjhaaGreat
open Go Go.RowKit Go.V
theorem run_enter {P : Program} {f : FuncId} {fn : Func} {c : Code} (hf : P.funcs[f]? = some fn) (hname : (fn.name == "runtime.NumGoroutine") = false) (hb : fn.body = some c) (args : Array Value) (w : World) :
  (callFunc f args).run P w = .ok (.enter f args) w:=by
 have h1 : fn.name ≠ "runtime.NumGoroutine" := by simpa using hname
 simp [callFunc,hf,h1,hb]
theorem enters_run {P:Program} {f:Nat} (h:enters P f=true) (args:Array Value) (w:World):(callFunc f args).run P w = .ok (.enter f args) w:=by
 unfold enters at h
 split at h
 ·rename_i fn hf
  simp only [Bool.and_eq_true,Bool.not_eq_true'] at h
  obtain ⟨c,hc⟩:=Option.isSome_iff_exists.1 h.2
  exact run_enter hf h.1 hc args w
 ·cases h
def CallOk (P:Program) (Γ:Gam) (s:Nat) (call:Nat→List SV→SS→Tr (List S1 × SS)):Prop :=
 ∀ (f:Nat) (xs:List SV) (S:SS) (E:En) (w:World) (vs:List Value) (R:Ending→World→Prop) (Q:List S1 × SS→Ev→Prop),SatM s E S.h S.sz w→denVs E xs=some vs→(call f xs S).sat Γ Q E.env →
  (∀ p E' w' rvs,Q p E'.env→SatM s E' p.2.h p.2.sz w'→denT E' p.1=some rvs→Ext w.heap.size E w E' w'→R (.returned (zat rvs)) w')→Calls P f vs.toArray w R
theorem contractOk {P:Program} {Γ:Gam} {s L:Nat} {c:Ct} {f:Nat} (hΓ:GamOk P Γ) (hs:s≤L) (hc:Γ f=some c) {xs:List SV} {S:SS} {E:En} {w:World} {vs:List Value} {R:Ending→World→Prop} {Q:List S1 × SS→Ev→Prop} (H:SatM s E S.h S.sz w) (hx:denVs E xs=some vs) (hsat:(callS L c f xs S).sat Γ Q E.env)
  (himp:∀ p E' w' rvs,Q p E'.env→SatM s E' p.2.h p.2.sz w'→denT E' p.1=some rvs→Ext w.heap.size E w E' w'→R (.returned (zat rvs)) w'):Calls P (f % 8192) vs.toArray w R:=by
 refine callS_ok hΓ hs hc H hx (sat_mono ?_ _ _ hsat)
 intro p e' hq E' w' rvs h1 h2 h3 h4
 exact himp p E' w' rvs (by rw [h2];exact hq) h1 h3 h4
theorem pickC_some {Γ:Gam} {sz:Szs} {h:List (Option (List SC))} {als:List SV} {p:Nat × Ct}:∀ {n f:Nat},pickC Γ sz h als n f=some p→Γ p.1=some p.2
 | 0,_,hp=>by cases hp
 | n+1,f,hp=>by
  simp only [pickC] at hp
  split at hp
  ·cases hp
  ·rename_i c hc
   split at hp
   ·injection hp with hp;subst hp;exact hc
   ·exact pickC_some hp
theorem packS_den {E:En} {l:List S1} {vs:List Value} (h:denT E l=some vs):denV E (packS l)=some (zat vs):=by
 match l,vs,h with
 | [],_,h=>injection h with h;subst h;rfl
 | [x],_,h =>
  obtain ⟨a,b,h1,h2,rfl⟩:=zau h
  injection h2 with h2;subst h2
  exact h1
 | x::y::r,_,h =>
  have h':=h
  obtain ⟨a,b,h1,h2,rfl⟩:=zau h
  obtain ⟨a',b',h3,h4,rfl⟩:=zau h2
  show op1 _ (denT E (x::y::r))=_
  rw [h'];rfl
theorem opnds_den {E:En} {l:List SV} {g:G} (H:SatG E l g):∀ {xs:List Operand} {vs:List SV},opnds l xs=some vs→denVs E vs=some (xs.map (evG g))
 | [],_,h=>by injection h with h;subst h;rfl
 | x::r,_,h=>by
  obtain ⟨a,b,h1,h2,rfl⟩:=zau h
  simp [denVs,zds H h1,opnds_den H h2,op2]
theorem isFree_eq {S:SS} {nb:Nat} (h:isFree S nb=true):S.h[nb]? = some none:=by
 unfold isFree at h
 split at h
 ·assumption
 ·cases h
theorem zero_den {E:En} (z:Array Value):zcC E (z.toList.map .lit)=some z.toList:=denL_lit _
theorem replS_den {E:En} (z:List Value):∀ n,∃ vs,zcC E (replS z n)=some vs∧vs.length=n*z.length∧∀ i,i<n*z.length→vs[i]? = z[i % z.length]?
 | 0=>⟨[],rfl,by simp,fun i h=>by simp at h⟩
 | n+1=>by
  obtain ⟨vs,h1,h2,h3⟩:=replS_den z n
  refine ⟨z++vs,denL_app (denL_lit z) h1,by simp [h2,Nat.succ_mul,Nat.add_comm],fun i hi=>?_⟩
  by_cases hlt:i<z.length
  ·rw [List.getElem?_append_left hlt,Nat.mod_eq_of_lt hlt]
  ·rw [List.getElem?_append_right (by omega),h3 _ (by rw [Nat.succ_mul] at hi;omega)]
   congr 1
   exact (Nat.mod_eq_sub_mod (by omega)).symm
theorem zeros_eq {E:En} {z:Array Value} {size len:Nat} (hz:z.size=size):∃ vs,zcC E (replS z.toList len)=some vs∧(Array.range (len*size)).map ((if len*size=0 then #[] else z)[· % (if len*size=0 then #[] else z).size]!)=vs.toArray:=by
 obtain ⟨vs,h1,h2,h3⟩:=replS_den (E:=E) z.toList len
 refine ⟨vs,h1,?_⟩
 simp only [Array.length_toList,hz] at h2 h3
 apply Array.ext
 ·simp [h2]
 ·intro i hi1 hi2
  simp only [Array.size_map,Array.size_range] at hi1
  have hne:¬len*size=0:=by omega
  have hsz:0<size:=by
   rcases Nat.eq_zero_or_pos size with h|h
   ·rw [h] at hne;simp at hne
   ·exact h
  have h4:=h3 i hi1
  have hm:i % size<z.size:=by rw [hz];exact Nat.mod_lt _ hsz
  simp only [Array.getElem_map,Array.getElem_range,hne,if_false,hz,List.getElem_toArray]
  rw [getElem!_pos z _ hm]
  rw [List.getElem?_eq_getElem (by simpa using hi2),Array.getElem?_toList,Array.getElem?_eq_getElem hm] at h4
  injection h4 with h4
  exact h4.symm
def En.cut (E:En) (n0:Nat):En:={ E with bl:=fun b=>if b<n0 then E.bl b else none }
theorem cut_some {E:En} {n0 b β:Nat} (h:(E.cut n0).bl b=some β):b<n0∧E.bl b=some β:=by
 have k:(if b<n0 then E.bl b else none)=some β:=h
 by_cases hb:b<n0
 ·rw [if_pos hb] at k;exact ⟨hb,k⟩
 ·rw [if_neg hb] at k;cases k
theorem denC_cut {E:En} {n0:Nat} {c:SC} (h:noPtr n0 c=true):zcG (E.cut n0) c=zcG E c:=by
 cases c with
 | ptr b off =>
  have hb:b<n0:=by
   have h':b+1≤n0:=by simpa [noPtr] using h
   omega
  show op1 _ (if b<n0 then E.bl b else none)=op1 _ (E.bl b)
  rw [if_pos hb]
 | sl b off n c =>
  have hb:b<n0:=by
   have h':b+1≤n0:=by simpa [noPtr] using h
   omega
  show op1 _ (if b<n0 then E.bl b else none)=op1 _ (E.bl b)
  rw [if_pos hb]
 | sv b n =>
  have hb:b<n0:=by
   have h':b+1≤n0:=by simpa [noPtr] using h
   omega
  show op1 _ (if b<n0 then E.bl b else none)=op1 _ (E.bl b)
  rw [if_pos hb]
  rfl
 | lit v=>rfl
 | ob k j=>rfl
 | ix e=>rfl
 | bx e=>rfl
theorem denL_cut {E:En} {n0:Nat}:∀ {l:List SC},l.all (noPtr n0)=true→zcC (E.cut n0) l=zcC E l
 | [],_=>rfl
 | c::r,h=>by
  simp only [List.all_cons,Bool.and_eq_true] at h
  simp only [zcC,denC_cut h.1,denL_cut h.2]
theorem denT_cut {E:En} {n0:Nat}:∀ {l:List S1},l.all (noPtr1 n0)=true→denT (E.cut n0) l=denT E l
 | [],_=>rfl
 | c::r,h=>by
  simp only [List.all_cons,Bool.and_eq_true] at h
  have:den1 (E.cut n0) c=den1 E c:=by
   cases c with
   | one c=>exact denC_cut h.1
   | agg l=>simp only [den1,denL_cut (show l.all (noPtr n0)=true from h.1)]
  simp only [denT,this,denT_cut h.2]
theorem gc_sound {s:Nat} {E E':En} {S:SS} {p:List S1 × SS} {w w':World} {rvs:List Value} {B:Nat} (HM:SatM s E S.h S.sz w) (hm:SatM s E' p.2.h p.2.sz w') (hd:denT E' p.1=some rvs) (hx:Ext B E w E' w') :
  ∃ E2,SatM s E2 (gcS S.h.length p).h p.2.sz w'∧(gcS S.h.length p).sz=p.2.sz∧denT E2 p.1=some rvs∧Ext B E w E2 w'∧E2.env=E'.env:=by
 unfold gcS
 split
 ·rename_i h
  simp only [Bool.and_eq_true] at h
  refine ⟨E'.cut S.h.length,⟨fun b cs hb=>?_,fun b b' β hb hb'=>?_,fun b β hb=>?_,fun b β hb=>?_,hm.objs,hm.odom⟩,rfl,by rw [denT_cut h.1];exact hd,⟨⟨fun b β hb=>?_,hx.le.ob,hx.le.cv⟩,fun b β hb=>?_,hx.bel⟩,rfl⟩
  ·have hb':(p.2.h.take S.h.length)[b]? = some (some cs):=hb
   have hlt:=(List.getElem?_eq_some_iff.1 hb').1
   rw [List.length_take] at hlt
   rw [List.getElem?_take_of_lt (by omega)] at hb'
   obtain ⟨β,t,vs,h1,h2,h3⟩:=hm.blocks b cs hb'
   have hall:cs.all (noPtr S.h.length)=true:=(List.all_eq_true.1 h.2) (some cs) (List.mem_of_getElem? hb)
   refine ⟨β,t,vs,?_,by rw [denL_cut hall];exact h2,h3⟩
   show (if b<S.h.length then E'.bl b else none)=some β
   rw [if_pos (by omega)];exact h1
  ·exact hm.inj b b' β (cut_some hb).2 (cut_some hb').2
  ·exact hm.dom b β (cut_some hb).2
  ·obtain ⟨hlt,k1⟩:=cut_some hb
   obtain ⟨cs,hc⟩:=hm.hdom b β k1
   exact ⟨cs,by show (p.2.h.take S.h.length)[b]? = _;rw [List.getElem?_take_of_lt hlt];exact hc⟩
  ·obtain ⟨cs,hc⟩:=HM.hdom b β hb
   have hlt:=(List.getElem?_eq_some_iff.1 hc).1
   show (if b<S.h.length then E'.bl b else none)=some β
   rw [if_pos hlt];exact hx.le.bl b β hb
  ·exact hx.new b β (cut_some hb).2
 ·exact ⟨E',hm,rfl,hd,hx,rfl⟩
section
variable {P:Program} {Γ:Gam} {s L:Nat} {call:Nat→List SV→SS→Tr (List S1 × SS)} (hΓ:GamOk P Γ) (hs:s≤L) (hcall:CallOk P Γ s call)
variable {ops:Array Oper}
theorem hv_buildA {k:Nat} {g:G} {w:World} {nx:G→World→Prop} {o:Oper} {t:TypeId} {a:Nat × TypeId × Nat} {z:Array Value} {parts:Array (Nat × Operand)} (cells:Array Value) (hw:zcm ops g o=true) (ho:o.op = .build t parts) (ha:arE P t=some a) (hz:zdY P t=some z)
  (pl:List (Nat × Value)) (hp:(parts.toList.map fun x=>(x.1,evG g x.2))=pl) (hfill:Instr.fill (fun i=>some (i*a.2.2,a.2.2)) z pl=some cells) (h:nx (zcd g o.dst (.agg cells)) w):hvX P ops o k nx g w:=by
 obtain ⟨inf,hu,hi,hs⟩:=arE_some ha
 obtain ⟨v,hv,hc⟩:=zeroC_some hz w
 refine zdl hw (v:=.agg cells) (w':=w) ?_ (fun _=>Below.refl _ _) h
 have e1:(underlying t).run P w = .ok (.array a.1 a.2.1) w:=run_underlying hu w
 have e2:(sizeOf a.2.1).run P w = .ok a.2.2 w:=by simp [sizeOf,typeInfo,hi,hs]
 have e4:(parts.map fun (i,x)=>(i,evG g x)).toList=pl:=by rw [Array.toList_map];exact hp
 unfold execOp
 simp only [ho,Instr.build,Sem.run_bind,e1,Result.andThen_ok,hv,hc,e2,e4,hfill]
 simp
omit hΓ hs hcall in
def SI (E:En) (S:SS) (o:Oper) (w w':World):Prop:=zdi o.op=true→∃ t x y b off β,o.op = .store t x y∧one? (opnd S.g x)=some (.ptr b off)∧E.bl b=some β∧Sto w w' β
include hΓ hs hcall
theorem zdP {lo B nb ob k:Nat} {S:SS} {o:Oper} {E:En} {g:G} {w:World} {Q:SS→Ev→Prop} {nx:G→World→Prop} (HG:SatG E S.g g) (HM:SatM s E S.h S.sz w) (Fr:∀ b β,E.bl b=some β→lo≤b→B≤β) (hB:B≤w.heap.size)
  (hw:zcm ops g o=true) (hk:k=0→zdi o.op=false) (hsat:(heavyS P Γ L call lo nb ob S o).sat Γ Q E.env)
  (himp:∀ S' E' g' w',Q S' E'.env→SatG E' S'.g g'→SatM s E' S'.h S'.sz w'→Ext (if zdi o.op=true then B else w.heap.size) E w E' w'→SI E S o w w'→nx g' w'):hvX P ops o k nx g w:=by
 unfold heavyS at hsat
 split at hsat
 ·rename_i t ho
  rw [ho] at himp
  have hsi:∀ w',SI E S o w w':=fun w' h=>by rw [ho] at h;cases h
  split at hsat
  ·rename_i z hz
   split at hsat
   ·rename_i hf
    refine zam hw ho hz fun w1 b hE hle hBx=>?_
    obtain ⟨E',h1,h2,h3,h4⟩:=HM.new (isFree_eq hf) hE hle (vs:=z.toList) (by simpa using hBx) (zero_den z)
    refine himp _ E' _ w1 (h2▸hsat) ?_ ?_ h4 (hsi _)
    ·exact SatG.put (S:=S.mem nb _) (HG.le h4.le) o.dst (by simp [denV,den1,zcG,h3,op1])
    ·rw [put_h,zdc];exact h1
   ·exact hsat.elim
  ·exact hsat.elim
 ·rename_i t x ho
  rw [ho] at himp
  have hsi:∀ w',SI E S o w w':=fun w' h=>by rw [ho] at h;cases h
  split at hsat
  ·rename_i cs hcs
   split at hsat
   ·rename_i hf
    obtain ⟨vs,h5,h6⟩:=cellsV_den HM HG hcs
    refine zc5 vs.toArray hw ho h6 fun w1 b hE hle hBx=>?_
    obtain ⟨E',h1,h2,h3,h4⟩:=HM.new (isFree_eq hf) hE hle hBx h5
    refine himp _ E' _ w1 (h2▸hsat) ?_ ?_ h4 (hsi _)
    ·exact SatG.put (S:=S.mem nb _) (HG.le h4.le) o.dst (by simp [denV,den1,zcG,h3,op1])
    ·rw [put_h,zdc];exact h1
   ·exact hsat.elim
  ·exact hsat.elim
 ·rename_i t parts ho
  rw [ho] at himp
  have hsi:∀ w',SI E S o w w':=fun w' h=>by rw [ho] at h;cases h
  split at hsat
  ·rename_i z l pl hz hpl
   split at hsat
   ·rename_i cs hcs
    obtain ⟨us,h1,h2⟩:=fillS_den (zero_den z) (partsS_den HM HG hpl) hcs
    simp only [Array.toArray_toList] at h2
    refine zal us.toArray hw ho hz _ rfl h2 ?_
    refine himp _ E _ w hsat ?_ ?_ (Ext.refl _ _ _) (hsi _)
    ·exact HG.put o.dst (by simp [denV,den1,h1,op1])
    ·rw [put_h,zdc];exact HM
   ·exact hsat.elim
  ·rename_i pl hz hpl
   split at hsat
   ·rename_i a z ha hzc
    split at hsat
    ·rename_i cs hcs
     obtain ⟨us,h1,h2⟩:=fillS_den (zero_den z) (partsS_den HM HG hpl) hcs
     simp only [Array.toArray_toList] at h2
     refine hv_buildA us.toArray hw ho ha hzc _ rfl h2 ?_
     refine himp _ E _ w hsat ?_ ?_ (Ext.refl _ _ _) (hsi _)
     ·exact HG.put o.dst (by simp [denV,den1,h1,op1])
     ·rw [put_h,zdc];exact HM
    ·exact hsat.elim
   ·exact hsat.elim
  ·exact hsat.elim
 ·rename_i t len parts ho
  rw [ho] at himp
  have hsi:∀ w',SI E S o w w':=fun w' h=>by rw [ho] at h;cases h
  split at hsat
  ·rename_i e size z pl hz hpl
   split at hsat
   ·rename_i hc
    simp only [Bool.and_eq_true,Nat.beq_eq,Nat.ble_eq] at hc
    obtain ⟨⟨hc1,hc2⟩,hf⟩:=hc
    split at hsat
    ·rename_i cs hcs
     obtain ⟨vs,h5,h6⟩:=zeros_eq (E:=E) (len:=len) hc1
     obtain ⟨us,h7,h8⟩:=fillS_den h5 (partsS_den HM HG hpl) hcs
     refine zaq us.toArray hw ho hz hc2 _ rfl (by rw [h6];exact h8) fun w1 b hE hle hBx=>?_
     split at hsat
     ·rename_i n l hnl
      split at hsat
      ·rename_i hlen
       have hlen':l.length+1=len:=by simpa using hlen
       split at hsat
       case' h_2=>exact hsat.elim
       rename_i sz' hpo
       obtain ⟨g1,g2⟩:=natLits_den hnl h7
       have hB2:Bx w1 b (lmC (n::l)).toArray e:=by rw [g1] at hBx;exact hBx
       have hrd:RD w1 (some ⟨b,0,none⟩) len (n::l):=RD.of_lm hB2 g2 (by simp;omega)
       obtain ⟨E',k1,k2,k3,k4,k5⟩:=(HM.keep hE).objAt hpo (a:=.u (n::l)) (cs:=[.slice (some ⟨b,0,none⟩) (n::l).length len]) (sh:=.u) (A:=0) (B:=len) rfl ⟨_,_,rfl,hrd⟩ (by simp [At.sz];omega)
       refine himp _ E' _ w1 (by rw [k2];exact hsat) ?_ ?_ ⟨k4,fun x β hx=>.inl (by rw [k5] at hx;exact hx),hE⟩ (hsi _)
       ·refine SatG.put (S:={ S with sz:=sz' }) (HG.le k4) o.dst ?_
        simp only [denV,den1,zcG,k3,obC]
        simp [hlen']
       ·rw [put_h,zdc];exact k1
      ·exact hsat.elim
     ·obtain ⟨E',h1,h2,h3,h4⟩:=HM.new (isFree_eq hf) hE hle hBx h7
      refine himp _ E' _ w1 (h2▸hsat) ?_ ?_ h4 (hsi _)
      ·exact SatG.put (S:=S.mem nb _) (HG.le h4.le) o.dst (by simp [denV,den1,zcG,h3,op1])
      ·rw [put_h,zdc];exact h1
    ·exact hsat.elim
   ·exact hsat.elim
  ·exact hsat.elim
 ·rename_i t x y ho
  rw [ho] at himp
  split at hsat
  ·rename_i b off vs n hx hy hn
   split at hsat
   ·rename_i cs hcs
    split at hsat
    ·rename_i hc
     simp only [Bool.and_eq_true,Nat.beq_eq,Nat.ble_eq] at hc
     obtain ⟨⟨⟨⟨c1,c2⟩,c3⟩,c4⟩,c5⟩:=hc
     obtain ⟨β,h1,h2⟩:=zaG (zbh HG hx)
     obtain ⟨us,h3,h4⟩:=cellsV_den HM HG hy
     obtain ⟨β',tc,ws,h5,h6,h7⟩:=HM.blocks b cs hcs
     rw [h1] at h5;injection h5 with h5;subst h5
     have l1:=zd7 h3
     have l2:=zd7 h6
     have o1:=(cells_ok HM h3).1 c4
     have o2:=(cells_ok HM h6).2 c5
     replace h7:Bx w β ws.toArray tc:=h7.elim id fun ⟨cs0,vs0,e1,e2,_⟩=>by
      have:=o2 (.int .u16 0) (by rw [e2];simp)
      cases this
     have hk0:k≠0:=fun e=>by have:=hk e;rw [ho] at this;cases this
     refine za6 us hw ho h2.symm h4 (by rw [hn,l1,c2]) h7 (by show off+us.length≤ws.length;omega) o1 hk0 fun w1 hS hB1=>?_
     have hd:=putS_den off h6 h3
     have HM':=HM.write hcs h1 h7 o2 hS (vs':=(zaD ws.toArray off us).toList) (by simpa using hB1) hd
     refine himp _ E _ w1 hsat ?_ ?_ ⟨En.Le.refl E,fun _ _ h=>.inl h,?_⟩ (fun _=>⟨t,x,y,b,off,β,ho,hx,h1,hS⟩)
     ·exact SatG.und (S:=S.mem b _) HG o.dst
     ·rw [put_h,zdc];exact HM'
     ·simp only [zdi,if_true]
      exact hS.below (Fr b β h1 c1)
    ·exact hsat.elim
   ·exact hsat.elim
  ·exact hsat.elim
 ·rename_i f args ts ho
  rw [ho] at himp
  have hsi:∀ w',SI E S o w w':=fun w' h=>by rw [ho] at h;cases h
  simp only [zdi,Bool.false_eq_true,if_false] at himp
  split at hsat
  ·rename_i xs hxs
   split at hsat
   ·rename_i hen
    rw [zbg] at hsat
    refine za5 hw ho (fun a w=>enters_run hen a w) fun R hR=>?_
    have hd:=opnds_den HG hxs
    rw [show args.map (evG g)=(args.toList.map (evG g)).toArray from by apply Array.toList_inj.1;rw [Array.toList_map]]
    have fin:∀ (p:List S1 × SS) (E':En) (w':World) (rvs:List Value),(Tr.leaf ({ gcS S.h.length p with g:=S.g }.put o.dst (packS p.1)):Tr SS).sat Γ Q E'.env→SatM s E' p.2.h p.2.sz w'→denT E' p.1=some rvs→Ext w.heap.size E w E' w' →
      ∃ v,Ending.returned (zat rvs) = .returned v∧(k=0→Below w.heap.size w w')∧R v w':=by
     intro p E' w' rvs hq hm hdt hx
     obtain ⟨E2,hm2,hz2,hdt2,hx2,he2⟩:=gc_sound HM hm hdt hx
     refine ⟨_,rfl,fun _=>hx.bel,hR _ _ ?_⟩
     rw [←he2] at hq
     refine himp _ E2 _ w' hq ?_ ?_ hx2 (hsi _)
     ·exact SatG.put (S:={ gcS S.h.length p with g:=S.g }) (HG.le hx2.le) o.dst (packS_den hdt2)
     ·rw [put_h,zdc];rw [←hz2] at hm2;exact hm2
    split at hsat
    ·rename_i p hp
     split at hsat
     ·rename_i hb
      have hf:=Nat.eq_of_beq_eq_true hb
      subst hf
      exact contractOk hΓ hs (pickC_some hp) HM hd hsat fin
     ·exact hsat.elim
    ·exact hcall f xs S E w _ _ _ HM hd hsat fin
   ·exact hsat.elim
  ·exact hsat.elim
 ·exact hsat.elim
end
def opW (P:Program) (ops:Array Oper) (light:Bool) (w0:World) (k:Nat) (o:Oper) (nx:G→World→Prop) (g:G) (w:World):Prop:=match light with
 | true=>(zcm ops g o=true→lokO P w0 (evG g) o.type o.op)∧nx (zcd g o.dst (if zcm ops g o=true then lvO P w0 (evG g) o.type o.op else undef)) w
 | false=>hvX P ops o k nx g w
theorem SatG.set {E:En} {l:List SV} {g:G} (h:SatG E l g) {d:Nat} {x:SV} (hx:denV E x=some (g d)):SatG E (l.set d x) g:=by
 intro t y hy
 by_cases e:t=d
 ·subst e
  rw [List.getElem?_set] at hy
  simp at hy
  rw [←hy.2];exact hx
 ·rw [List.getElem?_set_ne (Ne.symm e)] at hy
  exact h t y hy
theorem zbW {Γ:Gam} {S:SS} {d:Option Nat} {k:SS→Tr SS} {E:En} {g:G} {Q:SS→Ev→Prop} (HG:SatG E S.g g) (HO:SatO E S.sz) (h:(forceS S d k).sat Γ Q E.env) :
  ∃ S',SatG E S'.g g∧S'.h=S.h∧S'.sz=S.sz∧(k S').sat Γ Q E.env:=by
 unfold forceS at h
 split at h
 ·exact ⟨S,HG,rfl,rfl,h⟩
 ·rename_i d
  split at h
  ·rename_i c hc
   split at h
   ·exact ⟨S,HG,rfl,rfl,h⟩
   ·split at h
    ·rename_i e he
     obtain ⟨z,h1,h2⟩:=zdj HO he (HG d _ hc)
     cases z with
     | true=>exact ⟨{ S with g:=S.g.set d (.v (.one (.lit (.bool true)))) },HG.set (by rw [h2];rfl),rfl,rfl,h.1 h1⟩
     | false=>exact ⟨{ S with g:=S.g.set d (.v (.one (.lit (.bool false)))) },HG.set (by rw [h2];rfl),rfl,rfl,h.2 h1⟩
    ·exact h.elim
  ·exact h.elim
theorem zcQ {ops:Array Oper} {S:SS} {o:Oper} {b:Bool} {E:En} {g:G} (HG:SatG E S.g g) (h:wantS ops S o=some b):zcm ops g o=b:=by
 obtain ⟨d,op,ty,pos,af,gd⟩:=o
 cases gd with
 | none=>injection h
 | some jb =>
  obtain ⟨j,b'⟩:=jb
  simp only [wantS] at h
  show gw (zda ops[j]?) g b'=b
  split at h
  ·rename_i hd
   rw [hd];injection h
  ·rename_i d hd
   rw [hd]
   split at h
   ·rename_i v hv
    injection h with h;subst h
    have:=HG d _ hv
    injection this with this
    rw [this];rfl
   ·cases h
theorem SatM.room {s:Nat} {E:En} {h:List (Option (List SC))} {sz:Szs} {w:World} (H:SatM s E h sz w) (n:Nat):SatM s E (h++List.replicate n none) sz w:=by
 refine ⟨fun b cs hb=>?_,H.inj,H.dom,fun b β hb=>?_,H.objs,H.odom⟩
 ·by_cases hlt:b<h.length
  ·rw [List.getElem?_append_left hlt] at hb
   exact H.blocks b cs hb
  ·rw [List.getElem?_append_right (by omega),List.getElem?_replicate] at hb
   split at hb<;>simp at hb
 ·obtain ⟨cs,hc⟩:=H.hdom b β hb
  exact ⟨cs,by rw [List.getElem?_append_left (List.getElem?_eq_some_iff.1 hc).1];exact hc⟩
theorem SatM.roomO {s:Nat} {E:En} {h:List (Option (List SC))} {sz:Szs} {w:World} (H:SatM s E h sz w) (n:Nat):SatM s E h (sz++List.replicate n none) w:=by
 refine ⟨H.blocks,H.inj,H.dom,H.hdom,fun k p hk=>?_,fun k q hq=>?_⟩
 ·by_cases hlt:k<sz.length
  ·rw [List.getElem?_append_left hlt] at hk
   exact H.objs k p hk
  ·rw [List.getElem?_append_right (by omega),List.getElem?_replicate] at hk
   split at hk<;>simp at hk
 ·obtain ⟨p,hp⟩:=H.odom k q hq
  exact ⟨p,by rw [List.getElem?_append_left (List.getElem?_eq_some_iff.1 hp).1];exact hp⟩
theorem Fr_ext {lo B C:Nat} {E E':En} {w w':World} (Fr:∀ b β,E.bl b=some β→lo≤b→B≤β) (hB:B≤w.heap.size) (hx:Ext C E w E' w'):∀ b β,E'.bl b=some β→lo≤b→B≤β:=by
 intro b β hb hl
 rcases hx.new b β hb with h|h
 ·exact Fr b β h hl
 ·exact Nat.le_trans hB h
theorem ext_weak {B:Nat} {o:Op} {E E':En} {w w':World} (hB:B≤w.heap.size) (h:Ext (if zdi o=true then B else w.heap.size) E w E' w'):Ext B E w E' w':=h.weak (by split<;>omega)
theorem stepL_of_opW {P:Program} {ops:Array Oper} {o:Oper} {r:List Oper} {g:G} {w:World} {K:G→World→Prop} (h:opW P ops (!zaZ P o.op) w 1 o (fun g w=>zcp P ops r g w K) g w):zcp P ops (o::r) g w K:=by
 rw [walkL_cons]
 unfold opW at h
 cases hh:zaZ P o.op with
 | true=>rw [hh] at h;exact h
 | false =>
  rw [hh] at h
  obtain ⟨d,op,ty,pos,af,gd⟩:=o
  cases gd with
  | none =>
   obtain ⟨h1,h2⟩:=h
   exact ⟨h1 rfl,h2⟩
  | some jb =>
   obtain ⟨j,b⟩:=jb
   exact h
theorem walk_of_opW {P:Program} {ops:Array Oper} {i k:Nat} {o:Oper} {r:List (Nat × Nat)} {g:G} {w:World} {K:G→World→Prop} (ho:ops[i]? = some o) (h:opW P ops (Nat.beq k 0) w (k-1) o (fun g w=>walk P ops r g w K) g w):walk P ops ((i,k)::r) g w K:=by
 cases k with
 | zero =>
  simp only [walk,ho]
  obtain ⟨h1,h2⟩:=h
  rw [ze0]
  exact ⟨h1,h2⟩
 | succ k =>
  rw [walk_heavy,ho]
  exact h
theorem SatB.le {E E':En} {h:List (Option (List SC))} {w:World} (H:SatB E h w) (hle:E.Le E'):SatB E' h w:=fun b cs hb=>by
 obtain ⟨β,t,vs,h1,h2,h3⟩:=H b cs hb
 exact ⟨β,t,vs,hle.bl b β h1,zcP hle h2,h3⟩
section
variable {P:Program} {Γ:Gam} {s L:Nat} {call:Nat→List SV→SS→Tr (List S1 × SS)} (hΓ:GamOk P Γ) (hs:s≤L) (hcall:CallOk P Γ s call)
variable {ops:Array Oper}
include hΓ hs hcall
theorem step_sound {lo B k:Nat} {light:Bool} {h0:Option (List (Option (List SC)))} {nb:Option (Nat × Nat)} {S:SS} {o:Oper} {E:En} {g:G} {w w0:World} {Q:SS→Ev→Prop} {nx:G→World→Prop} (HG:SatG E S.g g) (HM:SatM s E S.h S.sz w) (Fr:∀ b β,E.bl b=some β→lo≤b→B≤β) (hB:B≤w.heap.size)
  (hl:light=true→match h0 with|some h=>SatB E h w0|none=>w0=w) (hk:light=false→k=0→zdi o.op=false) (hsat:(stepS P Γ L call ops lo light h0 nb S o).sat Γ Q E.env)
  (himp:∀ S' E' g' w',Q S' E'.env→SatG E' S'.g g'→SatM s E' S'.h S'.sz w'→Ext (if zdi o.op=true then B else w.heap.size) E w E' w'→nx g' w'):opW P ops light w0 k o nx g w:=by
 unfold stepS at hsat
 obtain ⟨S1,HG1,e1,e2,h1⟩:=zbW HG HM.o hsat
 split at h1
 ·rename_i hw
  have hw':=zcQ HG1 hw
  have hfin:nx (zcd g o.dst undef) w:=himp _ E _ w h1 (HG1.und o.dst) (by rw [put_h,zdc,e1,e2];exact HM) (Ext.refl _ _ _)
  cases light with
  | true=>exact ⟨fun h=>(by rw [hw'] at h;cases h),(by rw [hw',if_neg (by decide)];exact hfin)⟩
  | false=>exact hv_skip hw' hfin
 ·rename_i hw
  have hw':=zcQ HG1 hw
  cases light with
  | true =>
   replace hl:=hl rfl
   rw [if_pos rfl] at h1
   obtain ⟨S2,HG2,e3,e4,h2⟩:=zbW HG1 (by rw [e2];exact HM.o) h1
   split at h2
   ·rename_i v hv
    have HO2:SatO E S2.sz:=by rw [e4,e2];exact HM.o
    have key:lokO P w0 (evG g) o.type o.op∧denV E v=some (lvO P w0 (evG g) o.type o.op):=by
     cases h0 with
     | none =>
      simp only at hl hv
      subst hl
      exact light_den HG2 HO2 (by rw [e3,e1];exact HM.blocks) hv
     | some h=>exact light_den (S:={ S2 with h:=h }) HG2 HO2 hl hv
    refine ⟨fun _=>key.1,?_⟩
    rw [hw',if_pos rfl]
    exact himp _ E _ w h2 (HG2.put o.dst key.2) (by rw [put_h,zdc,e3,e4,e1,e2];exact HM) (Ext.refl _ _ _)
   ·exact h2.elim
  | false =>
   rw [if_neg (by decide)] at h1
   have HM1:SatM s E S1.h S1.sz w:=by rw [e1,e2];exact HM
   split at h1
   ·exact zdP hΓ hs hcall HG1 HM1 Fr hB hw' (hk rfl) h1 (fun S' E' g' w' q1 q2 q3 q4 _=>himp S' E' g' w' q1 q2 q3 q4)
   ·exact zdP hΓ hs hcall (S:=room S1) HG1 (HM1.room 1) Fr hB hw' (hk rfl) h1 (fun S' E' g' w' q1 q2 q3 q4 _=>himp S' E' g' w' q1 q2 q3 q4)
 ·exact h1.elim
theorem evL_sound {lo B:Nat} {Q:SS→Ev→Prop} {K:G→World→Prop}:∀ (l:List Oper) (S:SS) (E:En) (g:G) (w:World),SatG E S.g g→SatM s E S.h S.sz w→(∀ b β,E.bl b=some β→lo≤b→B≤β)→B≤w.heap.size→(evL P Γ L call ops lo l S).sat Γ Q E.env →
  (∀ S' E' g' w',Q S' E'.env→SatG E' S'.g g'→SatM s E' S'.h S'.sz w'→Ext B E w E' w'→K g' w')→zcp P ops l g w K
 | [],S,E,g,w,HG,HM,Fr,hB,hsat,himp=>himp S E g w hsat HG HM (Ext.refl _ _ _)
 | o::r,S,E,g,w,HG,HM,Fr,hB,hsat,himp=>by
  simp only [evL] at hsat
  rw [zbg] at hsat
  refine stepL_of_opW (step_sound hΓ hs hcall HG HM Fr hB (h0:=none) (fun _=>rfl) (fun _ e=>by cases e) hsat ?_)
  intro S' E' g' w' hq hg hm hx
  have hx':=ext_weak hB hx
  exact evL_sound r S' E' g' w' hg hm (Fr_ext Fr hB hx) (Nat.le_trans hB hx.bel.size) hq (fun S2 E2 g2 w2 q1 q2 q3 q4=>himp S2 E2 g2 w2 q1 q2 q3 (hx'.trans q4))
theorem evP_sound {lo B:Nat} {Q:SS→Ev→Prop} {K:G→World→Prop}:∀ (l:List (Nat × Nat)) (S:SS) (E:En) (g:G) (w:World),SatG E S.g g→SatM s E S.h S.sz w→(∀ b β,E.bl b=some β→lo≤b→B≤β)→B≤w.heap.size→(evP P Γ L call ops lo l S).sat Γ Q E.env →
  (∀ S' E' g' w',Q S' E'.env→SatG E' S'.g g'→SatM s E' S'.h S'.sz w'→Ext B E w E' w'→K g' w')→walk P ops l g w K
 | [],S,E,g,w,HG,HM,Fr,hB,hsat,himp=>himp S E g w hsat HG HM (Ext.refl _ _ _)
 | (i,k)::r,S,E,g,w,HG,HM,Fr,hB,hsat,himp=>by
  simp only [evP] at hsat
  split at hsat
  ·exact hsat.elim
  ·rename_i o ho
   split at hsat
   ·exact hsat.elim
   ·rename_i hc
    rw [zbg] at hsat
    refine walk_of_opW ho (step_sound hΓ hs hcall HG HM Fr hB (h0:=none) (fun _=>rfl) ?_ hsat ?_)
    ·intro h1 h2
     have hk1:k=1:=by
      have:k≠0:=fun e=>by subst e;cases h1
      omega
     subst hk1
     simpa using hc
    intro S' E' g' w' hq hg hm hx
    have hx':=ext_weak hB hx
    exact evP_sound r S' E' g' w' hg hm (Fr_ext Fr hB hx) (Nat.le_trans hB hx.bel.size) hq (fun S2 E2 g2 w2 q1 q2 q3 q4=>himp S2 E2 g2 w2 q1 q2 q3 (hx'.trans q4))
end
theorem ieq_eq:∀ {x y:IE},ieq x y=true→x=y:=by
 intro x
 induction x with
 | lit a=>intro y h;cases y<;>simp [ieq] at h;rw [h]
 | var a=>intro y h;cases y<;>simp [ieq] at h;rw [h]
 | len a i=>intro y h;cases y<;>simp [ieq] at h;rw [h.1,h.2]
 | add a b iha ihb=>intro y h;cases y<;>simp [ieq] at h;rw [iha h.1,ihb h.2]
 | sub a b iha ihb=>intro y h;cases y<;>simp [ieq] at h;rw [iha h.1,ihb h.2]
 | mul a b iha ihb=>intro y h;cases y<;>simp [ieq] at h;rw [iha h.1,ihb h.2]
 | neg a iha=>intro y h;cases y<;>simp [ieq] at h;rw [iha h]
theorem seq_eq {x y:SE} (h:seq x y=true):x=y:=by cases x<;>cases y<;>simp [seq] at h<;>rw [h]
theorem beq_eq:∀ {x y:BE},beq x y=true→x=y:=by
 intro x
 induction x with
 | lit a=>intro y h;cases y<;>simp [beq] at h;rw [h]
 | var a=>intro y h;cases y<;>simp [beq] at h;rw [h]
 | bit a=>intro y h;cases y<;>simp [beq] at h;rw [h]
 | eq a b=>intro y h;cases y<;>simp [beq] at h;rw [ieq_eq h.1,ieq_eq h.2]
 | lt a b=>intro y h;cases y<;>simp [beq] at h;rw [ieq_eq h.1,ieq_eq h.2]
 | le a b=>intro y h;cases y<;>simp [beq] at h;rw [ieq_eq h.1,ieq_eq h.2]
 | not a iha=>intro y h;cases y<;>simp [beq] at h;rw [iha h]
 | beq a b iha ihb=>intro y h;cases y<;>simp [beq] at h;rw [iha h.1,ihb h.2]
 | seq a b=>intro y h;cases y<;>simp [beq] at h;rw [seq_eq h.1,seq_eq h.2]
theorem leq_eq {x y:LE} (h:leq x y=true):x=y:=by cases x<;>cases y<;>simp [leq] at h<;>first|rfl|rw [h.1,h.2]
theorem aeq_eq {x y:SA} (h:aeq x y=true):x=y:=by
 cases x<;>cases y<;>simp [aeq] at h
 ·rw [h]
 ·rw [ieq_eq h]
 ·rw [beq_eq h]
 ·rw [seq_eq h]
 ·rw [beq_eq h.1.1,leq_eq h.1.2,leq_eq h.2]
 ·rw [beq_eq h.1,leq_eq h.2]
 ·rw [leq_eq h]
 ·rw [h]
theorem veq_eq {x y:Value} (h:veq x y=true):x=y:=by
 unfold veq at h
 split at h
 ·simp at h;rw [h.1,h.2]
 ·simp at h;rw [h]
 ·simp at h;rw [bs_inj h]
 ·rfl
 ·simp at h;rw [h.1,h.2]
 ·simp at h;rw [h.1,h.2]
 ·cases h
theorem ceq_eq {x y:SC} (h:ceq x y=true):x=y:=by
 cases x<;>cases y<;>simp [ceq] at h
 ·rw [veq_eq h]
 ·rw [h.1,h.2]
 ·rw [ieq_eq h]
 ·rw [beq_eq h]
 ·rw [h.1,h.2]
 ·rw [h.1.1.1,h.1.1.2,h.1.2,h.2]
 ·rw [h.1,h.2]
theorem lseq_eq {α:Type} {f:α→α→Bool} (hf:∀ a b,f a b=true→a=b):∀ {l m:List α},lseq f l m=true→l=m
 | [],[],_=>rfl
 | [],_::_,h=>by cases h
 | _::_,[],h=>by cases h
 | a::l,b::m,h=>by
  simp only [lseq,Bool.and_eq_true] at h
  rw [hf a b h.1,lseq_eq hf h.2]
theorem oeq_eq {α:Type} {f:α→α→Bool} (hf:∀ a b,f a b=true→a=b) {x y:Option α} (h:oeq f x y=true):x=y:=by
 cases x<;>cases y<;>simp [oeq] at h
 ·rfl
 ·rw [hf _ _ h]
theorem s1eq_eq {x y:S1} (h:s1eq x y=true):x=y:=by
 cases x<;>cases y<;>simp [s1eq] at h
 ·rw [ceq_eq h]
 ·rw [lseq_eq (fun _ _=>ceq_eq) h]
theorem sveq_eq {x y:SV} (h:sveq x y=true):x=y:=by
 cases x<;>cases y<;>simp [sveq] at h
 ·rw [s1eq_eq h]
 ·rw [lseq_eq (fun _ _=>s1eq_eq) h]
theorem zn_inj {a b:Int} (h:zn a=zn b):a=b:=by
 cases a<;>cases b<;>simp only [zn] at h<;>congr 1<;>omega
theorem num_eq {i j:Sh} (h:i.num=j.num):i=j:=by
 cases i<;>cases j<;>first
  | rfl
  | (simp only [Sh.num] at h;omega)
  | (rename_i x;cases x<;>simp only [Sh.num] at h<;>omega)
  | (rename_i x y;cases x<;>cases y<;>first|rfl|(simp only [Sh.num] at h;omega))
  | (rename_i x y;simp only [Sh.num] at h;cases x<;>omega)
  | (rename_i x y;simp only [Sh.num] at h;cases y<;>omega)
  | (rename_i x y;simp only [Sh.num] at h;have e:x=y:=(by omega);rw [e])
  | (rename_i x y;simp only [Sh.num] at h;rw [zn_inj (a:=x) (b:=y) (by omega)])
theorem szeq_eq {x y:Sh × Nat × Nat} (h:szeq x y=true):x=y:=by
 obtain ⟨a,b,c⟩:=x
 obtain ⟨a',b',c'⟩:=y
 simp [szeq] at h
 rw [num_eq h.1.1,h.1.2,h.2]
theorem sseq_eq {x y:SS} (h:sseq x y=true):x=y:=by
 obtain ⟨a,b,c⟩:=x
 obtain ⟨a',b',c'⟩:=y
 simp only [sseq,Bool.and_eq_true] at h
 rw [lseq_eq (fun _ _=>sveq_eq) h.1.1,lseq_eq (fun _ _=>oeq_eq (fun _ _=>lseq_eq (fun _ _=>ceq_eq))) h.1.2,lseq_eq (fun _ _=>oeq_eq (fun _ _=>szeq_eq)) h.2]
theorem treq_eq:∀ {x y:Tr SS},treq x y=true→x=y:=by
 intro x
 induction x with
 | leaf a=>intro y h;cases y<;>simp [treq] at h;rw [sseq_eq h]
 | br c t f iht ihf=>intro y h;cases y<;>simp [treq] at h;rw [beq_eq h.1.1,iht h.1.2,ihf h.2]
 | call f l b t iht=>intro y h;cases y<;>simp [treq] at h;rw [h.1.1.1,lseq_eq (fun _ _=>aeq_eq) h.1.1.2,h.1.2,iht h.2]
 | obj l b t iht=>intro y h;cases y<;>simp [treq] at h;rw [h.1.1,h.1.2,iht h.2]
 | bad=>intro y h;cases y<;>simp [treq] at h
theorem extE_comm {e:Ev} {b k:Nat} {x y:At} (h:b≠k):extE (extE e b [x]) k [y]=extE (extE e k [y]) b [x]:=by
 funext i
 have one:∀ (e:Ev) (b:Nat) (x:At) (i:Nat),extE e b [x] i=if i=b then some x else e i:=by
  intro e b x i
  unfold extE
  by_cases h1:i=b
  ·subst h1;simp
  ·rw [if_neg h1]
   by_cases e2:b≤i
   ·rw [if_pos (Nat.ble_eq_true_of_le e2),List.getElem?_eq_none (by simp;omega)]
   ·rw [if_neg (fun h=>e2 (Nat.le_of_ble_eq_true h))]
 simp only [one]
 by_cases h1:i=b
 ·subst h1;simp [h]
 ·simp [h1]
theorem treqU_sat {Γ:Gam} {Q:SS→Ev→Prop} {t t':Tr SS} (h:treqU t t'=true):∀ e,t.sat Γ Q e→t'.sat Γ Q e:=by
 fun_induction treqU t t' with
 | case1 c t f c' t' f' ih1 ih2 =>
  simp only [Bool.and_eq_true] at h
  intro e hs
  have:=beq_eq h.1.1
  subst this
  exact ⟨fun hc=>ih1 h.1.2 e (hs.1 hc),fun hc=>ih2 h.2 e (hs.2 hc)⟩
 | case2=>cases h
 | case3 l b m k u m' k' l' b' u' hn hb =>
  simp only [Bool.and_eq_true,decide_eq_true_eq,Nat.beq_eq] at h
  obtain ⟨⟨⟨rfl,rfl⟩,rfl⟩,hu⟩:=h
  have hb:=Nat.eq_of_beq_eq_true hb
  subst hb
  have:=treq_eq hu
  subst this
  intro e hs
  simp only [Tr.sat] at hs ⊢
  rw [extE_comm (fun h=>hn (by rw [h];exact Nat.beq_refl _))]
  exact hs
 | case4=>intro e hs;rw [←treq_eq h];exact hs
 | case5=>intro e hs;rw [←treq_eq h];exact hs
section
variable {P:Program} {Γ:Gam} {s L:Nat} {call:Nat→List SV→SS→Tr (List S1 × SS)} (hΓ:GamOk P Γ) (hs:s≤L) (hcall:CallOk P Γ s call)
variable {ops:Array Oper}
include hΓ hs hcall
def TS (P:Program) (Γ:Gam) (s L:Nat) (call:Nat→List SV→SS→Tr (List S1 × SS)) (ops:Array Oper) (lo so:Nat) (h0:List (Option (List SC))) (w0:World) (Q:SS→Ev→Prop) (K:G→World→Prop) (p:Pl):Prop :=
 ∀ (S:SS) (E:En) (g:G) (w:World),SatG E S.g g→SatM s E S.h S.sz w→SatB E h0 w0→(∀ b β,E.bl b=some β→lo≤b→w0.heap.size≤β)→w0.heap.size≤w.heap.size→(evT P Γ L call ops lo so h0 p S).sat Γ Q E.env →
  (∀ S' E' g' w',Q S' E'.env→SatG E' S'.g g'→SatM s E' S'.h S'.sz w'→Ext w0.heap.size E w E' w'→K g' w')→zc4 P ops w0 p g w K
theorem evT_hv {lo so:Nat} {h0:List (Option (List SC))} {w0:World} {Q:SS→Ev→Prop} {K:G→World→Prop} {i:Nat} {r:Pl} (ih:TS P Γ s L call ops lo so h0 w0 Q K r):TS P Γ s L call ops lo so h0 w0 Q K (.hv i r):=by
 intro S E g w HG HM HB Fr hB hsat himp
 simp only [evT] at hsat
 split at hsat
 ·exact hsat.elim
 ·rename_i o ho
  rw [zbg] at hsat
  have:=step_sound hΓ hs hcall (k:=1) (w0:=w0) (nx:=fun g' w'=>Below w0.heap.size w w'∧zc4 P ops w0 r g' w' K) HG HM Fr hB (fun h=>by cases h) (fun _ h=>by cases h) hsat (fun S' E' g' w' hq hg hm hx=>by
   have hx':=ext_weak hB hx
   exact ⟨hx'.bel,ih S' E' g' w' hg hm (SatB.le HB hx.le) (Fr_ext Fr hB hx) (Nat.le_trans hB hx.bel.size) hq (fun S2 E2 g2 w2 q1 q2 q3 q4=>himp S2 E2 g2 w2 q1 q2 q3 (hx'.trans q4))⟩)
  simp only [zc4,ho,zdo]
  exact this
theorem evT_sound {lo so:Nat} {h0:List (Option (List SC))} {w0:World} {Q:SS→Ev→Prop} {K:G→World→Prop} (p:Pl):TS P Γ s L call ops lo so h0 w0 Q K p:=by
 induction p with
 | done =>
  intro S E g w HG HM HB Fr hB hsat himp
  exact himp S E g w hsat HG HM (Ext.refl _ _ _)
 | li i r ih =>
  intro S E g w HG HM HB Fr hB hsat himp
  simp only [evT] at hsat
  split at hsat
  ·exact hsat.elim
  ·rename_i o ho
   rw [zbg] at hsat
   have:=step_sound hΓ hs hcall (k:=1) (nx:=fun g w=>zc4 P ops w0 r g w K) HG HM Fr hB (h0:=some h0) (fun _=>HB) (fun h=>by cases h) hsat (fun S' E' g' w' hq hg hm hx=>by
    have hx':=ext_weak hB hx
    exact ih S' E' g' w' hg hm (SatB.le HB hx.le) (Fr_ext Fr hB hx) (Nat.le_trans hB hx.bel.size) hq (fun S2 E2 g2 w2 q1 q2 q3 q4=>himp S2 E2 g2 w2 q1 q2 q3 (hx'.trans q4)))
   simp only [zc4,ho]
   obtain ⟨h1,h2⟩:=this
   rw [ze0]
   exact ⟨h1,h2⟩
 | hv i r ih=>exact evT_hv hΓ hs hcall ih
 | fork i r q ih1 ih2 =>
  intro S E g w HG HM HB Fr hB hsat himp
  have hsat':(evT P Γ L call ops lo so h0 (.hv i r) S).sat Γ Q E.env∧(evT P Γ L call ops lo so h0 q S).sat Γ Q E.env:=by
   simp only [evT] at hsat ⊢
   split at hsat
   ·exact hsat.elim
   ·rename_i o ho
    split at hsat
    ·rename_i he
     exact ⟨hsat,treqU_sat he _ hsat⟩
    ·exact hsat.elim
  have h1:=evT_hv hΓ hs hcall ih1 S E g w HG HM HB Fr hB hsat'.1 himp
  have h2:=ih2 S E g w HG HM HB Fr hB hsat'.2 himp
  simp only [zc4] at h1 ⊢
  exact ⟨h1,h2⟩
end
end Go.Proofs.YtefhenfofomjhaaGreat
