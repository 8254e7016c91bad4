/- Symbolic evaluation: a region in which several operations may come up, and blocks that were there before are written. -/
import Derived.Test.YtefhenfofomjhaaGreatEv5
set_option linter.unusedSimpArgs false
set_option linter.unusedVariables false
namespace Go.Proofs.YtefhenfofomjhaaGreat
open Go Go.RowKit Go.V
def opW (P:Program) (ops:Array Oper) (light:Bool) (w0:World) (k:Nat) (o:Oper) (nx:G→World→Prop) (g:G) (w:World):Prop:=match light with
 | true=>(zcg ops g o=true→lokO P w0 (evG g) o.type o.op)∧nx (zci g o.dst (if zcg ops g o=true then lvO P w0 (evG g) o.type o.op else undef)) w
 | false=>hvX P ops o k nx g w
theorem SatG.set {E:En} {l:List SV} {g:G} (h:SatG E l g) {d:Nat} {x:SV} (hx:denV E x=some (g d)):SatG E (l.set d x) g:=by
 intro t y hy
 by_cases e:t=d
 ·subst e
  rw [List.getElem?_set] at hy
  simp at hy
  rw [←hy.2];exact hx
 ·rw [List.getElem?_set_ne (Ne.symm e)] at hy
  exact h t y hy
theorem zc5 {Γ:Gam} {S:SS} {d:Option Nat} {k:SS→Tr SS} {E:En} {g:G} {Q:SS→Ev→Prop} (HG:SatG E S.g g) (HO:SatO E S.sz) (h:(forceS S d k).sat Γ Q E.env) :
  ∃ S',SatG E S'.g g∧S'.h=S.h∧S'.sz=S.sz∧(k S').sat Γ Q E.env:=by
 unfold forceS at h
 split at h
 ·exact ⟨S,HG,rfl,rfl,h⟩
 ·rename_i d
  split at h
  ·rename_i c hc
   split at h
   ·exact ⟨S,HG,rfl,rfl,h⟩
   ·split at h
    ·rename_i e he
     obtain ⟨z,h1,h2⟩:=zdK HO he (HG d _ hc)
     cases z with
     | true=>exact ⟨{ S with g:=S.g.set d (.v (.one (.lit (.bool true)))) },HG.set (by rw [h2];rfl),rfl,rfl,h.1 h1⟩
     | false=>exact ⟨{ S with g:=S.g.set d (.v (.one (.lit (.bool false)))) },HG.set (by rw [h2];rfl),rfl,rfl,h.2 h1⟩
    ·exact h.elim
  ·exact h.elim
theorem zd8 {ops:Array Oper} {S:SS} {o:Oper} {b:Bool} {E:En} {g:G} (HG:SatG E S.g g) (h:wantS ops S o=some b):zcg ops g o=b:=by
 obtain ⟨d,op,ty,pos,af,gd⟩:=o
 cases gd with
 | none=>injection h
 | some jb =>
  obtain ⟨j,b'⟩:=jb
  simp only [wantS] at h
  show gw (zdy ops[j]?) g b'=b
  split at h
  ·rename_i hd
   rw [hd];injection h
  ·rename_i d hd
   rw [hd]
   split at h
   ·rename_i v hv
    injection h with h;subst h
    have:=HG d _ hv
    injection this with this
    rw [this];rfl
   ·cases h
theorem SatM.room {s:Nat} {E:En} {h:List (Option (List SC))} {sz:Szs} {w:World} (H:SatM s E h sz w) (n:Nat):SatM s E (h++List.replicate n none) sz w:=by
 refine ⟨fun b cs hb=>?_,H.inj,H.dom,fun b β hb=>?_,H.objs,H.odom⟩
 ·by_cases hlt:b<h.length
  ·rw [List.getElem?_append_left hlt] at hb
   exact H.blocks b cs hb
  ·rw [List.getElem?_append_right (by omega),List.getElem?_replicate] at hb
   split at hb<;>simp at hb
 ·obtain ⟨cs,hc⟩:=H.hdom b β hb
  exact ⟨cs,by rw [List.getElem?_append_left (List.getElem?_eq_some_iff.1 hc).1];exact hc⟩
theorem SatM.roomO {s:Nat} {E:En} {h:List (Option (List SC))} {sz:Szs} {w:World} (H:SatM s E h sz w) (n:Nat):SatM s E h (sz++List.replicate n none) w:=by
 refine ⟨H.blocks,H.inj,H.dom,H.hdom,fun k p hk=>?_,fun k q hq=>?_⟩
 ·by_cases hlt:k<sz.length
  ·rw [List.getElem?_append_left hlt] at hk
   exact H.objs k p hk
  ·rw [List.getElem?_append_right (by omega),List.getElem?_replicate] at hk
   split at hk<;>simp at hk
 ·obtain ⟨p,hp⟩:=H.odom k q hq
  exact ⟨p,by rw [List.getElem?_append_left (List.getElem?_eq_some_iff.1 hp).1];exact hp⟩
theorem Fr_ext {lo B C:Nat} {E E':En} {w w':World} (Fr:∀ b β,E.bl b=some β→lo≤b→B≤β) (hB:B≤w.heap.size) (hx:Ext C E w E' w'):∀ b β,E'.bl b=some β→lo≤b→B≤β:=by
 intro b β hb hl
 rcases hx.new b β hb with h|h
 ·exact Fr b β h hl
 ·exact Nat.le_trans hB h
theorem ext_weak {B:Nat} {o:Op} {E E':En} {w w':World} (hB:B≤w.heap.size) (h:Ext (if zdJ o=true then B else w.heap.size) E w E' w'):Ext B E w E' w':=h.weak (by split<;>omega)
theorem stepL_of_opW {P:Program} {ops:Array Oper} {o:Oper} {r:List Oper} {g:G} {w:World} {K:G→World→Prop} (h:opW P ops (!zaY P o.op) w 1 o (fun g w=>zcG P ops r g w K) g w):zcG P ops (o::r) g w K:=by
 rw [walkL_cons]
 unfold opW at h
 cases hh:zaY P o.op with
 | true=>rw [hh] at h;exact h
 | false =>
  rw [hh] at h
  obtain ⟨d,op,ty,pos,af,gd⟩:=o
  cases gd with
  | none =>
   obtain ⟨h1,h2⟩:=h
   exact ⟨h1 rfl,h2⟩
  | some jb =>
   obtain ⟨j,b⟩:=jb
   exact h
theorem walk_of_opW {P:Program} {ops:Array Oper} {i k:Nat} {o:Oper} {r:List (Nat × Nat)} {g:G} {w:World} {K:G→World→Prop} (ho:ops[i]? = some o) (h:opW P ops (Nat.beq k 0) w (k-1) o (fun g w=>walk P ops r g w K) g w):walk P ops ((i,k)::r) g w K:=by
 cases k with
 | zero =>
  simp only [walk,ho]
  obtain ⟨h1,h2⟩:=h
  rw [zeo]
  exact ⟨h1,h2⟩
 | succ k =>
  rw [walk_heavy,ho]
  exact h
theorem SatB.le {E E':En} {h:List (Option (List SC))} {w:World} (H:SatB E h w) (hle:E.Le E'):SatB E' h w:=fun b cs hb=>by
 obtain ⟨β,t,vs,h1,h2,h3⟩:=H b cs hb
 exact ⟨β,t,vs,hle.bl b β h1,zd7 hle h2,h3⟩
section
variable {P:Program} {Γ:Gam} {s L:Nat} {call:Nat→List SV→SS→Tr (List S1 × SS)} (hΓ:GamOk P Γ) (hs:s≤L) (hcall:CallOk P Γ s call)
variable {ops:Array Oper}
include hΓ hs hcall
theorem step_sound {lo B k:Nat} {light:Bool} {h0:Option (List (Option (List SC)))} {nb:Option (Nat × Nat)} {S:SS} {o:Oper} {E:En} {g:G} {w w0:World} {Q:SS→Ev→Prop} {nx:G→World→Prop} (HG:SatG E S.g g) (HM:SatM s E S.h S.sz w) (Fr:∀ b β,E.bl b=some β→lo≤b→B≤β) (hB:B≤w.heap.size)
  (hl:light=true→match h0 with|some h=>SatB E h w0|none=>w0=w) (hk:light=false→k=0→zdJ o.op=false) (hsat:(stepS P Γ L call ops lo light h0 nb S o).sat Γ Q E.env)
  (himp:∀ S' E' g' w',Q S' E'.env→SatG E' S'.g g'→SatM s E' S'.h S'.sz w'→Ext (if zdJ o.op=true then B else w.heap.size) E w E' w'→nx g' w'):opW P ops light w0 k o nx g w:=by
 unfold stepS at hsat
 obtain ⟨S1,HG1,e1,e2,h1⟩:=zc5 HG HM.o hsat
 split at h1
 ·rename_i hw
  have hw':=zd8 HG1 hw
  have hfin:nx (zci g o.dst undef) w:=himp _ E _ w h1 (HG1.und o.dst) (by rw [put_h,zdB,e1,e2];exact HM) (Ext.refl _ _ _)
  cases light with
  | true=>exact ⟨fun h=>(by rw [hw'] at h;cases h),(by rw [hw',if_neg (by decide)];exact hfin)⟩
  | false=>exact hv_skip hw' hfin
 ·rename_i hw
  have hw':=zd8 HG1 hw
  cases light with
  | true =>
   replace hl:=hl rfl
   rw [if_pos rfl] at h1
   obtain ⟨S2,HG2,e3,e4,h2⟩:=zc5 HG1 (by rw [e2];exact HM.o) h1
   split at h2
   ·rename_i v hv
    have HO2:SatO E S2.sz:=by rw [e4,e2];exact HM.o
    have key:lokO P w0 (evG g) o.type o.op∧denV E v=some (lvO P w0 (evG g) o.type o.op):=by
     cases h0 with
     | none =>
      simp only at hl hv
      subst hl
      exact light_den HG2 HO2 (by rw [e3,e1];exact HM.blocks) hv
     | some h=>exact light_den (S:={ S2 with h:=h }) HG2 HO2 hl hv
    refine ⟨fun _=>key.1,?_⟩
    rw [hw',if_pos rfl]
    exact himp _ E _ w h2 (HG2.put o.dst key.2) (by rw [put_h,zdB,e3,e4,e1,e2];exact HM) (Ext.refl _ _ _)
   ·exact h2.elim
  | false =>
   rw [if_neg (by decide)] at h1
   have HM1:SatM s E S1.h S1.sz w:=by rw [e1,e2];exact HM
   split at h1
   ·exact zee hΓ hs hcall HG1 HM1 Fr hB hw' (hk rfl) h1 (fun S' E' g' w' q1 q2 q3 q4 _=>himp S' E' g' w' q1 q2 q3 q4)
   ·exact zee hΓ hs hcall (S:=room S1) HG1 (HM1.room 1) Fr hB hw' (hk rfl) h1 (fun S' E' g' w' q1 q2 q3 q4 _=>himp S' E' g' w' q1 q2 q3 q4)
 ·exact h1.elim
theorem evL_sound {lo B:Nat} {Q:SS→Ev→Prop} {K:G→World→Prop}:∀ (l:List Oper) (S:SS) (E:En) (g:G) (w:World),SatG E S.g g→SatM s E S.h S.sz w→(∀ b β,E.bl b=some β→lo≤b→B≤β)→B≤w.heap.size→(evL P Γ L call ops lo l S).sat Γ Q E.env →
  (∀ S' E' g' w',Q S' E'.env→SatG E' S'.g g'→SatM s E' S'.h S'.sz w'→Ext B E w E' w'→K g' w')→zcG P ops l g w K
 | [],S,E,g,w,HG,HM,Fr,hB,hsat,himp=>himp S E g w hsat HG HM (Ext.refl _ _ _)
 | o::r,S,E,g,w,HG,HM,Fr,hB,hsat,himp=>by
  simp only [evL] at hsat
  rw [zbe] at hsat
  refine stepL_of_opW (step_sound hΓ hs hcall HG HM Fr hB (h0:=none) (fun _=>rfl) (fun _ e=>by cases e) hsat ?_)
  intro S' E' g' w' hq hg hm hx
  have hx':=ext_weak hB hx
  exact evL_sound r S' E' g' w' hg hm (Fr_ext Fr hB hx) (Nat.le_trans hB hx.bel.size) hq (fun S2 E2 g2 w2 q1 q2 q3 q4=>himp S2 E2 g2 w2 q1 q2 q3 (hx'.trans q4))
theorem evP_sound {lo B:Nat} {Q:SS→Ev→Prop} {K:G→World→Prop}:∀ (l:List (Nat × Nat)) (S:SS) (E:En) (g:G) (w:World),SatG E S.g g→SatM s E S.h S.sz w→(∀ b β,E.bl b=some β→lo≤b→B≤β)→B≤w.heap.size→(evP P Γ L call ops lo l S).sat Γ Q E.env →
  (∀ S' E' g' w',Q S' E'.env→SatG E' S'.g g'→SatM s E' S'.h S'.sz w'→Ext B E w E' w'→K g' w')→walk P ops l g w K
 | [],S,E,g,w,HG,HM,Fr,hB,hsat,himp=>himp S E g w hsat HG HM (Ext.refl _ _ _)
 | (i,k)::r,S,E,g,w,HG,HM,Fr,hB,hsat,himp=>by
  simp only [evP] at hsat
  split at hsat
  ·exact hsat.elim
  ·rename_i o ho
   split at hsat
   ·exact hsat.elim
   ·rename_i hc
    rw [zbe] at hsat
    refine walk_of_opW ho (step_sound hΓ hs hcall HG HM Fr hB (h0:=none) (fun _=>rfl) ?_ hsat ?_)
    ·intro h1 h2
     have hk1:k=1:=by
      have:k≠0:=fun e=>by subst e;cases h1
      omega
     subst hk1
     simpa using hc
    intro S' E' g' w' hq hg hm hx
    have hx':=ext_weak hB hx
    exact evP_sound r S' E' g' w' hg hm (Fr_ext Fr hB hx) (Nat.le_trans hB hx.bel.size) hq (fun S2 E2 g2 w2 q1 q2 q3 q4=>himp S2 E2 g2 w2 q1 q2 q3 (hx'.trans q4))
end
theorem ieq_eq:∀ {x y:IE},ieq x y=true→x=y:=by
 intro x
 induction x with
 | lit a=>intro y h;cases y<;>simp [ieq] at h;rw [h]
 | var a=>intro y h;cases y<;>simp [ieq] at h;rw [h]
 | len a i=>intro y h;cases y<;>simp [ieq] at h;rw [h.1,h.2]
 | add a b iha ihb=>intro y h;cases y<;>simp [ieq] at h;rw [iha h.1,ihb h.2]
 | sub a b iha ihb=>intro y h;cases y<;>simp [ieq] at h;rw [iha h.1,ihb h.2]
 | mul a b iha ihb=>intro y h;cases y<;>simp [ieq] at h;rw [iha h.1,ihb h.2]
 | neg a iha=>intro y h;cases y<;>simp [ieq] at h;rw [iha h]
theorem seq_eq {x y:SE} (h:seq x y=true):x=y:=by cases x<;>cases y<;>simp [seq] at h<;>rw [h]
theorem beq_eq:∀ {x y:BE},beq x y=true→x=y:=by
 intro x
 induction x with
 | lit a=>intro y h;cases y<;>simp [beq] at h;rw [h]
 | var a=>intro y h;cases y<;>simp [beq] at h;rw [h]
 | bit a=>intro y h;cases y<;>simp [beq] at h;rw [h]
 | eq a b=>intro y h;cases y<;>simp [beq] at h;rw [ieq_eq h.1,ieq_eq h.2]
 | lt a b=>intro y h;cases y<;>simp [beq] at h;rw [ieq_eq h.1,ieq_eq h.2]
 | le a b=>intro y h;cases y<;>simp [beq] at h;rw [ieq_eq h.1,ieq_eq h.2]
 | not a iha=>intro y h;cases y<;>simp [beq] at h;rw [iha h]
 | beq a b iha ihb=>intro y h;cases y<;>simp [beq] at h;rw [iha h.1,ihb h.2]
 | seq a b=>intro y h;cases y<;>simp [beq] at h;rw [seq_eq h.1,seq_eq h.2]
theorem leq_eq {x y:LE} (h:leq x y=true):x=y:=by cases x<;>cases y<;>simp [leq] at h<;>first|rfl|rw [h.1,h.2]
theorem aeq_eq {x y:SA} (h:aeq x y=true):x=y:=by
 cases x<;>cases y<;>simp [aeq] at h
 ·rw [h]
 ·rw [ieq_eq h]
 ·rw [beq_eq h]
 ·rw [seq_eq h]
 ·rw [beq_eq h.1.1,leq_eq h.1.2,leq_eq h.2]
 ·rw [beq_eq h.1,leq_eq h.2]
 ·rw [leq_eq h]
 ·rw [h]
theorem veq_eq {x y:Value} (h:veq x y=true):x=y:=by
 unfold veq at h
 split at h
 ·simp at h;rw [h.1,h.2]
 ·simp at h;rw [h]
 ·simp at h;rw [bs_inj h]
 ·rfl
 ·simp at h;rw [h.1,h.2]
 ·simp at h;rw [h.1,h.2]
 ·cases h
theorem ceq_eq {x y:SC} (h:ceq x y=true):x=y:=by
 cases x<;>cases y<;>simp [ceq] at h
 ·rw [veq_eq h]
 ·rw [h.1,h.2]
 ·rw [ieq_eq h]
 ·rw [beq_eq h]
 ·rw [h.1,h.2]
 ·rw [h.1.1.1,h.1.1.2,h.1.2,h.2]
 ·rw [h.1,h.2]
theorem lseq_eq {α:Type} {f:α→α→Bool} (hf:∀ a b,f a b=true→a=b):∀ {l m:List α},lseq f l m=true→l=m
 | [],[],_=>rfl
 | [],_::_,h=>by cases h
 | _::_,[],h=>by cases h
 | a::l,b::m,h=>by
  simp only [lseq,Bool.and_eq_true] at h
  rw [hf a b h.1,lseq_eq hf h.2]
theorem oeq_eq {α:Type} {f:α→α→Bool} (hf:∀ a b,f a b=true→a=b) {x y:Option α} (h:oeq f x y=true):x=y:=by
 cases x<;>cases y<;>simp [oeq] at h
 ·rfl
 ·rw [hf _ _ h]
theorem s1eq_eq {x y:S1} (h:s1eq x y=true):x=y:=by
 cases x<;>cases y<;>simp [s1eq] at h
 ·rw [ceq_eq h]
 ·rw [lseq_eq (fun _ _=>ceq_eq) h]
theorem sveq_eq {x y:SV} (h:sveq x y=true):x=y:=by
 cases x<;>cases y<;>simp [sveq] at h
 ·rw [s1eq_eq h]
 ·rw [lseq_eq (fun _ _=>s1eq_eq) h]
theorem zn_inj {a b:Int} (h:zn a=zn b):a=b:=by
 cases a<;>cases b<;>simp only [zn] at h<;>congr 1<;>omega
theorem num_eq {i j:Sh} (h:i.num=j.num):i=j:=by
 cases i<;>cases j<;>first
  | rfl
  | (simp only [Sh.num] at h;omega)
  | (rename_i x;cases x<;>simp only [Sh.num] at h<;>omega)
  | (rename_i x y;cases x<;>cases y<;>first|rfl|(simp only [Sh.num] at h;omega))
  | (rename_i x y;simp only [Sh.num] at h;cases x<;>omega)
  | (rename_i x y;simp only [Sh.num] at h;cases y<;>omega)
  | (rename_i x y;simp only [Sh.num] at h;have e:x=y:=(by omega);rw [e])
  | (rename_i x y;simp only [Sh.num] at h;rw [zn_inj (a:=x) (b:=y) (by omega)])
theorem szeq_eq {x y:Sh × Nat × Nat} (h:szeq x y=true):x=y:=by
 obtain ⟨a,b,c⟩:=x
 obtain ⟨a',b',c'⟩:=y
 simp [szeq] at h
 rw [num_eq h.1.1,h.1.2,h.2]
theorem sseq_eq {x y:SS} (h:sseq x y=true):x=y:=by
 obtain ⟨a,b,c⟩:=x
 obtain ⟨a',b',c'⟩:=y
 simp only [sseq,Bool.and_eq_true] at h
 rw [lseq_eq (fun _ _=>sveq_eq) h.1.1,lseq_eq (fun _ _=>oeq_eq (fun _ _=>lseq_eq (fun _ _=>ceq_eq))) h.1.2,lseq_eq (fun _ _=>oeq_eq (fun _ _=>szeq_eq)) h.2]
theorem treq_eq:∀ {x y:Tr SS},treq x y=true→x=y:=by
 intro x
 induction x with
 | leaf a=>intro y h;cases y<;>simp [treq] at h;rw [sseq_eq h]
 | br c t f iht ihf=>intro y h;cases y<;>simp [treq] at h;rw [beq_eq h.1.1,iht h.1.2,ihf h.2]
 | call f l b t iht=>intro y h;cases y<;>simp [treq] at h;rw [h.1.1.1,lseq_eq (fun _ _=>aeq_eq) h.1.1.2,h.1.2,iht h.2]
 | obj l b t iht=>intro y h;cases y<;>simp [treq] at h;rw [h.1.1,h.1.2,iht h.2]
 | bad=>intro y h;cases y<;>simp [treq] at h
theorem extE_comm {e:Ev} {b k:Nat} {x y:At} (h:b≠k):extE (extE e b [x]) k [y]=extE (extE e k [y]) b [x]:=by
 funext i
 have one:∀ (e:Ev) (b:Nat) (x:At) (i:Nat),extE e b [x] i=if i=b then some x else e i:=by
  intro e b x i
  unfold extE
  by_cases h1:i=b
  ·subst h1;simp
  ·rw [if_neg h1]
   by_cases e2:b≤i
   ·rw [if_pos (Nat.ble_eq_true_of_le e2),List.getElem?_eq_none (by simp;omega)]
   ·rw [if_neg (fun h=>e2 (Nat.le_of_ble_eq_true h))]
 simp only [one]
 by_cases h1:i=b
 ·subst h1;simp [h]
 ·simp [h1]
theorem treqU_sat {Γ:Gam} {Q:SS→Ev→Prop} {t t':Tr SS} (h:treqU t t'=true):∀ e,t.sat Γ Q e→t'.sat Γ Q e:=by
 fun_induction treqU t t' with
 | case1 c t f c' t' f' ih1 ih2 =>
  simp only [Bool.and_eq_true] at h
  intro e hs
  have:=beq_eq h.1.1
  subst this
  exact ⟨fun hc=>ih1 h.1.2 e (hs.1 hc),fun hc=>ih2 h.2 e (hs.2 hc)⟩
 | case2=>cases h
 | case3 l b m k u m' k' l' b' u' hn hb =>
  simp only [Bool.and_eq_true,decide_eq_true_eq,Nat.beq_eq] at h
  obtain ⟨⟨⟨rfl,rfl⟩,rfl⟩,hu⟩:=h
  have hb:=Nat.eq_of_beq_eq_true hb
  subst hb
  have:=treq_eq hu
  subst this
  intro e hs
  simp only [Tr.sat] at hs ⊢
  rw [extE_comm (fun h=>hn (by rw [h];exact Nat.beq_refl _))]
  exact hs
 | case4=>intro e hs;rw [←treq_eq h];exact hs
 | case5=>intro e hs;rw [←treq_eq h];exact hs
section
variable {P:Program} {Γ:Gam} {s L:Nat} {call:Nat→List SV→SS→Tr (List S1 × SS)} (hΓ:GamOk P Γ) (hs:s≤L) (hcall:CallOk P Γ s call)
variable {ops:Array Oper}
include hΓ hs hcall
def TS (P:Program) (Γ:Gam) (s L:Nat) (call:Nat→List SV→SS→Tr (List S1 × SS)) (ops:Array Oper) (lo so:Nat) (h0:List (Option (List SC))) (w0:World) (Q:SS→Ev→Prop) (K:G→World→Prop) (p:Pl):Prop :=
 ∀ (S:SS) (E:En) (g:G) (w:World),SatG E S.g g→SatM s E S.h S.sz w→SatB E h0 w0→(∀ b β,E.bl b=some β→lo≤b→w0.heap.size≤β)→w0.heap.size≤w.heap.size→(evT P Γ L call ops lo so h0 p S).sat Γ Q E.env →
  (∀ S' E' g' w',Q S' E'.env→SatG E' S'.g g'→SatM s E' S'.h S'.sz w'→Ext w0.heap.size E w E' w'→K g' w')→zch P ops w0 p g w K
theorem evT_hv {lo so:Nat} {h0:List (Option (List SC))} {w0:World} {Q:SS→Ev→Prop} {K:G→World→Prop} {i:Nat} {r:Pl} (ih:TS P Γ s L call ops lo so h0 w0 Q K r):TS P Γ s L call ops lo so h0 w0 Q K (.hv i r):=by
 intro S E g w HG HM HB Fr hB hsat himp
 simp only [evT] at hsat
 split at hsat
 ·exact hsat.elim
 ·rename_i o ho
  rw [zbe] at hsat
  have:=step_sound hΓ hs hcall (k:=1) (w0:=w0) (nx:=fun g' w'=>Below w0.heap.size w w'∧zch P ops w0 r g' w' K) HG HM Fr hB (fun h=>by cases h) (fun _ h=>by cases h) hsat (fun S' E' g' w' hq hg hm hx=>by
   have hx':=ext_weak hB hx
   exact ⟨hx'.bel,ih S' E' g' w' hg hm (SatB.le HB hx.le) (Fr_ext Fr hB hx) (Nat.le_trans hB hx.bel.size) hq (fun S2 E2 g2 w2 q1 q2 q3 q4=>himp S2 E2 g2 w2 q1 q2 q3 (hx'.trans q4))⟩)
  simp only [zch,ho,zdP]
  exact this
theorem evT_sound {lo so:Nat} {h0:List (Option (List SC))} {w0:World} {Q:SS→Ev→Prop} {K:G→World→Prop} (p:Pl):TS P Γ s L call ops lo so h0 w0 Q K p:=by
 induction p with
 | done =>
  intro S E g w HG HM HB Fr hB hsat himp
  exact himp S E g w hsat HG HM (Ext.refl _ _ _)
 | li i r ih =>
  intro S E g w HG HM HB Fr hB hsat himp
  simp only [evT] at hsat
  split at hsat
  ·exact hsat.elim
  ·rename_i o ho
   rw [zbe] at hsat
   have:=step_sound hΓ hs hcall (k:=1) (nx:=fun g w=>zch P ops w0 r g w K) HG HM Fr hB (h0:=some h0) (fun _=>HB) (fun h=>by cases h) hsat (fun S' E' g' w' hq hg hm hx=>by
    have hx':=ext_weak hB hx
    exact ih S' E' g' w' hg hm (SatB.le HB hx.le) (Fr_ext Fr hB hx) (Nat.le_trans hB hx.bel.size) hq (fun S2 E2 g2 w2 q1 q2 q3 q4=>himp S2 E2 g2 w2 q1 q2 q3 (hx'.trans q4)))
   simp only [zch,ho]
   obtain ⟨h1,h2⟩:=this
   rw [zeo]
   exact ⟨h1,h2⟩
 | hv i r ih=>exact evT_hv hΓ hs hcall ih
 | fork i r q ih1 ih2 =>
  intro S E g w HG HM HB Fr hB hsat himp
  have hsat':(evT P Γ L call ops lo so h0 (.hv i r) S).sat Γ Q E.env∧(evT P Γ L call ops lo so h0 q S).sat Γ Q E.env:=by
   simp only [evT] at hsat ⊢
   split at hsat
   ·exact hsat.elim
   ·rename_i o ho
    split at hsat
    ·rename_i he
     exact ⟨hsat,treqU_sat he _ hsat⟩
    ·exact hsat.elim
  have h1:=evT_hv hΓ hs hcall ih1 S E g w HG HM HB Fr hB hsat'.1 himp
  have h2:=ih2 S E g w HG HM HB Fr hB hsat'.2 himp
  simp only [zch] at h1 ⊢
  exact ⟨h1,h2⟩
end
structure PreO (R:World→World→Prop):Prop where
 refl:∀ w,R w w
 trans:∀ {a b c},R a b→R b c→R a c
section
variable {P:Program} {n:Nat} {md:Region.Mode} {ops:Array Oper} {R:World→World→Prop} (hR:PreO R)
def opX (P:Program) (ops:Array Oper) (R:World→World→Prop) (i:Nat) (K:Act→World→Prop) (a:Act) (w:World):Prop :=
 match ops[i]? with
 | none=>K a w
 | some o=>if Region.wanted o (yielded ops a.tmps)=true then hwp P a.eval o w (fun v w'=>R w w'∧K (a.put o.dst v) w') else K (a.put o.dst undef) w
theorem opX_mono {i:Nat} {K K':Act→World→Prop} {a:Act} {w:World} (h:∀ a w,K a w→K' a w) (hh:opX P ops R i K a w):opX P ops R i K' a w:=by
 unfold opX at *
 split
 ·rename_i ho;simp only [ho] at hh;exact h _ _ hh
 ·rename_i o ho
  simp only [ho] at hh
  split
  ·rename_i hw;rw [if_pos hw] at hh;exact zbA (fun v w' ⟨h1,h2⟩=>⟨h1,h _ _ h2⟩) hh
  ·rename_i hw;rw [if_neg hw] at hh;exact h _ _ hh
def anyX (P:Program) (md:Region.Mode) (ops:Array Oper) (R:World→World→Prop) (Q:Act→World→Prop):Nat→Array Bool→Act→World→Prop
 | 0,listed,a,w=>Region.ready md ops listed=[]∧Q a w
 | fuel+1,listed,a,w=>(Region.ready md ops listed=[]→Q a w)∧∀ i∈Region.ready md ops listed,opX P ops R i (anyX P md ops R Q fuel (listed.setIfInBounds i true)) a w
theorem zcA {Q:Act→World→Prop} {Q':Exit→Act→World→Prop} (hQ:∀ a w,Q a w→Q' .normal a w):∀ (fuel:Nat) (listed:Array Bool) (a:Act) (w:World),anyX P md ops R Q fuel listed a w→wpAny P md ops Q' fuel listed a w
 | 0,_,_,_,h=>⟨h.1,hQ _ _ h.2⟩
 | fuel+1,listed,a,w,h=>by
  refine ⟨fun h0=>hQ _ _ (h.1 h0),fun i hi=>?_⟩
  have hi':=h.2 i hi
  unfold opX at hi'
  unfold wpOp
  split
  ·rename_i ho;simp only [ho] at hi';exact zcA hQ fuel _ _ _ hi'
  ·rename_i o ho
   simp only [ho] at hi'
   split
   ·rename_i hw
    rw [if_pos hw] at hi'
    exact .inl (ze5 (zbA (fun v w' ⟨_,h2⟩=>zcA hQ fuel _ _ _ h2) hi'))
   ·rename_i hw;rw [if_neg hw] at hi';exact zcA hQ fuel _ _ _ hi'
def YieldsX (P:Program) (ops:Array Oper) (R:World→World→Prop) (o:Oper) (v:Value) (a:Act) (w:World):Prop :=
 (Region.wanted o (yielded ops a.tmps)=true∧∀ w',R w w'→zb1 P (execOp a.eval o) w'=some (.value v))∨(Region.wanted o (yielded ops a.tmps)=false∧v=undef)
include hR
theorem YieldsX.opX {i:Nat} {o:Oper} {v:Value} {a:Act} {w:World} (hi:ops[i]? = some o) (hy:YieldsX P ops R o v a w) {K:Act→World→Prop} (h:K (a.put o.dst v) w):opX P ops R i K a w:=by
 unfold Go.Proofs.YtefhenfofomjhaaGreat.opX
 simp only [hi]
 rcases hy with ⟨hw,hv⟩|⟨hw,rfl⟩
 ·rw [if_pos hw]
  unfold hwp
  rw [tame_run _ _ _ _ (hv w (hR.refl w))]
  exact ⟨hR.refl w,h⟩
 ·rw [if_neg (by simp [hw])];exact h
theorem YieldsX.put {oi oj:Oper} {v u:Value} {a:Act} {w w':World} (hy:YieldsX P ops R oi v a w) (hs:∀ cs b,oi.op≠.select cs b) (h3:∀ d,oj.dst=some d→d∉oi.looksAt ops) (hb:R w w') :
  YieldsX P ops R oi v (a.put oj.dst u) w':=by
 unfold YieldsX at *
 rw [wanted_put oi a oj.dst u h3,execOp_put oi hs a oj.dst u h3]
 rcases hy with ⟨hw,hv⟩|h
 ·exact .inl ⟨hw,fun w2 h2=>hv w2 (hR.trans hb h2)⟩
 ·exact .inr h
theorem opX_put {j:Nat} {oi oj:Oper} {v:Value} (hj:ops[j]? = some oj) (hap:oi.apart ops oj=true) (hsi:∀ cs b,oi.op≠.select cs b) (hsj:∀ cs b,oj.op≠.select cs b)
  {K:Act→World→Prop} {a:Act} {w:World} (hy:YieldsX P ops R oi v a w) (h:opX P ops R j K (a.put oi.dst v) w) :
  opX P ops R j (fun a' w'=>YieldsX P ops R oi v a' w'∧K (a'.put oi.dst v) w') a w:=by
 obtain ⟨h1,h2,h3⟩:=Oper.apart_spec hap
 unfold opX at *
 simp only [hj] at *
 rw [wanted_put oj a oi.dst v h1] at h
 split
 ·rename_i hw
  rw [if_pos hw] at h
  unfold hwp at h ⊢
  rw [execOp_put oj hsj a oi.dst v h1] at h
  revert h
  generalize (execOp a.eval oj).run P w=r
  intro h
  cases r with
  | ok n w' =>
   cases n<;>first
    | exact h.elim
    | (exact ⟨h.1,hy.put hR hsi h3 h.1,by rw [←Act.put_comm a _ _ h2];exact h.2⟩)
    | (exact Calls.mono h (fun e w'' ⟨u,he,hk⟩=>⟨u,he,hk.1,hy.put hR hsi h3 hk.1,by rw [←Act.put_comm a _ _ h2];exact hk.2⟩))
  | halt x w'=>exact h.elim
 ·rename_i hw
  rw [if_neg hw] at h
  exact ⟨hy.put hR hsi h3 (hR.refl w),by rw [←Act.put_comm a _ _ h2];exact h⟩
theorem anyX_first {Q:Act→World→Prop} {i:Nat} {oi:Oper} {v:Value} (hi:ops[i]? = some oi) (hsel:∀ (j:Nat) (o:Oper) cs b,ops[j]? = some o→o.op≠.select cs b) (M:List Nat) :
  ∀ (fuel:Nat) (listed:Array Bool) (a:Act) (w:World),
   (∀ j oj,ops[j]? = some oj→j≠i→listed.getD j true=false→j∉M→oi.apart ops oj=true∧(fun _:Nat=>true) j=true) →
   (∀ j∈M,listed.getD j false=false∧∃ oj e,ops[j]? = some oj∧e∈oj.after∧Region.binds md e=true∧(e.on=i∨e.on∈M)) →
   i∈Region.ready md ops listed→YieldsX P ops R oi v a w →
   anyX P md ops R Q fuel (listed.setIfInBounds i true) (a.put oi.dst v) w→anyX P md ops R Q (fuel+1) listed a w:=by
 intro fuel
 induction fuel with
 | zero =>
  intro listed a w _ _ hr hy H
  refine ⟨fun h=>(by rw [h] at hr;cases hr),fun j hj=>?_⟩
  by_cases hji:j=i
  ·subst hji;exact hy.opX hR hi H
  ·have:=ready_mono hj hji
   rw [H.1] at this
   cases this
 | succ fuel ih =>
  intro listed a w hfree hM hr hy H
  refine ⟨fun h=>(by rw [h] at hr;cases hr),fun j hj=>?_⟩
  by_cases hji:j=i
  ·subst hji;exact hy.opX hR hi H
  ·have h1:=H.2 j (ready_mono hj hji)
   obtain ⟨hjun,oj,hoj,hall⟩:=mem_ready.1 hj
   have hiun:listed.getD i false=false:=by
    have h0:=(mem_ready.1 hr).1
    rcases Nat.lt_or_ge i listed.size with h'|h'
    ·simp [h'] at h0 ⊢;exact h0
    ·simp [Array.getElem?_eq_none h'] at h0
   have hjM:j∉M:=fun hm=>by
    obtain ⟨_,oj',e,ho',he,hb,hon⟩:=hM j hm
    rw [hoj] at ho'
    injection ho' with ho'
    subst ho'
    have hl:=hall e he hb
    rcases hon with hon|hon
    ·rw [hon,hiun] at hl;cases hl
    ·rw [(hM _ hon).1] at hl;cases hl
   obtain ⟨hap,_⟩:=hfree j oj hoj hji hjun hjM
   have h2:=opX_put hR hoj hap (fun cs b=>hsel i oi cs b hi) (fun cs b=>hsel j oj cs b hoj) hy h1
   refine opX_mono (fun a' w' h3=>ih (listed.setIfInBounds j true) a' w' ?_ ?_ (ready_mono hr (Ne.symm hji)) h3.1 ?_) h2
   ·intro k ok hk hki hun hkM
    refine hfree k ok hk hki ?_ hkM
    by_cases hjk:j=k
    ·subst hjk;exact hjun
    ·rw [getD_set_ne true hjk] at hun;exact hun
   ·intro k hk
    obtain ⟨hk1,hk2⟩:=hM k hk
    refine ⟨?_,hk2⟩
    have hne:j≠k:=fun e=>hjM (e▸hk)
    rw [getD_set_ne false hne];exact hk1
   ·rw [Array.setIfInBounds_comm _ _ hji]
    exact h3.2
omit hR
def walkX (P:Program) (ops:Array Oper) (R:World→World→Prop):List (Nat × Nat)→G→World→(G→World→Prop)→Prop
 | [],g,w,K=>K g w
 | (i,0)::rest,g,w,K=>match ops[i]? with
  | none=>False
  | some o=>(Region.wanted o (yG ops g)=true→∀ w',R w w'→lokO P w' (evG g) o.type o.op∧lvO P w' (evG g) o.type o.op=lvO P w (evG g) o.type o.op) ∧
    walkX P ops R rest (zci g o.dst (if Region.wanted o (yG ops g)=true then lvO P w (evG g) o.type o.op else undef)) w K
 | (i,_+1)::rest,g,w,K=>hvI P ops ops[i]? 1 (fun g' w'=>R w w'∧walkX P ops R rest g' w' K) g w
include hR
theorem zd9 (hok:zem n ops=true) {K:G→World→Prop} {Q:Act→World→Prop} (hQ:∀ g a w,Rel n g a→K g w→Q a w) :
  ∀ (plan:List (Nat × Nat)) (listed:Array Bool) (g:G) (a:Act) (w:World),canB md ops (fun _=>true) plan listed=true→Rel n g a→walkX P ops R plan g w K→anyX P md ops R Q plan.length listed a w
 | [],_,g,a,w,hB,hr,h=>⟨by simpa [canB] using hB,hQ g a w hr h⟩
 | (i,0)::rest,listed,g,a,w,hB,hr,h=>by
  simp only [canB,Bool.and_eq_true] at hB
  obtain ⟨⟨hrd,hf⟩,hB'⟩:=hB
  simp only [walkX] at h
  cases ho:ops[i]? with
  | none=>simp [ho] at h
  | some o =>
   simp only [ho] at h
   obtain ⟨h1,h2⟩:=h
   have hd:=(zb5 hok ho).2.1
   obtain ⟨f1,f2⟩:=zdZ ho hf
   refine anyX_first hR (v:=if Region.wanted o (yG ops g)=true then lvO P w (evG g) o.type o.op else undef) ho (fun j o cs b hj=>(zb5 hok hj).2.2 cs b) _ rest.length listed a w f1 f2 (by simpa using hrd) ?_ (zd9 hok hQ rest _ _ _ w hB' (hr.put o.dst hd _) h2)
   unfold YieldsX
   rw [zcv hr hok o,zcw hr hok ho]
   cases hw:Region.wanted o (yG ops g)
   ·exact .inr ⟨rfl,by simp⟩
   ·refine .inl ⟨rfl,fun w' hw'=>?_⟩
    obtain ⟨h3,h4⟩:=h1 hw w' hw'
    rw [if_pos rfl,←h4]
    exact lok_exec h3
 | (i,k+1)::rest,listed,g,a,w,hB,hr,h=>by
  simp only [canB,Bool.and_eq_true,beq_iff_eq] at hB
  obtain ⟨hrd,hB'⟩:=hB
  refine ⟨fun h0=>(by rw [hrd] at h0;cases h0),fun j hj=>?_⟩
  rw [hrd] at hj
  have hji:j=i:=by simpa using hj
  subst hji
  simp only [walkX] at h
  unfold opX
  cases ho:ops[j]? with
  | none=>simp [ho,hvI] at h
  | some o =>
   simp only [ho,zdP,hvX] at h
   simp only []
   have hd:=(zb5 hok ho).2.1
   rw [zcv hr hok o]
   split
   ·rename_i hw
    rw [if_pos hw] at h
    unfold hwp at h ⊢
    rw [zcw hr hok ho]
    exact zbA (K:=fun v w'=>(1=0→Below w.heap.size w w')∧R w w'∧walkX P ops R rest (zci g o.dst v) w' K) (fun v w' ⟨_,h1,h2⟩=>⟨h1,zd9 hok hQ rest _ _ _ w' hB' (hr.put o.dst hd v) h2⟩) h
   ·rename_i hw
    rw [if_neg hw] at h
    exact zd9 hok hQ rest _ _ _ w hB' (hr.put o.dst hd _) h.2
theorem W_drawX (plan:List (Nat × Nat)) {id:Nat} {Q:Exit→G→World→Prop} {g:G} {w:World} (hm:P.follows .mixedOrders=true) (hB:drawOkX n ops plan=true)
  (h:∀ K:G→World→Prop,(∀ g w,Q .normal g w→K g w)→walkX P ops R plan g w.drew K):W P n (.region id ops true) Q g w:=by
 simp only [drawOkX,Bool.and_eq_true,beq_iff_eq] at hB
 obtain ⟨⟨hok,hl⟩,hB⟩:=hB
 intro a hr
 refine wp_region_any hm ?_
 have hw:=h _ (fun _ _ h=>h)
 have hany:=zd9 hR hok (Q:=fun a w=>∃ g',Rel n g' a∧Q .normal g' w) (fun g a w hr hk=>⟨g,hr,hk⟩) plan _ g a _ hB hr hw
 rw [hl] at hany
 exact zcA (fun a w h=>h) _ _ _ _ hany
end
structure RX (bs:Nat→Prop) (w w':World):Prop where
 os:w'.os=w.os
 tape:w'.tape=w.tape
 output:w'.output=w.output
 size:w.heap.size≤w'.heap.size
 block:∀ k,k<w.heap.size→¬bs k→w'.heap[k]? = w.heap[k]?
theorem RX.preO (bs:Nat→Prop):PreO (RX bs):=⟨fun w=>⟨rfl,rfl,rfl,Nat.le_refl _,fun _ _ _=>rfl⟩,fun {a b c} h h'=>⟨h'.os.trans h.os,h'.tape.trans h.tape,h'.output.trans h.output,Nat.le_trans h.size h'.size,fun k hk hn=>(h'.block k (Nat.lt_of_lt_of_le hk h.size) hn).trans (h.block k hk hn)⟩⟩
theorem RX.of_below {bs:Nat→Prop} {w w':World} (h:Below w.heap.size w w'):RX bs w w':=⟨h.os,h.tape,h.output,h.size,fun k hk _=>h.block k hk⟩
theorem RX.of_sto {bs:Nat→Prop} {w w':World} {b:Nat} (h:Sto w w' b) (hb:bs b):RX bs w w':=⟨h.os,h.tape,h.output,by rw [h.size];exact Nat.le_refl _,fun k _ hn=>h.block k (fun e=>hn (e▸hb))⟩
theorem mask_get (X:List Nat):∀ (h:List (Option (List SC))) (i b:Nat) (cs:List SC),(maskX X i h)[b]? = some (some cs)→h[b]? = some (some cs)∧memN X (i+b)=false
 | [],i,b,cs,hb=>by simp [maskX] at hb
 | c::r,i,0,cs,hb=>by
  simp only [maskX,List.getElem?_cons_zero,Option.some.injEq] at hb
  split at hb
  ·cases hb
  ·rename_i hm;exact ⟨by simp [hb],by simpa using hm⟩
 | c::r,i,b+1,cs,hb=>by
  simp only [maskX,List.getElem?_cons_succ] at hb
  obtain ⟨h1,h2⟩:=mask_get X r (i+1) b cs hb
  exact ⟨by simpa using h1,by rw [←h2];congr 1;omega⟩
section
variable {P:Program} {Γ:Gam} {s L:Nat} {call:Nat→List SV→SS→Tr (List S1 × SS)} (hΓ:GamOk P Γ) (hs:s≤L) (hcall:CallOk P Γ s call)
variable {ops:Array Oper}
theorem light_X {h0:List (Option (List SC))} {X:List Nat} {bs:Nat→Prop} {S:SS} {o:Oper} {E E0:En} {g:G} {w:World} {x:SV} (HG:SatG E S.g g) (HM:SatM s E S.h S.sz w) (hle:E0.Le E) (hbs:∀ k,bs k→∃ b,memN X b=true∧E0.bl b=some k)
  (hO:∀ S':SS,S'.sz=S.sz→SatO E S'.sz) (h:lightS P { S with h:=maskX X 0 S.h } o.op=some x):∀ w',RX bs w w'→lokO P w' (evG g) o.type o.op∧denV E x=some (lvO P w' (evG g) o.type o.op):=by
 intro w' hw
 have HB:SatB E (maskX X 0 S.h) w':=by
  intro b cs hb
  obtain ⟨h1,h2⟩:=mask_get X S.h 0 b cs hb
  rw [Nat.zero_add] at h2
  obtain ⟨β,t,vs,h3,h4,h5⟩:=HM.blocks b cs h1
  refine ⟨β,t,vs,h3,h4,h5.same (hw.block β h5.lt ?_) hw.size⟩
  ·intro hb'
   obtain ⟨b',h6,h7⟩:=hbs β hb'
   have:=HM.inj b b' β h3 (hle.bl b' β h7)
   subst this
   rw [h6] at h2;cases h2
 exact light_den (S:={ S with h:=maskX X 0 S.h }) HG HM.o HB h
include hΓ hs hcall
theorem evX_sound {lo B:Nat} {X:List Nat} {bs:Nat→Prop} {E0:En} (hbs:∀ k,bs k↔∃ b,memN X b=true∧E0.bl b=some k) (hX:∀ b,memN X b=true→∃ k,E0.bl b=some k) {Q:SS→Ev→Prop} {K:G→World→Prop}:∀ (l:List (Nat × Nat)) (S:SS) (E:En) (g:G) (w:World),E0.Le E→SatG E S.g g→SatM s E S.h S.sz w→(∀ b β,E.bl b=some β→lo≤b→B≤β)→B≤w.heap.size→(evX P Γ L call ops lo X l S).sat Γ Q E.env →
  (∀ S' E' g' w',Q S' E'.env→SatG E' S'.g g'→SatM s E' S'.h S'.sz w'→Ext B E w E' w'→K g' w')→walkX P ops (RX bs) l g w K
 | [],S,E,g,w,hle,HG,HM,Fr,hB,hsat,himp=>himp S E g w hsat HG HM (Ext.refl _ _ _)
 | (i,0)::r,S,E,g,w,hle,HG,HM,Fr,hB,hsat,himp=>by
  simp only [evX] at hsat
  split at hsat
  ·exact hsat.elim
  ·rename_i o ho
   rw [zbe] at hsat
   simp only [walkX,ho]
   unfold stepS at hsat
   obtain ⟨S1,HG1,e1,e2,h1⟩:=zc5 HG HM.o hsat
   rw [zeo]
   split at h1
   ·rename_i hw
    have hw':=zd8 HG1 hw
    refine ⟨fun h=>(by rw [hw'] at h;cases h),?_⟩
    rw [hw',if_neg (by decide)]
    exact evX_sound hbs hX r _ E _ w hle (HG1.und o.dst) (by rw [put_h,zdB,e1,e2];exact HM) Fr hB h1 himp
   ·rename_i hw
    have hw':=zd8 HG1 hw
    rw [if_pos rfl] at h1
    obtain ⟨S2,HG2,e3,e4,h2⟩:=zc5 HG1 (by rw [e2];exact HM.o) h1
    split at h2
    ·rename_i v hv
     have HM2:SatM s E S2.h S2.sz w:=by rw [e3,e4,e1,e2];exact HM
     have hv':lightS P { S2 with h:=maskX X 0 S2.h } o.op=some v:=by rw [e3,e1];exact hv
     have key:=light_X (h0:=[]) (P:=P) (o:=o) HG2 HM2 hle (fun k hk=>(hbs k).1 hk) (fun _ e=>by rw [e];exact HM2.o) hv'
     have k0:=key w ((RX.preO bs).refl w)
     refine ⟨fun _ w' hw2=>?_,?_⟩
     ·obtain ⟨k1,k2⟩:=key w' hw2
      refine ⟨k1,?_⟩
      have:=k2.symm.trans k0.2
      injection this
     ·rw [hw',if_pos rfl]
      exact evX_sound hbs hX r _ E _ w hle (HG2.put o.dst k0.2) (by rw [put_h,zdB];exact HM2) Fr hB h2 himp
    ·exact h2.elim
   ·exact h1.elim
 | (i,k+1)::r,S,E,g,w,hle,HG,HM,Fr,hB,hsat,himp=>by
  simp only [evX] at hsat
  split at hsat
  ·exact hsat.elim
  ·rename_i o ho
   rw [zbe] at hsat
   simp only [walkX,ho,zdP]
   unfold stepX at hsat
   obtain ⟨S1,HG1,e1,e2,h1⟩:=zc5 HG HM.o hsat
   have HM1:SatM s E S1.h S1.sz w:=by rw [e1,e2];exact HM
   split at h1
   ·rename_i hw
    have hw':=zd8 HG1 hw
    refine hv_skip hw' ⟨(RX.preO bs).refl w,?_⟩
    exact evX_sound hbs hX r _ E _ w hle (HG1.und o.dst) (by rw [put_h,zdB];exact HM1) Fr hB h1 himp
   ·rename_i hw
    have hw':=zd8 HG1 hw
    split at h1
    ·rename_i hst
     refine zee hΓ hs hcall (S:=room S1) HG1 (HM1.room 1) Fr hB hw' (fun e=>by cases e) h1 ?_
     intro S' E' g' w' hq hg hm hx hsi
     have hx':=ext_weak hB hx
     refine ⟨?_,evX_sound hbs hX r S' E' g' w' (hle.trans hx.le) hg hm (Fr_ext Fr hB hx) (Nat.le_trans hB hx.bel.size) hq (fun S2 E2 g2 w2 q1 q2 q3 q4=>himp S2 E2 g2 w2 q1 q2 q3 (hx'.trans q4))⟩
     cases hs':zdJ o.op with
     | false=>rw [hs'] at hx;exact RX.of_below hx.bel
     | true =>
      obtain ⟨t,x,y,b,off,β,h3,h4,h5,h6⟩:=hsi hs'
      refine RX.of_sto h6 ((hbs β).2 ⟨b,?_,?_⟩)
      ·unfold storeIn at hst
       rw [h3] at hst
       have h4':one? (opnd S1.g x)=some (.ptr b off):=h4
       simp only [h4'] at hst
       exact hst
      ·have hm':memN X b=true:=by
        unfold storeIn at hst
        rw [h3] at hst
        have h4':one? (opnd S1.g x)=some (.ptr b off):=h4
        simp only [h4'] at hst
        exact hst
       obtain ⟨k',hk'⟩:=hX b hm'
       have:=hle.bl b k' hk'
       rw [h5] at this
       injection this with this
       rw [hk',this]
    ·exact h1.elim
   ·exact h1.elim
end
section
variable {P:Program} {n:Nat} {md:Region.Mode} {ops:Array Oper} {R:World→World→Prop} (hR:PreO R)
def zef (P:Program) (ops:Array Oper) (R:World→World→Prop):Pl→G→World→(G→World→Prop)→Prop
 | .done,g,w,K=>K g w
 | .li i r,g,w,K=>match ops[i]? with
  | none=>False
  | some o=>(Region.wanted o (yG ops g)=true→∀ w',R w w'→lokO P w' (evG g) o.type o.op∧lvO P w' (evG g) o.type o.op=lvO P w (evG g) o.type o.op) ∧
    zef P ops R r (zci g o.dst (if Region.wanted o (yG ops g)=true then lvO P w (evG g) o.type o.op else undef)) w K
 | .hv i r,g,w,K=>hvI P ops ops[i]? 1 (fun g' w'=>R w w'∧zef P ops R r g' w' K) g w
 | .fork i r o,g,w,K=>hvI P ops ops[i]? 1 (fun g' w'=>R w w'∧zef P ops R r g' w' K) g w∧zef P ops R o g w K
theorem hvXT_step (hok:zem n ops=true) {i fuel:Nat} {r:Pl} {K:G→World→Prop} {Q:Act→World→Prop} {g:G} {a:Act} {w:World} {listed:Array Bool} (hr:Rel n g a)
  (h:hvI P ops ops[i]? 1 (fun g' w'=>R w w'∧zef P ops R r g' w' K) g w)
  (next:∀ g' a' w',Rel n g' a'→zef P ops R r g' w' K→anyX P md ops R Q fuel (listed.setIfInBounds i true) a' w') :
  opX P ops R i (anyX P md ops R Q fuel (listed.setIfInBounds i true)) a w:=by
 unfold opX
 cases ho:ops[i]? with
 | none=>simp [ho,hvI] at h
 | some o =>
  simp only [ho,zdP,hvX] at h
  simp only []
  have hd:=(zb5 hok ho).2.1
  rw [zcv hr hok o]
  split
  ·rename_i hw
   rw [if_pos hw] at h
   unfold hwp at h ⊢
   rw [zcw hr hok ho]
   exact zbA (K:=fun v w'=>(1=0→Below w.heap.size w w')∧R w w'∧zef P ops R r (zci g o.dst v) w' K) (fun v w' ⟨_,h1,h2⟩=>⟨h1,next _ _ _ (hr.put o.dst hd v) h2⟩) h
  ·rename_i hw
   rw [if_neg hw] at h
   exact next _ _ _ (hr.put o.dst hd _) h.2
include hR
theorem zcc (hok:zem n ops=true) {K:G→World→Prop} {Q:Act→World→Prop} (hQ:∀ g a w,Rel n g a→K g w→Q a w) :
  ∀ (p:Pl) (x:Option (List Nat)) (listed:Array Bool) (g:G) (a:Act) (w:World),canT md ops p listed x=true→Rel n g a→zef P ops R p g w K →
   (x=none→anyX P md ops R Q p.len listed a w)∧(∀ l f,x=some l→p.len=f+1→∀ i∈l,opX P ops R i (anyX P md ops R Q f (listed.setIfInBounds i true)) a w)
 | .done,none,listed,g,a,w,hB,hr,h=>⟨fun _=>⟨by simpa [canT] using hB,hQ _ _ _ hr h⟩,fun l f e=>by cases e⟩
 | .done,some _,_,_,_,_,hB,_,_=>by simp [canT] at hB
 | .li _ _,some _,_,_,_,_,hB,_,_=>by simp [canT] at hB
 | .li i r,none,listed,g,a,w,hB,hr,h=>by
  refine ⟨fun _=>?_,fun l f e=>by cases e⟩
  simp only [canT,Bool.and_eq_true] at hB
  obtain ⟨⟨hrd,hf⟩,hB'⟩:=hB
  simp only [zef] at h
  cases ho:ops[i]? with
  | none=>simp [ho] at h
  | some o =>
   simp only [ho] at h
   obtain ⟨h1,h2⟩:=h
   have hd:=(zb5 hok ho).2.1
   obtain ⟨f1,f2⟩:=zdZ ho hf
   refine anyX_first hR (v:=if Region.wanted o (yG ops g)=true then lvO P w (evG g) o.type o.op else undef) ho (fun j o cs b hj=>(zb5 hok hj).2.2 cs b) _ r.len listed a w f1 f2 (by simpa using hrd) ?_ ((zcc hok hQ r none _ _ _ w hB' (hr.put o.dst hd _) h2).1 rfl)
   unfold YieldsX
   rw [zcv hr hok o,zcw hr hok ho]
   cases hw:Region.wanted o (yG ops g)
   ·exact .inr ⟨rfl,by simp⟩
   ·refine .inl ⟨rfl,fun w' hw'=>?_⟩
    obtain ⟨h3,h4⟩:=h1 hw w' hw'
    rw [if_pos rfl,←h4]
    exact lok_exec h3
 | .hv i r,x,listed,g,a,w,hB,hr,h=>by
  simp only [canT,Bool.and_eq_true,beq_iff_eq] at hB
  obtain ⟨hrd,hB'⟩:=hB
  have key:opX P ops R i (anyX P md ops R Q r.len (listed.setIfInBounds i true)) a w :=
   hvXT_step hok hr h (fun g' a' w' hr' hw'=>(zcc hok hQ r none _ g' a' w' hB' hr' hw').1 rfl)
  refine ⟨fun e=>?_,fun l f e hf j hj=>?_⟩
  ·subst e
   have hrd':Region.ready md ops listed=[i]:=hrd
   refine ⟨fun h0=>(by rw [hrd'] at h0;cases h0),fun j hj=>?_⟩
   rw [hrd'] at hj
   have hji:j=i:=by simpa using hj
   subst hji
   exact key
  ·subst e
   have hrd':l=[i]:=hrd
   rw [hrd'] at hj
   have hji:j=i:=by simpa using hj
   subst hji
   have:f=r.len:=by simp [Pl.len] at hf;omega
   rw [this];exact key
 | .fork i r o,x,listed,g,a,w,hB,hr,h=>by
  simp only [canT] at hB
  split at hB
  ·rename_i j0 rest hrd
   simp only [Bool.and_eq_true,beq_iff_eq] at hB
   obtain ⟨⟨⟨hji,hB'⟩,hBo⟩,hlen⟩:=hB
   subst hji
   have key:opX P ops R j0 (anyX P md ops R Q r.len (listed.setIfInBounds j0 true)) a w :=
    hvXT_step hok hr h.1 (fun g' a' w' hr' hw'=>(zcc hok hQ r none _ g' a' w' hB' hr' hw').1 rfl)
   have others:=(zcc hok hQ o (some rest) listed g a w hBo hr h.2).2 rest r.len rfl hlen
   refine ⟨fun e=>?_,fun l f e hf j hj=>?_⟩
   ·subst e
    have hrd':Region.ready md ops listed=j0::rest:=hrd
    refine ⟨fun h0=>(by rw [hrd'] at h0;cases h0),fun j hj=>?_⟩
    rw [hrd'] at hj
    rcases List.mem_cons.1 hj with rfl|hj
    ·exact key
    ·exact others j hj
   ·subst e
    have hrd':l=j0::rest:=hrd
    rw [hrd'] at hj
    have:f=r.len:=by simp [Pl.len] at hf;omega
    rw [this]
    rcases List.mem_cons.1 hj with rfl|hj
    ·exact key
    ·exact others j hj
  ·cases hB
theorem W_drawTX (p:Pl) {id:Nat} {Q:Exit→G→World→Prop} {g:G} {w:World} (hm:P.follows .mixedOrders=true) (hB:drawOkT n ops p=true)
  (h:∀ K:G→World→Prop,(∀ g w,Q .normal g w→K g w)→zef P ops R p g w.drew K):W P n (.region id ops true) Q g w:=by
 simp only [drawOkT,Bool.and_eq_true,beq_iff_eq] at hB
 obtain ⟨⟨hok,hl⟩,hB⟩:=hB
 intro a hr
 refine wp_region_any hm ?_
 have hw:=h _ (fun _ _ h=>h)
 have hany:=(zcc hR hok (Q:=fun a w=>∃ g',Rel n g' a∧Q .normal g' w) (fun g a w hr hk=>⟨g,hr,hk⟩) p none _ g a _ hB hr hw).1 rfl
 rw [hl] at hany
 exact zcA (fun a w h=>h) _ _ _ _ hany
end
section
variable {P:Program} {Γ:Gam} {s L:Nat} {call:Nat→List SV→SS→Tr (List S1 × SS)} (hΓ:GamOk P Γ) (hs:s≤L) (hcall:CallOk P Γ s call)
variable {ops:Array Oper}
include hΓ hs hcall
def TSX (P:Program) (Γ:Gam) (s L:Nat) (call:Nat→List SV→SS→Tr (List S1 × SS)) (ops:Array Oper) (lo l0 so B m:Nat) (X:List Nat) (bs:Nat→Prop) (E0:En) (h0:List (Option (List SC))) (Q:SS→Ev→Prop) (K:G→World→Prop) (p:Pl):Prop :=
 ∀ (S:SS) (E:En) (g:G) (w:World),E0.Le E→SatG E S.g g→SatM s E S.h S.sz w→(∀ w',RX (fun k=>bs k∨m≤k) w w'→SatB E h0 w')→(∀ b β,E.bl b=some β→lo≤b→B≤β)→B≤w.heap.size→(∀ b β,E.bl b=some β→l0≤b→m≤β)→m≤w.heap.size→(evTX P Γ L call ops lo l0 so X h0 p S).sat Γ Q E.env →
  (∀ S' E' g' w',Q S' E'.env→SatG E' S'.g g'→SatM s E' S'.h S'.sz w'→Ext B E w E' w'→K g' w')→zef P ops (RX (fun k=>bs k∨m≤k)) p g w K
variable {lo l0 so B m:Nat} {X:List Nat} {bs:Nat→Prop} {E0:En} {h0:List (Option (List SC))} {Q:SS→Ev→Prop} {K:G→World→Prop}
theorem evTX_hv (hbs:∀ k,bs k↔∃ b,memN X b=true∧E0.bl b=some k) (hX:∀ b,memN X b=true→∃ k,E0.bl b=some k) {i:Nat} {r:Pl} (ih:TSX P Γ s L call ops lo l0 so B m X bs E0 h0 Q K r):TSX P Γ s L call ops lo l0 so B m X bs E0 h0 Q K (.hv i r):=by
 intro S E g w hle HG HM HB Fr hB Fm hm hsat himp
 simp only [evTX] at hsat
 split at hsat
 ·exact hsat.elim
 ·rename_i o ho
  rw [zbe] at hsat
  simp only [zef,ho,zdP]
  unfold stepXT at hsat
  obtain ⟨S1,HG1,e1,e2,h1⟩:=zc5 HG HM.o hsat
  have HM1:SatM s E S1.h S1.sz w:=by rw [e1,e2];exact HM
  split at h1
  ·rename_i hw
   have hw':=zd8 HG1 hw
   refine hv_skip hw' ⟨(RX.preO _).refl w,?_⟩
   exact ih _ E _ w hle (HG1.und o.dst) (by rw [put_h,zdB];exact HM1) HB Fr hB Fm hm h1 himp
  ·rename_i hw
   have hw':=zd8 HG1 hw
   split at h1
   ·rename_i hst
    refine zee hΓ hs hcall HG1 HM1 Fr hB hw' (fun e=>by cases e) h1 ?_
    intro S' E' g' w' hq hg hm' hx hsi
    have hx':=ext_weak hB hx
    have hRX:RX (fun k=>bs k∨m≤k) w w':=by
     cases hs':zdJ o.op with
     | false=>rw [hs'] at hx;exact RX.of_below hx.bel
     | true =>
      obtain ⟨t,x,y,b,off,β,h3,h4,h5,h6⟩:=hsi hs'
      refine RX.of_sto h6 ?_
      unfold storeInT at hst
      rw [h3] at hst
      have h4':one? (opnd S1.g x)=some (.ptr b off):=h4
      simp only [h4',Bool.or_eq_true,Nat.ble_eq] at hst
      rcases hst with hst|hst
      ·refine .inl ((hbs β).2 ⟨b,hst,?_⟩)
       obtain ⟨k',hk'⟩:=hX b hst
       have:=hle.bl b k' hk'
       rw [h5] at this
       injection this with this
       rw [hk',this]
      ·exact .inr (Fm b β h5 hst)
    exact ⟨hRX,ih S' E' g' w' (hle.trans hx.le) hg hm' (fun w2 h2=>SatB.le (HB w2 ((RX.preO _).trans hRX h2)) hx.le) (Fr_ext Fr hB hx) (Nat.le_trans hB hx.bel.size) (Fr_ext Fm hm hx) (Nat.le_trans hm hx.bel.size) hq (fun S2 E2 g2 w2 q1 q2 q3 q4=>himp S2 E2 g2 w2 q1 q2 q3 (hx'.trans q4))⟩
   ·exact h1.elim
  ·exact h1.elim
theorem evTX_sound (hbs:∀ k,bs k↔∃ b,memN X b=true∧E0.bl b=some k) (hX:∀ b,memN X b=true→∃ k,E0.bl b=some k) (p:Pl):TSX P Γ s L call ops lo l0 so B m X bs E0 h0 Q K p:=by
 induction p with
 | done =>
  intro S E g w hle HG HM HB Fr hB Fm hm hsat himp
  exact himp S E g w hsat HG HM (Ext.refl _ _ _)
 | li i r ih =>
  intro S E g w hle HG HM HB Fr hB Fm hm hsat himp
  simp only [evTX] at hsat
  split at hsat
  ·exact hsat.elim
  ·rename_i o ho
   rw [zbe] at hsat
   simp only [zef,ho]
   unfold stepS at hsat
   obtain ⟨S1,HG1,e1,e2,h1⟩:=zc5 HG HM.o hsat
   rw [zeo]
   split at h1
   ·rename_i hw
    have hw':=zd8 HG1 hw
    refine ⟨fun h=>(by rw [hw'] at h;cases h),?_⟩
    rw [hw',if_neg (by decide)]
    exact ih _ E _ w hle (HG1.und o.dst) (by rw [put_h,zdB,e1,e2];exact HM) HB Fr hB Fm hm h1 himp
   ·rename_i hw
    have hw':=zd8 HG1 hw
    rw [if_pos rfl] at h1
    obtain ⟨S2,HG2,e3,e4,h2⟩:=zc5 HG1 (by rw [e2];exact HM.o) h1
    split at h2
    ·rename_i v hv
     have HM2:SatM s E S2.h S2.sz w:=by rw [e3,e4,e1,e2];exact HM
     have key:∀ w',RX (fun k=>bs k∨m≤k) w w'→lokO P w' (evG g) o.type o.op∧denV E v=some (lvO P w' (evG g) o.type o.op):=fun w' hw2 =>
      light_den (S:={ S2 with h:=h0 }) HG2 HM2.o (HB w' hw2) hv
     have k0:=key w ((RX.preO _).refl w)
     refine ⟨fun _ w' hw2=>?_,?_⟩
     ·obtain ⟨k1,k2⟩:=key w' hw2
      refine ⟨k1,?_⟩
      have:=k2.symm.trans k0.2
      injection this
     ·rw [hw',if_pos rfl]
      exact ih _ E _ w hle (HG2.put o.dst k0.2) (by rw [put_h,zdB];exact HM2) HB Fr hB Fm hm h2 himp
    ·exact h2.elim
   ·exact h1.elim
 | hv i r ih=>exact evTX_hv hΓ hs hcall hbs hX ih
 | fork i r q ih1 ih2 =>
  intro S E g w hle HG HM HB Fr hB Fm hm hsat himp
  have hsat':(evTX P Γ L call ops lo l0 so X h0 (.hv i r) S).sat Γ Q E.env∧(evTX P Γ L call ops lo l0 so X h0 q S).sat Γ Q E.env:=by
   simp only [evTX] at hsat ⊢
   split at hsat
   ·exact hsat.elim
   ·rename_i o ho
    split at hsat
    ·rename_i he
     exact ⟨hsat,treqU_sat he _ hsat⟩
    ·exact hsat.elim
  have h1:=evTX_hv hΓ hs hcall hbs hX ih1 S E g w hle HG HM HB Fr hB Fm hm hsat'.1 himp
  have h2:=ih2 S E g w hle HG HM HB Fr hB Fm hm hsat'.2 himp
  simp only [zef] at h1 ⊢
  exact ⟨h1,h2⟩
end
end Go.Proofs.YtefhenfofomjhaaGreat
