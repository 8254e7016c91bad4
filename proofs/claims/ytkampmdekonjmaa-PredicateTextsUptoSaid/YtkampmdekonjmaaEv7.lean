/- Symbolic evaluation: code and functions. -/
import Derived.Test.YtkampmdekonjmaaEvY
namespace Go.Proofs.Ytkampmdekonjmaa
open Go Go.RowKit Go.V
set_option linter.unusedSimpArgs false
set_option linter.unusedVariables false

def Ex.to : Ex → Exit
  | .nrm => .normal
  | .ret => .ret
  | .ex i => .exit i
theorem denVs_len {E : En} : ∀ {l : List SV} {vs : List Value}, denVs E l = some vs → vs.length = l.length
  | [], _, h => by injection h with h; subst h; rfl
  | c :: r, _, h => by
    obtain ⟨a, b, _, h2, rfl⟩ := op2_some h
    simp [denVs_len h2]
theorem denVs_get {E : En} : ∀ {l : List SV} {vs : List Value} {i : Nat} {c : SV}, denVs E l = some vs → l[i]? = some c → ∃ v, vs[i]? = some v ∧ denV E c = some v
  | [], _, i, c, _, h => by simp at h
  | d :: r, _, i, c, h, hi => by
    obtain ⟨a, b, h1, h2, rfl⟩ := op2_some h
    cases i with
    | zero => simp at hi; subst hi; exact ⟨a, rfl, h1⟩
    | succ i => simpa using denVs_get h2 (by simpa using hi)
theorem args_den {E : En} {xs : List SV} {vs : List Value} (h : denVs E xs = some vs) (n : Nat) : SatG E (xs ++ List.replicate n undS) (argG vs) := by
  intro t x hx
  rw [argG_getD]
  have hl := denVs_len h
  by_cases hlt : t < xs.length
  · rw [List.getElem?_append_left hlt] at hx
    obtain ⟨v, h1, h2⟩ := denVs_get h hx
    rw [List.getD_eq_getElem?_getD, h1]; exact h2
  · rw [List.getElem?_append_right (by omega), List.getElem?_replicate] at hx
    split at hx
    · injection hx with hx; subst hx
      rw [List.getD_eq_getElem?_getD, List.getElem?_eq_none (by omega)]; rfl
    · cases hx
theorem denT_map {E : En} : ∀ {l : List S1} {vs : List Value}, denT E l = some vs → denVs E (l.map .v) = some vs
  | [], _, h => h
  | c :: r, _, h => by
    obtain ⟨a, b, h1, h2, rfl⟩ := op2_some h
    simp only [List.map_cons, denVs, denT_map h2]
    show op2 _ (den1 E c) _ = _
    rw [h1]; rfl
theorem resS_den {P : Program} {S : SS} {E : En} {g : G} {w : World} (HG : SatG E S.g g) (HO : SatO E S.sz) (HB : SatB E S.h w) : ∀ {rs : List ResultVar} {l : List S1}, resS P S rs = some l → resOk P w g rs ∧ denT E l = some (resL P w g rs)
  | [], _, h => by injection h with h; subst h; exact ⟨trivial, rfl⟩
  | .tmp t :: r, _, h => by
    obtain ⟨a, b, h1, h2, rfl⟩ := op2_some h
    obtain ⟨h3, h4⟩ := resS_den HG HO HB h2
    refine ⟨h3, ?_⟩
    split at h1
    · rename_i x hx
      injection h1 with h1; subst h1
      have := HG t _ hx
      simp only [denT, resL, h4]
      rw [show den1 E x = some (g t) from this]; rfl
    · cases h1
  | .cell ad t :: r, _, h => by
    obtain ⟨a, b, h1, h2, rfl⟩ := op2_some h
    obtain ⟨h3, h4⟩ := resS_den HG HO HB h2
    split at h1
    · rename_i bk off hx
      have hl : lightS P S (.load t (.tmp ad)) = some (.v a) := by
        simp only [lightS, opnd, hx, h1, vv]
      obtain ⟨h5, h6⟩ := light_den (ty := 0) HG HO HB hl
      refine ⟨⟨h5, h3⟩, ?_⟩
      simp only [denT, resL, h4]
      rw [show den1 E a = _ from h6]; rfl
    · cases h1
/-- what is to be shown of a piece of code -/
def CS (P : Program) (Γ : Gam) (s L : Nat) (call : Nat → List SV → SS → Tr (List S1 × SS)) (plans : Nat → Option Pn) (n lo lf B : Nat) (c : Code) : Prop :=
  ∀ (S : SS) (E : En) (g : G) (w : World) (Q : Ex × SS → Ev → Prop) (Qx : Exit → G → World → Prop), SatG E S.g g → SatM s E S.h S.sz w → (∀ b β, E.bl b = some β → lo ≤ b → B ≤ β) → B ≤ w.heap.size → (evC P Γ L call plans n lo lf c S).sat Γ Q E.env →
    (∀ p E' g' w', Q p E'.env → SatG E' p.2.g g' → SatM s E' p.2.h p.2.sz w' → Ext B E w E' w' → Qx p.1.to g' w') → W P n c Qx g w
theorem loop_sound {P : Program} {Γ : Gam} {s L : Nat} {call : Nat → List SV → SS → Tr (List S1 × SS)} {plans : Nat → Option Pn} {n lo lf B : Nat} {x : Code} (ih : CS P Γ s L call plans n lo lf B x) (m : Nat) (S : SS) (E : En) (g : G) (w : World) (Q : Ex × SS → Ev → Prop) (Qx : Exit → G → World → Prop) (HG : SatG E S.g g) (HM : SatM s E S.h S.sz w) (Fr : ∀ b β, E.bl b = some β → lo ≤ b → B ≤ β) (hB : B ≤ w.heap.size)
    (hsat : (evLoop (evC P Γ L call plans n lo lf x) m S).sat Γ Q E.env) (himp : ∀ p E' g' w', Q p E'.env → SatG E' p.2.g g' → SatM s E' p.2.h p.2.sz w' → Ext B E w E' w' → Qx p.1.to g' w') : W P n (.loop x) Qx g w := by
  refine W_loop (fun m g1 w1 => ∃ S1 E1, SatG E1 S1.g g1 ∧ SatM s E1 S1.h S1.sz w1 ∧ Ext B E w E1 w1 ∧ (evLoop (evC P Γ L call plans n lo lf x) m S1).sat Γ Q E1.env) m ⟨S, E, HG, HM, Ext.refl _ _ _, hsat⟩ ?_
  rintro m g1 w1 ⟨S1, E1, HG1, HM1, hx1, hs1⟩
  cases m with
  | zero => exact hs1.elim
  | succ m =>
    simp only [evLoop] at hs1
    rw [sat_bind] at hs1
    refine ih S1 E1 g1 w1 _ _ HG1 HM1 (Fr_ext Fr hB hx1) (Nat.le_trans hB hx1.bel.size) hs1 ?_
    intro p E' g' w' hq hg hm' hx
    split at hq
    · rename_i hp
      rw [hp]
      exact ⟨m, Nat.lt_succ_self m, p.2, E', hg, hm', hx1.trans hx, hq⟩
    · rename_i hp
      rw [hp]
      exact himp (.ret, p.2) E' g' w' hq hg hm' (hx1.trans hx)
    · rename_i i hp
      rw [hp]
      exact himp (.ex i, p.2) E' g' w' hq hg hm' (hx1.trans hx)
theorem isBlk_all {s : Nat} {E : En} {S : SS} {w : World} (HM : SatM s E S.h S.sz w) {X : List Nat} (hX : X.all (isBlk S.h) = true) : ∀ b, memN X b = true → ∃ k, E.bl b = some k := by
  intro b hb
  have hmem : b ∈ X := by
    clear hX
    induction X with
    | nil => cases hb
    | cons a r ih =>
      simp only [memN, Bool.or_eq_true] at hb
      rcases hb with h | h
      · have : a = b := by simpa using h
        subst this; exact List.mem_cons_self
      · exact List.mem_cons_of_mem _ (ih h)
  have := (List.all_eq_true.1 hX) b hmem
  unfold isBlk at this
  split at this
  · rename_i cs hc
    obtain ⟨β, _, _, h1, _⟩ := HM.blocks b cs hc
    exact ⟨β, h1⟩
  · cases this
section
variable {P : Program} {Γ : Gam} {s L : Nat} {call : Nat → List SV → SS → Tr (List S1 × SS)} (hm : P.follows .mixedOrders = true) (hΓ : GamOk P Γ) (hs : s ≤ L) (hcall : CallOk P Γ s call)
include hm hΓ hs hcall
theorem evR_sound {plans : Nat → Option Pn} {n lo B id : Nat} {ops : Array Oper} {draw : Bool} {S : SS} {E : En} {g : G} {w : World} {Q : SS → Ev → Prop} {Qx : Exit → G → World → Prop} (HG : SatG E S.g g) (HM : SatM s E S.h S.sz w) (Fr : ∀ b β, E.bl b = some β → lo ≤ b → B ≤ β) (hB : B ≤ w.heap.size)
    (hsat : (evR P Γ L call plans n lo id ops draw S).sat Γ Q E.env) (himp : ∀ S' E' g' w', Q S' E'.env → SatG E' S'.g g' → SatM s E' S'.h S'.sz w' → Ext B E w E' w' → Qx .normal g' w') : W P n (.region id ops draw) Qx g w := by
  have hd := Below.drew1 w
  have hxd : Ext B E w E w.drew := ⟨En.Le.refl E, fun _ _ h => .inl h, hd.mono hB⟩
  have HMd := HM.keep hd
  have hBd : B ≤ w.drew.heap.size := Nat.le_trans hB hd.size
  unfold evR at hsat
  split at hsat
  · split at hsat
    · rename_i hok
      obtain ⟨l⟩ := ops
      show W P n (.region id l.toArray false) Qx g w
      refine W_text hok fun K hK => ?_
      exact evL_sound hΓ hs hcall l S E g w HG HM Fr hB hsat (fun S' E' g' w' q1 q2 q3 q4 => hK _ _ (himp S' E' g' w' q1 q2 q3 q4))
    · exact hsat.elim
  · split at hsat
    · rename_i l hl
      split at hsat
      · rename_i hok
        refine W_draw l hm hok fun K hK => ?_
        exact evP_sound hΓ hs hcall l S E g _ HG HMd Fr hBd hsat (fun S' E' g' w' q1 q2 q3 q4 => hK _ _ (himp S' E' g' w' q1 q2 q3 (hxd.trans q4)))
      · split at hsat
        · rename_i hok
          unfold evXR at hsat
          generalize storesOf S.g ops.toList ops.toList = X at hsat
          split at hsat
          · rename_i hX
            have hX' : ∀ b, memN X b = true → ∃ k, E.bl b = some k := by
              intro b hb
              have hmem : b ∈ X := by
                clear hX hsat
                induction X with
                | nil => cases hb
                | cons a r ih =>
                  simp only [memN, Bool.or_eq_true] at hb
                  rcases hb with h | h
                  · have : a = b := by simpa using h
                    subst this; exact List.mem_cons_self
                  · exact List.mem_cons_of_mem _ (ih h)
              have := (List.all_eq_true.1 hX) b hmem
              unfold isBlk at this
              split at this
              · rename_i cs hc
                obtain ⟨β, _, _, h1, _⟩ := HM.blocks b cs hc
                exact ⟨β, h1⟩
              · cases this
            refine W_drawX (RX.preO (fun k => ∃ b, memN X b = true ∧ E.bl b = some k)) l hm hok fun K hK => ?_
            exact evX_sound hΓ hs hcall (E0 := E) (fun k => Iff.rfl) hX' l S E g _ (En.Le.refl E) HG HMd Fr hBd hsat (fun S' E' g' w' q1 q2 q3 q4 => hK _ _ (himp S' E' g' w' q1 q2 q3 (hxd.trans q4)))
          · exact hsat.elim
        · exact hsat.elim
    · rename_i p hp
      split at hsat
      · rename_i hok
        split at hsat
        · refine W_drawT p hm hok fun K hK => ?_
          refine evT_sound hΓ hs hcall (h0 := S.h) p { S with h := S.h ++ List.replicate ops.size none, sz := S.sz ++ List.replicate ops.size none } E g _ HG ((HMd.room ops.size).roomO ops.size) HMd.blocks (fun b β hb hl => ?_) (Nat.le_refl _) hsat (fun S' E' g' w' q1 q2 q3 q4 => hK _ _ (himp S' E' g' w' q1 q2 q3 (hxd.trans (q4.weak hBd))))
          obtain ⟨cs, hc⟩ := HM.hdom b β hb
          have := (List.getElem?_eq_some_iff.1 hc).1
          omega
        · generalize storesOf S.g ops.toList ops.toList = X at hsat
          split at hsat
          · rename_i hX
            have hX' := isBlk_all HM hX
            refine W_drawTX (RX.preO (fun k => (∃ b, memN X b = true ∧ E.bl b = some k) ∨ w.drew.heap.size ≤ k)) p hm hok fun K hK => ?_
            refine evTX_sound hΓ hs hcall (E0 := E) (h0 := maskX X 0 S.h) (m := w.drew.heap.size) (fun k => Iff.rfl) hX' p { S with h := S.h ++ List.replicate ops.size none, sz := S.sz ++ List.replicate ops.size none } E g _ (En.Le.refl E) HG ((HMd.room ops.size).roomO ops.size) (fun w' hw' => ?_) Fr hBd (fun b β hb hl => ?_) (Nat.le_refl _) hsat (fun S' E' g' w' q1 q2 q3 q4 => hK _ _ (himp S' E' g' w' q1 q2 q3 (hxd.trans q4)))
            · intro b cs hb
              obtain ⟨h1, h2⟩ := mask_get X S.h 0 b cs hb
              rw [Nat.zero_add] at h2
              obtain ⟨β, t, vs, h3, h4, h5⟩ := HMd.blocks b cs h1
              refine ⟨β, t, vs, h3, h4, h5.same (hw'.block β h5.lt ?_) hw'.size⟩
              · rintro (⟨b', h6, h7⟩ | hb')
                · have := HM.inj b b' β h3 h7
                  subst this
                  rw [h6] at h2; cases h2
                · have := h5.lt; omega
            · obtain ⟨cs, hc⟩ := HM.hdom b β hb
              have := (List.getElem?_eq_some_iff.1 hc).1
              omega
          · exact hsat.elim
      · exact hsat.elim
    · exact hsat.elim
theorem evC_sound {plans : Nat → Option Pn} {n lo lf B : Nat} : ∀ c : Code, CS P Γ s L call plans n lo lf B c
  | .skip => fun S E g w Q Qx HG HM Fr hB hsat himp => W_skip (himp (.nrm, S) E g w hsat HG HM (Ext.refl _ _ _))
  | .region id ops draw => fun S E g w Q Qx HG HM Fr hB hsat himp => by
    simp only [evC] at hsat
    rw [sat_bind] at hsat
    exact evR_sound hm hΓ hs hcall HG HM Fr hB hsat (fun S' E' g' w' q1 q2 q3 q4 => himp (.nrm, S') E' g' w' q1 q2 q3 q4)
  | .seq x y => fun S E g w Q Qx HG HM Fr hB hsat himp => by
    simp only [evC] at hsat
    rw [sat_bind] at hsat
    refine W_seq fun K hK => ?_
    refine evC_sound x S E g w _ _ HG HM Fr hB hsat ?_
    intro p E' g' w' hq hg hm' hx
    split at hq
    · rename_i hp
      rw [hp]
      refine hK _ _ ?_
      exact evC_sound y p.2 E' g' w' _ _ hg hm' (Fr_ext Fr hB hx) (Nat.le_trans hB hx.bel.size) hq (fun p2 E2 g2 w2 q1 q2 q3 q4 => himp p2 E2 g2 w2 q1 q2 q3 (hx.trans q4))
    · rename_i hp
      rw [hp]
      exact himp (.ret, p.2) E' g' w' hq hg hm' hx
    · rename_i i hp
      rw [hp]
      exact himp (.ex i, p.2) E' g' w' hq hg hm' hx
  | .cond c x y => fun S E g w Q Qx HG HM Fr hB hsat himp => by
    simp only [evC] at hsat
    split at hsat
    · rename_i hsl
      split at hsat
      · rename_i c' hc
        split at hsat
        · rename_i he
          obtain ⟨z, h1, h2⟩ := bOf_den HM.o he (one_den HG hc)
          injection h1 with h1; subst h1
          exact W_cond hsl h2 (fun _ => evC_sound x S E g w Q Qx HG HM Fr hB hsat himp) (fun h => by cases h)
        · rename_i he
          obtain ⟨z, h1, h2⟩ := bOf_den HM.o he (one_den HG hc)
          injection h1 with h1; subst h1
          exact W_cond hsl h2 (fun h => by cases h) (fun _ => evC_sound y S E g w Q Qx HG HM Fr hB hsat himp)
        · rename_i e he _ _
          obtain ⟨z, h1, h2⟩ := bOf_den HM.o (by assumption) (one_den HG hc)
          exact W_cond hsl h2 (fun hz => evC_sound x S E g w Q Qx HG HM Fr hB (hsat.1 (by rw [h1, hz])) himp) (fun hz => evC_sound y S E g w Q Qx HG HM Fr hB (hsat.2 (by rw [h1, hz])) himp)
        · exact hsat.elim
      · exact hsat.elim
    · exact hsat.elim
  | .block id x => fun S E g w Q Qx HG HM Fr hB hsat himp => by
    simp only [evC] at hsat
    rw [sat_bind] at hsat
    refine W_block ?_
    refine evC_sound x S E g w _ _ HG HM Fr hB hsat ?_
    intro p E' g' w' hq hg hm' hx
    split at hq
    · rename_i hp
      rw [hp]
      exact himp (.nrm, p.2) E' g' w' hq hg hm' hx
    · rename_i hp
      rw [hp]
      exact himp (.ret, p.2) E' g' w' hq hg hm' hx
    · rename_i i hp
      rw [hp]
      show inBlockG id Qx (.exit i) g' w'
      have hq' : Q (if Nat.beq i id then Ex.nrm else .ex i, p.2) E'.env := hq
      by_cases hi : i = id
      · subst hi
        rw [if_pos (by simp)] at hq'
        simp only [inBlockG, if_true]
        exact himp (.nrm, p.2) E' g' w' hq' hg hm' hx
      · rw [if_neg (by simpa using hi)] at hq'
        simp only [inBlockG, if_neg hi]
        exact himp (.ex i, p.2) E' g' w' hq' hg hm' hx
  | .loop x => fun S E g w Q Qx HG HM Fr hB hsat himp => loop_sound (evC_sound x) lf S E g w Q Qx HG HM Fr hB hsat himp
  | .exit i => fun S E g w Q Qx HG HM Fr hB hsat himp => W_exit (himp (.ex i, S) E g w hsat HG HM (Ext.refl _ _ _))
  | .ret => fun S E g w Q Qx HG HM Fr hB hsat himp => W_ret (himp (.ret, S) E g w hsat HG HM (Ext.refl _ _ _))
  | .rangeFunc .. => fun S E g w Q Qx HG HM Fr hB hsat himp => hsat.elim
  | .scope _ => fun S E g w Q Qx HG HM Fr hB hsat himp => hsat.elim
  | .label _ => fun S E g w Q Qx HG HM Fr hB hsat himp => hsat.elim
  | .goto _ => fun S E g w Q Qx HG HM Fr hB hsat himp => hsat.elim
  | .refuse _ => fun S E g w Q Qx HG HM Fr hB hsat himp => hsat.elim
theorem evFn_sound {plans : Nat → Nat → Option Pn} {lf : Nat} : CallOk P Γ s (evFn P Γ L call plans lf) := by
  intro f xs S E w vs R Q HM hd hsat himp
  unfold evFn at hsat
  split at hsat
  · exact hsat.elim
  · rename_i fn hf
    split at hsat
    · exact hsat.elim
    · rename_i c hc
      split at hsat
      · rename_i hok
        simp only [Bool.and_eq_true, Nat.ble_eq] at hok
        rw [sat_bind] at hsat
        have hl := denVs_len hd
        refine calls_of_W (args := vs) (rs := fn.results.toList) (n := fn.ntmps) hf hc rfl (by simp) (by rw [hok.1, Bool.true_and, decide_eq_true_eq]; omega) ?_
        refine evC_sound hm hΓ hs hcall (lo := S.h.length) (B := w.heap.size) c { S with g := xs ++ List.replicate (fn.ntmps - xs.length) undS } E _ w _ _ (args_den hd _) HM (fun b β hb hl => ?_) (Nat.le_refl _) hsat ?_
        · obtain ⟨cs, hc⟩ := HM.hdom b β hb
          have := (List.getElem?_eq_some_iff.1 hc).1
          omega
        · intro p E' g' w' hq hg hm' hx
          have key : (match resS P p.2 fn.results.toList with
            | some l => Tr.leaf (l, p.2)
            | none => Tr.bad : Tr (List S1 × SS)).sat Γ Q E'.env → resOk P w' g' fn.results.toList ∧ R (.returned (pack (resL P w' g' fn.results.toList))) w' := by
            intro hq
            split at hq
            · rename_i l hl
              obtain ⟨h1, h2⟩ := resS_den hg hm'.o hm'.blocks hl
              exact ⟨h1, himp (l, p.2) E' w' _ hq hm' h2 hx⟩
            · exact hq.elim
          obtain ⟨ex, S'⟩ := p
          cases ex with
          | nrm => exact key hq
          | ret => exact key hq
          | ex i => exact hq.elim
      · exact hsat.elim
end
theorem evF_sound {P : Program} {Γ : Gam} {s L : Nat} (hm : P.follows .mixedOrders = true) (hΓ : GamOk P Γ) (hs : s ≤ L) (plans : Nat → Nat → Option Pn) (lf : Nat) : ∀ k, CallOk P Γ s (evF P Γ L plans lf k)
  | 0 => fun f xs S E w vs R Q HM hd hsat himp => hsat.elim
  | k + 1 => evFn_sound hm hΓ hs (evF_sound hm hΓ hs plans lf k)
theorem den_sat {Γ : Gam} {r : List At} : ∀ (t : Tr (List SA)) (e : Ev), t.den Γ e = some r → t.sat Γ (fun sas e' => evAll e' sas = some r) e
  | .leaf a, e, h => h
  | .br c t f, e, h => by
    simp only [Tr.den] at h
    refine ⟨fun hc => ?_, fun hc => ?_⟩
    · rw [hc] at h; exact den_sat t e h
    · rw [hc] at h; exact den_sat f e h
  | .call f args base t, e, h => by
    simp only [Tr.den] at h
    split at h
    · rename_i c als hc ha
      split at h
      · rename_i r' hr
        exact ⟨c, als, r', hc, ha, hr, den_sat t _ h⟩
      · cases h
    · cases h
  | .obj l base t, e, h => den_sat t _ h
  | .bad, e, h => by cases h
def env0 (als : List At) : Ev := extE (fun _ => none) 0 als
/-- A function answers what its code computes. -/
theorem top_ok {P : Program} {Γ : Gam} (hm : P.follows .mixedOrders = true) (hΓ : GamOk P Γ) {plans : Nat → Nat → Option Pn} {lf k f L A B : Nat} {args res : List (List Sh)} {t : Tr (List SA)} (h : evTop P Γ plans lf k f args res L A B = t) :
    Ct.ok P f { args := args, res := res, F := fun als => t.den Γ (env0 als), L := L, A := A, B := B } := by
  intro s w vs als r hs hr hz hF
  have hno : args.all noSl = true := by
    cases hb : args.all noSl with
    | true => rfl
    | false =>
      have hsat := den_sat t (env0 als) hF
      rw [← h] at hsat
      unfold evTop at hsat
      rw [hb] at hsat
      exact hsat.elim
  obtain ⟨obs, o1, o2, o3, o4⟩ := RepVs_obs hno hr
  let E : En := { bl := fun _ => none, ob := fun k => obs[k]?, cv := fun _ => 0 }
  have henv : E.env = env0 als := by
    funext k
    unfold En.env env0 extE
    simp only [E]
    have : Nat.ble 0 k = true := by simp
    rw [this, if_pos rfl, Nat.sub_zero, ← o1, List.getElem?_map]
    cases obs[k]? <;> rfl
  have hdt := o4 E 0 (fun i q hi => by simpa [E] using hi)
  have HM : SatM s E [] (argsSz args.flatten) w := by
    refine ⟨fun b cs hb => (by simp at hb), (fun b b' β hb => by cases hb), (fun b β hb => by cases hb), (fun b β hb => by cases hb), fun k p hk => ?_, fun k q hk => ?_⟩
    · simp only [argsSz, List.getElem?_map] at hk
      cases hf : args.flatten[k]? with
      | none => simp [hf] at hk
      | some sh =>
        simp only [hf, Option.map_some, Option.some.injEq] at hk
        subst hk
        rw [← o3, List.getElem?_map] at hf
        cases ho : obs[k]? with
        | none => simp [ho] at hf
        | some q =>
          simp only [ho, Option.map_some, Option.some.injEq] at hf
          have hmem := List.mem_of_getElem? ho
          refine ⟨q.1, q.2, ho, hf, o2 q hmem, ?_⟩
          have := hz q.1 (by rw [← o1]; exact List.mem_map_of_mem hmem)
          simpa using this
    · have hlt := (List.getElem?_eq_some_iff.1 hk).1
      have hlen : obs.length = args.flatten.length := by rw [← o3]; simp
      simp only [argsSz, List.getElem?_map]
      exact ⟨_, by rw [List.getElem?_eq_getElem (by omega)]; rfl⟩
  have hsat := den_sat t (env0 als) hF
  rw [← h, ← henv] at hsat
  unfold evTop at hsat
  rw [if_pos hno, sat_bind] at hsat
  refine evF_sound hm hΓ hs plans lf k f _ _ E w vs _ _ HM (denT_map hdt) hsat ?_
  intro p E' w' rvs hq hm' hdt' hx
  unfold outS at hq
  split at hq
  · rename_i sas hp
    split at hq
    · rename_i q hsz
      split at hq
      · rename_i hle
        simp only [Bool.and_eq_true, Nat.ble_eq] at hle
        obtain ⟨als', g1, g2, g3⟩ := parseArgs_den hm' hp (denT_map hdt')
        have hq' : evAll E'.env sas = some r := hq
        rw [g1] at hq'; injection hq' with hq'; subst hq'
        refine ⟨rvs, rfl, g2, fun a ha => ?_, hx.bel⟩
        have := g3 q hsz a ha
        have m1 : q.1 * s ≤ A * s := Nat.mul_le_mul_right _ hle.1
        simp only
        omega
      · exact hq.elim
    · exact hq.elim
  · exact hq.elim
/-- what is answered by a function whose last argument is a slice that begins its block -/
def OkS (P : Program) (Γ : Gam) (f : Nat) (args : List (List Sh)) (n : Nat) (shs : List Sh) (res : List (List Sh)) (t : Tr (List SA)) (L A B : Nat) : Prop :=
  ∀ (s : Nat) (w : World) (vs : List Value) (als als2 r : List At) (cs : List Value) (β cap : Nat), s ≤ L → RepVs w args als vs → Reps w shs als2 cs → β < w.heap.size → (∀ (j : Nat) (v : Value), cs[j]? = some v → w.cell? ⟨β, j, none⟩ = some v) → (∀ a ∈ als ++ als2, a.sz ≤ s) → t.den Γ (env0 (als ++ als2)) = some r →
  Calls P f (vs ++ [Value.slice (some ⟨β, 0, none⟩) n cap]).toArray w fun e w' => ∃ rvs, e = .returned (pack rvs) ∧ RepVs w' res r rvs ∧ (∀ a ∈ r, a.sz ≤ A * s + B) ∧ Below w.heap.size w w'
theorem denVs_snoc {E : En} {v : Value} {x : SV} (hx : denV E x = some v) : ∀ {l : List SV} {vs : List Value}, denVs E l = some vs → denVs E (l ++ [x]) = some (vs ++ [v])
  | [], _, h => by injection h with h; subst h; simp [denVs, hx, op2]
  | c :: r, _, h => by
    obtain ⟨a, b, h1, h2, rfl⟩ := op2_some h
    simp only [List.cons_append, denVs, h1, denVs_snoc hx h2, op2]
theorem top_okS {P : Program} {Γ : Gam} (hm : P.follows .mixedOrders = true) (hΓ : GamOk P Γ) {plans : Nat → Nat → Option Pn} {lf k f L A B n : Nat} {args res : List (List Sh)} {shs : List Sh} {t : Tr (List SA)} (h : evTopS P Γ plans lf k f args n shs res L A B = t) (hno : args.all noSl = true) :
    OkS P Γ f args n shs res t L A B := by
  intro s w vs als als2 r cs β cap hs hr hr2 hβ hcell hz hF
  obtain ⟨obs1, o1, o2, o3, o4⟩ := RepVs_obs hno hr
  obtain ⟨obs2, q1, q2, q3, q4⟩ := Reps_obs hr2
  have hl1 : obs1.length = args.flatten.length := by rw [← o3]; simp
  let E : En := { bl := fun b => if b = 0 then some β else none, ob := fun k => (obs1 ++ obs2)[k]?, cv := fun _ => cap }
  have henv : E.env = env0 (als ++ als2) := by
    funext k
    unfold En.env env0 extE
    simp only [E]
    have : Nat.ble 0 k = true := by simp
    rw [this, if_pos rfl, Nat.sub_zero, ← o1, ← q1, ← List.map_append, List.getElem?_map]
    cases (obs1 ++ obs2)[k]? <;> rfl
  have hdt := o4 E 0 (fun i q hi => by
    simp only [E, Nat.zero_add]
    rw [List.getElem?_append_left (List.getElem?_eq_some_iff.1 hi).1]; exact hi)
  have hdc := q4 E args.flatten.length (fun i q hi => by
    simp only [E]
    rw [List.getElem?_append_right (by omega), hl1, Nat.add_sub_cancel_left]; exact hi)
  have hbl : ∀ b x, E.bl b = some x → b = 0 ∧ x = β := by
    intro b x hb
    have hb' : (if b = 0 then some β else none) = some x := hb
    by_cases e : b = 0
    · rw [if_pos e] at hb'; injection hb' with hb'; exact ⟨e, hb'.symm⟩
    · rw [if_neg e] at hb'; cases hb'
  have HM : SatM s E [some (cellsFrom args.flatten.length shs ++ [mkU])] (argsSz (args.flatten ++ shs)) w := by
    refine ⟨fun b c hb => ?_, (fun b b' x hb hb' => by rw [(hbl b x hb).1, (hbl b' x hb').1]), (fun b x hb => by rw [(hbl b x hb).2]; exact hβ), (fun b x hb => by rw [(hbl b x hb).1]; exact ⟨_, rfl⟩), fun k p hk => ?_, fun k q hk => ?_⟩
    · rcases b with _ | b
      · simp only [List.getElem?_cons_zero, Option.some.injEq] at hb
        subst hb
        exact ⟨β, 0, cs ++ [.int .u16 0], rfl, denL_app hdc rfl, .inr ⟨_, cs, rfl, rfl, (denL_len hdc).symm, hβ, hcell⟩⟩
      · simp at hb
    · simp only [argsSz, List.getElem?_map] at hk
      cases hf : (args.flatten ++ shs)[k]? with
      | none => simp [hf] at hk
      | some sh =>
        simp only [hf, Option.map_some, Option.some.injEq] at hk
        subst hk
        rw [← o3, ← q3, ← List.map_append, List.getElem?_map] at hf
        cases ho : (obs1 ++ obs2)[k]? with
        | none => simp [ho] at hf
        | some q =>
          simp only [ho, Option.map_some, Option.some.injEq] at hf
          have hmem := List.mem_of_getElem? ho
          refine ⟨q.1, q.2, ho, hf, (List.mem_append.1 hmem).elim (o2 q) (q2 q), ?_⟩
          have := hz q.1 (by rw [← o1, ← q1, ← List.map_append]; exact List.mem_map_of_mem hmem)
          simpa using this
    · have hlt := (List.getElem?_eq_some_iff.1 hk).1
      have hlen : (obs1 ++ obs2).length = (args.flatten ++ shs).length := by rw [← o3, ← q3]; simp
      simp only [argsSz, List.getElem?_map]
      exact ⟨_, by rw [List.getElem?_eq_getElem (by omega)]; rfl⟩
  have hsat := den_sat t (env0 (als ++ als2)) hF
  rw [← h, ← henv] at hsat
  unfold evTopS at hsat
  rw [if_pos hno, sat_bind] at hsat
  refine evF_sound hm hΓ hs plans lf k f _ _ E w (vs ++ [Value.slice (some ⟨β, 0, none⟩) n cap]) _ _ HM (denVs_snoc (by simp [denV, den1, denC, E, op1]) (denT_map hdt)) hsat ?_
  intro p E' w' rvs hq hm' hdt' hx
  unfold outS at hq
  split at hq
  · rename_i sas hp
    split at hq
    · rename_i q hsz
      split at hq
      · rename_i hle
        simp only [Bool.and_eq_true, Nat.ble_eq] at hle
        obtain ⟨als', g1, g2, g3⟩ := parseArgs_den hm' hp (denT_map hdt')
        have hq' : evAll E'.env sas = some r := hq
        rw [g1] at hq'; injection hq' with hq'; subst hq'
        refine ⟨rvs, rfl, g2, fun a ha => ?_, hx.bel⟩
        have := g3 q hsz a ha
        have m1 : q.1 * s ≤ A * s := Nat.mul_le_mul_right _ hle.1
        omega
      · exact hq.elim
    · exact hq.elim
  · exact hq.elim
end Go.Proofs.Ytkampmdekonjmaa
