/- Symbolic evaluation: a region in which several operations may come up, and blocks that were there before are written. -/
import Derived.Test.YtkampmdekonjmaaEvX
namespace Go.Proofs.Ytkampmdekonjmaa
open Go Go.RowKit Go.V
set_option linter.unusedSimpArgs false
set_option linter.unusedVariables false

section
variable {P : Program} {n : Nat} {md : Region.Mode} {ops : Array Oper} {R : World → World → Prop} (hR : PreO R)
def walkTX (P : Program) (ops : Array Oper) (R : World → World → Prop) : Pl → G → World → (G → World → Prop) → Prop
  | .done, g, w, K => K g w
  | .li i r, g, w, K => match ops[i]? with
    | none => False
    | some o => (Region.wanted o (yG ops g) = true → ∀ w', R w w' → lokO P w' (evG g) o.type o.op ∧ lvO P w' (evG g) o.type o.op = lvO P w (evG g) o.type o.op) ∧
        walkTX P ops R r (updO g o.dst (if Region.wanted o (yG ops g) = true then lvO P w (evG g) o.type o.op else undef)) w K
  | .hv i r, g, w, K => hvI P ops ops[i]? 1 (fun g' w' => R w w' ∧ walkTX P ops R r g' w' K) g w
  | .fork i r o, g, w, K => hvI P ops ops[i]? 1 (fun g' w' => R w w' ∧ walkTX P ops R r g' w' K) g w ∧ walkTX P ops R o g w K
theorem hvXT_step (hok : opsOk n ops = true) {i fuel : Nat} {r : Pl} {K : G → World → Prop} {Q : Act → World → Prop} {g : G} {a : Act} {w : World} {listed : Array Bool} (hr : Rel n g a)
    (h : hvI P ops ops[i]? 1 (fun g' w' => R w w' ∧ walkTX P ops R r g' w' K) g w)
    (next : ∀ g' a' w', Rel n g' a' → walkTX P ops R r g' w' K → anyX P md ops R Q fuel (listed.setIfInBounds i true) a' w') :
    opX P ops R i (anyX P md ops R Q fuel (listed.setIfInBounds i true)) a w := by
  unfold opX
  cases ho : ops[i]? with
  | none => simp [ho, hvI] at h
  | some o =>
    simp only [ho, hvI_some, hvX] at h
    simp only []
    have hd := (opsOk_at hok ho).2.1
    rw [wanted_G hr hok o]
    split
    · rename_i hw
      rw [if_pos hw] at h
      unfold hwp at h ⊢
      rw [execOp_G hr hok ho]
      exact hwp_mono (K := fun v w' => (1 = 0 → Below w.heap.size w w') ∧ R w w' ∧ walkTX P ops R r (updO g o.dst v) w' K) (fun v w' ⟨_, h1, h2⟩ => ⟨h1, next _ _ _ (hr.put o.dst hd v) h2⟩) h
    · rename_i hw
      rw [if_neg hw] at h
      exact next _ _ _ (hr.put o.dst hd _) h.2
include hR
theorem anyX_of_walkTX (hok : opsOk n ops = true) {K : G → World → Prop} {Q : Act → World → Prop} (hQ : ∀ g a w, Rel n g a → K g w → Q a w) :
    ∀ (p : Pl) (x : Option (List Nat)) (listed : Array Bool) (g : G) (a : Act) (w : World), canT md ops p listed x = true → Rel n g a → walkTX P ops R p g w K →
      (x = none → anyX P md ops R Q p.len listed a w) ∧ (∀ l f, x = some l → p.len = f + 1 → ∀ i ∈ l, opX P ops R i (anyX P md ops R Q f (listed.setIfInBounds i true)) a w)
  | .done, none, listed, g, a, w, hB, hr, h => ⟨fun _ => ⟨by simpa [canT] using hB, hQ _ _ _ hr h⟩, fun l f e => by cases e⟩
  | .done, some _, _, _, _, _, hB, _, _ => by simp [canT] at hB
  | .li _ _, some _, _, _, _, _, hB, _, _ => by simp [canT] at hB
  | .li i r, none, listed, g, a, w, hB, hr, h => by
    refine ⟨fun _ => ?_, fun l f e => by cases e⟩
    simp only [canT, Bool.and_eq_true] at hB
    obtain ⟨⟨hrd, hf⟩, hB'⟩ := hB
    simp only [walkTX] at h
    cases ho : ops[i]? with
    | none => simp [ho] at h
    | some o =>
      simp only [ho] at h
      obtain ⟨h1, h2⟩ := h
      have hd := (opsOk_at hok ho).2.1
      obtain ⟨f1, f2⟩ := freeB_spec ho hf
      refine anyX_first hR (v := if Region.wanted o (yG ops g) = true then lvO P w (evG g) o.type o.op else undef) ho (fun j o cs b hj => (opsOk_at hok hj).2.2 cs b) _ r.len listed a w f1 f2 (by simpa using hrd) ?_ ((anyX_of_walkTX hok hQ r none _ _ _ w hB' (hr.put o.dst hd _) h2).1 rfl)
      unfold YieldsX
      rw [wanted_G hr hok o, execOp_G hr hok ho]
      cases hw : Region.wanted o (yG ops g)
      · exact .inr ⟨rfl, by simp⟩
      · refine .inl ⟨rfl, fun w' hw' => ?_⟩
        obtain ⟨h3, h4⟩ := h1 hw w' hw'
        rw [if_pos rfl, ← h4]
        exact lok_exec h3
  | .hv i r, x, listed, g, a, w, hB, hr, h => by
    simp only [canT, Bool.and_eq_true, beq_iff_eq] at hB
    obtain ⟨hrd, hB'⟩ := hB
    have key : opX P ops R i (anyX P md ops R Q r.len (listed.setIfInBounds i true)) a w :=
      hvXT_step hok hr h (fun g' a' w' hr' hw' => (anyX_of_walkTX hok hQ r none _ g' a' w' hB' hr' hw').1 rfl)
    refine ⟨fun e => ?_, fun l f e hf j hj => ?_⟩
    · subst e
      have hrd' : Region.ready md ops listed = [i] := hrd
      refine ⟨fun h0 => (by rw [hrd'] at h0; cases h0), fun j hj => ?_⟩
      rw [hrd'] at hj
      have hji : j = i := by simpa using hj
      subst hji
      exact key
    · subst e
      have hrd' : l = [i] := hrd
      rw [hrd'] at hj
      have hji : j = i := by simpa using hj
      subst hji
      have : f = r.len := by simp [Pl.len] at hf; omega
      rw [this]; exact key
  | .fork i r o, x, listed, g, a, w, hB, hr, h => by
    simp only [canT] at hB
    split at hB
    · rename_i j0 rest hrd
      simp only [Bool.and_eq_true, beq_iff_eq] at hB
      obtain ⟨⟨⟨hji, hB'⟩, hBo⟩, hlen⟩ := hB
      subst hji
      have key : opX P ops R j0 (anyX P md ops R Q r.len (listed.setIfInBounds j0 true)) a w :=
        hvXT_step hok hr h.1 (fun g' a' w' hr' hw' => (anyX_of_walkTX hok hQ r none _ g' a' w' hB' hr' hw').1 rfl)
      have others := (anyX_of_walkTX hok hQ o (some rest) listed g a w hBo hr h.2).2 rest r.len rfl hlen
      refine ⟨fun e => ?_, fun l f e hf j hj => ?_⟩
      · subst e
        have hrd' : Region.ready md ops listed = j0 :: rest := hrd
        refine ⟨fun h0 => (by rw [hrd'] at h0; cases h0), fun j hj => ?_⟩
        rw [hrd'] at hj
        rcases List.mem_cons.1 hj with rfl | hj
        · exact key
        · exact others j hj
      · subst e
        have hrd' : l = j0 :: rest := hrd
        rw [hrd'] at hj
        have : f = r.len := by simp [Pl.len] at hf; omega
        rw [this]
        rcases List.mem_cons.1 hj with rfl | hj
        · exact key
        · exact others j hj
    · cases hB
theorem W_drawTX (p : Pl) {id : Nat} {Q : Exit → G → World → Prop} {g : G} {w : World} (hm : P.follows .mixedOrders = true) (hB : drawOkT n ops p = true)
    (h : ∀ K : G → World → Prop, (∀ g w, Q .normal g w → K g w) → walkTX P ops R p g w.drew K) : W P n (.region id ops true) Q g w := by
  simp only [drawOkT, Bool.and_eq_true, beq_iff_eq] at hB
  obtain ⟨⟨hok, hl⟩, hB⟩ := hB
  intro a hr
  refine wp_region_any hm ?_
  have hw := h _ (fun _ _ h => h)
  have hany := (anyX_of_walkTX hR hok (Q := fun a w => ∃ g', Rel n g' a ∧ Q .normal g' w) (fun g a w hr hk => ⟨g, hr, hk⟩) p none _ g a _ hB hr hw).1 rfl
  rw [hl] at hany
  exact wpAny_of_anyX (fun a w h => h) _ _ _ _ hany
end
section
variable {P : Program} {Γ : Gam} {s L : Nat} {call : Nat → List SV → SS → Tr (List S1 × SS)} (hΓ : GamOk P Γ) (hs : s ≤ L) (hcall : CallOk P Γ s call)
variable {ops : Array Oper}
include hΓ hs hcall
def TSX (P : Program) (Γ : Gam) (s L : Nat) (call : Nat → List SV → SS → Tr (List S1 × SS)) (ops : Array Oper) (lo l0 so B m : Nat) (X : List Nat) (bs : Nat → Prop) (E0 : En) (h0 : List (Option (List SC))) (Q : SS → Ev → Prop) (K : G → World → Prop) (p : Pl) : Prop :=
  ∀ (S : SS) (E : En) (g : G) (w : World), E0.Le E → SatG E S.g g → SatM s E S.h S.sz w → (∀ w', RX (fun k => bs k ∨ m ≤ k) w w' → SatB E h0 w') → (∀ b β, E.bl b = some β → lo ≤ b → B ≤ β) → B ≤ w.heap.size → (∀ b β, E.bl b = some β → l0 ≤ b → m ≤ β) → m ≤ w.heap.size → (evTX P Γ L call ops lo l0 so X h0 p S).sat Γ Q E.env →
    (∀ S' E' g' w', Q S' E'.env → SatG E' S'.g g' → SatM s E' S'.h S'.sz w' → Ext B E w E' w' → K g' w') → walkTX P ops (RX (fun k => bs k ∨ m ≤ k)) p g w K
variable {lo l0 so B m : Nat} {X : List Nat} {bs : Nat → Prop} {E0 : En} {h0 : List (Option (List SC))} {Q : SS → Ev → Prop} {K : G → World → Prop}
theorem evTX_hv (hbs : ∀ k, bs k ↔ ∃ b, memN X b = true ∧ E0.bl b = some k) (hX : ∀ b, memN X b = true → ∃ k, E0.bl b = some k) {i : Nat} {r : Pl} (ih : TSX P Γ s L call ops lo l0 so B m X bs E0 h0 Q K r) : TSX P Γ s L call ops lo l0 so B m X bs E0 h0 Q K (.hv i r) := by
  intro S E g w hle HG HM HB Fr hB Fm hm hsat himp
  simp only [evTX] at hsat
  split at hsat
  · exact hsat.elim
  · rename_i o ho
    rw [sat_bind] at hsat
    simp only [walkTX, ho, hvI_some]
    unfold stepXT at hsat
    obtain ⟨S1, HG1, e1, e2, h1⟩ := force_sound HG HM.o hsat
    have HM1 : SatM s E S1.h S1.sz w := by rw [e1, e2]; exact HM
    split at h1
    · rename_i hw
      have hw' := wantS_eq HG1 hw
      refine hv_skip hw' ⟨(RX.preO _).refl w, ?_⟩
      exact ih _ E _ w hle (HG1.und o.dst) (by rw [put_h, put_sz]; exact HM1) HB Fr hB Fm hm h1 himp
    · rename_i hw
      have hw' := wantS_eq HG1 hw
      split at h1
      · rename_i hst
        refine heavy_sound hΓ hs hcall HG1 HM1 Fr hB hw' (fun e => by cases e) h1 ?_
        intro S' E' g' w' hq hg hm' hx hsi
        have hx' := ext_weak hB hx
        have hRX : RX (fun k => bs k ∨ m ≤ k) w w' := by
          cases hs' : isStore o.op with
          | false => rw [hs'] at hx; exact RX.of_below hx.bel
          | true =>
            obtain ⟨t, x, y, b, off, β, h3, h4, h5, h6⟩ := hsi hs'
            refine RX.of_sto h6 ?_
            unfold storeInT at hst
            rw [h3] at hst
            have h4' : one? (opnd S1.g x) = some (.ptr b off) := h4
            simp only [h4', Bool.or_eq_true, Nat.ble_eq] at hst
            rcases hst with hst | hst
            · refine .inl ((hbs β).2 ⟨b, hst, ?_⟩)
              obtain ⟨k', hk'⟩ := hX b hst
              have := hle.bl b k' hk'
              rw [h5] at this
              injection this with this
              rw [hk', this]
            · exact .inr (Fm b β h5 hst)
        exact ⟨hRX, ih S' E' g' w' (hle.trans hx.le) hg hm' (fun w2 h2 => SatB.le (HB w2 ((RX.preO _).trans hRX h2)) hx.le) (Fr_ext Fr hB hx) (Nat.le_trans hB hx.bel.size) (Fr_ext Fm hm hx) (Nat.le_trans hm hx.bel.size) hq (fun S2 E2 g2 w2 q1 q2 q3 q4 => himp S2 E2 g2 w2 q1 q2 q3 (hx'.trans q4))⟩
      · exact h1.elim
    · exact h1.elim
theorem evTX_sound (hbs : ∀ k, bs k ↔ ∃ b, memN X b = true ∧ E0.bl b = some k) (hX : ∀ b, memN X b = true → ∃ k, E0.bl b = some k) (p : Pl) : TSX P Γ s L call ops lo l0 so B m X bs E0 h0 Q K p := by
  induction p with
  | done =>
    intro S E g w hle HG HM HB Fr hB Fm hm hsat himp
    exact himp S E g w hsat HG HM (Ext.refl _ _ _)
  | li i r ih =>
    intro S E g w hle HG HM HB Fr hB Fm hm hsat himp
    simp only [evTX] at hsat
    split at hsat
    · exact hsat.elim
    · rename_i o ho
      rw [sat_bind] at hsat
      simp only [walkTX, ho]
      unfold stepS at hsat
      obtain ⟨S1, HG1, e1, e2, h1⟩ := force_sound HG HM.o hsat
      rw [wantO_eq]
      split at h1
      · rename_i hw
        have hw' := wantS_eq HG1 hw
        refine ⟨fun h => (by rw [hw'] at h; cases h), ?_⟩
        rw [hw', if_neg (by decide)]
        exact ih _ E _ w hle (HG1.und o.dst) (by rw [put_h, put_sz, e1, e2]; exact HM) HB Fr hB Fm hm h1 himp
      · rename_i hw
        have hw' := wantS_eq HG1 hw
        rw [if_pos rfl] at h1
        obtain ⟨S2, HG2, e3, e4, h2⟩ := force_sound HG1 (by rw [e2]; exact HM.o) h1
        split at h2
        · rename_i v hv
          have HM2 : SatM s E S2.h S2.sz w := by rw [e3, e4, e1, e2]; exact HM
          have key : ∀ w', RX (fun k => bs k ∨ m ≤ k) w w' → lokO P w' (evG g) o.type o.op ∧ denV E v = some (lvO P w' (evG g) o.type o.op) := fun w' hw2 =>
            light_den (S := { S2 with h := h0 }) HG2 HM2.o (HB w' hw2) hv
          have k0 := key w ((RX.preO _).refl w)
          refine ⟨fun _ w' hw2 => ?_, ?_⟩
          · obtain ⟨k1, k2⟩ := key w' hw2
            refine ⟨k1, ?_⟩
            have := k2.symm.trans k0.2
            injection this
          · rw [hw', if_pos rfl]
            exact ih _ E _ w hle (HG2.put o.dst k0.2) (by rw [put_h, put_sz]; exact HM2) HB Fr hB Fm hm h2 himp
        · exact h2.elim
      · exact h1.elim
  | hv i r ih => exact evTX_hv hΓ hs hcall hbs hX ih
  | fork i r q ih1 ih2 =>
    intro S E g w hle HG HM HB Fr hB Fm hm hsat himp
    have hsat' : (evTX P Γ L call ops lo l0 so X h0 (.hv i r) S).sat Γ Q E.env ∧ (evTX P Γ L call ops lo l0 so X h0 q S).sat Γ Q E.env := by
      simp only [evTX] at hsat ⊢
      split at hsat
      · exact hsat.elim
      · rename_i o ho
        split at hsat
        · rename_i he
          exact ⟨hsat, treqU_sat he _ hsat⟩
        · exact hsat.elim
    have h1 := evTX_hv hΓ hs hcall hbs hX ih1 S E g w hle HG HM HB Fr hB Fm hm hsat'.1 himp
    have h2 := ih2 S E g w hle HG HM HB Fr hB Fm hm hsat'.2 himp
    simp only [walkTX] at h1 ⊢
    exact ⟨h1, h2⟩
end
end Go.Proofs.Ytkampmdekonjmaa
