/- Rational numbers: Right. -/
import Derived.Test.YtnfchljiicniiaaRa4
namespace Go.Proofs.Ytnfchljiicniiaa
open Go Go.RowKit Go.V
set_option linter.unusedSimpArgs false
set_option linter.unusedVariables false
set_option maxRecDepth 20000

theorem qbx {w : World} {b n c n' c' : Nat} {t : TypeId} {a a' : Option Addr} {neg : Bool} (h : Bx w b #[.bool neg, .slice a n c, .slice a' n' c'] t) : w.cell? ⟨b, 0, none⟩ = some (.bool neg) ∧ w.cell? ⟨b, 1, none⟩ = some (.slice a n c) ∧ w.cell? ⟨b, 2, none⟩ = some (.slice a' n' c') := ⟨h.cell 0, h.cell 1, h.cell 2⟩
theorem nil_val {m : List Nat} (h : m.length = 0) : val m = 0 := by rw [List.length_eq_zero_iff.1 h]; rfl
theorem isOne_iff {m : List Nat} : isOne m = true ↔ m = [1] := by unfold isOne; simp
theorem ok_rb {P : Program} {f L : Nat} {g : Bool → List Nat → List Nat → Bool}
    (h : ∀ neg l m a b c d w, RD w a c l → RD w b d m → l.length ≤ L → m.length ≤ L → Calls P f #[.agg #[.bool neg, .slice a l.length c, .slice b m.length d]] w fun e w' => e = .returned (.bool (g neg l m)) ∧ Below w.heap.size w w')
    {F : List At → Option (List At)} (hF : ∀ als r, F als = some r → ∃ a l m, als = [.r a l m] ∧ r = [.b (g a l m)]) : Ct.ok P f { args := [[.r]], res := [[.b]], F := F, L := L, A := 0, B := 0 } := by
  intro s w vs als r hs hr hsz hFF
  obtain ⟨v, rfl, h1⟩ := vs1 hr
  obtain ⟨neg, l, m, a, c, b, d, rfl, rfl, r1, r2⟩ := repV_r.1 h1
  obtain ⟨_, _, _, e1, rfl⟩ := hF _ _ hFF
  simp at e1
  obtain ⟨rfl, rfl, rfl⟩ := e1
  have s1 : max l.length m.length ≤ s := hsz (.r neg l m) (by simp)
  have hs2 : s ≤ L := hs
  refine (h neg l m a b c d w r1 r2 (by omega) (by omega)).mono ?_
  rintro e w' ⟨he, hE⟩
  exact ret1 rfl he (repV_b.2 ⟨_, rfl, rfl⟩) (fun x hx => by simp at hx; subst hx; simp [At.sz]) hE
end Go.Proofs.Ytnfchljiicniiaa
