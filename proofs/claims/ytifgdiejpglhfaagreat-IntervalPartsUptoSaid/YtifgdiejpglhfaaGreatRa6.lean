/- Rational numbers: plain laws. -/
import Derived.Test.YtifgdiejpglhfaaGreatRa5
namespace Go.Proofs.YtifgdiejpglhfaaGreat
open Go Go.RowKit Go.V
set_option linter.unusedSimpArgs false
set_option linter.unusedVariables false
set_option maxRecDepth 20000
theorem qsame_can (x y : Rat) : ((decide (x.num < 0) == decide (y.num < 0)) && (decide (lim x.num.natAbs = lim y.num.natAbs) && decide (lim x.den = lim y.den))) = decide (x = y) := by
  by_cases h : x = y
  · subst h; simp
  · rw [decide_eq_false h]
    have hn : ¬ ((decide (x.num < 0) = decide (y.num < 0) ∧ lim x.num.natAbs = lim y.num.natAbs) ∧ lim x.den = lim y.den) := by
      rw [same_can, lim_iff]
      rintro ⟨h1, h2⟩
      exact h (Rat.ext h1 h2)
    cases h1 : (decide (x.num < 0) == decide (y.num < 0))
    · rfl
    · have h1' := eq_of_beq h1
      cases h2 : decide (lim x.num.natAbs = lim y.num.natAbs)
      · rfl
      · cases h3 : decide (lim x.den = lim y.den)
        · rfl
        · exact absurd ⟨⟨h1', of_decide_eq_true h2⟩, of_decide_eq_true h3⟩ hn
theorem qRight_can (x : Rat) : qRight (decide (x.num < 0)) (lim x.num.natAbs) (lim x.den) = true := by
  have hd : x.den ≠ 0 := x.den_nz
  have h1 : iRight false (lim x.den) = true := by
    have := iR_can (x.den : Int)
    have e : decide ((x.den : Int) < 0) = false := decide_eq_false (by omega)
    rw [e] at this
    simpa using this
  unfold qRight
  rw [iR_can, h1, val_lim, val_lim]
  have h2 : Nat.gcd x.num.natAbs x.den = 1 := x.reduced
  have h3 : 0 < (lim x.den).length := lim_ne (by omega)
  rw [decide_eq_true h2, decide_eq_true h3]; rfl
theorem qcmpv_lt {x y : Rat} (h : x < y) : qcmpv x y = -1 := by unfold qcmpv; rw [if_pos h]
theorem qcmpv_gt {x y : Rat} (h : y < x) : qcmpv x y = 1 := by
  unfold qcmpv
  rw [if_neg (fun h' => Rat.lt_irrefl (Std.lt_trans h h')), if_pos h]
theorem qcmpv_eq (x : Rat) : qcmpv x x = 0 := by
  unfold qcmpv
  rw [if_neg Rat.lt_irrefl, if_neg Rat.lt_irrefl]
theorem qtri (x y : Rat) : x < y ∨ x = y ∨ y < x := by
  by_cases h : x < y
  · exact .inl h
  · by_cases h' : y < x
    · exact .inr (.inr h')
    · exact .inr (.inl (Rat.le_antisymm (Rat.not_lt.1 h') (Rat.not_lt.1 h)))
theorem qsg_pos {x : Rat} (h : 0 < x) : sg x.num = 1 := by
  have : 0 < x.num := by
    have h1 : x.num ≠ 0 := fun e => by rw [Rat.num_eq_zero] at e; subst e; exact Rat.lt_irrefl h
    have h2 : 0 ≤ x.num := Rat.num_nonneg.2 (Rat.le_of_lt h)
    omega
  unfold sg; rw [if_neg (by omega), if_neg (by omega)]
theorem qsg_neg {x : Rat} (h : x < 0) : sg x.num = -1 := by
  have : x.num < 0 := by
    have h2 : ¬ 0 ≤ x.num := fun e => absurd h (Rat.not_lt.2 (Rat.num_nonneg.1 e))
    omega
  unfold sg; rw [if_neg (by omega), if_pos (by omega)]
end Go.Proofs.YtifgdiejpglhfaaGreat
