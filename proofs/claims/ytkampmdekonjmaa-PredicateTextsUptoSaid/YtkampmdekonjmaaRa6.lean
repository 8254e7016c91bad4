/- Rational numbers: plain laws. -/
import Derived.Test.YtkampmdekonjmaaRa5
namespace Go.Proofs.Ytkampmdekonjmaa
open Go Go.RowKit Go.V
set_option linter.unusedSimpArgs false
set_option linter.unusedVariables false
set_option maxRecDepth 20000
theorem qsame_can (x y : Rat) : ((decide (x.num < 0) == decide (y.num < 0)) && (decide (lim x.num.natAbs = lim y.num.natAbs) && decide (lim x.den = lim y.den))) = decide (x = y) := by
  by_cases h : x = y
  · subst h; simp
  · rw [decide_eq_false h]
    have hn : ¬ ((decide (x.num < 0) = decide (y.num < 0) ∧ lim x.num.natAbs = lim y.num.natAbs) ∧ lim x.den = lim y.den) := by
      rw [same_can, lim_iff]
      rintro ⟨h1, h2⟩
      exact h (Rat.ext h1 h2)
    cases h1 : (decide (x.num < 0) == decide (y.num < 0))
    · rfl
    · have h1' := eq_of_beq h1
      cases h2 : decide (lim x.num.natAbs = lim y.num.natAbs)
      · rfl
      · cases h3 : decide (lim x.den = lim y.den)
        · rfl
        · exact absurd ⟨⟨h1', of_decide_eq_true h2⟩, of_decide_eq_true h3⟩ hn
theorem qRight_can (x : Rat) : qRight (decide (x.num < 0)) (lim x.num.natAbs) (lim x.den) = true := by
  have hd : x.den ≠ 0 := x.den_nz
  have h1 : iRight false (lim x.den) = true := by
    have := iR_can (x.den : Int)
    have e : decide ((x.den : Int) < 0) = false := decide_eq_false (by omega)
    rw [e] at this
    simpa using this
  unfold qRight
  rw [iR_can, h1, val_lim, val_lim]
  have h2 : Nat.gcd x.num.natAbs x.den = 1 := x.reduced
  have h3 : 0 < (lim x.den).length := lim_ne (by omega)
  rw [decide_eq_true h2, decide_eq_true h3]; rfl
theorem sg_num (x : Rat) : (sg x.num = 0) = (x = 0) := by
  apply propext
  rw [← Rat.num_eq_zero]
  unfold sg
  by_cases h : x.num = 0
  · simp [h]
  · simp only [h, if_false, iff_false]
    split <;> decide
theorem qcmpv_lt {x y : Rat} (h : x < y) : qcmpv x y = -1 := by unfold qcmpv; rw [if_pos h]
theorem qcmpv_gt {x y : Rat} (h : y < x) : qcmpv x y = 1 := by
  unfold qcmpv
  rw [if_neg (fun h' => Rat.lt_irrefl (Std.lt_trans h h')), if_pos h]
theorem qcmpv_eq (x : Rat) : qcmpv x x = 0 := by
  unfold qcmpv
  rw [if_neg Rat.lt_irrefl, if_neg Rat.lt_irrefl]
theorem qtri (x y : Rat) : x < y ∨ x = y ∨ y < x := by
  by_cases h : x < y
  · exact .inl h
  · by_cases h' : y < x
    · exact .inr (.inr h')
    · exact .inr (.inl (Rat.le_antisymm (Rat.not_lt.1 h') (Rat.not_lt.1 h)))
theorem qcmpv_neg (x y : Rat) : IntKind.i64.wrap (0 - qcmpv y x) = qcmpv x y := by
  rcases qtri x y with h | rfl | h
  · rw [qcmpv_lt h, qcmpv_gt h]; decide
  · rw [qcmpv_eq]; decide
  · rw [qcmpv_lt h, qcmpv_gt h]; decide
theorem qsg_pos {x : Rat} (h : 0 < x) : sg x.num = 1 := by
  have : 0 < x.num := by
    have h1 : x.num ≠ 0 := fun e => by rw [Rat.num_eq_zero] at e; subst e; exact Rat.lt_irrefl h
    have h2 : 0 ≤ x.num := Rat.num_nonneg.2 (Rat.le_of_lt h)
    omega
  unfold sg; rw [if_neg (by omega), if_neg (by omega)]
theorem qsg_neg {x : Rat} (h : x < 0) : sg x.num = -1 := by
  have : x.num < 0 := by
    have h2 : ¬ 0 ≤ x.num := fun e => absurd h (Rat.not_lt.2 (Rat.num_nonneg.1 e))
    omega
  unfold sg; rw [if_neg (by omega), if_pos (by omega)]
theorem sg_sub (x y : Rat) : sg (x - y).num = qcmpv x y := by
  rcases qtri x y with h | rfl | h
  · rw [qcmpv_lt h, qsg_neg (by grind)]
  · rw [qcmpv_eq]
    have : x - x = 0 := by grind
    rw [this]; rfl
  · rw [qcmpv_gt h, qsg_pos (by grind)]
theorem qcmpv_add (x y z : Rat) : qcmpv (x + z) (y + z) = qcmpv x y := by
  rcases qtri x y with h | rfl | h
  · rw [qcmpv_lt h, qcmpv_lt (Rat.add_lt_add_right.2 h)]
  · rw [qcmpv_eq, qcmpv_eq]
  · rw [qcmpv_gt h, qcmpv_gt (Rat.add_lt_add_right.2 h)]
theorem mul_lt_neg {x y z : Rat} (hz : z < 0) (h : x < y) : y * z < x * z := by
  have h1 : 0 < -z := by grind
  have h2 := Rat.mul_lt_mul_of_pos_right h h1
  grind
theorem qcmpv_mul (x y z : Rat) : qcmpv (x * z) (y * z) = IntKind.i64.wrap (qcmpv x y * sg z.num) := by
  rcases qtri z 0 with hz | rfl | hz
  · rw [qsg_neg hz]
    rcases qtri x y with h | rfl | h
    · rw [qcmpv_lt h, qcmpv_gt (mul_lt_neg hz h)]; decide
    · rw [qcmpv_eq, qcmpv_eq]; decide
    · rw [qcmpv_gt h, qcmpv_lt (mul_lt_neg hz h)]; decide
  · rw [Rat.mul_zero, Rat.mul_zero, qcmpv_eq]
    have : sg (0 : Rat).num = 0 := rfl
    rw [this, Int.mul_zero]; decide
  · rw [qsg_pos hz]
    rcases qtri x y with h | rfl | h
    · rw [qcmpv_lt h, qcmpv_lt (Rat.mul_lt_mul_of_pos_right h hz)]; decide
    · rw [qcmpv_eq, qcmpv_eq]; decide
    · rw [qcmpv_gt h, qcmpv_gt (Rat.mul_lt_mul_of_pos_right h hz)]; decide
theorem qcmpv_le {x y : Rat} (h : x ≤ y) : qcmpv x y ≤ 0 := by
  rcases qtri x y with h' | rfl | h'
  · rw [qcmpv_lt h']; decide
  · rw [qcmpv_eq]; decide
  · exact absurd h' (Rat.not_lt.2 h)
theorem qv_z1 (z : Int) : qv (decide (z < 0)) (lim z.natAbs) [1] = (z : Rat) := by
  unfold qv
  rw [vz_can]
  have : val [1] = 1 := rfl
  rw [this, Rat.mkRat_one]
theorem qRight_z1 (z : Int) : qRight (decide (z < 0)) (lim z.natAbs) [1] = true := by
  unfold qRight
  rw [iR_can]
  have h1 : iRight false [1] = true := rfl
  have h2 : val [1] = 1 := rfl
  rw [h1, h2, decide_eq_true (Nat.gcd_one_right _)]; rfl
theorem floor_cmp (x : Rat) : qcmpv ((x.floor : Int) : Rat) x ≤ 0 := qcmpv_le (Rat.floor_le x)
theorem floor1_cmp (x : Rat) : 0 < qcmpv (((x.floor : Int) : Rat) + ((1 : Int) : Rat)) x := by
  have h := Rat.lt_floor_add_one x
  rw [Rat.intCast_add] at h
  rw [qcmpv_gt h]; decide
end Go.Proofs.Ytkampmdekonjmaa
