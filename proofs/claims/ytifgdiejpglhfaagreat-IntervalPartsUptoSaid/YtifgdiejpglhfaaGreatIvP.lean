/- Intervals: plain laws. -/
import Derived.Test.YtifgdiejpglhfaaGreatIv1
namespace Go.Proofs.YtifgdiejpglhfaaGreat
open Go Go.RowKit Go.V
set_option linter.unusedSimpArgs false
set_option linter.unusedVariables false
set_option maxRecDepth 20000
/-- the squares -/
def sq1 (a b : Rat) : Rat := if a ≤ 0 ∧ 0 ≤ b then 0 else rmin (a * a) (b * b)
def sq2 (a b : Rat) : Rat := rmax (a * a) (b * b)

/-- the grid -/
def ceilq (x : Rat) : Int := -(-x).floor
def flq (x t : Rat) : Rat := ((x * t).floor : Rat) / t
def clq (x t : Rat) : Rat := (ceilq (x * t) : Rat) / t
/-- two to a power -/
def tw (k : Int) : Nat := 2 ^ k.toNat
def scq (x : Rat) (k : Int) : Rat := x * ((tw k : Int) : Rat)
theorem tw_pos (k : Int) : 0 < tw k := Nat.pow_pos (by decide)
/-- the root, rounded down, and whether it was -/
def rtl (x : Rat) (k : Int) : Int := if x ≤ 0 then 0 else (isq (scq x (2 * k)).floor.natAbs : Nat)
def rtu (x : Rat) (k : Int) : Bool := if x ≤ 0 then false else (!decide (((scq x (2 * k)).floor : Rat) = scq x (2 * k))) || decide (0 < (scq x (2 * k)).floor.natAbs - isq (scq x (2 * k)).floor.natAbs * isq (scq x (2 * k)).floor.natAbs)
theorem twq_pos (k : Int) : (0 : Rat) < ((tw k : Int) : Rat) := by
  have : ((0 : Int) : Rat) < ((tw k : Int) : Rat) := Rat.intCast_lt_intCast.2 (by have := tw_pos k; omega)
  exact this
theorem floor_abs {y : Rat} (h : 0 ≤ y) : ((y.floor.natAbs : Nat) : Int) = y.floor := by
  have : 0 ≤ y.floor := Rat.le_floor_iff.2 h
  omega
theorem up_eq {y : Rat} (h : 0 ≤ y) : ((!decide ((y.floor : Rat) = y)) || decide (0 < y.floor.natAbs - isq y.floor.natAbs * isq y.floor.natAbs)) = decide ((((isq y.floor.natAbs : Int) * (isq y.floor.natAbs : Int) : Int) : Rat) < y) := by
  have h1 := (isq_spec y.floor.natAbs).1
  have h2 := floor_abs h
  have h3 := Rat.floor_le y
  generalize hn : y.floor.natAbs = n at *
  generalize isq n = r at *
  have h4 : ((r : Int) * (r : Int)) ≤ y.floor := by rw [← h2]; exact_mod_cast h1
  have h5 := Rat.intCast_le_intCast.2 h4
  by_cases he : (y.floor : Rat) = y
  · simp only [he, decide_true, Bool.not_true, Bool.false_or]
    congr 1
    apply propext
    rw [← he, Rat.intCast_lt_intCast, ← h2]
    constructor
    · intro h; have : r * r < n := by omega
      exact_mod_cast this
    · intro h
      have : r * r < n := by exact_mod_cast h
      omega
  · have hl : (y.floor : Rat) < y := Rat.lt_of_le_of_ne h3 he
    have : (((r : Int) * (r : Int) : Int) : Rat) < y := Std.lt_of_le_of_lt h5 hl
    simp only [he, decide_false, Bool.not_false, Bool.true_or, this, decide_true]
theorem scq_nonneg {x : Rat} (h : 0 ≤ x) (k : Int) : 0 ≤ scq x k := Rat.mul_nonneg h (Rat.le_of_lt (twq_pos k))
theorem num_div (x : Rat) : x = (x.num : Rat) / ((x.den : Nat) : Rat) := by
  have := Rat.mkRat_self x
  rw [Rat.mkRat_eq_div] at this
  exact this.symm
theorem scq_mk (x : Rat) (t : Nat) : x * ((t : Int) : Rat) = mkRat (x.num * (t : Int)) x.den := by
  rw [Rat.mkRat_eq_div, Rat.intCast_mul]
  have h1 := num_div x
  conv => lhs; rw [h1]
  grind
theorem qq_floor (x : Rat) (t : Nat) : qq (x.num * (t : Int)) (x.den : Int) = (x * ((t : Int) : Rat)).floor := by
  have hd : (x.den : Int) ≠ 0 := by have := x.den_nz; omega
  unfold qq
  rw [if_neg hd, scq_mk, floor_mk x.den_nz]
theorem rr_floor (x : Rat) (t : Nat) : (rr (x.num * (t : Int)) (x.den : Int) = 0) = (((x * ((t : Int) : Rat)).floor : Rat) = x * ((t : Int) : Rat)) := by
  have hd : (x.den : Int) ≠ 0 := by have := x.den_nz; omega
  have hdq : ((x.den : Nat) : Rat) ≠ 0 := by
    intro e
    have : ((x.den : Nat) : Rat) = ((0 : Nat) : Rat) := e
    rw [Rat.natCast_inj] at this
    exact x.den_nz this
  rw [← qq_floor, scq_mk]
  unfold qq rr
  rw [if_neg hd, if_neg hd, Rat.mkRat_eq_div]
  generalize x.num * (t : Int) = A
  have h0 := Int.mul_ediv_add_emod A (x.den : Int)
  apply propext
  constructor
  · intro h
    rw [h, Int.add_zero] at h0
    have h1 : ((A : Int) : Rat) = ((x.den : Int) : Rat) * ((A / (x.den : Int) : Int) : Rat) := by rw [← Rat.intCast_mul, h0]
    have h2 : (((x.den : Nat) : Int) : Rat) = ((x.den : Nat) : Rat) := rfl
    grind
  · intro h
    have h1 : ((A : Int) : Rat) = ((x.den : Int) : Rat) * ((A / (x.den : Int) : Int) : Rat) := by
      have h2 : (((x.den : Nat) : Int) : Rat) = ((x.den : Nat) : Rat) := rfl
      rw [h]; grind
    rw [← Rat.intCast_mul, Rat.intCast_inj] at h1
    omega
theorem ceil_up (x : Rat) : -(-x).floor = if (!decide ((x.floor : Rat) = x)) = true then x.floor + 1 else x.floor := by
  have h1 := Rat.floor_le x
  have h2 := Rat.lt_floor_add_one x
  have h3 := Rat.floor_le (-x)
  have h4 := Rat.lt_floor_add_one (-x)
  rw [Rat.intCast_add] at h2 h4
  have e1 : ((1 : Int) : Rat) = 1 := rfl
  rw [e1] at h2 h4
  by_cases h : (x.floor : Rat) = x
  · simp [h]
    have a1 : ((-x).floor : Int) ≤ - x.floor := by
      rw [← Rat.intCast_le_intCast, Rat.intCast_neg]; grind
    have a2 : - x.floor < (-x).floor + 1 := by
      rw [← Rat.intCast_lt_intCast, Rat.intCast_neg, Rat.intCast_add, e1]; grind
    omega
  · simp [h]
    have h5 : (x.floor : Rat) < x := Rat.lt_of_le_of_ne h1 h
    have a1 : ((-x).floor : Int) < - x.floor := by
      rw [← Rat.intCast_lt_intCast, Rat.intCast_neg]; grind
    have a2 : - x.floor < (-x).floor + 1 + 1 := by
      rw [← Rat.intCast_lt_intCast, Rat.intCast_neg, Rat.intCast_add, Rat.intCast_add, e1]; grind
    omega
end Go.Proofs.YtifgdiejpglhfaaGreat
