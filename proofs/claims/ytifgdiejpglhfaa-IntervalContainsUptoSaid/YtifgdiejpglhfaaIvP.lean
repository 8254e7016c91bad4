/- Intervals: plain laws. -/
import Derived.Test.YtifgdiejpglhfaaIv1
namespace Go.Proofs.Ytifgdiejpglhfaa
open Go Go.RowKit Go.V
set_option linter.unusedSimpArgs false
set_option linter.unusedVariables false
set_option maxRecDepth 20000
theorem rmin_le1 (x y : Rat) : rmin x y ≤ x := by unfold rmin; split <;> grind
theorem rmin_le2 (x y : Rat) : rmin x y ≤ y := by unfold rmin; split <;> grind
theorem le_rmax1 (x y : Rat) : x ≤ rmax x y := by unfold rmax; split <;> grind
theorem le_rmax2 (x y : Rat) : y ≤ rmax x y := by unfold rmax; split <;> grind
theorem le_rmin {x y z : Rat} (h1 : z ≤ x) (h2 : z ≤ y) : z ≤ rmin x y := by unfold rmin; split <;> assumption
theorem rmax_le {x y z : Rat} (h1 : x ≤ z) (h2 : y ≤ z) : rmax x y ≤ z := by unfold rmax; split <;> assumption
theorem rmul_mono {x y z : Rat} (hz : 0 ≤ z) (h : x ≤ y) : x * z ≤ y * z := Rat.mul_le_mul_of_nonneg_right h hz
theorem rmul_anti {x y z : Rat} (hz : z ≤ 0) (h : x ≤ y) : y * z ≤ x * z := by
  have h1 : 0 ≤ -z := by grind
  have := rmul_mono h1 h
  grind
/-- a product lies between those of the ends -/
theorem lin_lo {p p1 p2 q m : Rat} (h1 : p1 ≤ p) (h2 : p ≤ p2) (m1 : m ≤ p1 * q) (m2 : m ≤ p2 * q) : m ≤ p * q := by
  rcases Rat.le_total (a := 0) (b := q) with hq | hq
  · exact Rat.le_trans m1 (rmul_mono hq h1)
  · exact Rat.le_trans m2 (rmul_anti hq h2)
theorem lin_hi {p p1 p2 q m : Rat} (h1 : p1 ≤ p) (h2 : p ≤ p2) (m1 : p1 * q ≤ m) (m2 : p2 * q ≤ m) : p * q ≤ m := by
  rcases Rat.le_total (a := 0) (b := q) with hq | hq
  · exact Rat.le_trans (rmul_mono hq h2) m2
  · exact Rat.le_trans (rmul_anti hq h1) m1
theorem ivm1_le (a b c d : Rat) : ivm1 a b c d ≤ a * c ∧ ivm1 a b c d ≤ a * d ∧ ivm1 a b c d ≤ b * c ∧ ivm1 a b c d ≤ b * d := by
  unfold ivm1
  have h1 := rmin_le1 (rmin (rmin (a * c) (a * d)) (b * c)) (b * d)
  have h2 := rmin_le2 (rmin (rmin (a * c) (a * d)) (b * c)) (b * d)
  have h3 := rmin_le1 (rmin (a * c) (a * d)) (b * c)
  have h4 := rmin_le2 (rmin (a * c) (a * d)) (b * c)
  have h5 := rmin_le1 (a * c) (a * d)
  have h6 := rmin_le2 (a * c) (a * d)
  exact ⟨Rat.le_trans h1 (Rat.le_trans h3 h5), Rat.le_trans h1 (Rat.le_trans h3 h6), Rat.le_trans h1 h4, h2⟩
theorem le_ivm2 (a b c d : Rat) : a * c ≤ ivm2 a b c d ∧ a * d ≤ ivm2 a b c d ∧ b * c ≤ ivm2 a b c d ∧ b * d ≤ ivm2 a b c d := by
  unfold ivm2
  have h1 := le_rmax1 (rmax (rmax (a * c) (a * d)) (b * c)) (b * d)
  have h2 := le_rmax2 (rmax (rmax (a * c) (a * d)) (b * c)) (b * d)
  have h3 := le_rmax1 (rmax (a * c) (a * d)) (b * c)
  have h4 := le_rmax2 (rmax (a * c) (a * d)) (b * c)
  have h5 := le_rmax1 (a * c) (a * d)
  have h6 := le_rmax2 (a * c) (a * d)
  exact ⟨Rat.le_trans h5 (Rat.le_trans h3 h1), Rat.le_trans h6 (Rat.le_trans h3 h1), Rat.le_trans h4 h1, h2⟩
theorem ivm_has {a b c d p q : Rat} (h1 : a ≤ p) (h2 : p ≤ b) (h3 : c ≤ q) (h4 : q ≤ d) : ivm1 a b c d ≤ p * q ∧ p * q ≤ ivm2 a b c d := by
  obtain ⟨u1, u2, u3, u4⟩ := ivm1_le a b c d
  obtain ⟨v1, v2, v3, v4⟩ := le_ivm2 a b c d
  have e : ∀ x y : Rat, x * y = y * x := Rat.mul_comm
  refine ⟨lin_lo h1 h2 ?_ ?_, lin_hi h1 h2 ?_ ?_⟩
  · rw [e]; exact lin_lo h3 h4 (by rw [e]; exact u1) (by rw [e]; exact u2)
  · rw [e]; exact lin_lo h3 h4 (by rw [e]; exact u3) (by rw [e]; exact u4)
  · rw [e]; exact lin_hi h3 h4 (by rw [e]; exact v1) (by rw [e]; exact v2)
  · rw [e]; exact lin_hi h3 h4 (by rw [e]; exact v3) (by rw [e]; exact v4)
/-- a part's products -/
theorem ivm_part {a b c d a' b' c' d' : Rat} (h1 : a' ≤ a) (h0 : a ≤ b) (h2 : b ≤ b') (h3 : c' ≤ c) (h5 : c ≤ d) (h4 : d ≤ d') : ivm1 a' b' c' d' ≤ ivm1 a b c d ∧ ivm2 a b c d ≤ ivm2 a' b' c' d' := by
  have k1 := ivm_has (p := a) (q := c) h1 (Rat.le_trans h0 h2) h3 (Rat.le_trans h5 h4)
  have k2 := ivm_has (p := a) (q := d) h1 (Rat.le_trans h0 h2) (Rat.le_trans h3 h5) h4
  have k3 := ivm_has (p := b) (q := c) (Rat.le_trans h1 h0) h2 h3 (Rat.le_trans h5 h4)
  have k4 := ivm_has (p := b) (q := d) (Rat.le_trans h1 h0) h2 (Rat.le_trans h3 h5) h4
  generalize hm : ivm1 a' b' c' d' = m at *
  generalize hn : ivm2 a' b' c' d' = n at *
  unfold ivm1 ivm2
  exact ⟨le_rmin (le_rmin (le_rmin k1.1 k2.1) k3.1) k4.1, rmax_le (rmax_le (rmax_le k1.2 k2.2) k3.2) k4.2⟩
theorem ivm_ord {a b c d : Rat} (h0 : a ≤ b) (h5 : c ≤ d) : ivm1 a b c d ≤ ivm2 a b c d := by
  have := ivm_has (p := a) (q := c) Rat.le_refl h0 Rat.le_refl h5
  exact Rat.le_trans this.1 this.2
/-- the squares -/
def sq1 (a b : Rat) : Rat := if a ≤ 0 ∧ 0 ≤ b then 0 else rmin (a * a) (b * b)
def sq2 (a b : Rat) : Rat := rmax (a * a) (b * b)
theorem sq_nonneg (z : Rat) : 0 ≤ z * z := by
  rcases Rat.le_total (a := 0) (b := z) with h | h
  · exact Rat.mul_nonneg h h
  · have : 0 ≤ -z := by grind
    have := Rat.mul_nonneg this this
    grind
theorem sq_le {p q : Rat} (h0 : 0 ≤ p) (h : p ≤ q) : p * p ≤ q * q := by
  have h1 := rmul_mono h0 h
  have h2 := rmul_mono (Rat.le_trans h0 h) h
  have := Rat.mul_comm p q
  exact Rat.le_trans h1 (by rw [← this]; exact h2)
theorem sq_le' {p q : Rat} (h0 : q ≤ 0) (h : p ≤ q) : q * q ≤ p * p := by
  have := sq_le (p := -q) (q := -p) (by grind) (by grind)
  grind
theorem sq_has {a b p : Rat} (h1 : a ≤ p) (h2 : p ≤ b) : sq1 a b ≤ p * p ∧ p * p ≤ sq2 a b := by
  constructor
  · unfold sq1
    split
    · exact sq_nonneg p
    · rename_i h
      rcases Rat.le_total (a := 0) (b := p) with hp | hp
      · have : 0 ≤ a := by grind
        exact Rat.le_trans (rmin_le1 _ _) (sq_le this h1)
      · have : b ≤ 0 := by grind
        exact Rat.le_trans (rmin_le2 _ _) (sq_le' this h2)
  · rcases Rat.le_total (a := 0) (b := p) with hp | hp
    · exact Rat.le_trans (sq_le hp h2) (le_rmax2 _ _)
    · exact Rat.le_trans (sq_le' hp h1) (le_rmax1 _ _)
theorem sq1_at {a b m : Rat} (h : a ≤ b) (hm : ∀ p, a ≤ p → p ≤ b → m ≤ p * p) : m ≤ sq1 a b := by
  unfold sq1
  split
  · rename_i h0
    have := hm 0 h0.1 h0.2
    simpa using this
  · exact le_rmin (hm a Rat.le_refl h) (hm b h Rat.le_refl)
theorem sq2_at {a b m : Rat} (h : a ≤ b) (hm : ∀ p, a ≤ p → p ≤ b → p * p ≤ m) : sq2 a b ≤ m := rmax_le (hm a Rat.le_refl h) (hm b h Rat.le_refl)
theorem sq_part {a b a' b' : Rat} (h1 : a' ≤ a) (h0 : a ≤ b) (h2 : b ≤ b') : sq1 a' b' ≤ sq1 a b ∧ sq2 a b ≤ sq2 a' b' :=
  ⟨sq1_at h0 fun _ g1 g2 => (sq_has (Rat.le_trans h1 g1) (Rat.le_trans g2 h2)).1, sq2_at h0 fun _ g1 g2 => (sq_has (Rat.le_trans h1 g1) (Rat.le_trans g2 h2)).2⟩
theorem sq_ivm {a b : Rat} (h0 : a ≤ b) : ivm1 a b a b ≤ sq1 a b ∧ sq2 a b ≤ ivm2 a b a b :=
  ⟨sq1_at h0 fun _ g1 g2 => (ivm_has g1 g2 g1 g2).1, sq2_at h0 fun _ g1 g2 => (ivm_has g1 g2 g1 g2).2⟩
theorem sq_ord {a b : Rat} (h0 : a ≤ b) : sq1 a b ≤ sq2 a b := by
  have := sq_has (p := a) Rat.le_refl h0
  exact Rat.le_trans this.1 this.2

/-- the reciprocals -/
theorem inv_pos' {x : Rat} (h : 0 < x) : 0 < 1 / x := by
  have : 1 / x = x⁻¹ := by grind
  rw [this]; exact Rat.inv_pos.2 h
theorem inv_anti {x y : Rat} (hx : 0 < x) (h : x ≤ y) : 1 / y ≤ 1 / x := by
  have hy : 0 < y := by grind
  have h1 := inv_pos' hx
  have h2 := inv_pos' hy
  have e1 : x * (1 / x) = 1 := by grind
  have e2 : y * (1 / y) = 1 := by grind
  have h3 := rmul_mono (Rat.le_of_lt (Rat.mul_pos h1 h2)) h
  have e3 : x * (1 / x * (1 / y)) = 1 / y := by grind
  have e4 : y * (1 / x * (1 / y)) = 1 / x := by grind
  rwa [e3, e4] at h3
theorem inv_has {c d q : Rat} (h0 : ¬ (c ≤ 0 ∧ 0 ≤ d)) (h3 : c ≤ q) (h4 : q ≤ d) : ¬ q = 0 ∧ 1 / d ≤ 1 / q ∧ 1 / q ≤ 1 / c := by
  by_cases hc : 0 < c
  · have hq : 0 < q := by grind
    exact ⟨by grind, inv_anti hq h4, inv_anti hc h3⟩
  · have hd : d < 0 := by grind
    have hq : q < 0 := by grind
    have hc' : c < 0 := by grind
    have n1 : 0 < -d := by grind
    have n2 : 0 < -q := by grind
    have k1 := inv_anti (x := -d) (y := -q) n1 (by grind)
    have k2 := inv_anti (x := -q) (y := -c) n2 (by grind)
    have en : ∀ x : Rat, ¬ x = 0 → 1 / (-x) = -(1 / x) := fun x hx => by grind
    rw [en d (by grind), en q (by grind)] at k1
    rw [en q (by grind), en c (by grind)] at k2
    exact ⟨by grind, by grind, by grind⟩
theorem ivdiv_has {a b c d p q : Rat} (h0 : ¬ (c ≤ 0 ∧ 0 ≤ d)) (h1 : a ≤ p) (h2 : p ≤ b) (h3 : c ≤ q) (h4 : q ≤ d) : ¬ q = 0 ∧ ivm1 a b (1 / d) (1 / c) ≤ p / q ∧ p / q ≤ ivm2 a b (1 / d) (1 / c) := by
  obtain ⟨hq, k1, k2⟩ := inv_has h0 h3 h4
  have := ivm_has h1 h2 k1 k2
  have e : p * (1 / q) = p / q := by grind
  rw [e] at this
  exact ⟨hq, this⟩
/-- the way from one end to the other -/
theorem ivat_in {a b t : Rat} (h : a ≤ b) (h0 : 0 ≤ t) (h1 : t ≤ 1) : a ≤ a + t * (b - a) ∧ a + t * (b - a) ≤ b := by
  have k1 : 0 ≤ t * (b - a) := Rat.mul_nonneg h0 (by grind)
  have k2 := rmul_mono (z := b - a) (by grind) h1
  constructor
  · grind
  · grind
theorem frac8 {n : Int} (h : 0 ≤ n) (h1 : n ≤ 8) : (0 : Rat) ≤ (n : Rat) / ((8 : Int) : Rat) ∧ (n : Rat) / ((8 : Int) : Rat) ≤ 1 := by
  have e : ((8 : Int) : Rat) = 8 := rfl
  have k1 : ((0 : Int) : Rat) ≤ (n : Rat) := Rat.intCast_le_intCast.2 h
  have k2 : (n : Rat) ≤ ((8 : Int) : Rat) := Rat.intCast_le_intCast.2 h1
  have k3 : ((0 : Int) : Rat) = 0 := rfl
  rw [e] at k2
  rw [e]
  rw [k3] at k1
  have e2 : (n : Rat) / 8 = (n : Rat) * (1 / 8) := by grind
  rw [e2]
  have p8 : (0 : Rat) ≤ 1 / 8 := by decide +kernel
  constructor
  · exact Rat.mul_nonneg k1 p8
  · have := rmul_mono p8 k2
    have e3 : (8 : Rat) * (1 / 8) = 1 := by decide +kernel
    rw [e3] at this
    exact this
/-- the grid -/
def ceilq (x : Rat) : Int := -(-x).floor
theorem ceil_ge (x : Rat) : x ≤ (ceilq x : Rat) := by
  unfold ceilq
  have := Rat.floor_le (-x)
  rw [Rat.intCast_neg]; grind
theorem ceil_le {x : Rat} {z : Int} (h : x ≤ (z : Rat)) : ceilq x ≤ z := by
  unfold ceilq
  have : -z ≤ (-x).floor := Rat.le_floor_iff.2 (by rw [Rat.intCast_neg]; grind)
  omega
def flq (x t : Rat) : Rat := ((x * t).floor : Rat) / t
def clq (x t : Rat) : Rat := (ceilq (x * t) : Rat) / t
theorem rle_div {x y t : Rat} (ht : 0 < t) : x * t ≤ y ↔ x ≤ y / t := by
  have h1 := inv_pos' ht
  have e1 : x * t * (1 / t) = x := by grind
  have e2 : y * (1 / t) = y / t := by grind
  have e3 : y / t * t = y := by grind
  constructor
  · intro h
    have := rmul_mono (Rat.le_of_lt h1) h
    rwa [e1, e2] at this
  · intro h
    have := rmul_mono (Rat.le_of_lt ht) h
    rwa [e3] at this
theorem rdiv_le {x y t : Rat} (ht : 0 < t) : y ≤ x * t ↔ y / t ≤ x := by
  have h1 := inv_pos' ht
  have e1 : x * t * (1 / t) = x := by grind
  have e2 : y * (1 / t) = y / t := by grind
  have e3 : y / t * t = y := by grind
  constructor
  · intro h
    have := rmul_mono (Rat.le_of_lt h1) h
    rwa [e1, e2] at this
  · intro h
    have := rmul_mono (Rat.le_of_lt ht) h
    rwa [e3] at this
theorem flq_le {t : Rat} (ht : 0 < t) (x : Rat) : flq x t ≤ x := (rdiv_le ht).1 (Rat.floor_le _)
theorem le_clq {t : Rat} (ht : 0 < t) (x : Rat) : x ≤ clq x t := (rle_div ht).1 (ceil_ge _)
theorem flq_mono {t : Rat} (ht : 0 < t) {x y : Rat} (h : x ≤ y) : flq x t ≤ flq y t := by
  unfold flq
  rw [← rdiv_le ht]
  have : (x * t).floor ≤ (y * t).floor := Rat.le_floor_iff.2 (Rat.le_trans (Rat.floor_le _) (rmul_mono (Rat.le_of_lt ht) h))
  have := Rat.intCast_le_intCast.2 this
  have e3 : ((y * t).floor : Rat) / t * t = ((y * t).floor : Rat) := by grind
  rwa [e3]
theorem clq_mono {t : Rat} (ht : 0 < t) {x y : Rat} (h : x ≤ y) : clq x t ≤ clq y t := by
  unfold clq
  rw [← rdiv_le ht]
  have : ceilq (x * t) ≤ ceilq (y * t) := ceil_le (Rat.le_trans (rmul_mono (Rat.le_of_lt ht) h) (ceil_ge _))
  have := Rat.intCast_le_intCast.2 this
  have e3 : (ceilq (y * t) : Rat) / t * t = (ceilq (y * t) : Rat) := by grind
  rwa [e3]
theorem flq_flq {t : Rat} (ht : 0 < t) (x : Rat) : flq (flq x t) t = flq x t := by
  unfold flq
  have e : ((x * t).floor : Rat) / t * t = ((x * t).floor : Rat) := by grind
  rw [e, Rat.floor_intCast]
theorem clq_clq {t : Rat} (ht : 0 < t) (x : Rat) : clq (clq x t) t = clq x t := by
  unfold clq
  have e : (ceilq (x * t) : Rat) / t * t = (ceilq (x * t) : Rat) := by grind
  rw [e]
  unfold ceilq
  rw [← Rat.intCast_neg, Rat.floor_intCast]
  simp
theorem fl_cl {t : Rat} (ht : 0 < t) {x y : Rat} (h : x ≤ y) : flq x t ≤ clq y t := Rat.le_trans (flq_le ht x) (Rat.le_trans h (le_clq ht y))
/-- two to a power -/
def tw (k : Int) : Nat := 2 ^ k.toNat
def scq (x : Rat) (k : Int) : Rat := x * ((tw k : Int) : Rat)
theorem tw_pos (k : Int) : 0 < tw k := Nat.pow_pos (by decide)
/-- the root, rounded down, and whether it was -/
def rtl (x : Rat) (k : Int) : Int := if x ≤ 0 then 0 else (isq (scq x (2 * k)).floor.natAbs : Nat)
def rtu (x : Rat) (k : Int) : Bool := if x ≤ 0 then false else (!decide (((scq x (2 * k)).floor : Rat) = scq x (2 * k))) || decide (0 < (scq x (2 * k)).floor.natAbs - isq (scq x (2 * k)).floor.natAbs * isq (scq x (2 * k)).floor.natAbs)
theorem twq_pos (k : Int) : (0 : Rat) < ((tw k : Int) : Rat) := by
  have : ((0 : Int) : Rat) < ((tw k : Int) : Rat) := Rat.intCast_lt_intCast.2 (by have := tw_pos k; omega)
  exact this
theorem tw_dbl {k : Int} (h : 0 ≤ k) : (tw (2 * k) : Int) = tw k * tw k := by
  unfold tw
  have : (2 * k).toNat = k.toNat + k.toNat := by omega
  rw [this, Nat.pow_add]; simp
theorem floor_abs {y : Rat} (h : 0 ≤ y) : ((y.floor.natAbs : Nat) : Int) = y.floor := by
  have : 0 ≤ y.floor := Rat.le_floor_iff.2 h
  omega
theorem up_eq {y : Rat} (h : 0 ≤ y) : ((!decide ((y.floor : Rat) = y)) || decide (0 < y.floor.natAbs - isq y.floor.natAbs * isq y.floor.natAbs)) = decide ((((isq y.floor.natAbs : Int) * (isq y.floor.natAbs : Int) : Int) : Rat) < y) := by
  have h1 := (isq_spec y.floor.natAbs).1
  have h2 := floor_abs h
  have h3 := Rat.floor_le y
  generalize hn : y.floor.natAbs = n at *
  generalize isq n = r at *
  have h4 : ((r : Int) * (r : Int)) ≤ y.floor := by rw [← h2]; exact_mod_cast h1
  have h5 := Rat.intCast_le_intCast.2 h4
  by_cases he : (y.floor : Rat) = y
  · simp only [he, decide_true, Bool.not_true, Bool.false_or]
    congr 1
    apply propext
    rw [← he, Rat.intCast_lt_intCast, ← h2]
    constructor
    · intro h; have : r * r < n := by omega
      exact_mod_cast this
    · intro h
      have : r * r < n := by exact_mod_cast h
      omega
  · have hl : (y.floor : Rat) < y := Rat.lt_of_le_of_ne h3 he
    have : (((r : Int) * (r : Int) : Int) : Rat) < y := Std.lt_of_le_of_lt h5 hl
    simp only [he, decide_false, Bool.not_false, Bool.true_or, this, decide_true]
theorem rtl_nonneg (x : Rat) (k : Int) : 0 ≤ rtl x k := by unfold rtl; split <;> omega
theorem scq_nonneg {x : Rat} (h : 0 ≤ x) (k : Int) : 0 ≤ scq x k := Rat.mul_nonneg h (Rat.le_of_lt (twq_pos k))
theorem rtl_sq {x : Rat} {k : Int} (hk : 0 ≤ k) (hx : 0 ≤ x) : ((rtl x k : Rat) / ((tw k : Int) : Rat)) * ((rtl x k : Rat) / ((tw k : Int) : Rat)) ≤ x := by
  have ht := twq_pos k
  have e2 : ((tw (2 * k) : Int) : Rat) = ((tw k : Int) : Rat) * ((tw k : Int) : Rat) := by rw [tw_dbl hk, Rat.intCast_mul]
  unfold rtl
  split
  · have : ((0 : Int) : Rat) = 0 := rfl
    rw [this]; grind
  · have h0 := scq_nonneg hx (2 * k)
    have h1 := (isq_spec (scq x (2 * k)).floor.natAbs).1
    have h2 := floor_abs h0
    have h3 := Rat.floor_le (scq x (2 * k))
    generalize (scq x (2 * k)).floor.natAbs = n at *
    generalize isq n = r at *
    have h4 : ((r : Int) * (r : Int)) ≤ (scq x (2 * k)).floor := by rw [← h2]; exact_mod_cast h1
    have h5 := Rat.le_trans (Rat.intCast_le_intCast.2 h4) h3
    unfold scq at h5
    rw [Rat.intCast_mul, e2] at h5
    generalize ((tw k : Int) : Rat) = t at *
    generalize (((r : Nat) : Int) : Rat) = q at *
    have g1 : q * q / t ≤ x * t := (rdiv_le ht).1 (by rw [show x * t * t = x * (t * t) from by grind]; exact h5)
    have g2 := (rdiv_le ht).1 g1
    have e3 : q / t * (q / t) = q * q / t / t := by grind
    rw [e3]; exact g2
theorem rtu_sq {x : Rat} {k : Int} (hk : 0 ≤ k) (hx : 0 ≤ x) : x ≤ (((if rtu x k = true then rtl x k + 1 else rtl x k : Int) : Rat) / ((tw k : Int) : Rat)) * (((if rtu x k = true then rtl x k + 1 else rtl x k : Int) : Rat) / ((tw k : Int) : Rat)) := by
  have ht := twq_pos k
  have e2 : ((tw (2 * k) : Int) : Rat) = ((tw k : Int) : Rat) * ((tw k : Int) : Rat) := by rw [tw_dbl hk, Rat.intCast_mul]
  by_cases hx0 : x ≤ 0
  · have : x = 0 := Rat.le_antisymm hx0 hx
    rw [this]; exact sq_nonneg _
  · unfold rtu rtl
    rw [if_neg hx0, if_neg hx0]
    have h0 := scq_nonneg hx (2 * k)
    rw [up_eq h0]
    have h1 := (isq_spec (scq x (2 * k)).floor.natAbs).2
    have h2 := floor_abs h0
    have h3 := Rat.lt_floor_add_one (scq x (2 * k))
    generalize (scq x (2 * k)).floor.natAbs = n at *
    generalize isq n = r at *
    have key : scq x (2 * k) ≤ (((if decide ((((r : Int) * (r : Int) : Int) : Rat) < scq x (2 * k)) = true then (r : Int) + 1 else (r : Int)) * (if decide ((((r : Int) * (r : Int) : Int) : Rat) < scq x (2 * k)) = true then (r : Int) + 1 else (r : Int)) : Int) : Rat) := by
      by_cases hl : (((r : Int) * (r : Int) : Int) : Rat) < scq x (2 * k)
      · simp only [hl, decide_true, if_true]
        have h4 : (scq x (2 * k)).floor + 1 ≤ ((r : Int) + 1) * ((r : Int) + 1) := by rw [← h2]; exact_mod_cast h1
        exact Rat.le_trans (Rat.le_of_lt h3) (Rat.intCast_le_intCast.2 h4)
      · simp only [hl, decide_false, Bool.false_eq_true, if_false]
        exact Rat.not_lt.1 hl
    generalize (if decide ((((r : Int) * (r : Int) : Int) : Rat) < scq x (2 * k)) = true then (r : Int) + 1 else (r : Int)) = v at *
    unfold scq at key
    rw [Rat.intCast_mul, e2] at key
    generalize ((tw k : Int) : Rat) = t at *
    generalize ((v : Int) : Rat) = q at *
    have g1 : x * t ≤ q * q / t := (rle_div ht).1 (by rw [show x * t * t = x * (t * t) from by grind]; exact key)
    have g2 := (rle_div ht).1 g1
    have e3 : q / t * (q / t) = q * q / t / t := by grind
    rw [e3]; exact g2
theorem num_div (x : Rat) : x = (x.num : Rat) / ((x.den : Nat) : Rat) := by
  have := Rat.mkRat_self x
  rw [Rat.mkRat_eq_div] at this
  exact this.symm
theorem scq_mk (x : Rat) (t : Nat) : x * ((t : Int) : Rat) = mkRat (x.num * (t : Int)) x.den := by
  rw [Rat.mkRat_eq_div, Rat.intCast_mul]
  have h1 := num_div x
  conv => lhs; rw [h1]
  grind
theorem qq_floor (x : Rat) (t : Nat) : qq (x.num * (t : Int)) (x.den : Int) = (x * ((t : Int) : Rat)).floor := by
  have hd : (x.den : Int) ≠ 0 := by have := x.den_nz; omega
  unfold qq
  rw [if_neg hd, scq_mk, floor_mk x.den_nz]
theorem rr_floor (x : Rat) (t : Nat) : (rr (x.num * (t : Int)) (x.den : Int) = 0) = (((x * ((t : Int) : Rat)).floor : Rat) = x * ((t : Int) : Rat)) := by
  have hd : (x.den : Int) ≠ 0 := by have := x.den_nz; omega
  have hdq : ((x.den : Nat) : Rat) ≠ 0 := by
    intro e
    have : ((x.den : Nat) : Rat) = ((0 : Nat) : Rat) := e
    rw [Rat.natCast_inj] at this
    exact x.den_nz this
  rw [← qq_floor, scq_mk]
  unfold qq rr
  rw [if_neg hd, if_neg hd, Rat.mkRat_eq_div]
  generalize x.num * (t : Int) = A
  have h0 := Int.mul_ediv_add_emod A (x.den : Int)
  apply propext
  constructor
  · intro h
    rw [h, Int.add_zero] at h0
    have h1 : ((A : Int) : Rat) = ((x.den : Int) : Rat) * ((A / (x.den : Int) : Int) : Rat) := by rw [← Rat.intCast_mul, h0]
    have h2 : (((x.den : Nat) : Int) : Rat) = ((x.den : Nat) : Rat) := rfl
    grind
  · intro h
    have h1 : ((A : Int) : Rat) = ((x.den : Int) : Rat) * ((A / (x.den : Int) : Int) : Rat) := by
      have h2 : (((x.den : Nat) : Int) : Rat) = ((x.den : Nat) : Rat) := rfl
      rw [h]; grind
    rw [← Rat.intCast_mul, Rat.intCast_inj] at h1
    omega
theorem ceil_up (x : Rat) : -(-x).floor = if (!decide ((x.floor : Rat) = x)) = true then x.floor + 1 else x.floor := by
  have h1 := Rat.floor_le x
  have h2 := Rat.lt_floor_add_one x
  have h3 := Rat.floor_le (-x)
  have h4 := Rat.lt_floor_add_one (-x)
  rw [Rat.intCast_add] at h2 h4
  have e1 : ((1 : Int) : Rat) = 1 := rfl
  rw [e1] at h2 h4
  by_cases h : (x.floor : Rat) = x
  · simp [h]
    have a1 : ((-x).floor : Int) ≤ - x.floor := by
      rw [← Rat.intCast_le_intCast, Rat.intCast_neg]; grind
    have a2 : - x.floor < (-x).floor + 1 := by
      rw [← Rat.intCast_lt_intCast, Rat.intCast_neg, Rat.intCast_add, e1]; grind
    omega
  · simp [h]
    have h5 : (x.floor : Rat) < x := Rat.lt_of_le_of_ne h1 h
    have a1 : ((-x).floor : Int) < - x.floor := by
      rw [← Rat.intCast_lt_intCast, Rat.intCast_neg]; grind
    have a2 : - x.floor < (-x).floor + 1 + 1 := by
      rw [← Rat.intCast_lt_intCast, Rat.intCast_neg, Rat.intCast_add, Rat.intCast_add, e1]; grind
    omega
end Go.Proofs.Ytifgdiejpglhfaa
