/- Integers: division. -/
import Derived.Test.YtkampmdekonjmaaIn5
import Derived.Test.YtkampmdekonjmaaIn6
namespace Go.Proofs.Ytkampmdekonjmaa
open Go.RowKit Go.V
set_option linter.unusedSimpArgs false
set_option linter.unusedVariables false
set_option maxRecDepth 20000

def qq (z y : Int) : Int := if y = 0 then 0 else z / y
def rr (z y : Int) : Int := if y = 0 then 0 else z % y
def ee (y : Int) : Int := if y = 0 then 3 else 0
def RetQ (w : World) (z y : Int) (e : Ending) (w' : World) : Prop := ∃ a c a' c', e = .returned (.tuple #[iR (qq z y) a c, iR (rr z y) a' c', .int .i64 (ee y)]) ∧ RD w' a c (lim (qq z y).natAbs) ∧ RD w' a' c' (lim (rr z y).natAbs) ∧ Below w.heap.size w w'
theorem ed {z y q r : Int} (hy : y ≠ 0) (h : r + y * q = z) (h0 : 0 ≤ r) (h1 : r < y.natAbs) : z / y = q ∧ z % y = r := by
  rcases Int.lt_or_gt_of_ne hy with h' | h'
  · have := (Int.ediv_emod_unique (a := z) (b := -y) (q := -q) (r := r) (by omega)).2 ⟨by rw [Int.neg_mul_neg]; exact h, h0, by omega⟩
    rw [Int.ediv_neg, Int.emod_neg] at this
    exact ⟨by omega, this.2⟩
  · exact (Int.ediv_emod_unique h').2 ⟨h, h0, by omega⟩
theorem iv_ne (peg : Bool) {m : Nat} (h : m ≠ 0) : iv peg m ≠ 0 := by unfold iv; cases peg <;> simp <;> omega
theorem dm1 (neg peg : Bool) (x m : Nat) (hm : m ≠ 0) (hc : ¬ (neg = true ∧ 0 < x % m)) :
    iv (!(neg == peg)) (x / m) = qq (iv neg x) (iv peg m) ∧ iv false (x % m) = rr (iv neg x) (iv peg m) := by
  unfold qq rr
  have hn := iv_ne peg hm
  rw [if_neg hn, if_neg hn]
  have e : (m : Int) * ((x / m : Nat) : Int) + ((x % m : Nat) : Int) = (x : Int) := by exact_mod_cast Nat.div_add_mod x m
  have hl := Nat.mod_lt x (Nat.pos_of_ne_zero hm)
  generalize x / m = q at *
  generalize x % m = r at *
  have := ed (z := iv neg x) (q := iv (!(neg == peg)) q) (r := iv false r) hn (by
    cases neg <;> cases peg <;> simp [iv, Int.neg_mul, Int.mul_neg] at * <;> omega) (by simp [iv]) (by rw [iv_abs]; simp [iv]; omega)
  exact ⟨this.1.symm, this.2.symm⟩
theorem dm2 (peg : Bool) (x m : Nat) (hm : m ≠ 0) (hc : 0 < x % m) :
    iv (!(true == peg)) (x / m + 1) = qq (iv true x) (iv peg m) ∧ iv false (m - x % m) = rr (iv true x) (iv peg m) := by
  unfold qq rr
  have hn := iv_ne peg hm
  rw [if_neg hn, if_neg hn]
  obtain ⟨Q, hQ⟩ : ∃ Q, Q = x / m + 1 := ⟨_, rfl⟩
  have e : m * Q + x % m = x + m := by
    have := Nat.div_add_mod x m
    rw [hQ, Nat.mul_add, Nat.mul_one]; omega
  have hl := Nat.mod_lt x (Nat.pos_of_ne_zero hm)
  obtain ⟨s, hs⟩ : ∃ s, s = m - x % m := ⟨_, rfl⟩
  rw [← hQ, ← hs]
  have e' : m * Q = x + s := by omega
  have e2 : (m : Int) * (Q : Int) = (x : Int) + s := by exact_mod_cast e'
  have := ed (z := iv true x) (q := iv (!(true == peg)) Q) (r := iv false s) hn (by
    cases peg <;> simp [iv, Int.neg_mul, Int.mul_neg] at * <;> omega) (by simp [iv]) (by rw [iv_abs]; simp [iv]; omega)
  exact ⟨this.1.symm, this.2.symm⟩
theorem rd_one {w : World} {b x : Nat} {t : TypeId} (h : Bx w b #[.int .u16 (x : Int)] t) (hx : x < 65536) : RD w (some ⟨b, 0, none⟩) 1 [x] := by
  refine ⟨.inr ⟨b, 0, rfl, fun j u hu => ?_⟩, ?_, by simp⟩
  · match j with
    | 0 =>
      simp [lmC] at hu
      subst hu
      simpa using h.cell 0
    | j + 1 => simp [lmC] at hu
  · intro y hy
    simp at hy; omega
end Go.Proofs.Ytkampmdekonjmaa
