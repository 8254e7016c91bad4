/- Natural numbers: numerals, in plain lists. -/
import Derived.Test.YtomniiobaonloaaNtV
namespace Go.Proofs.Ytomniiobaonloaa
open Go.RowKit Go.V
set_option linter.unusedSimpArgs false
set_option linter.unusedVariables false

/-- the digits of a number, none for 0 -/
def dgz (n : Nat) : List UInt8 := if h : n = 0 then [] else dgz (n / 10) ++ [UInt8.ofNat (48 + n % 10)]
termination_by n
decreasing_by omega
def txt (n : Nat) : List UInt8 := if n = 0 then [48] else dgz n
theorem dgz_0 : dgz 0 = [] := by rw [dgz, dif_pos rfl]
theorem dgz_s (n : Nat) (h : n ≠ 0) : dgz n = dgz (n / 10) ++ [UInt8.ofNat (48 + n % 10)] := by rw [dgz, dif_neg h]
theorem dgz_len : ∀ (k n : Nat), n < 2 ^ k → (dgz n).length ≤ k
  | 0, n, h => by
    have : n = 0 := by simpa using h
    subst this; rw [dgz_0]; simp
  | k + 1, n, h => by
    by_cases h0 : n = 0
    · subst h0; rw [dgz_0]; simp
    · rw [dgz_s n h0, List.length_append]
      have := dgz_len k (n / 10) (by rw [Nat.pow_succ] at h; omega)
      simp; omega
theorem dgz_nil {n : Nat} : dgz n = [] ↔ n = 0 := by
  constructor
  · intro h
    rcases Nat.eq_zero_or_pos n with h0 | h0
    · exact h0
    · rw [dgz_s n (by omega)] at h; simp at h
  · rintro rfl; exact dgz_0
theorem u8_48 (x : Nat) (h : x < 10) : ((UInt8.ofNat (48 + x)).toNat : Int) = ((48 + x : Nat) : Int) := by
  have : (UInt8.ofNat (48 + x)).toNat = (48 + x) % 256 := by simp
  rw [this, Nat.mod_eq_of_lt (by omega)]
/-- one digit of a group of four -/
theorem dgz_step (V prev gr m : Nat) (hV : V = prev * 10000 + gr) (hg : gr < 10000) (hm : m < 4) :
    (V / 10 ^ m = 0 ↔ V / 10 ^ (m + 1) = 0 ∧ ¬ 10 ^ m ≤ gr) ∧ (V / 10 ^ m) % 10 = gr / 10 ^ m % 10 ∧ V / 10 ^ m / 10 = V / 10 ^ (m + 1) := by
  have e0 : V / 10 ^ m / 10 = V / 10 ^ (m + 1) := by rw [Nat.div_div_eq_div_mul, Nat.pow_succ]
  refine ⟨?_, ?_, e0⟩
  · match m, hm with
    | 0, _ => omega
    | 1, _ => omega
    | 2, _ => omega
    | 3, _ => omega
  · match m, hm with
    | 0, _ => omega
    | 1, _ => omega
    | 2, _ => omega
    | 3, _ => omega
theorem grp_val (A i : Nat) : A / 10000 ^ i = A / 10000 ^ (i + 1) * 10000 + A / 10000 ^ i % 10000 := by
  rw [Nat.pow_succ, ← Nat.div_div_eq_div_mul, Nat.mul_comm, Nat.div_add_mod]
theorem grp_len {A k e : Nat} (h : A / 10000 ^ k ≠ 0) (hA : A < 2 ^ e) : k < e := by
  have h1 : 10000 ^ k ≤ A := by
    refine Nat.le_of_not_lt (fun hlt => h (Nat.div_eq_of_lt hlt))
  have h2 : 2 ^ k ≤ 10000 ^ k := Nat.pow_le_pow_left (by decide) k
  exact (Nat.pow_lt_pow_iff_right (a := 2) (by decide)).1 (by omega)
end Go.Proofs.Ytomniiobaonloaa
