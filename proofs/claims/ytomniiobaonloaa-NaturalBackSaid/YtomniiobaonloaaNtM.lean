/- Natural numbers: LeadingZeros16; Shift. -/
import Derived.Test.YtomniiobaonloaaNtL
import Derived.Test.YtomniiobaonloaaNt9
namespace Go.Proofs.Ytomniiobaonloaa
open Go.RowKit Go.V
set_option linter.unusedSimpArgs false
set_option linter.unusedVariables false

theorem lz16_any (n : Nat) (w : World) (hn : n < 65536) :
    Calls Try.prog 48 #[.int .u16 n] w fun e w' => e = .returned (.int .i64 ((16 - blen n : Nat) : Int)) ∧ w = w' := by
  have hb := blen_le 16 n (by omega)
  have hw : IntKind.i64.wrap (16 - (blen n : Int)) = 16 - (blen n : Int) := IntWalk.i64_in _ (by omega)
  refine calls_of_W (args := [.int .u16 n]) (rs := [.tmp 2]) (n := 6) Try.func48 rfl rfl rfl (by kernel_rfl) ?_
  refine W_rt (by kernel_rfl) (fun K hK => ?_)
  simp [go_sem]
  refine hK _ _ ?_; clear hK K
  refine W_rt (by kernel_rfl) (fun K hK => ?_)
  simp [go_sem]
  refine hv_call (by simp [go_sem]) rfl Try.call45 (fun R hR => ?_)
  simp [go_sem]
  refine (len16_any n _ hn).mono ?_
  rintro e w1 ⟨rfl, rfl⟩
  refine ⟨_, rfl, hR _ _ ?_⟩
  clear hR R
  simp [go_sem, hw]
  refine hK _ _ ?_; clear hK K
  refine W_ret ?_
  repeat (first | refine thenG_ret ?_ | refine inBlock_ret ?_)
  refine ⟨trivial, ?_, rfl⟩
  simp [go_sem, pack, resL]
  omega
/-- a function that returns a number in a slice of its own -/
def RetO (w : World) (x : Nat) (e : Ending) (w' : World) : Prop := ∃ v, e = .returned v ∧ w'.ownsRow w.heap.size 39 1 v (lim x).length (lmC (lim x)) ∧ Below w.heap.size w w'
theorem or_u16 (a b : Nat) (ha : a < 65536) (hb : b < 65536) : orI .u16 a b = ((a ||| b : Nat) : Int) := by
  unfold orI
  have e : IntKind.u16.bits = 16 := rfl
  have e1 : (BitVec.ofInt IntKind.u16.bits (a : Int) ||| BitVec.ofInt IntKind.u16.bits (b : Int)).toNat = a ||| b := by
    rw [e, BitVec.toNat_or, BitVec.ofInt_natCast, BitVec.ofInt_natCast, BitVec.toNat_ofNat, BitVec.toNat_ofNat, Nat.mod_eq_of_lt (by omega), Nat.mod_eq_of_lt (by omega)]
  rw [e1]
  have : a ||| b < 2 ^ 16 := Nat.or_lt_two_pow (by omega) (by omega)
  exact w16_in _ ⟨by omega, by omega⟩
theorem shl_parts (x h s : Nat) (hx : x < 65536) (hs : s < 16) (hh : h < 2 ^ s) : h ||| (x * 2 ^ s % 65536) = h + x * 2 ^ s % 65536 ∧ h + x * 2 ^ s % 65536 < 65536 ∧ x * 2 ^ s / 65536 < 2 ^ s ∧ x * 2 ^ s < 4294967296 := by
  obtain ⟨t, ht⟩ := pow_dvd16 s hs
  have hp : 0 < 2 ^ s := Nat.pow_pos (by decide)
  have e1 : x * 2 ^ s % 65536 = (x % t) * 2 ^ s := by
    conv => lhs; rw [ht, Nat.mul_comm x, Nat.mul_mod_mul_left]
    rw [Nat.mul_comm]
  have ht0 : 0 < t := by
    rcases t with _ | t
    · simp at ht
    · omega
  have hm := Nat.mod_lt x ht0
  have e2 : (x % t + 1) * 2 ^ s ≤ t * 2 ^ s := Nat.mul_le_mul_right _ hm
  rw [Nat.add_mul, Nat.mul_comm t, ← ht] at e2
  have e3 : x * 2 ^ s < 65536 * 2 ^ s := Nat.mul_lt_mul_of_pos_right hx hp
  have e4 : 2 ^ s ≤ 2 ^ 15 := Nat.pow_le_pow_right (by decide) (by omega)
  refine ⟨?_, ?_, ?_, ?_⟩
  · rw [e1]; exact or_add h (x % t) s hh
  · rw [e1]; omega
  · rw [Nat.div_lt_iff_lt_mul (by decide), Nat.mul_comm (2 ^ s)]; exact e3
  · omega
end Go.Proofs.Ytomniiobaonloaa
