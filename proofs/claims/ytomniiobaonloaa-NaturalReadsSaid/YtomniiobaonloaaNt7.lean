/- Natural numbers, seventh part: Len16, Bits. -/
import Derived.Test.YtomniiobaonloaaNt6
namespace Go.Proofs.Ytomniiobaonloaa
open Go.RowKit Go.V
set_option linter.unusedSimpArgs false
set_option linter.unusedVariables false

/-- the number of binary digits -/
def blen (n : Nat) : Nat := if h : n = 0 then 0 else blen (n / 2) + 1
termination_by n
decreasing_by omega
theorem blen_0 : blen 0 = 0 := by rw [blen, dif_pos rfl]
theorem blen_s (n : Nat) (h : n ≠ 0) : blen n = blen (n / 2) + 1 := by rw [blen, dif_neg h]

def bl : Nat → Nat → Nat
  | 0, _ => 0
  | f + 1, n => if n = 0 then 0 else bl f (n / 2) + 1
theorem bl_eq : ∀ f n, n < 2 ^ f → bl f n = blen n
  | 0, n, h => by
    have : n = 0 := by simpa using h
    subst this; rw [blen_0]; rfl
  | f + 1, n, h => by
    unfold bl
    by_cases h0 : n = 0
    · subst h0; rw [blen_0]; rfl
    · rw [if_neg h0, blen_s n h0, bl_eq f (n / 2) (by rw [Nat.pow_succ] at h; omega)]
theorem tbl_bl : ∀ n, n < 256 → (byteAt (⟨(List.append (List.append [0, 1, 2, 2, 3, 3, 3, 3, 4, 4, 4, 4, 4, 4, 4, 4, 5, 5, 5, 5, 5, 5, 5, 5, 5, 5, 5, 5, 5, 5, 5, 5, 6, 6, 6, 6, 6, 6, 6, 6, 6, 6, 6, 6, 6, 6, 6, 6, 6, 6, 6, 6, 6, 6, 6, 6, 6, 6, 6, 6, 6, 6, 6, 6] [7, 7, 7, 7, 7, 7, 7, 7, 7, 7, 7, 7, 7, 7, 7, 7, 7, 7, 7, 7, 7, 7, 7, 7, 7, 7, 7, 7, 7, 7, 7, 7, 7, 7, 7, 7, 7, 7, 7, 7, 7, 7, 7, 7, 7, 7, 7, 7, 7, 7, 7, 7, 7, 7, 7, 7, 7, 7, 7, 7, 7, 7, 7, 7]) (List.append [8, 8, 8, 8, 8, 8, 8, 8, 8, 8, 8, 8, 8, 8, 8, 8, 8, 8, 8, 8, 8, 8, 8, 8, 8, 8, 8, 8, 8, 8, 8, 8, 8, 8, 8, 8, 8, 8, 8, 8, 8, 8, 8, 8, 8, 8, 8, 8, 8, 8, 8, 8, 8, 8, 8, 8, 8, 8, 8, 8, 8, 8, 8, 8] [8, 8, 8, 8, 8, 8, 8, 8, 8, 8, 8, 8, 8, 8, 8, 8, 8, 8, 8, 8, 8, 8, 8, 8, 8, 8, 8, 8, 8, 8, 8, 8, 8, 8, 8, 8, 8, 8, 8, 8, 8, 8, 8, 8, 8, 8, 8, 8, 8, 8, 8, 8, 8, 8, 8, 8, 8, 8, 8, 8, 8, 8, 8, 8])).toArray⟩ : ByteArray) n).toNat = bl 8 n := by decide +kernel
theorem tbl_ok : ∀ n, n < 256 → (byteAt (⟨(List.append (List.append [0, 1, 2, 2, 3, 3, 3, 3, 4, 4, 4, 4, 4, 4, 4, 4, 5, 5, 5, 5, 5, 5, 5, 5, 5, 5, 5, 5, 5, 5, 5, 5, 6, 6, 6, 6, 6, 6, 6, 6, 6, 6, 6, 6, 6, 6, 6, 6, 6, 6, 6, 6, 6, 6, 6, 6, 6, 6, 6, 6, 6, 6, 6, 6] [7, 7, 7, 7, 7, 7, 7, 7, 7, 7, 7, 7, 7, 7, 7, 7, 7, 7, 7, 7, 7, 7, 7, 7, 7, 7, 7, 7, 7, 7, 7, 7, 7, 7, 7, 7, 7, 7, 7, 7, 7, 7, 7, 7, 7, 7, 7, 7, 7, 7, 7, 7, 7, 7, 7, 7, 7, 7, 7, 7, 7, 7, 7, 7]) (List.append [8, 8, 8, 8, 8, 8, 8, 8, 8, 8, 8, 8, 8, 8, 8, 8, 8, 8, 8, 8, 8, 8, 8, 8, 8, 8, 8, 8, 8, 8, 8, 8, 8, 8, 8, 8, 8, 8, 8, 8, 8, 8, 8, 8, 8, 8, 8, 8, 8, 8, 8, 8, 8, 8, 8, 8, 8, 8, 8, 8, 8, 8, 8, 8] [8, 8, 8, 8, 8, 8, 8, 8, 8, 8, 8, 8, 8, 8, 8, 8, 8, 8, 8, 8, 8, 8, 8, 8, 8, 8, 8, 8, 8, 8, 8, 8, 8, 8, 8, 8, 8, 8, 8, 8, 8, 8, 8, 8, 8, 8, 8, 8, 8, 8, 8, 8, 8, 8, 8, 8, 8, 8, 8, 8, 8, 8, 8, 8])).toArray⟩ : ByteArray) n).toNat = blen n := by
  intro n hn
  rw [tbl_bl n hn, bl_eq 8 n (by omega)]
theorem blen_256 (n : Nat) (h : 256 ≤ n) : blen n = blen (n / 256) + 8 := by
  rw [blen_s n (by omega), blen_s (n / 2) (by omega), blen_s (n / 2 / 2) (by omega), blen_s (n / 2 / 2 / 2) (by omega), blen_s (n / 2 / 2 / 2 / 2) (by omega), blen_s (n / 2 / 2 / 2 / 2 / 2) (by omega), blen_s (n / 2 / 2 / 2 / 2 / 2 / 2) (by omega), blen_s (n / 2 / 2 / 2 / 2 / 2 / 2 / 2) (by omega)]
  have : n / 2 / 2 / 2 / 2 / 2 / 2 / 2 / 2 = n / 256 := by omega
  rw [this]
theorem blen_le (k n : Nat) (h : n < 2 ^ k) : blen n ≤ k := by
  induction k generalizing n with
  | zero => have : n = 0 := by simpa using h
            subst this; rw [blen_0]; exact Nat.le_refl _
  | succ k ih =>
    by_cases h0 : n = 0
    · subst h0; rw [blen_0]; omega
    · rw [blen_s n h0]
      have := ih (n / 2) (by rw [Nat.pow_succ] at h; omega)
      omega

set_option maxHeartbeats 1000000 in
theorem len16_any (n : Nat) (w : World) (hn : n < 65536) :
    Calls Try.prog 45 #[.int .u16 n] w fun e w' => e = .returned (.int .i64 (blen n)) ∧ w = w' := by
  have ht := tbl_ok
  have hsz : ((⟨(List.append (List.append [0, 1, 2, 2, 3, 3, 3, 3, 4, 4, 4, 4, 4, 4, 4, 4, 5, 5, 5, 5, 5, 5, 5, 5, 5, 5, 5, 5, 5, 5, 5, 5, 6, 6, 6, 6, 6, 6, 6, 6, 6, 6, 6, 6, 6, 6, 6, 6, 6, 6, 6, 6, 6, 6, 6, 6, 6, 6, 6, 6, 6, 6, 6, 6] [7, 7, 7, 7, 7, 7, 7, 7, 7, 7, 7, 7, 7, 7, 7, 7, 7, 7, 7, 7, 7, 7, 7, 7, 7, 7, 7, 7, 7, 7, 7, 7, 7, 7, 7, 7, 7, 7, 7, 7, 7, 7, 7, 7, 7, 7, 7, 7, 7, 7, 7, 7, 7, 7, 7, 7, 7, 7, 7, 7, 7, 7, 7, 7]) (List.append [8, 8, 8, 8, 8, 8, 8, 8, 8, 8, 8, 8, 8, 8, 8, 8, 8, 8, 8, 8, 8, 8, 8, 8, 8, 8, 8, 8, 8, 8, 8, 8, 8, 8, 8, 8, 8, 8, 8, 8, 8, 8, 8, 8, 8, 8, 8, 8, 8, 8, 8, 8, 8, 8, 8, 8, 8, 8, 8, 8, 8, 8, 8, 8] [8, 8, 8, 8, 8, 8, 8, 8, 8, 8, 8, 8, 8, 8, 8, 8, 8, 8, 8, 8, 8, 8, 8, 8, 8, 8, 8, 8, 8, 8, 8, 8, 8, 8, 8, 8, 8, 8, 8, 8, 8, 8, 8, 8, 8, 8, 8, 8, 8, 8, 8, 8, 8, 8, 8, 8, 8, 8, 8, 8, 8, 8, 8, 8])).toArray⟩) : ByteArray).size = 256 := by kernel_rfl
  refine calls_of_W (args := [.int .u16 n]) (rs := [.tmp 2]) (n := 13) Try.func45 rfl rfl rfl (by kernel_rfl) ?_
  generalize (⟨(List.append (List.append [0, 1, 2, 2, 3, 3, 3, 3, 4, 4, 4, 4, 4, 4, 4, 4, 5, 5, 5, 5, 5, 5, 5, 5, 5, 5, 5, 5, 5, 5, 5, 5, 6, 6, 6, 6, 6, 6, 6, 6, 6, 6, 6, 6, 6, 6, 6, 6, 6, 6, 6, 6, 6, 6, 6, 6, 6, 6, 6, 6, 6, 6, 6, 6] [7, 7, 7, 7, 7, 7, 7, 7, 7, 7, 7, 7, 7, 7, 7, 7, 7, 7, 7, 7, 7, 7, 7, 7, 7, 7, 7, 7, 7, 7, 7, 7, 7, 7, 7, 7, 7, 7, 7, 7, 7, 7, 7, 7, 7, 7, 7, 7, 7, 7, 7, 7, 7, 7, 7, 7, 7, 7, 7, 7, 7, 7, 7, 7]) (List.append [8, 8, 8, 8, 8, 8, 8, 8, 8, 8, 8, 8, 8, 8, 8, 8, 8, 8, 8, 8, 8, 8, 8, 8, 8, 8, 8, 8, 8, 8, 8, 8, 8, 8, 8, 8, 8, 8, 8, 8, 8, 8, 8, 8, 8, 8, 8, 8, 8, 8, 8, 8, 8, 8, 8, 8, 8, 8, 8, 8, 8, 8, 8, 8] [8, 8, 8, 8, 8, 8, 8, 8, 8, 8, 8, 8, 8, 8, 8, 8, 8, 8, 8, 8, 8, 8, 8, 8, 8, 8, 8, 8, 8, 8, 8, 8, 8, 8, 8, 8, 8, 8, 8, 8, 8, 8, 8, 8, 8, 8, 8, 8, 8, 8, 8, 8, 8, 8, 8, 8, 8, 8, 8, 8, 8, 8, 8, 8])).toArray⟩ : ByteArray) = T at *
  refine W_rt (by kernel_rfl) (fun K hK => ?_)
  simp [go_sem]
  refine hK _ _ ?_; clear hK K
  refine W_seq (fun K1 hK1 => ?_)
  refine W_rt (by kernel_rfl) (fun K hK => ?_)
  simp [go_sem]
  refine hK _ _ ?_; clear hK K
  by_cases h : 256 ≤ n
  · have h' : (256 : Int) ≤ n := by omega
    have hs : shrI .u16 (n : Int) 8 = ((n / 256 : Nat) : Int) := shr_nat .u16 n 8 (by decide)
    have hb := blen_256 n h
    have hl := blen_le 8 (n / 256) (by omega)
    generalize hq : n / 256 = q at *
    have hq' : q < 256 := by omega
    have h8 : IntKind.u8.wrap (q : Int) = q := w8_in _ (by omega)
    have hz1 : (0 : Int) ≤ q := by omega
    have hz2 : (q : Int) < T.size := by omega
    have ht1 := ht q hq'
    have hz3 : q < T.size := by omega
    have h9 : IntKind.i64.wrap (blen q : Int) = (blen q : Int) := IntWalk.i64_in _ (by omega)
    have h10 : IntKind.i64.wrap (8 + (blen q : Int)) = 8 + (blen q : Int) := IntWalk.i64_in _ (by omega)
    refine W_if (by simp [go_sem, h, h']; rfl) rfl ?_
    refine W_rt (by kernel_rfl) (fun K hK => ?_)
    simp [go_sem, hs]
    refine hK _ _ ?_; clear hK K
    refine W_text (by kernel_rfl) (fun K hK => ?_)
    simp [go_sem]
    refine hK _ _ ?_; clear hK K
    refine hK1 _ _ ?_; clear hK1 K1
    refine W_rt (by kernel_rfl) (fun K hK => ?_)
    simp [go_sem, h8, hz1, hz2, hz3, ht1, h9, h10]
    refine hK _ _ ?_; clear hK K
    refine W_ret ?_
    repeat (first | refine thenG_ret ?_ | refine inBlock_ret ?_)
    refine ⟨trivial, ?_, rfl⟩
    simp [go_sem, pack, resL, hb]
    omega
  · have h' : ¬ (256 : Int) ≤ n := by omega
    have h8 : IntKind.u8.wrap (n : Int) = n := w8_in _ (by omega)
    have hl := blen_le 8 n (by omega)
    have hz1 : (0 : Int) ≤ n := by omega
    have hz2 : (n : Int) < T.size := by omega
    have ht1 := ht n (by omega)
    have hz3 : n < T.size := by omega
    have h9 : IntKind.i64.wrap (blen n : Int) = (blen n : Int) := IntWalk.i64_in _ (by omega)
    have h10 : IntKind.i64.wrap (0 + (blen n : Int)) = (blen n : Int) := by rw [IntWalk.i64_in _ (by omega)]; omega
    refine W_if (by simp [go_sem, h, h']; rfl) rfl ?_
    refine W_skip ?_
    refine hK1 _ _ ?_; clear hK1 K1
    refine W_rt (by kernel_rfl) (fun K hK => ?_)
    simp [go_sem, h8, hz1, hz2, hz3, ht1, h9, h10]
    refine hK _ _ ?_; clear hK K
    refine W_ret ?_
    repeat (first | refine thenG_ret ?_ | refine inBlock_ret ?_)
    refine ⟨trivial, ?_, rfl⟩
    simp [go_sem, pack, resL]
end Go.Proofs.Ytomniiobaonloaa
