/- Natural numbers, third part: the arithmetic of the machine's kinds; Of, short, Uint. -/
import Derived.Test.YtomniiobaonloaaNt2
import Derived.Laws.Bits64
import Derived.Laws.BitsAllLaws
namespace Go.Proofs.Ytomniiobaonloaa
open Go.RowKit Go.V
set_option linter.unusedSimpArgs false
set_option linter.unusedVariables false

theorem w16 (n : Nat) : IntKind.u16.wrap (n : Int) = ((n % 65536 : Nat) : Int) := by rw [IntKind.wrap_u16]; omega
theorem w16_in (n : Int) (h : 0 ≤ n ∧ n < 65536) : IntKind.u16.wrap n = n := by rw [IntKind.wrap_u16]; omega
theorem w8_in (n : Int) (h : 0 ≤ n ∧ n < 256) : IntKind.u8.wrap n = n := by rw [IntKind.wrap_u8]; omega
theorem w32_in (n : Int) (h : 0 ≤ n ∧ n < 4294967296) : IntKind.u32.wrap n = n := by rw [IntKind.wrap_u32]; omega
theorem i32_in (n : Int) (h : -2147483648 ≤ n ∧ n < 2147483648) : IntKind.i32.wrap n = n := by rw [IntKind.wrap_i32]; omega
theorem w64_in (n : Int) (h : 0 ≤ n ∧ n < 18446744073709551616) : IntKind.u64.wrap n = n := by rw [IntKind.wrap_u64]; omega
theorem shr_nat (k : IntKind) (a s : Nat) (h : s ≤ k.bits) : shrI k a s = ((a / 2 ^ s : Nat) : Int) := by
  unfold shrI
  rw [Int.toNat_natCast, Nat.min_eq_left h, Int.fdiv_eq_ediv_of_nonneg _ (by exact Int.le_of_lt (Int.pow_pos (by decide)))]
  simp
theorem shl_nat (k : IntKind) (a s : Nat) (h : s ≤ k.bits) : shlI k a s = k.wrap ((a * 2 ^ s : Nat) : Int) := by
  unfold shlI
  rw [Int.toNat_natCast, Nat.min_eq_left h]
  congr 1
theorem or_u64 (a b : Nat) (ha : a < 18446744073709551616) (hb : b < 18446744073709551616) : orI .u64 a b = ((a ||| b : Nat) : Int) := by
  unfold orI
  have e : IntKind.u64.bits = 64 := rfl
  have e1 : (BitVec.ofInt IntKind.u64.bits (a : Int) ||| BitVec.ofInt IntKind.u64.bits (b : Int)).toNat = a ||| b := by
    rw [e, BitVec.toNat_or, BitVec.ofInt_natCast, BitVec.ofInt_natCast, BitVec.toNat_ofNat, BitVec.toNat_ofNat, Nat.mod_eq_of_lt (by omega), Nat.mod_eq_of_lt (by omega)]
  rw [e1]
  have : a ||| b < 2 ^ 64 := Nat.or_lt_two_pow (by omega) (by omega)
  exact w64_in _ ⟨by omega, by omega⟩
theorem or_add (a b s : Nat) (h : a < 2 ^ s) : a ||| (b * 2 ^ s) = a + b * 2 ^ s := by
  rw [Nat.or_comm, ← Nat.shiftLeft_eq, ← Nat.shiftLeft_add_eq_or_of_lt h]; omega
theorem pow_16 (i : Nat) : 65536 ^ i = 2 ^ (16 * i) := by rw [Nat.pow_mul]
theorem val_take (l : List Nat) (i : Nat) (h : i < l.length) : val (l.take (i + 1)) = val (l.take i) + 65536 ^ i * lat l i := by
  rw [take_lat h, val_app, List.length_take]
  have : min i l.length = i := by omega
  rw [this]; simp [val]
theorem val_drop (l : List Nat) (i : Nat) (h : i < l.length) : val (l.drop i) = lat l i + 65536 * val (l.drop (i + 1)) := by
  rw [drop_lat h, val]
theorem lim_len : ∀ (k n : Nat), n < 65536 ^ k → (lim n).length ≤ k
  | 0, n, h => by
    have : n = 0 := by simpa using h
    subst this; rw [lim_zero]; exact Nat.le_refl _
  | k + 1, n, h => by
    by_cases h0 : n = 0
    · subst h0; rw [lim_zero]; exact Nat.zero_le _
    · rw [lim_pos n h0, List.length_cons]
      rw [Nat.pow_succ] at h
      have := lim_len k (n / 65536) (by omega)
      omega
theorem RD.len {w : World} {a : Option Addr} {c : Nat} {l : List Nat} (h : RD w a c l) {i : Nat} (hi : i < l.length) : a.isSome = true := (h.get hi).2
theorem lmC_snoc (l : List Nat) (x : Nat) : lmC (l ++ [x]) = lmC l ++ [.int .u16 x] := by simp [lmC]

set_option maxHeartbeats 1000000 in
theorem of_any (n : Nat) (w : World) (hn : n < 18446744073709551616) :
    Calls Try.prog 23 #[.int .u64 n] w (RetN w (lim n)) := by
  have hlim := lim_len 4 n (by simpa using hn)
  refine calls_of_W (args := [.int .u64 n]) (rs := [.tmp 2]) (n := 14) Try.func23 rfl rfl rfl (by kernel_rfl) ?_
  refine W_rt (by kernel_rfl) (fun K hK => ?_)
  simp [go_sem]
  refine hK _ _ ?_; clear hK K
  refine W_rt (by kernel_rfl) (fun K hK => ?_)
  simp [go_sem]
  refine hK _ _ ?_; clear hK K
  refine W_seq (fun K1 hK1 => ?_)
  refine W_block ?_
  refine W_loop (fun m g w' => Below w.heap.size w w' ∧ ∃ (v : Value) (acc : List Nat), m ≤ n ∧ g 0 = .int .u64 m ∧ g 3 = v ∧ w'.ownsRow w.heap.size 39 1 v acc.length (lmC acc) ∧ Ok acc ∧ acc ++ lim m = lim n) n ?_ ?_
  · exact ⟨Below.refl _ _, .slice none 0 0, [], Nat.le_refl _, rfl, rfl, World.ownsRow_nil _ _ _ _, Ok.nil, rfl⟩
  · rintro m g w' ⟨hE, v, acc, hm, g0, g3, hown, hok, hacc⟩
    refine W_seq (fun K2 hK2 => ?_)
    have hal : acc.length ≤ 4 := by have := congrArg List.length hacc; rw [List.length_append] at this; omega
    by_cases h0 : m = 0
    · subst h0
      refine W_rt (by kernel_rfl) (fun K hK => ?_)
      simp [go_sem, g0]
      refine hK _ _ ?_; clear hK K
      refine W_if (by simp [go_sem]; rfl) rfl ?_
      refine W_exit ?_
      repeat (first | refine thenG_exit ?_ | refine inBlock_other rfl ?_ | refine inBlock_same ?_)
      refine hK1 _ _ ?_; clear hK1 K1 hK2 K2
      rw [lim_zero, List.append_nil] at hacc
      subst hacc
      obtain ⟨a, c, rfl, hr⟩ := RD.of_own hown hok
      refine W_rt (by kernel_rfl) (fun K hK => ?_)
      simp [go_sem, g3]
      refine hK _ _ ?_; clear hK K
      refine W_ret ?_
      repeat (first | refine thenG_ret ?_ | refine inBlock_ret ?_)
      refine ⟨trivial, a, c, ?_, hr, hE⟩
      simp [go_sem, pack, resL]
    · have h0' : (0 : Int) < m := by omega
      have h0'' : 0 < m := by omega
      have hw := w16 m
      have hs : shrI .u64 (m : Int) 16 = ((m / 65536 : Nat) : Int) := shr_nat .u64 m 16 (by decide)
      refine W_rt (by kernel_rfl) (fun K hK => ?_)
      simp [go_sem, g0, h0', h0'']
      refine hK _ _ ?_; clear hK K
      refine W_if (by simp [go_sem, h0', h0'']; rfl) rfl ?_
      refine W_skip ?_
      refine hK2 _ _ ?_; clear hK2 K2
      refine W_seq (fun K2 hK2 => ?_)
      refine W_block ?_
      generalize hx : m % 65536 = x at *
      have hx' : x < 65536 := by omega
      refine W_text (by kernel_rfl) (fun K hK => ?_)
      simp [go_sem, g0, g3, hw]
      refine hv_buildSlice #[.int .u16 x] (by simp [go_sem, hw]) rfl ty_slZ22 (by decide) [(0, .int .u16 x)] (by simp [go_sem, hw]) (by kernel_rfl) (fun w8 b8 hE8 hle8 hB8 => ?_)
      have hown8 : w8.ownsRow w.heap.size 39 1 v acc.length (lmC acc) := own_keep hown hE8
      replace hE := hE.next hE8
      simp [go_sem]
      refine hv_appendB (v := v) (b := b8) (len := 1) (c := 1) hB8 (by simp [go_sem]) rfl ty_slZ22 ty_bytes39 rfl (by decide) (by simp [go_sem, g3]) (by simp [go_sem]) hown8 rfl (by simp [Value.oneCell']) (by unfold maxLen; omega) (by omega) hE.size (by decide) (fun v' w9 hown9 hg9 _ => ?_)
      replace hE := hE.nextG hg9 (fun b e => (hown8.lt b e).1)
      simp [go_sem]
      refine hK _ _ ?_; clear hK K
      refine hK2 _ _ ?_; clear hK2 K2
      generalize hy : m / 65536 = y at *
      refine W_text (by kernel_rfl) (fun K hK => ?_)
      simp [go_sem, g0, hs]
      refine hK _ _ ⟨y, by omega, hE, v', acc ++ [x], by omega, by simp [go_sem], by simp [go_sem], ?_, hok.app (Ok.cons hx' Ok.nil), ?_⟩
      · rw [lmC_snoc, List.length_append]; exact hown9
      · rw [← hacc, lim_pos m h0, hx, hy]; simp
set_option maxHeartbeats 1000000 in
theorem ofR_any (n : Nat) (w : World) (hn : n < 18446744073709551616) :
    Calls Try.prog 24 #[.int .u64 n] w (RetN w (lim n)) := by
  have hlim := lim_len 4 n (by simpa using hn)
  refine calls_of_W (args := [.int .u64 n]) (rs := [.tmp 2]) (n := 15) Try.func24 rfl rfl rfl (by kernel_rfl) ?_
  refine W_rt (by kernel_rfl) (fun K hK => ?_)
  simp [go_sem]
  refine hK _ _ ?_; clear hK K
  refine W_rt (by kernel_rfl) (fun K hK => ?_)
  simp [go_sem]
  refine hK _ _ ?_; clear hK K
  refine W_seq (fun K1 hK1 => ?_)
  refine W_block ?_
  refine W_loop (fun m g w' => Below w.heap.size w w' ∧ ∃ (v : Value) (acc : List Nat), m ≤ n ∧ g 0 = .int .u64 m ∧ g 3 = v ∧ w'.ownsRow w.heap.size 39 1 v acc.length (lmC acc) ∧ Ok acc ∧ acc ++ lim m = lim n) n ?_ ?_
  · exact ⟨Below.refl _ _, .slice none 0 0, [], Nat.le_refl _, rfl, rfl, World.ownsRow_nil _ _ _ _, Ok.nil, rfl⟩
  · rintro m g w' ⟨hE, v, acc, hm, g0, g3, hown, hok, hacc⟩
    refine W_seq (fun K2 hK2 => ?_)
    have hal : acc.length ≤ 4 := by have := congrArg List.length hacc; rw [List.length_append] at this; omega
    by_cases h0 : m = 0
    · subst h0
      refine W_rt (by kernel_rfl) (fun K hK => ?_)
      simp [go_sem, g0]
      refine hK _ _ ?_; clear hK K
      refine W_if (by simp [go_sem]; rfl) rfl ?_
      refine W_exit ?_
      repeat (first | refine thenG_exit ?_ | refine inBlock_other rfl ?_ | refine inBlock_same ?_)
      refine hK1 _ _ ?_; clear hK1 K1 hK2 K2
      rw [lim_zero, List.append_nil] at hacc
      subst hacc
      obtain ⟨a, c, rfl, hr⟩ := RD.of_own hown hok
      refine W_rt (by kernel_rfl) (fun K hK => ?_)
      simp [go_sem, g3]
      refine hK _ _ ?_; clear hK K
      refine W_ret ?_
      repeat (first | refine thenG_ret ?_ | refine inBlock_ret ?_)
      refine ⟨trivial, a, c, ?_, hr, hE⟩
      simp [go_sem, pack, resL]
    · have h0' : (0 : Int) < m := by omega
      have h0'' : 0 < m := by omega
      have hw0 : (m : Int).tmod 65536 = ((m % 65536 : Nat) : Int) := rfl
      have hw : IntKind.u16.wrap ((m % 65536 : Nat) : Int) = ((m % 65536 : Nat) : Int) := w16_in _ (by omega)
      have hs0 : (m : Int).tdiv 65536 = ((m / 65536 : Nat) : Int) := rfl
      have hs : IntKind.u64.wrap ((m / 65536 : Nat) : Int) = ((m / 65536 : Nat) : Int) := w64_in _ (by omega)
      refine W_rt (by kernel_rfl) (fun K hK => ?_)
      simp [go_sem, g0, h0', h0'']
      refine hK _ _ ?_; clear hK K
      refine W_if (by simp [go_sem, h0', h0'']; rfl) rfl ?_
      refine W_skip ?_
      refine hK2 _ _ ?_; clear hK2 K2
      refine W_block ?_
      generalize hx : m % 65536 = x at *
      have hx' : x < 65536 := by omega
      refine W_rt (by kernel_rfl) (fun K hK => ?_)
      simp [go_sem, g0, g3, hw0, hw]
      refine hv_buildSlice #[.int .u16 x] (by simp [go_sem, hw0, hw]) rfl ty_slZ22 (by decide) [(0, .int .u16 x)] (by simp [go_sem, hw0, hw]) (by kernel_rfl) (fun w8 b8 hE8 hle8 hB8 => ?_)
      have hown8 : w8.ownsRow w.heap.size 39 1 v acc.length (lmC acc) := own_keep hown hE8
      replace hE := hE.next hE8
      simp [go_sem]
      refine hv_appendB (v := v) (b := b8) (len := 1) (c := 1) hB8 (by simp [go_sem]) rfl ty_slZ22 ty_bytes39 rfl (by decide) (by simp [go_sem, g3]) (by simp [go_sem]) hown8 rfl (by simp [Value.oneCell']) (by unfold maxLen; omega) (by omega) hE.size (by decide) (fun v' w9 hown9 hg9 _ => ?_)
      replace hE := hE.nextG hg9 (fun b e => (hown8.lt b e).1)
      simp [go_sem]
      refine hK _ _ ?_; clear hK K
      generalize hy : m / 65536 = y at *
      refine W_text (by kernel_rfl) (fun K hK => ?_)
      simp [go_sem, g0, hs0, hs]
      refine hK _ _ ⟨y, by omega, hE, v', acc ++ [x], by omega, by simp [go_sem], by simp [go_sem], ?_, hok.app (Ok.cons hx' Ok.nil), ?_⟩
      · rw [lmC_snoc, List.length_append]; exact hown9
      · rw [← hacc, lim_pos m h0, hx, hy]; simp
end Go.Proofs.Ytomniiobaonloaa
