/- Natural numbers, fourth part: short, Uint, limb, Same. -/
import Derived.Test.YtomniiobaonloaaNt3
namespace Go.Proofs.Ytomniiobaonloaa
open Go.RowKit Go.V
set_option linter.unusedSimpArgs false
set_option linter.unusedVariables false

theorem pow_le4 (k : Nat) (h : k ≤ 4) : 65536 ^ k ≤ 18446744073709551616 := by
  have : 65536 ^ k ≤ 65536 ^ 4 := Nat.pow_le_pow_right (by decide) h
  simpa using this
theorem val_lt4 (l : List Nat) (h : Ok l) (hl : l.length ≤ 4) : val l < 18446744073709551616 := Nat.lt_of_lt_of_le (val_lt l h) (pow_le4 _ hl)

set_option maxHeartbeats 1000000 in
theorem short_any (l : List Nat) (a : Option Addr) (c : Nat) (w : World) (hr : RD w a c l) (hl : l.length ≤ 4) :
    Calls Try.prog 44 #[.slice a l.length c] w fun e w' => e = .returned (.int .u64 (val l)) ∧ w = w' := by
  refine calls_of_W (args := [.slice a l.length c]) (rs := [.tmp 2]) (n := 21) Try.func44 rfl rfl rfl (by kernel_rfl) ?_
  refine W_rt (by kernel_rfl) (fun K hK => ?_)
  simp [go_sem]
  refine hK _ _ ?_; clear hK K
  refine W_rt (by kernel_rfl) (fun K hK => ?_)
  simp [go_sem]
  refine hK _ _ ?_; clear hK K
  have hw0 : IntKind.i64.wrap (↑l.length - 1) = (l.length : Int) - 1 := IntWalk.i64_in _ (by omega)
  refine W_seq (fun K1 hK1 => ?_)
  refine W_rt (by kernel_rfl) (fun K hK => ?_)
  simp [go_sem, hw0]
  refine hK _ _ ?_; clear hK K
  refine W_block ?_
  refine W_loop (fun m g w' => w' = w ∧ m ≤ l.length ∧ g 0 = .slice a l.length c ∧ g 3 = .int .u64 (val (l.drop m)) ∧ g 4 = .int .i64 ((m : Int) - 1)) l.length ?_ ?_
  · exact ⟨rfl, Nat.le_refl _, rfl, by rw [List.drop_length]; rfl, rfl⟩
  · rintro m g w' ⟨rfl, hm, g0, g3, g4⟩
    refine W_seq (fun K2 hK2 => ?_)
    rcases m with _ | i
    · have g4' : g 4 = .int .i64 (-1) := g4
      refine W_rt (by kernel_rfl) (fun K hK => ?_)
      simp [go_sem, g4']
      refine hK _ _ ?_; clear hK K
      refine W_if (by simp [go_sem]; rfl) rfl ?_
      refine W_exit ?_
      repeat (first | refine thenG_exit ?_ | refine inBlock_other rfl ?_ | refine inBlock_same ?_)
      refine hK1 _ _ ?_; clear hK1 K1 hK2 K2
      rw [List.drop_zero] at g3
      refine W_rt (by kernel_rfl) (fun K hK => ?_)
      simp [go_sem, g3]
      refine hK _ _ ?_; clear hK K
      refine W_ret ?_
      repeat (first | refine thenG_ret ?_ | refine inBlock_ret ?_)
      refine ⟨trivial, ?_, rfl⟩
      simp [go_sem, pack, resL]
    · have g4' : g 4 = .int .i64 (i : Int) := by rw [g4]; congr 1; omega
      have hi : i < l.length := by omega
      have hi' : (i : Int) < l.length := by omega
      have hi0 : (0 : Int) ≤ i := by omega
      obtain ⟨c1, c2⟩ := hr.at hi
      have hx := lat_lt hr.ok i
      have hv := val_drop l i hi
      have hb : val (l.drop i) < 18446744073709551616 := val_lt4 _ (hr.ok.drop i) (by rw [List.length_drop]; omega)
      rw [hv] at hb
      have h1 : IntKind.u64.wrap (↑(val (l.drop (i + 1))) * 65536) = ((val (l.drop (i + 1)) : Nat) : Int) * 65536 := w64_in _ (by omega)
      have h2 : IntKind.u64.wrap (↑(lat l i)) = ((lat l i : Nat) : Int) := w64_in _ (by omega)
      have h3 : IntKind.u64.wrap (↑(val (l.drop (i + 1))) * 65536 + ↑(lat l i)) = ((val (l.drop (i + 1)) : Nat) : Int) * 65536 + (lat l i : Nat) := w64_in _ (by omega)
      have h4 : IntKind.i64.wrap (↑i - 1) = (i : Int) - 1 := IntWalk.i64_in _ (by omega)
      generalize hV : val (l.drop (i + 1)) = V at *
      generalize hX : lat l i = x at *
      refine W_rt (by kernel_rfl) (fun K hK => ?_)
      simp [go_sem, g4', hi0]
      refine hK _ _ ?_; clear hK K
      refine W_if (by simp [go_sem, hi0]; rfl) rfl ?_
      refine W_skip ?_
      refine hK2 _ _ ?_; clear hK2 K2
      refine W_seq (fun K2 hK2 => ?_)
      refine W_block ?_
      refine W_text (by kernel_rfl) (fun K hK => ?_)
      simp [go_sem, g0, g3, g4', hi, hi', hi0, c1, c2, h1, h2, h3]
      refine hK _ _ ?_; clear hK K
      refine hK2 _ _ ?_; clear hK2 K2
      refine W_text (by kernel_rfl) (fun K hK => ?_)
      simp [go_sem, g4', h4]
      refine hK _ _ ⟨i, by omega, rfl, by omega, by simp [go_sem, g0], ?_, by simp [go_sem]⟩
      simp [go_sem, hv]; omega

def uintV (l : List Nat) : Nat := if (nrm l).length ≤ 4 then val l else 0
set_option maxHeartbeats 1000000 in
theorem uintR_any (l : List Nat) (a : Option Addr) (c : Nat) (w : World) (hr : RD w a c l) (hl : l.length ≤ lenB) :
    Calls Try.prog 15 #[.slice a l.length c] w fun e w' => e = .returned (.tuple #[.int .u64 (uintV l), .bool (decide ((nrm l).length ≤ 4))]) ∧ Below w.heap.size w w' := by
  refine calls_of_W (args := [.slice a l.length c]) (rs := [.tmp 2, .tmp 3]) (n := 11) Try.func15 rfl rfl rfl (by kernel_rfl) ?_
  refine W_rt (by kernel_rfl) (fun K hK => ?_)
  simp [go_sem]
  refine hK _ _ ?_; clear hK K
  refine W_rt (by kernel_rfl) (fun K hK => ?_)
  simp [go_sem]
  refine hv_call (by simp [go_sem]) rfl Try.call18 (fun R hR => ?_)
  simp [go_sem]
  refine (normR_any l a c _ hr hl).mono ?_
  rintro e w1 ⟨a1, c1, rfl, hr1, hE1⟩
  refine ⟨_, rfl, hR _ _ ?_⟩
  clear hR R
  simp [go_sem]
  refine hK _ _ ?_; clear hK K
  refine W_seq (fun K1 hK1 => ?_)
  refine W_rt (by kernel_rfl) (fun K hK => ?_)
  simp [go_sem]
  refine hK _ _ ?_; clear hK K
  by_cases h4 : (nrm l).length ≤ 4
  · have h4' : ¬ (4 : Int) < (nrm l).length := by omega
    refine W_if (by simp [go_sem, h4']; rfl) rfl ?_
    refine W_skip ?_
    refine hK1 _ _ ?_; clear hK1 K1
    refine W_rt (by kernel_rfl) (fun K hK => ?_)
    simp [go_sem]
    refine hv_call (by simp [go_sem]) rfl Try.call44 (fun R hR => ?_)
    simp [go_sem]
    refine (short_any (nrm l) a1 c1 _ hr1 h4).mono ?_
    rintro e w2 ⟨rfl, rfl⟩
    refine ⟨_, rfl, hR _ _ ?_⟩
    clear hR R
    simp [go_sem]
    refine hK _ _ ?_; clear hK K
    refine W_ret ?_
    repeat (first | refine thenG_ret ?_ | refine inBlock_ret ?_)
    refine ⟨trivial, ?_, hE1⟩
    simp [go_sem, pack, resL, uintV, h4, val_nrm]
  · have h4' : (4 : Int) < (nrm l).length := by omega
    refine W_if (by simp [go_sem, h4']; rfl) rfl ?_
    refine W_rt (by kernel_rfl) (fun K hK => ?_)
    simp [go_sem]
    refine hK _ _ ?_; clear hK K
    refine W_ret ?_
    repeat (first | refine thenG_ret ?_ | refine inBlock_ret ?_)
    refine ⟨trivial, ?_, hE1⟩
    simp [go_sem, pack, resL, uintV, h4]

set_option maxHeartbeats 1000000 in
theorem uint_any (l : List Nat) (a : Option Addr) (c : Nat) (w : World) (hr : RD w a c l) (hl : l.length ≤ lenB) :
    Calls Try.prog 14 #[.slice a l.length c] w fun e w' => e = .returned (.tuple #[.int .u64 (uintV l), .bool (decide ((nrm l).length ≤ 4))]) ∧ w = w' := by
  refine calls_of_W (args := [.slice a l.length c]) (rs := [.tmp 2, .tmp 3]) (n := 28) Try.func14 rfl rfl rfl (by kernel_rfl) ?_
  refine W_rt (by kernel_rfl) (fun K hK => ?_)
  simp [go_sem]
  refine hK _ _ ?_; clear hK K
  refine W_rt (by kernel_rfl) (fun K hK => ?_)
  simp [go_sem]
  refine hv_call (by simp [go_sem]) rfl Try.call43 (fun R hR => ?_)
  simp [go_sem]
  refine (trim_any l a c _ hr hl).mono ?_
  rintro e w1 ⟨rfl, rfl⟩
  refine ⟨_, rfl, hR _ _ ?_⟩
  clear hR R
  simp [go_sem]
  refine hK _ _ ?_; clear hK K
  have hr2 := hr.nrm
  have huv : uintV l = if (nrm l).length ≤ 4 then val (nrm l) else 0 := by unfold uintV; rw [val_nrm]
  rw [huv]
  generalize nrm l = m at *
  refine W_seq (fun K1 hK1 => ?_)
  refine W_rt (by kernel_rfl) (fun K hK => ?_)
  simp [go_sem]
  refine hK _ _ ?_; clear hK K
  by_cases h4 : m.length ≤ 4
  · have h4' : ¬ (4 : Int) < m.length := by omega
    refine W_if (by simp [go_sem, h4']; rfl) rfl ?_
    refine W_skip ?_
    refine hK1 _ _ ?_; clear hK1 K1
    refine W_rt (by kernel_rfl) (fun K hK => ?_)
    simp [go_sem]
    refine hK _ _ ?_; clear hK K
    refine W_seq (fun K1 hK1 => ?_)
    refine W_rt (by kernel_rfl) (fun K hK => ?_)
    simp [go_sem]
    refine hK _ _ ?_; clear hK K
    refine W_block ?_
    refine W_loop (fun k g w' => w' = w ∧ ∃ i : Nat, i ≤ m.length ∧ k = m.length - i ∧ g 4 = .int .u64 (val (m.take i)) ∧ g 12 = .slice a m.length c ∧ g 13 = .int .i64 m.length ∧ g 14 = .int .i64 i) m.length ?_ ?_
    · exact ⟨rfl, 0, by omega, rfl, by simp [go_sem, val], by simp [go_sem], by simp [go_sem], by simp [go_sem]⟩
    · rintro k g w' ⟨rfl, i, hi, rfl, g4, g12, g13, g14⟩
      refine W_rt (by kernel_rfl) (fun K hK => ?_)
      simp [go_sem, g13, g14]
      refine hK _ _ ?_; clear hK K
      refine W_seq (fun K2 hK2 => ?_)
      by_cases hlt : i < m.length
      · have hlt' : (i : Int) < m.length := by omega
        obtain ⟨c1, c2⟩ := hr2.at hlt
        have hx := lat_lt hr2.ok i
        have hv := val_take m i hlt
        have hb : val (m.take (i + 1)) < 18446744073709551616 := val_lt4 _ (hr2.ok.take _) (by rw [List.length_take]; omega)
        have hb0 : val (m.take i) < 2 ^ (16 * i) := by
          have := val_lt (m.take i) (hr2.ok.take _)
          rw [List.length_take, Nat.min_eq_left (by omega), pow_16] at this
          exact this
        have hY : 65536 ^ i * lat m i = lat m i * 2 ^ (16 * i) := by rw [pow_16, Nat.mul_comm]
        rw [hY] at hv
        have h1 : IntKind.u64.wrap (↑(lat m i)) = ((lat m i : Nat) : Int) := w64_in _ (by omega)
        have h2 : IntKind.i64.wrap (16 * ↑i) = 16 * (i : Int) := IntWalk.i64_in _ (by omega)
        have h2' : (0 : Int) ≤ 16 * (i : Int) := by omega
        have h3 : shlI .u64 (lat m i : Int) (16 * (i : Int)) = ((lat m i * 2 ^ (16 * i) : Nat) : Int) := by
          have e : (16 * (i : Int)) = ((16 * i : Nat) : Int) := by simp
          rw [e, shl_nat .u64 _ _ (by show 16 * i ≤ 64; omega)]
          exact w64_in _ (by omega)
        have ho := or_add (val (m.take i)) (lat m i) (16 * i) hb0
        rw [← hv] at ho
        generalize lat m i * 2 ^ (16 * i) = Y at *
        have h4 : orI .u64 (val (m.take i) : Int) (Y : Int) = ((val (m.take (i + 1)) : Nat) : Int) := by
          rw [or_u64 _ _ (by omega) (by omega), ho]
        have hw1 : IntKind.i64.wrap (↑i + 1) = (i : Int) + 1 := IntWalk.i64_in _ (by omega)
        refine W_if (by simp [go_sem, hlt, hlt']; rfl) rfl ?_
        refine W_skip ?_
        refine hK2 _ _ ?_; clear hK2 K2
        refine W_seq (fun K2 hK2 => ?_)
        refine W_block ?_
        refine W_rt (by kernel_rfl) (fun K hK => ?_)
        simp [go_sem, g12, g14, hlt, hlt', c1, c2]
        refine hK _ _ ?_; clear hK K
        refine W_text (by kernel_rfl) (fun K hK => ?_)
        simp [go_sem, g4, h1, h2, h2', h3, h4]
        refine hK _ _ ?_; clear hK K
        refine hK2 _ _ ?_; clear hK2 K2
        refine W_text (by kernel_rfl) (fun K hK => ?_)
        simp [go_sem, g14, hw1]
        refine hK _ _ ⟨m.length - (i + 1), by omega, rfl, i + 1, by omega, rfl, by simp [go_sem], by simp [go_sem, g12], by simp [go_sem, g13], by simp [go_sem]⟩
      · have him : i = m.length := by omega
        refine W_if (by simp [go_sem, hlt]; rfl) rfl ?_
        refine W_exit ?_
        repeat (first | refine thenG_exit ?_ | refine inBlock_other rfl ?_ | refine inBlock_same ?_)
        refine hK1 _ _ ?_; clear hK1 K1 hK2 K2
        rw [him, List.take_length] at g4
        refine W_rt (by kernel_rfl) (fun K hK => ?_)
        simp [go_sem, g4]
        refine hK _ _ ?_; clear hK K
        refine W_ret ?_
        repeat (first | refine thenG_ret ?_ | refine inBlock_ret ?_)
        refine ⟨trivial, ?_, rfl⟩
        simp [go_sem, pack, resL, h4]
  · have h4' : (4 : Int) < m.length := by omega
    refine W_if (by simp [go_sem, h4']; rfl) rfl ?_
    refine W_rt (by kernel_rfl) (fun K hK => ?_)
    simp [go_sem]
    refine hK _ _ ?_; clear hK K
    refine W_ret ?_
    repeat (first | refine thenG_ret ?_ | refine inBlock_ret ?_)
    refine ⟨trivial, ?_, rfl⟩
    simp [go_sem, pack, resL, h4]
end Go.Proofs.Ytomniiobaonloaa
