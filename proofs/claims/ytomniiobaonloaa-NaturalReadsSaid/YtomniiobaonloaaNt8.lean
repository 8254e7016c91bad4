/- Natural numbers, eighth part: Bits. -/
import Derived.Test.YtomniiobaonloaaNt7
namespace Go.Proofs.Ytomniiobaonloaa
open Go.RowKit Go.V
set_option linter.unusedSimpArgs false
set_option linter.unusedVariables false

theorem blen_big (x v : Nat) (hx : x < 65536) (hv : v ≠ 0) : blen (x + 65536 * v) = blen v + 16 := by
  rw [blen_256 _ (by omega), blen_256 ((x + 65536 * v) / 256) (by omega)]
  have : (x + 65536 * v) / 256 / 256 = v := by omega
  rw [this]
theorem val_pos_top (l : List Nat) (k : Nat) (h : l.length = k + 1) (ht : lat l k ≠ 0) : val l ≠ 0 := by
  intro e
  have h1 := val_take l k (by omega)
  rw [List.take_of_length_le (by omega), e] at h1
  have : 65536 ^ k * 1 ≤ 65536 ^ k * lat l k := Nat.mul_le_mul_left _ (by omega)
  have : 0 < 65536 ^ k := Nat.pow_pos (by decide)
  omega
theorem blen_val : ∀ (k : Nat) (l : List Nat), Ok l → l.length = k + 1 → lat l k ≠ 0 → blen (val l) = 16 * k + blen (lat l k)
  | _, [], _, h, _ => by simp at h
  | 0, [x], _, _, _ => by simp [val, lat]
  | 0, x :: y :: l, _, h, _ => by simp at h
  | k + 1, x :: l, hok, h, ht => by
    have h' : l.length = k + 1 := by simpa using h
    have ht' : lat l k ≠ 0 := ht
    rw [val, blen_big x (val l) hok.head (val_pos_top l k h' ht'), blen_val k l hok.tail h' ht']
    show _ = 16 * (k + 1) + blen (lat l k)
    omega
theorem blen_nrm (l : List Nat) (hok : Ok l) (k : Nat) (h : (nrm l).length = k + 1) : blen (val l) = 16 * k + blen (lat (nrm l) k) := by
  rw [← val_nrm l]
  exact blen_val k (nrm l) (nrm_ok l hok) h (nrm_top l k h)
theorem blen_bound (l : List Nat) (hok : Ok l) : blen (val l) ≤ 16 * l.length := by
  refine blen_le _ _ ?_
  rw [← pow_16]; exact val_lt l hok

set_option maxHeartbeats 1000000 in
theorem bits_any (l : List Nat) (a : Option Addr) (c : Nat) (w : World) (hr : RD w a c l) (hl : l.length ≤ lenB) :
    Calls Try.prog 19 #[.slice a l.length c] w fun e w' => e = .returned (.int .i64 (blen (val l))) ∧ w = w' := by
  have hl' : l.length ≤ 1000000000000 := hl
  have hn := nrm_len l
  have hb := blen_nrm l hr.ok
  have hz := nrm_nil_iff l
  refine calls_of_W (args := [.slice a l.length c]) (rs := [.tmp 2]) (n := 20) Try.func19 rfl rfl rfl (by kernel_rfl) ?_
  refine W_rt (by kernel_rfl) (fun K hK => ?_)
  simp [go_sem]
  refine hK _ _ ?_; clear hK K
  refine W_rt (by kernel_rfl) (fun K hK => ?_)
  simp [go_sem]
  refine hv_call (by simp [go_sem]) rfl Try.call43 (fun R hR => ?_)
  simp [go_sem]
  refine (trim_any l a c _ hr hl).mono ?_
  rintro e w1 ⟨rfl, rfl⟩
  refine ⟨_, rfl, hR _ _ ?_⟩
  clear hR R
  simp [go_sem]
  refine hK _ _ ?_; clear hK K
  replace hr := hr.nrm
  generalize nrm l = m at *
  refine W_seq (fun K1 hK1 => ?_)
  refine W_rt (by kernel_rfl) (fun K hK => ?_)
  simp [go_sem]
  refine hK _ _ ?_; clear hK K
  by_cases h0 : m.length = 0
  · have e0 : m = [] := List.length_eq_zero_iff.1 h0
    have hv : val l = 0 := hz.1 e0
    subst e0
    refine W_if (by simp [go_sem]; rfl) rfl ?_
    refine W_rt (by kernel_rfl) (fun K hK => ?_)
    simp [go_sem]
    refine hK _ _ ?_; clear hK K
    refine W_ret ?_
    repeat (first | refine thenG_ret ?_ | refine inBlock_ret ?_)
    refine ⟨trivial, ?_, rfl⟩
    simp [go_sem, pack, resL, hv, blen_0]
  · obtain ⟨k, hk⟩ : ∃ k, m.length = k + 1 := ⟨m.length - 1, by omega⟩
    have h0' : ¬ (m.length : Int) = 0 := by omega
    have h0'' : ¬ m = [] := by intro e; subst e; exact h0 rfl
    have hw1 : IntKind.i64.wrap (↑m.length - 1) = (k : Int) := by rw [IntWalk.i64_in _ (by omega)]; omega
    have hw2 : IntKind.i64.wrap (16 * ↑k) = 16 * (k : Int) := IntWalk.i64_in _ (by omega)
    have hkl : k < m.length := by omega
    have hkl' : (k : Int) < m.length := by omega
    have hk0 : (0 : Int) ≤ k := by omega
    obtain ⟨c1, c2⟩ := hr.at hkl
    have hx := lat_lt hr.ok k
    have hb2 := hb k hk
    have hbl := blen_le 16 (lat m k) (by omega)
    have hw3 : IntKind.i64.wrap (16 * ↑k + ↑(blen (lat m k))) = 16 * (k : Int) + (blen (lat m k) : Nat) := IntWalk.i64_in _ (by omega)
    refine W_if (by simp [go_sem, h0, h0', h0'']; rfl) rfl ?_
    refine W_skip ?_
    refine hK1 _ _ ?_; clear hK1 K1
    refine W_rt (by kernel_rfl) (fun K hK => ?_)
    simp [go_sem, hw1, hw2, hkl, hkl', hk0, c1, c2]
    refine hv_call (by simp [go_sem, hw1, hw2, hkl, hkl', hk0, c1, c2]) rfl Try.call45 (fun R hR => ?_)
    simp [go_sem, hw1, hw2, hkl, hkl', hk0, c1, c2]
    refine (len16_any (lat m k) _ hx).mono ?_
    rintro e w1 ⟨rfl, rfl⟩
    refine ⟨_, rfl, hR _ _ ?_⟩
    clear hR R
    simp [go_sem, hw3]
    refine hK _ _ ?_; clear hK K
    refine W_ret ?_
    repeat (first | refine thenG_ret ?_ | refine inBlock_ret ?_)
    refine ⟨trivial, ?_, rfl⟩
    simp [go_sem, pack, resL, hb2]

set_option maxHeartbeats 1000000 in
theorem bitsR_any (l : List Nat) (a : Option Addr) (c : Nat) (w : World) (hr : RD w a c l) (hl : l.length ≤ lenB) :
    Calls Try.prog 20 #[.slice a l.length c] w fun e w' => e = .returned (.int .i64 (blen (val l))) ∧ Below w.heap.size w w' := by
  have hl' : l.length ≤ 1000000000000 := hl
  have hn := nrm_len l
  have hb := blen_nrm l hr.ok
  have hz := nrm_nil_iff l
  refine calls_of_W (args := [.slice a l.length c]) (rs := [.tmp 2]) (n := 27) Try.func20 rfl rfl rfl (by kernel_rfl) ?_
  refine W_rt (by kernel_rfl) (fun K hK => ?_)
  simp [go_sem]
  refine hK _ _ ?_; clear hK K
  refine W_rt (by kernel_rfl) (fun K hK => ?_)
  simp [go_sem]
  refine hv_call (by simp [go_sem]) rfl Try.call18 (fun R hR => ?_)
  simp [go_sem]
  refine (normR_any l a c _ hr hl).mono ?_
  rintro e w1 ⟨a1, c1, rfl, hr1, hE1⟩
  refine ⟨_, rfl, hR _ _ ?_⟩
  clear hR R
  simp [go_sem]
  refine hK _ _ ?_; clear hK K
  generalize nrm l = m at *
  refine W_seq (fun K1 hK1 => ?_)
  refine W_rt (by kernel_rfl) (fun K hK => ?_)
  simp [go_sem]
  refine hK _ _ ?_; clear hK K
  by_cases h0 : m.length = 0
  · have e0 : m = [] := List.length_eq_zero_iff.1 h0
    have hv : val l = 0 := hz.1 e0
    subst e0
    refine W_if (by simp [go_sem]; rfl) rfl ?_
    refine W_rt (by kernel_rfl) (fun K hK => ?_)
    simp [go_sem]
    refine hK _ _ ?_; clear hK K
    refine W_ret ?_
    repeat (first | refine thenG_ret ?_ | refine inBlock_ret ?_)
    refine ⟨trivial, ?_, hE1⟩
    simp [go_sem, pack, resL, hv, blen_0]
  · obtain ⟨k, hk⟩ : ∃ k, m.length = k + 1 := ⟨m.length - 1, by omega⟩
    have h0' : ¬ (m.length : Int) = 0 := by omega
    have h0'' : ¬ m = [] := by intro e; subst e; exact h0 rfl
    have hw1 : IntKind.i64.wrap (↑m.length - 1) = (k : Int) := by rw [IntWalk.i64_in _ (by omega)]; omega
    have hw2 : IntKind.i64.wrap (16 * ↑k) = 16 * (k : Int) := IntWalk.i64_in _ (by omega)
    have hkl : k < m.length := by omega
    have hkl' : (k : Int) < m.length := by omega
    have hk0 : (0 : Int) ≤ k := by omega
    obtain ⟨d1, d2⟩ := hr1.at hkl
    have hx := lat_lt hr1.ok k
    have hb2 := hb k hk
    have hbl := blen_le 16 (lat m k) (by omega)
    rw [hb2]
    generalize lat m k = x at *
    refine W_if (by simp [go_sem, h0, h0', h0'']; rfl) rfl ?_
    refine W_skip ?_
    refine hK1 _ _ ?_; clear hK1 K1
    refine W_rt (by kernel_rfl) (fun K hK => ?_)
    simp [go_sem, hw1, hw2]
    refine hK _ _ ?_; clear hK K
    refine W_seq (fun K1 hK1 => ?_)
    refine W_rt (by kernel_rfl) (fun K hK => ?_)
    simp [go_sem, hw1, hkl, hkl', hk0, d1, d2]
    refine hK _ _ ?_; clear hK K
    refine W_block ?_
    refine W_loop (fun t g w' => w' = w1 ∧ t ≤ x ∧ ∃ n : Nat, g 3 = .int .i64 n ∧ g 4 = .int .u16 t ∧ n + blen t = 16 * k + blen x) x ?_ ?_
    · exact ⟨rfl, Nat.le_refl _, 16 * k, by simp [go_sem], by simp [go_sem], rfl⟩
    · rintro t g w' ⟨rfl, ht, n, g3, g4, hN⟩
      refine W_seq (fun K2 hK2 => ?_)
      by_cases h0 : t = 0
      · subst h0
        refine W_rt (by kernel_rfl) (fun K hK => ?_)
        simp [go_sem, g4]
        refine hK _ _ ?_; clear hK K
        refine W_if (by simp [go_sem]; rfl) rfl ?_
        refine W_exit ?_
        repeat (first | refine thenG_exit ?_ | refine inBlock_other rfl ?_ | refine inBlock_same ?_)
        refine hK1 _ _ ?_; clear hK1 K1 hK2 K2
        refine W_rt (by kernel_rfl) (fun K hK => ?_)
        simp [go_sem, g3]
        refine hK _ _ ?_; clear hK K
        refine W_ret ?_
        repeat (first | refine thenG_ret ?_ | refine inBlock_ret ?_)
        refine ⟨trivial, ?_, hE1⟩
        rw [blen_0] at hN
        simp [go_sem, pack, resL]; omega
      · have ht0 : (0 : Int) < t := by omega
        have ht0' : 0 < t := by omega
        rw [blen_s t h0] at hN
        have hw3 : IntKind.i64.wrap (↑n + 1) = (n : Int) + 1 := IntWalk.i64_in _ (by omega)
        have hw4 : (t : Int).tdiv 2 = ((t / 2 : Nat) : Int) := rfl
        have hw5 : IntKind.u16.wrap ((t / 2 : Nat) : Int) = ((t / 2 : Nat) : Int) := w16_in _ (by omega)
        generalize hy : t / 2 = y at *
        refine W_rt (by kernel_rfl) (fun K hK => ?_)
        simp [go_sem, g4, ht0, ht0']
        refine hK _ _ ?_; clear hK K
        refine W_if (by simp [go_sem, ht0, ht0']; rfl) rfl ?_
        refine W_skip ?_
        refine hK2 _ _ ?_; clear hK2 K2
        refine W_seq (fun K2 hK2 => ?_)
        refine W_block ?_
        refine W_text (by kernel_rfl) (fun K hK => ?_)
        simp [go_sem, g3, hw3]
        refine hK _ _ ?_; clear hK K
        refine hK2 _ _ ?_; clear hK2 K2
        refine W_text (by kernel_rfl) (fun K hK => ?_)
        simp [go_sem, g4, hw4, hw5]
        refine hK _ _ ⟨y, by omega, rfl, by omega, n + 1, by simp [go_sem], by simp [go_sem], by omega⟩
end Go.Proofs.Ytomniiobaonloaa
