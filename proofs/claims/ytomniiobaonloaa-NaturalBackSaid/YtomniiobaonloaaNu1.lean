/- Natural numbers: the specification's Shift and Sqrt. -/
import Derived.Test.YtomniiobaonloaaNtZ
import Derived.Test.YtomniiobaonloaaNtD
namespace Go.Proofs.Ytomniiobaonloaa
open Go.RowKit Go.V
set_option linter.unusedSimpArgs false
set_option linter.unusedVariables false

theorem RD.drop {w : World} {a : Option Addr} {c : Nat} {l : List Nat} (h : RD w a c l) {k : Nat} (hk : k < l.length) : RD w (a.map (·.add k)) (c - k) (l.drop k) := by
  refine ⟨?_, h.ok.drop k, by have := h.cap; rw [List.length_drop]; omega⟩
  have := h.sl.sub k l.length
  rw [List.take_of_length_le (by rw [List.length_drop, lmC_len]; omega), ← lmC_drop] at this
  exact this
theorem shift_left_val (A k s n : Nat) (hn : n = 16 * k + s) : val (List.replicate k 0 ++ lim (A * 2 ^ s)) = A * 2 ^ n := by
  rw [val_app, val_zeros, val_lim, List.length_replicate, Nat.zero_add, pow_16, hn, Nat.pow_add, Nat.mul_left_comm]

set_option maxHeartbeats 1000000 in
theorem shiftR_any (l : List Nat) (a : Option Addr) (c : Nat) (N : Int) (w : World) (hr : RD w a c l) (hl : l.length + 1 ≤ lenS) :
    Calls Try.prog 42 #[.slice a l.length c, .int .i64 N] w (RetN w (lim (shiftV (val l) N))) := by
  have hl' : l.length + 1 ≤ 100000000000 := hl
  obtain ⟨X, hX⟩ : ∃ X, X = shiftV (val l) N := ⟨_, rfl⟩
  rw [← hX]
  unfold shiftV at hX
  refine calls_of_W (args := [.slice a l.length c, .int .i64 N]) (rs := [.tmp 4]) (n := 51) Try.func42 rfl rfl rfl (by kernel_rfl) ?_
  first | refine W_rt (by kernel_rfl) (fun K hK => ?_) | refine W_text (by kernel_rfl) (fun K hK => ?_)
  simp [go_sem]
  refine hK _ _ ?_; clear hK K
  refine W_seq (fun K1 hK1 => ?_)
  by_cases h1 : N < -1048576 ∨ 1048576 < N
  · rw [if_pos h1] at hX
    have hX0 : lim X = [] := by rw [hX, lim_zero]
    by_cases h2 : 1048576 < N
    · first | refine W_rt (by kernel_rfl) (fun K hK => ?_) | refine W_text (by kernel_rfl) (fun K hK => ?_)
      simp [go_sem, h2]
      refine hK _ _ ?_; clear hK K
      refine W_if (by simp [go_sem, h2]; rfl) rfl ?_
      first | refine W_rt (by kernel_rfl) (fun K hK => ?_) | refine W_text (by kernel_rfl) (fun K hK => ?_)
      simp [go_sem]
      refine hK _ _ ?_; clear hK K
      refine W_ret ?_
      repeat (first | refine thenG_ret ?_ | refine inBlock_ret ?_)
      rw [hX0]
      exact ⟨trivial, none, 0, by simp [go_sem, pack, resL], RD.nil _ _ _, Below.refl _ _⟩
    · have h3 : N < -1048576 := by omega
      first | refine W_rt (by kernel_rfl) (fun K hK => ?_) | refine W_text (by kernel_rfl) (fun K hK => ?_)
      simp [go_sem, h2, h3]
      refine hK _ _ ?_; clear hK K
      refine W_if (by simp [go_sem, h2, h3]; rfl) rfl ?_
      first | refine W_rt (by kernel_rfl) (fun K hK => ?_) | refine W_text (by kernel_rfl) (fun K hK => ?_)
      simp [go_sem]
      refine hK _ _ ?_; clear hK K
      refine W_ret ?_
      repeat (first | refine thenG_ret ?_ | refine inBlock_ret ?_)
      rw [hX0]
      exact ⟨trivial, none, 0, by simp [go_sem, pack, resL], RD.nil _ _ _, Below.refl _ _⟩
  · rw [if_neg h1] at hX
    have h2 : ¬ 1048576 < N := by omega
    have h3 : ¬ N < -1048576 := by omega
    first | refine W_rt (by kernel_rfl) (fun K hK => ?_) | refine W_text (by kernel_rfl) (fun K hK => ?_)
    simp [go_sem, h2, h3]
    refine hK _ _ ?_; clear hK K
    refine W_if (by simp [go_sem, h2, h3]; rfl) rfl ?_
    refine W_skip ?_
    refine hK1 _ _ ?_; clear hK1 K1
    refine W_seq (fun K1 hK1 => ?_)
    by_cases h4 : N < 0
    · obtain ⟨n, rfl⟩ : ∃ n : Nat, N = -(n : Int) := ⟨(-N).toNat, by omega⟩
      have en : (- -(n : Int)).toNat = n := by omega
      rw [if_pos h4, en] at hX
      have h4' : ¬ (0 : Int) ≤ -(n : Int) := by omega
      have f0 : IntKind.i64.wrap (- -(n : Int)) = (n : Int) := by rw [IntWalk.i64_in _ (by omega)]; omega
      have f1 : (n : Int).tdiv 16 = ((n / 16 : Nat) : Int) := rfl
      have f1' : IntKind.i64.wrap ((n / 16 : Nat) : Int) = ((n / 16 : Nat) : Int) := IntWalk.i64_in _ (by omega)
      have f2 : (n : Int).tmod 16 = ((n % 16 : Nat) : Int) := rfl
      have hks : n = 16 * (n / 16) + n % 16 := by omega
      have hs16 : n % 16 < 16 := by omega
      have hk0 : n / 16 ≤ 65536 := by omega
      generalize n / 16 = k at *
      generalize n % 16 = s at *
      have hV : val l / 2 ^ n = val (l.drop k) / 2 ^ s := by
        rw [val_drop_div k l hr.ok, Nat.div_div_eq_div_mul, pow_16, ← Nat.pow_add, ← hks]
      rw [hV] at hX
      generalize hNN : -(n : Int) = NN at *
      first | refine W_rt (by kernel_rfl) (fun K hK => ?_) | refine W_text (by kernel_rfl) (fun K hK => ?_)
      simp [go_sem, h4']
      refine hK _ _ ?_; clear hK K
      refine W_if (by simp [go_sem, h4']; rfl) rfl ?_
      refine W_skip ?_
      refine hK1 _ _ ?_; clear hK1 K1
      refine W_seq (fun K1 hK1 => ?_)
      by_cases hkl : l.length ≤ k
      · have hkl' : (l.length : Int) ≤ k := by omega
        have hz : lim (val (l.drop k) / 2 ^ s) = [] := by
          rw [List.drop_eq_nil_of_le hkl]; simp [val, lim_zero]
        first | refine W_rt (by kernel_rfl) (fun K hK => ?_) | refine W_text (by kernel_rfl) (fun K hK => ?_)
        simp [go_sem, f0, f1, f1', hkl, hkl']
        refine hK _ _ ?_; clear hK K
        refine W_if (by simp [go_sem, hkl, hkl']; rfl) rfl ?_
        first | refine W_rt (by kernel_rfl) (fun K hK => ?_) | refine W_text (by kernel_rfl) (fun K hK => ?_)
        simp [go_sem]
        refine hK _ _ ?_; clear hK K
        refine W_ret ?_
        repeat (first | refine thenG_ret ?_ | refine inBlock_ret ?_)
        rw [hX, hz]
        exact ⟨trivial, none, 0, by simp [go_sem, pack, resL], RD.nil _ _ _, Below.refl _ _⟩
      · have hkl' : ¬ (l.length : Int) ≤ k := by omega
        first | refine W_rt (by kernel_rfl) (fun K hK => ?_) | refine W_text (by kernel_rfl) (fun K hK => ?_)
        simp [go_sem, f0, f1, f1', hkl, hkl']
        refine hK _ _ ?_; clear hK K
        refine W_if (by simp [go_sem, hkl, hkl']; rfl) rfl ?_
        refine W_skip ?_
        refine hK1 _ _ ?_; clear hK1 K1
        have hD : Below w.heap.size w w.drew := Below.drew1 _
        have hrd := (hr.ext hD).drop (k := k) (by omega)
        have hcap := hr.cap
        have q1 : (0 : Int) ≤ k := by omega
        have q2 : ¬ c = k := by omega
        have q3 : (l.length : Int) ≤ c := by omega
        have q4 : (k : Int) ≤ l.length := by omega
        have q5 : k ≤ l.length := by omega
        have q6 : (0 : Int) ≤ s := by omega
        obtain ⟨T, hT⟩ : ∃ T, T = l.drop k := ⟨_, rfl⟩
        have hTl : l.length - k = T.length := by rw [hT, List.length_drop]
        have hTb : T.length + 1 ≤ lenS := by rw [← hTl]; omega
        rw [← hT] at hrd hX
        have p15 : 2 ^ s ≤ 2 ^ 15 := Nat.pow_le_pow_right (by decide) (by omega)
        have p0 : 0 < 2 ^ s := Nat.pow_pos (by decide)
        have f3 : shlI .u64 1 (s : Int) = ((2 ^ s : Nat) : Int) := by
          have := shl_nat .u64 1 s (by show s ≤ 64; omega)
          rw [Nat.one_mul] at this
          rw [show ((1 : Nat) : Int) = 1 from rfl] at this
          rw [this]; exact w64_in _ (by omega)
        obtain ⟨D, hDD⟩ : ∃ D, D = 2 ^ s := ⟨_, rfl⟩
        rw [← hDD] at f3 p15 p0 hX
        have hDl : (lim D).length + 1 ≤ lenS := Nat.le_trans (Nat.succ_le_succ (lim_len 4 D (by omega))) (by decide)
        first | refine W_rd [(0, 0), (1, 0), (2, 0), (3, 0), (4, 0), (5, 0), (6, 0), (7, 0), (8, 0), (9, 1), (10, 1), (11, 0), (12, 0), (13, 0), (14, 0), (15, 0), (16, 0), (17, 0)] (by kernel_rfl) (by kernel_rfl) (fun K hK => ?_) | refine W_draw [(0, 0), (1, 0), (2, 0), (3, 0), (4, 0), (5, 0), (6, 0), (7, 0), (8, 0), (9, 1), (10, 1), (11, 0), (12, 0), (13, 0), (14, 0), (15, 0), (16, 0), (17, 0)] (by kernel_rfl) (by kernel_rfl) (fun K hK => ?_)
        simp [go_sem, f0, f1, f1', f2, f3, q1, q2, q3, q4, q5, q6, hTl]
        refine hv_call (by simp [go_sem, f0, f1, f1', f2, f3, q1, q2, q3, q4, q5, q6, hTl]) rfl Try.call24 (fun R hR => ?_)
        simp [go_sem, f0, f1, f1', f2, f3, q1, q2, q3, q4, q5, q6, hTl]
        refine (ofR_any D _ (by omega)).mono ?_
        rintro e w2 ⟨a2, c2, rfl, hr2, hE2⟩
        refine ⟨_, rfl, hE2, hR _ _ ?_⟩
        clear hR R
        have hdm := divmodR_any T (lim D) (a.map (·.add k)) a2 (c - k) c2 _ (hrd.ext hE2) hr2 hTb hDl
        rw [val_lim] at hdm
        simp [go_sem, f0, f1, f1', f2, f3, q1, q2, q3, q4, q5, q6, hTl]
        refine hv_call (by simp [go_sem]) rfl Try.call26 (fun R hR => ?_)
        simp [go_sem]
        refine hdm.mono ?_
        rintro e w4 (⟨hbad, _⟩ | ⟨_, a4, c4, a5, c5, rfl, hr4, hr5, hE4⟩)
        · omega
        refine ⟨_, rfl, ?_, hR _ _ ?_⟩
        · exact hE4
        clear hR R
        simp [go_sem]
        refine hK _ _ ?_; clear hK K
        first | refine W_rt (by kernel_rfl) (fun K hK => ?_) | refine W_text (by kernel_rfl) (fun K hK => ?_)
        simp [go_sem]
        refine hK _ _ ?_; clear hK K
        refine W_ret ?_
        repeat (first | refine thenG_ret ?_ | refine inBlock_ret ?_)
        rw [hX]
        refine ⟨trivial, a4, c4, ?_, hr4, (hD.next hE2).next hE4⟩
        simp [go_sem, pack, resL]
    · obtain ⟨n, rfl⟩ : ∃ n : Nat, N = (n : Int) := ⟨N.toNat, by omega⟩
      have en : ((n : Int)).toNat = n := by omega
      rw [if_neg h4, en] at hX
      have h4' : (0 : Int) ≤ (n : Int) := by omega
      have f1 : (n : Int).tdiv 16 = ((n / 16 : Nat) : Int) := rfl
      have f1' : IntKind.i64.wrap ((n / 16 : Nat) : Int) = ((n / 16 : Nat) : Int) := IntWalk.i64_in _ (by omega)
      have f2 : (n : Int).tmod 16 = ((n % 16 : Nat) : Int) := rfl
      have hks : n = 16 * (n / 16) + n % 16 := by omega
      have hs16 : n % 16 < 16 := by omega
      have hk0 : n / 16 ≤ 65536 := by omega
      generalize n / 16 = k at *
      generalize n % 16 = s at *
      have q6 : (0 : Int) ≤ s := by omega
      have p15 : 2 ^ s ≤ 2 ^ 15 := Nat.pow_le_pow_right (by decide) (by omega)
      have p0 : 0 < 2 ^ s := Nat.pow_pos (by decide)
      have f3 : shlI .u64 1 (s : Int) = ((2 ^ s : Nat) : Int) := by
        have := shl_nat .u64 1 s (by show s ≤ 64; omega)
        rw [Nat.one_mul] at this
        rw [show ((1 : Nat) : Int) = 1 from rfl] at this
        rw [this]; exact w64_in _ (by omega)
      have hsv := shift_left_val (val l) k s n hks
      obtain ⟨D, hDD⟩ : ∃ D, D = 2 ^ s := ⟨_, rfl⟩
      rw [← hDD] at f3 p15 p0 hsv
      have hDl : (lim D).length ≤ lenS := Nat.le_trans (lim_len 4 D (by omega)) (by decide)
      have hprod : (lim (val l * D)).length ≤ l.length + 1 := by
        refine lim_len _ _ ?_
        rw [Nat.pow_succ]
        exact Nat.mul_lt_mul'' (val_lt l hr.ok) (by omega)
      first | refine W_rt (by kernel_rfl) (fun K hK => ?_) | refine W_text (by kernel_rfl) (fun K hK => ?_)
      simp [go_sem, h4']
      refine hK _ _ ?_; clear hK K
      refine W_if (by simp [go_sem, h4']; rfl) rfl ?_
      first | refine W_rt (by kernel_rfl) (fun K hK => ?_) | refine W_text (by kernel_rfl) (fun K hK => ?_)
      simp [go_sem, f1, f1']
      refine hv_make (kl := .i64) (kc := .i64) k k (by simp [go_sem, f1, f1']) rfl ty_slZ22 ty_bytes39 (by simp [go_sem, f1, f1']) (by simp [go_sem, f1, f1']) (by omega) (by omega) (by omega) (fun w2 b2 hE2 hle2 hB2 => ?_)
      rw [Nat.mul_one, madeCells_one, lm_zeros] at hB2
      replace hr := hr.ext hE2
      have hown2 : w2.ownsRow w.heap.size 39 1 (.slice (some ⟨b2, 0, none⟩) k k) k (lmC (List.replicate k 0)) := own_of_bx (xs := lmC (List.replicate k 0)) hB2 hle2 (by simp [lmC_len]) (by unfold maxLen; omega)
      simp [go_sem]
      refine hK _ _ ?_; clear hK K
      first | refine W_rt (by kernel_rfl) (fun K hK => ?_) | refine W_text (by kernel_rfl) (fun K hK => ?_)
      simp [go_sem, f2, f3, q6]
      refine hv_call (by simp [go_sem, f2, f3, q6]) rfl Try.call24 (fun R hR => ?_)
      simp [go_sem, f2, f3, q6]
      refine (ofR_any D _ (by omega)).mono ?_
      rintro e w3 ⟨a3, c3, rfl, hr3, hE3⟩
      refine ⟨_, rfl, hR _ _ ?_⟩
      clear hR R
      replace hr := hr.ext hE3
      simp [go_sem]
      refine hv_call (by simp [go_sem]) rfl Try.call34 (fun R hR => ?_)
      simp [go_sem]
      refine (mulR_any l (lim D) a a3 c c3 _ hr hr3 (by omega) hDl).mono ?_
      rintro e w4 ⟨a4, c4, rfl, hr4, hE4⟩
      refine ⟨_, rfl, hR _ _ ?_⟩
      clear hR R
      rw [val_lim] at hr4
      rw [val_lim]
      have hown4 := own_keep (own_keep hown2 hE3) hE4
      have hE := (hE2.next hE3).next hE4
      simp [go_sem]
      refine hv_appendL (a := a4) (c := c4) (len := (lim (val l * D)).length) (lmC (lim (val l * D))) (by simp [go_sem]) rfl ty_slZ22 ty_bytes39 rfl (by simp [go_sem]) (by simp [go_sem]) hown4 (lmC_len _) hr4.sl (lmC_one _) (by unfold maxLen; omega) (by omega) hE.size (by decide) (fun v5 w5 hown5 hg5 => ?_)
      rw [← lmC_app] at hown5
      replace hE := hE.nextG hg5 (fun k e => (hown4.lt k e).1)
      have hok5 : Ok (List.replicate k 0 ++ lim (val l * D)) := (Ok.zeros k).app (lim_ok _)
      obtain ⟨a5, c5, rfl, hr5⟩ := RD.of_own hown5 hok5
      have hl5 : (List.replicate k 0 ++ lim (val l * D)).length ≤ lenB := by
        rw [List.length_append, List.length_replicate]; unfold lenB; omega
      have hno := normR_any _ a5 c5 _ hr5 hl5
      rw [← lim_val _ hok5, hsv, ← hX] at hno
      generalize (List.replicate k 0 ++ lim (val l * D)).length = len5 at *
      simp [go_sem]
      refine hv_call (by simp [go_sem]) rfl Try.call18 (fun R hR => ?_)
      simp [go_sem]
      refine (hno).mono ?_
      rintro e w6 ⟨a6, c6, rfl, hr6, hE6⟩
      refine ⟨_, rfl, hR _ _ ?_⟩
      clear hR R
      simp [go_sem]
      refine hK _ _ ?_; clear hK K
      refine W_ret ?_
      repeat (first | refine thenG_ret ?_ | refine inBlock_ret ?_)
      refine ⟨trivial, a6, c6, ?_, hr6, hE.next hE6⟩
      simp [go_sem, pack, resL]
end Go.Proofs.Ytomniiobaonloaa
