/- Natural numbers: the specification's Sqrt. -/
import Derived.Test.YtomniiobaonloaaNu1
namespace Go.Proofs.Ytomniiobaonloaa
open Go.RowKit Go.V
set_option linter.unusedSimpArgs false
set_option linter.unusedVariables false

theorem shiftV_one (j : Nat) (hj : j ≤ 1048576) : shiftV 1 (j : Int) = 2 ^ j := by
  unfold shiftV
  rw [if_neg (by omega), if_neg (by omega), Int.toNat_natCast, Nat.one_mul]
theorem sq_self_le {r A : Nat} (h : r * r ≤ A) : r ≤ A := by
  rcases r with _ | r
  · omega
  · exact Nat.le_trans (Nat.le_mul_of_pos_left _ (by omega)) h
theorem sqrt_first (A t : Nat) (ht : t = (blen A - 1) / 2 + 1) : A < (0 + 2 ^ t) * (0 + 2 ^ t) := by
  rw [Nat.zero_add, ← Nat.pow_add]
  exact Nat.lt_of_lt_of_le (lt_blen A) (Nat.pow_le_pow_right (by decide) (by omega))
theorem lim_mul_len {x y k m : Nat} (hx : (lim x).length ≤ k) (hy : (lim y).length ≤ m) : (lim (x * y)).length ≤ k + m := by
  refine lim_len _ _ ?_
  have h1 := val_lt _ (lim_ok x)
  have h2 := val_lt _ (lim_ok y)
  rw [val_lim] at h1 h2
  have h3 : 65536 ^ (lim x).length ≤ 65536 ^ k := Nat.pow_le_pow_right (by decide) hx
  have h4 : 65536 ^ (lim y).length ≤ 65536 ^ m := Nat.pow_le_pow_right (by decide) hy
  rw [Nat.pow_add]
  exact Nat.mul_lt_mul'' (by omega) (by omega)
theorem sq_expand (r p : Nat) : r + 2 * p = r + p + p := by omega

set_option maxHeartbeats 2000000 in
theorem sqrtR_any (l : List Nat) (a : Option Addr) (c : Nat) (w : World) (hr : RD w a c l) (hl : l.length ≤ 100000) :
    Calls Try.prog 40 #[.slice a l.length c] w (SqPost w (val l)) := by
  have hbb := blen_bound l hr.ok
  have hAl : (lim (val l)).length ≤ 100000 := by rw [lim_val l hr.ok]; exact Nat.le_trans (nrm_len l) hl
  have hfirst := sqrt_first (val l)
  obtain ⟨A, hA⟩ : ∃ A, A = val l := ⟨_, rfl⟩
  rw [← hA] at hAl hfirst hbb ⊢
  obtain ⟨T0, hT0⟩ : ∃ T0, T0 = (blen A - 1) / 2 + 1 := ⟨_, rfl⟩
  replace hfirst := hfirst T0 hT0
  have hbi := bitsR_any l a c w hr (by unfold lenB; omega)
  rw [← hA] at hbi
  have f1 : IntKind.i64.wrap ((blen A : Int) - 1) = (blen A : Int) - 1 := IntWalk.i64_in _ (by omega)
  have f2 : IntKind.i64.wrap (((blen A : Int) - 1).tdiv 2) = (T0 : Int) - 1 := by
    rcases hb : blen A with _ | b
    · rw [hb] at hT0; subst hT0; decide
    · have e : ((b + 1 : Nat) : Int) - 1 = (b : Int) := by omega
      have e2 : (b : Int).tdiv 2 = ((b / 2 : Nat) : Int) := rfl
      rw [e, e2, IntWalk.i64_in _ (by omega)]; omega
  refine calls_of_W (args := [.slice a l.length c]) (rs := [.tmp 2, .tmp 3]) (n := 39) Try.func40 rfl rfl rfl (by kernel_rfl) ?_
  first | refine W_rt (by kernel_rfl) (fun K hK => ?_) | refine W_text (by kernel_rfl) (fun K hK => ?_)
  simp [go_sem]
  refine hK _ _ ?_; clear hK K
  first | refine W_rt (by kernel_rfl) (fun K hK => ?_) | refine W_text (by kernel_rfl) (fun K hK => ?_)
  simp [go_sem]
  refine hK _ _ ?_; clear hK K
  refine W_seq (fun K1 hK1 => ?_)
  first | refine W_rt (by kernel_rfl) (fun K hK => ?_) | refine W_text (by kernel_rfl) (fun K hK => ?_)
  simp [go_sem]
  refine hv_call (by simp [go_sem]) rfl Try.call20 (fun R hR => ?_)
  simp [go_sem]
  refine (hbi).mono ?_
  rintro e w1 ⟨rfl, hE1⟩
  refine ⟨_, rfl, hR _ _ ?_⟩
  clear hR R
  replace hr := hr.ext hE1
  have hE := hE1
  simp [go_sem, f1, f2]
  refine hK _ _ ?_; clear hK K
  have hTb : T0 ≤ 800001 := by omega
  clear hE1 hbi f1 f2 hT0 hbb
  refine W_block ?_
  refine W_loop (fun t g w' => Below w.heap.size w w' ∧ RD w' a c l ∧ ∃ root ar cr, t ≤ T0 ∧ g 0 = .slice a l.length c ∧ g 4 = .slice ar (lim root).length cr ∧ RD w' ar cr (lim root) ∧ g 5 = .int .i64 ((t : Int) - 1) ∧ root * root ≤ A ∧ A < (root + 2 ^ t) * (root + 2 ^ t)) T0 ?_ ?_
  · refine ⟨hE, hr, 0, none, 0, by omega, by simp [go_sem], ?_, ?_, by simp [go_sem], by omega, hfirst⟩
    · rw [lim_zero]; simp [go_sem]
    · rw [lim_zero]; exact RD.nil _ _ _
  · clear hE hr hfirst
    rintro t g w' ⟨hE, hr, root, ar, cr, htT, g0, g4, hrr, g5, h1, h2⟩
    have hrl : (lim root).length ≤ 100000 := lim_mono (sq_self_le h1) hAl
    refine W_seq (fun K2 hK2 => ?_)
    rcases t with _ | j
    · have hroot : root = isq A := isq_uniq h1 (by simpa using h2)
      first | refine W_rt (by kernel_rfl) (fun K hK => ?_) | refine W_text (by kernel_rfl) (fun K hK => ?_)
      simp [go_sem, g5]
      refine hK _ _ ?_; clear hK K
      refine W_if (by simp [go_sem]; rfl) rfl ?_
      refine W_exit ?_
      repeat (first | refine thenG_exit ?_ | refine inBlock_other rfl ?_ | refine inBlock_same ?_)
      refine hK1 _ _ ?_; clear hK1 K1 hK2 K2
      have hmul : (lim (root * root)).length ≤ lenB := lim_mono h1 (by unfold lenB; omega)
      first | refine W_rt (by kernel_rfl) (fun K hK => ?_) | refine W_text (by kernel_rfl) (fun K hK => ?_)
      simp [go_sem, g0, g4]
      refine hv_call (by simp [go_sem, g0, g4]) rfl Try.call34 (fun R hR => ?_)
      simp [go_sem, g0, g4]
      refine (mulR_any _ _ _ _ _ _ _ hrr hrr (by unfold lenS; omega) (by unfold lenS; omega)).mono ?_
      rintro e w2 ⟨a2, c2, rfl, hr2, hE2⟩
      refine ⟨_, rfl, hR _ _ ?_⟩
      clear hR R
      rw [val_lim] at hr2
      rw [val_lim]
      replace hr := hr.ext hE2
      replace hrr := hrr.ext hE2
      replace hE := hE.next hE2
      have hsu := subR_any l _ a a2 c c2 _ hr hr2 (by unfold lenB; omega) hmul
      rw [← hA, val_lim] at hsu
      simp [go_sem, g0, g4]
      refine hv_call (by simp [go_sem, g0, g4]) rfl Try.call32 (fun R hR => ?_)
      simp [go_sem, g0, g4]
      refine hsu.mono ?_
      rintro e w10 (⟨hbad, _⟩ | ⟨_, a10, c10, rfl, hr10, hE10⟩)
      · omega
      refine ⟨_, rfl, hR _ _ ?_⟩
      clear hR R
      replace hrr := hrr.ext hE10
      simp [go_sem]
      refine hK _ _ ?_; clear hK K
      first | refine W_rt (by kernel_rfl) (fun K hK => ?_) | refine W_text (by kernel_rfl) (fun K hK => ?_)
      simp [go_sem, g4]
      refine hK _ _ ?_; clear hK K
      refine W_ret ?_
      repeat (first | refine thenG_ret ?_ | refine inBlock_ret ?_)
      refine ⟨trivial, ar, cr, a10, c10, ?_, by rw [← hroot]; exact hrr, by rw [← hroot]; exact hr10, hE.next hE10⟩
      rw [← hroot]
      simp [go_sem, pack, resL]
    · have ej : ((j + 1 : Nat) : Int) - 1 = (j : Int) := by omega
      rw [ej] at g5
      have p0 : (0 : Int) ≤ j := by omega
      have hpl : (lim (2 ^ j)).length ≤ 100001 := lim_len2 _ _ (by omega)
      have hpow : (2 : Nat) ^ (j + 1) = 2 * 2 ^ j := by rw [Nat.pow_succ, Nat.mul_comm]
      rw [hpow, sq_expand] at h2
      have hsv := shiftV_one j (by omega)
      obtain ⟨p, hp⟩ : ∃ p, p = 2 ^ j := ⟨_, rfl⟩
      rw [← hp] at hpl h2 hsv
      have hnl : (lim (root + p)).length ≤ 100002 := lim_add_len (by omega) hpl
      have hml : (lim ((root + p) * (root + p))).length ≤ 100002 + 100002 := lim_mul_len hnl hnl
      first | refine W_rt (by kernel_rfl) (fun K hK => ?_) | refine W_text (by kernel_rfl) (fun K hK => ?_)
      simp [go_sem, g5, p0]
      refine hK _ _ ?_; clear hK K
      refine W_if (by simp [go_sem, p0]; rfl) rfl ?_
      refine W_skip ?_
      refine hK2 _ _ ?_; clear hK2 K2
      refine W_seq (fun K2 hK2 => ?_)
      refine W_block ?_
      first | refine W_rt (by kernel_rfl) (fun K hK => ?_) | refine W_text (by kernel_rfl) (fun K hK => ?_)
      simp [go_sem, g4, g5]
      refine hv_call (by simp [go_sem, g4, g5]) rfl Try.call24 (fun R hR => ?_)
      simp [go_sem, g4, g5]
      refine (ofR_any 1 _ (by decide)).mono ?_
      rintro e w2 ⟨a2, c2, rfl, hr2, hE2⟩
      refine ⟨_, rfl, hR _ _ ?_⟩
      clear hR R
      have hsh := shiftR_any (lim 1) a2 c2 (j : Int) _ hr2 (Nat.le_trans (Nat.succ_le_succ (lim_len 4 1 (by decide))) (by decide))
      rw [val_lim, hsv] at hsh
      simp [go_sem, g4, g5]
      refine hv_call (by simp [go_sem, g4, g5]) rfl Try.call42 (fun R hR => ?_)
      simp [go_sem, g4, g5]
      refine (hsh).mono ?_
      rintro e w3 ⟨a3, c3, rfl, hr3, hE3⟩
      refine ⟨_, rfl, hR _ _ ?_⟩
      clear hR R
      have hE23 := hE2.next hE3
      replace hr := hr.ext hE23
      replace hrr := hrr.ext hE23
      replace hE := hE.next hE23
      have had := addR_any (lim root) (lim p) ar a3 cr c3 _ hrr hr3 (by unfold lenS; omega) (by unfold lenS; omega)
      rw [val_lim, val_lim] at had
      simp [go_sem, g4, g5]
      refine hv_call (by simp [go_sem, g4, g5]) rfl Try.call33 (fun R hR => ?_)
      simp [go_sem, g4, g5]
      refine (had).mono ?_
      rintro e w4 ⟨a4, c4, rfl, hr4, hE4⟩
      refine ⟨_, rfl, hR _ _ ?_⟩
      clear hR R
      replace hr := hr.ext hE4
      replace hrr := hrr.ext hE4
      replace hE := hE.next hE4
      simp [go_sem]
      refine hK _ _ ?_; clear hK K
      have hmu := mulR_any (lim (root + p)) (lim (root + p)) a4 a4 c4 c4 _ hr4 hr4 (by unfold lenS; omega) (by unfold lenS; omega)
      rw [val_lim] at hmu
      first | refine W_rt (by kernel_rfl) (fun K hK => ?_) | refine W_text (by kernel_rfl) (fun K hK => ?_)
      simp [go_sem, g0]
      refine hv_call (by simp [go_sem, g0]) rfl Try.call34 (fun R hR => ?_)
      simp [go_sem, g0]
      refine (hmu).mono ?_
      rintro e w5 ⟨a5, c5, rfl, hr5, hE5⟩
      refine ⟨_, rfl, hR _ _ ?_⟩
      clear hR R
      replace hr := hr.ext hE5
      replace hrr := hrr.ext hE5
      replace hr4 := hr4.ext hE5
      replace hE := hE.next hE5
      have hcm := cmpR_any _ l a5 a c5 c _ hr5 hr (by unfold lenB; omega) (by unfold lenB; omega)
      rw [val_lim, ← hA] at hcm
      simp [go_sem, g0]
      refine hv_call (by simp [go_sem, g0]) rfl Try.call22 (fun R hR => ?_)
      simp [go_sem, g0]
      refine (hcm).mono ?_
      rintro e w6 ⟨rfl, rfl⟩
      refine ⟨_, rfl, hR _ _ ?_⟩
      clear hR R
      simp [go_sem]
      refine hK _ _ ?_; clear hK K
      have f5 : IntKind.i64.wrap ((j : Int) - 1) = (j : Int) - 1 := IntWalk.i64_in _ (by omega)
      by_cases hle : (root + p) * (root + p) ≤ A
      · have hc := cmpV_le hle
        refine W_if (by simp [go_sem, hc]; rfl) rfl ?_
        first | refine W_rt (by kernel_rfl) (fun K hK => ?_) | refine W_text (by kernel_rfl) (fun K hK => ?_)
        simp [go_sem]
        refine hK _ _ ?_; clear hK K
        refine hK2 _ _ ?_; clear hK2 K2
        first | refine W_rt (by kernel_rfl) (fun K hK => ?_) | refine W_text (by kernel_rfl) (fun K hK => ?_)
        simp [go_sem, g5, f5]
        exact hK _ _ ⟨j, by omega, hE, hr, root + p, a4, c4, by omega, by simp [go_sem, g0], by simp [go_sem], hr4, by simp [go_sem], hle, by rw [← hp]; exact h2⟩
      · have hc := cmpV_nle hle
        refine W_if (by simp [go_sem, hc]; rfl) rfl ?_
        refine W_skip ?_
        refine hK2 _ _ ?_; clear hK2 K2
        first | refine W_rt (by kernel_rfl) (fun K hK => ?_) | refine W_text (by kernel_rfl) (fun K hK => ?_)
        simp [go_sem, g5, f5]
        exact hK _ _ ⟨j, by omega, hE, hr, root, ar, cr, by omega, by simp [go_sem, g0], by simp [go_sem, g4], hrr, by simp [go_sem], h1, by rw [← hp]; omega⟩
end Go.Proofs.Ytomniiobaonloaa
