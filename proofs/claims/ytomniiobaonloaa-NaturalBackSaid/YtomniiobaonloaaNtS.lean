/- Natural numbers: Shift by any distance; DivMod of any numbers. -/
import Derived.Test.YtomniiobaonloaaNtR
import Derived.Test.YtomniiobaonloaaNtA
namespace Go.Proofs.Ytomniiobaonloaa
open Go.RowKit Go.V
set_option linter.unusedSimpArgs false
set_option linter.unusedVariables false

/-- the number behind a shift -/
def shiftV (x : Nat) (n : Int) : Nat := if n < -1048576 ∨ 1048576 < n then 0 else if n < 0 then x / 2 ^ (-n).toNat else x * 2 ^ n.toNat
theorem retN_of_O {w : World} {x : Nat} {e : Ending} {w' : World} (h : RetO w x e w') : RetN w (lim x) e w' := by
  obtain ⟨v, rfl, hown, hE⟩ := h
  obtain ⟨a, c, rfl, hr⟩ := RD.of_own hown (lim_ok x)
  exact ⟨a, c, rfl, hr, hE⟩

set_option maxHeartbeats 2000000 in
theorem shr_any (l : List Nat) (a : Option Addr) (c m : Nat) (w : World) (hr : RD w a c l) (hl : l.length ≤ lenS) (hm : 0 < m) (hm2 : m ≤ 1048576) :
    Calls Try.prog 41 #[.slice a l.length c, .int .i64 (-(m : Int))] w (RetN w (lim (val l / 2 ^ m))) := by
  have hl' : l.length ≤ 100000000000 := hl
  have hn1 := nrm_len l
  have i1 : ¬ (-(m : Int)) < -1048576 := by omega
  have i2 : ¬ (1048576 : Int) < -(m : Int) := by omega
  have i3 : (-(m : Int)) < 0 := by omega
  have i4 : IntKind.i64.wrap (-(-(m : Int))) = (m : Int) := by rw [IntWalk.i64_in _ (by omega)]; omega
  generalize hN : -(m : Int) = N at *
  refine calls_of_W (args := [.slice a l.length c, .int .i64 N]) (rs := [.tmp 4]) (n := 78) Try.func41 rfl rfl rfl (by kernel_rfl) ?_
  first | refine W_rt (by kernel_rfl) (fun K hK => ?_) | refine W_text (by kernel_rfl) (fun K hK => ?_)
  simp [go_sem]
  refine hK _ _ ?_; clear hK K
  first | refine W_rt (by kernel_rfl) (fun K hK => ?_) | refine W_text (by kernel_rfl) (fun K hK => ?_)
  simp [go_sem]
  refine hv_call (by simp [go_sem]) rfl Try.call43 (fun R hR => ?_)
  simp [go_sem]
  refine (trim_any l a c _ hr (by unfold lenB; omega)).mono ?_
  rintro e w1 ⟨rfl, rfl⟩
  refine ⟨_, rfl, hR _ _ ?_⟩
  clear hR R
  simp [go_sem]
  refine hK _ _ ?_; clear hK K
  have hvl := val_nrm l
  replace hr := hr.nrm
  rw [← hvl]
  generalize nrm l = L at *
  clear hvl
  refine W_seq (fun K1 hK1 => ?_)
  by_cases h0 : L.length = 0
  · have e0 : L = [] := List.length_eq_zero_iff.1 h0
    subst e0
    first | refine W_rt (by kernel_rfl) (fun K hK => ?_) | refine W_text (by kernel_rfl) (fun K hK => ?_)
    simp [go_sem, i1, i2]
    refine hK _ _ ?_; clear hK K
    refine W_if (by simp [go_sem, i1, i2]; rfl) rfl ?_
    first | refine W_rt (by kernel_rfl) (fun K hK => ?_) | refine W_text (by kernel_rfl) (fun K hK => ?_)
    simp [go_sem]
    refine hK _ _ ?_; clear hK K
    refine W_ret ?_
    repeat (first | refine thenG_ret ?_ | refine inBlock_ret ?_)
    have hz : lim (val [] / 2 ^ m) = [] := by simp [val, lim_zero]
    refine ⟨trivial, none, 0, ?_, ?_, Below.refl _ _⟩
    · rw [hz]; simp [go_sem, pack, resL]
    · rw [hz]; exact RD.nil _ _ _
  · have h0' : ¬ (L.length : Int) = 0 := by omega
    have h0'' : ¬ L = [] := by intro e; subst e; exact h0 rfl
    first | refine W_rt (by kernel_rfl) (fun K hK => ?_) | refine W_text (by kernel_rfl) (fun K hK => ?_)
    simp [go_sem, i1, i2, h0, h0', h0'']
    refine hK _ _ ?_; clear hK K
    refine W_if (by simp [go_sem, i1, i2, h0, h0', h0'']; rfl) rfl ?_
    refine W_skip ?_
    refine hK1 _ _ ?_; clear hK1 K1
    refine W_seq (fun K1 hK1 => ?_)
    first | refine W_rt (by kernel_rfl) (fun K hK => ?_) | refine W_text (by kernel_rfl) (fun K hK => ?_)
    simp [go_sem, i3]
    refine hK _ _ ?_; clear hK K
    refine W_if (by simp [go_sem, i3]; rfl) rfl ?_
    first | refine W_rt (by kernel_rfl) (fun K hK => ?_) | refine W_text (by kernel_rfl) (fun K hK => ?_)
    simp [go_sem, i4]
    refine hv_call (by simp [go_sem, i4]) rfl Try.call54 (fun R hR => ?_)
    simp [go_sem, i4]
    refine (right_any L a c m _ hr (by unfold lenB; omega) hm2).mono ?_
    rintro e w2 ⟨a2, c2, rfl, hr2, hE2⟩
    refine ⟨_, rfl, hR _ _ ?_⟩
    clear hR R
    simp [go_sem]
    refine hK _ _ ?_; clear hK K
    refine W_ret ?_
    repeat (first | refine thenG_ret ?_ | refine inBlock_ret ?_)
    refine ⟨trivial, a2, c2, ?_, hr2, hE2⟩
    simp [go_sem, pack, resL]

set_option maxHeartbeats 2000000 in
theorem shout_any (l : List Nat) (a : Option Addr) (c : Nat) (N : Int) (w : World) (hr : RD w a c l) (hl : l.length ≤ lenS) (hN : N < -1048576 ∨ 1048576 < N) :
    Calls Try.prog 41 #[.slice a l.length c, .int .i64 N] w (RetN w []) := by
  have hl' : l.length ≤ 100000000000 := hl
  refine calls_of_W (args := [.slice a l.length c, .int .i64 N]) (rs := [.tmp 4]) (n := 78) Try.func41 rfl rfl rfl (by kernel_rfl) ?_
  first | refine W_rt (by kernel_rfl) (fun K hK => ?_) | refine W_text (by kernel_rfl) (fun K hK => ?_)
  simp [go_sem]
  refine hK _ _ ?_; clear hK K
  first | refine W_rt (by kernel_rfl) (fun K hK => ?_) | refine W_text (by kernel_rfl) (fun K hK => ?_)
  simp [go_sem]
  refine hv_call (by simp [go_sem]) rfl Try.call43 (fun R hR => ?_)
  simp [go_sem]
  refine (trim_any l a c _ hr (by unfold lenB; omega)).mono ?_
  rintro e w1 ⟨rfl, rfl⟩
  refine ⟨_, rfl, hR _ _ ?_⟩
  clear hR R
  simp [go_sem]
  refine hK _ _ ?_; clear hK K
  replace hr := hr.nrm
  generalize nrm l = L at *
  refine W_seq (fun K1 hK1 => ?_)
  by_cases h1 : N < -1048576
  · first | refine W_rt (by kernel_rfl) (fun K hK => ?_) | refine W_text (by kernel_rfl) (fun K hK => ?_)
    simp [go_sem, h1]
    refine hK _ _ ?_; clear hK K
    refine W_if (by simp [go_sem, h1]; rfl) rfl ?_
    first | refine W_rt (by kernel_rfl) (fun K hK => ?_) | refine W_text (by kernel_rfl) (fun K hK => ?_)
    simp [go_sem]
    refine hK _ _ ?_; clear hK K
    refine W_ret ?_
    repeat (first | refine thenG_ret ?_ | refine inBlock_ret ?_)
    exact ⟨trivial, none, 0, by simp [go_sem, pack, resL], RD.nil _ _ _, Below.refl _ _⟩
  · have h2 : 1048576 < N := by omega
    first | refine W_rt (by kernel_rfl) (fun K hK => ?_) | refine W_text (by kernel_rfl) (fun K hK => ?_)
    simp [go_sem, h1, h2]
    refine hK _ _ ?_; clear hK K
    refine W_if (by simp [go_sem, h1, h2]; rfl) rfl ?_
    first | refine W_rt (by kernel_rfl) (fun K hK => ?_) | refine W_text (by kernel_rfl) (fun K hK => ?_)
    simp [go_sem]
    refine hK _ _ ?_; clear hK K
    refine W_ret ?_
    repeat (first | refine thenG_ret ?_ | refine inBlock_ret ?_)
    exact ⟨trivial, none, 0, by simp [go_sem, pack, resL], RD.nil _ _ _, Below.refl _ _⟩
theorem shift_any (l : List Nat) (a : Option Addr) (c : Nat) (N : Int) (w : World) (hr : RD w a c l) (hl : l.length ≤ lenS) :
    Calls Try.prog 41 #[.slice a l.length c, .int .i64 N] w (RetN w (lim (shiftV (val l) N))) := by
  unfold shiftV
  by_cases h1 : N < -1048576 ∨ 1048576 < N
  · rw [if_pos h1, lim_zero]; exact shout_any l a c N w hr hl h1
  · rw [if_neg h1]
    by_cases h2 : N < 0
    · rw [if_pos h2]
      obtain ⟨m, rfl⟩ : ∃ m : Nat, N = -(m : Int) := ⟨(-N).toNat, by omega⟩
      have e : (- -(m : Int)).toNat = m := by omega
      rw [e]; exact shr_any l a c m w hr hl (by omega) (by omega)
    · rw [if_neg h2]
      obtain ⟨m, rfl⟩ : ∃ m : Nat, N = (m : Int) := ⟨N.toNat, by omega⟩
      have e : ((m : Int)).toNat = m := by omega
      rw [e]; exact (shl_any l a c m w hr hl (by omega)).mono (fun _ _ => retN_of_O)

/-! ### DivMod, the plain law -/
theorem lt_blen (n : Nat) : n < 2 ^ blen n := by
  induction n using Nat.strongRecOn with
  | _ n ih =>
    by_cases h : n = 0
    · subst h; rw [blen_0]; decide
    · rw [blen_s n h, Nat.pow_succ]
      have := ih (n / 2) (by omega)
      omega
theorem lim_length (x k : Nat) (h1 : 65536 ^ k ≤ x) (h2 : x < 65536 ^ (k + 1)) : (lim x).length = k + 1 := by
  have a := lim_len (k + 1) x h2
  rcases Nat.lt_or_ge (lim x).length (k + 1) with h | h
  · have b := val_lt _ (lim_ok x)
    rw [val_lim] at b
    have c : 65536 ^ (lim x).length ≤ 65536 ^ k := Nat.pow_le_pow_right (by decide) (by omega)
    omega
  · omega
theorem lim_top (x k : Nat) (h : (lim x).length = k + 1) : lat (lim x) k ≠ 0 := by
  have := nrm_top (lim x) k (by rw [nrm_lim]; exact h)
  rw [nrm_lim] at this
  exact this
/-- the divisor behind its shift -/
theorem norm_div (M : List Nat) (k s : Nat) (hok : Ok M) (hM : nrm M = M) (hk : M.length = k + 1) (hs : s + blen (lat M k) = 16) : 65536 ^ k ≤ val M * 2 ^ s ∧ val M * 2 ^ s < 65536 ^ (k + 1) ∧ 65536 ^ k ≤ val M := by
  have a := val_len M hok k (by rw [hM]; exact hk)
  have e : val M = val (M.take k) + 65536 ^ k * lat M k := by
    have := val_take' M k
    rw [List.take_of_length_le (by omega)] at this
    exact this
  have b := val_take_lt M hok k
  have c := lt_blen (lat M k)
  have d : (lat M k + 1) * 2 ^ s ≤ 2 ^ blen (lat M k) * 2 ^ s := Nat.mul_le_mul_right _ c
  rw [← Nat.pow_add, Nat.add_comm (blen _) s, hs] at d
  refine ⟨Nat.le_trans a (Nat.le_mul_of_pos_right _ (Nat.pow_pos (by decide))), ?_, a⟩
  have f : val M < 65536 ^ k * (lat M k + 1) := by rw [Nat.mul_add]; omega
  have g : val M * 2 ^ s < 65536 ^ k * (lat M k + 1) * 2 ^ s := Nat.mul_lt_mul_of_pos_right f (Nat.pow_pos (by decide))
  rw [Nat.mul_assoc] at g
  have h : 65536 ^ k * ((lat M k + 1) * 2 ^ s) ≤ 65536 ^ k * 65536 := Nat.mul_le_mul_left _ d
  rw [Nat.pow_succ]
  omega
/-- the number behind its shift, with zeros above it -/
theorem norm_num (A la s : Nat) (hA : A < 65536 ^ la) (hl : 65536 ^ la ≤ A * 65536) (hs : s < 16) : ∃ Lu r, lim (A * 2 ^ s) ++ [0, 0] = Lu ++ r ∧ Lu.length = la + 1 ∧ val Lu = A * 2 ^ s ∧ Ok Lu := by
  have p : 2 ^ s ≤ 2 ^ 15 := Nat.pow_le_pow_right (by decide) (by omega)
  have p1 : 1 ≤ 2 ^ s := Nat.pow_pos (by decide)
  have a : A * 2 ^ s < 65536 ^ (la + 1) := by
    have h1 : A * 2 ^ s ≤ A * 65536 := Nat.mul_le_mul_left _ (by omega)
    have h2 : A * 65536 < 65536 ^ la * 65536 := Nat.mul_lt_mul_of_pos_right hA (by decide)
    rw [Nat.pow_succ]; omega
  have ok : Ok (lim (A * 2 ^ s) ++ [0, 0]) := (lim_ok _).app (Ok.cons (by decide) (Ok.cons (by decide) Ok.nil))
  have vv : val (lim (A * 2 ^ s) ++ [0, 0]) = A * 2 ^ s := by
    rw [val_app, val_lim]; simp [val]
  have len : la ≤ (lim (A * 2 ^ s)).length + 1 := by
    rcases Nat.lt_or_ge ((lim (A * 2 ^ s)).length + 1) la with h | h
    · have b := val_lt _ (lim_ok (A * 2 ^ s))
      rw [val_lim] at b
      have c : A * 1 ≤ A * 2 ^ s := Nat.mul_le_mul_left _ p1
      have d : 65536 ^ ((lim (A * 2 ^ s)).length + 1 + 1) ≤ 65536 ^ la := Nat.pow_le_pow_right (by decide) h
      rw [Nat.pow_succ, Nat.pow_succ] at d
      omega
    · exact h
  refine ⟨(lim (A * 2 ^ s) ++ [0, 0]).take (la + 1), (lim (A * 2 ^ s) ++ [0, 0]).drop (la + 1), (List.take_append_drop _ _).symm, ?_, ?_, ok.take _⟩
  · rw [List.length_take, List.length_append]; simp; omega
  · rw [val_take_full _ ok _ (by rw [vv]; exact a), vv]
theorem top_small (A B la n s : Nat) (hA : A < 65536 ^ la) (hB : 65536 ^ n ≤ B) (hn : n ≤ la) : A * 2 ^ s / 65536 ^ (la - n) < B * 2 ^ s := by
  rw [Nat.div_lt_iff_lt_mul (Nat.pow_pos (by decide)), Nat.mul_right_comm]
  refine Nat.mul_lt_mul_of_pos_right (Nat.lt_of_lt_of_le hA ?_) (Nat.pow_pos (by decide))
  have : 65536 ^ n * 65536 ^ (la - n) ≤ B * 65536 ^ (la - n) := Nat.mul_le_mul_right _ hB
  rw [← Nat.pow_add] at this
  have e : n + (la - n) = la := by omega
  rw [e] at this; exact this
end Go.Proofs.Ytomniiobaonloaa
