/- Natural numbers: the specification's Read. -/
import Derived.Test.YtifgdiejpglhfaaGreatNtV
import Derived.Test.YtifgdiejpglhfaaGreatVE
import Derived.Test.YtifgdiejpglhfaaGreatTy
import Derived.Shelf.Strings.Builder1
import Derived.Laws.BytesString
import Derived.Test.YtifgdiejpglhfaaGreatNtH
namespace Go.Proofs.YtifgdiejpglhfaaGreat
open Go.RowKit Go.V
set_option linter.unusedSimpArgs false
set_option linter.unusedVariables false
set_option maxRecDepth 20000

end Go.Proofs.YtifgdiejpglhfaaGreat
namespace Go.Proofs.YtifgdiejpglhfaaGreat
open Go.RowKit Go.V Go.Shelf
set_option linter.unusedSimpArgs false
set_option linter.unusedVariables false
set_option maxRecDepth 20000

end Go.Proofs.YtifgdiejpglhfaaGreat
namespace Go.Proofs.YtifgdiejpglhfaaGreat
open Go.RowKit Go.V
set_option linter.unusedSimpArgs false
set_option linter.unusedVariables false
set_option maxRecDepth 20000



end Go.Proofs.YtifgdiejpglhfaaGreat
namespace Go.Proofs.YtifgdiejpglhfaaGreat
open Go.RowKit Go.V
set_option linter.unusedSimpArgs false
set_option linter.unusedVariables false
set_option maxRecDepth 20000


end Go.Proofs.YtifgdiejpglhfaaGreat
namespace Go.Proofs.YtifgdiejpglhfaaGreat
open Go.RowKit Go.V
set_option linter.unusedSimpArgs false
set_option linter.unusedVariables false
set_option maxRecDepth 20000

/-- the integer square root -/
def isq : Nat → Nat
  | 0 => 0
  | n + 1 => if (isq n + 1) * (isq n + 1) ≤ n + 1 then isq n + 1 else isq n
theorem isq_spec (n : Nat) : isq n * isq n ≤ n ∧ n < (isq n + 1) * (isq n + 1) := by
  induction n with
  | zero => simp [isq]
  | succ n ih =>
    unfold isq
    split
    · rename_i h
      refine ⟨h, ?_⟩
      have : (isq n + 1 + 1) * (isq n + 1 + 1) = (isq n + 1) * (isq n + 1) + 2 * (isq n + 1) + 1 := by
        rw [Nat.add_mul, Nat.mul_add, Nat.one_mul, Nat.mul_one]; omega
      omega
    · omega
theorem sq_lt {a b : Nat} (h : a * a < b * b) : a < b := by
  rcases Nat.lt_or_ge a b with h' | h'
  · exact h'
  · exact absurd (Nat.mul_le_mul h' h') (by omega)
theorem isq_uniq {n r : Nat} (h1 : r * r ≤ n) (h2 : n < (r + 1) * (r + 1)) : r = isq n := by
  obtain ⟨a, b⟩ := isq_spec n
  have c := sq_lt (Nat.lt_of_le_of_lt h1 b)
  have d := sq_lt (Nat.lt_of_le_of_lt a h2)
  omega
/-- a step of the approximation stays above the root -/
theorem newton_ge (a x : Nat) (hx : isq a ≤ x) (hp : 0 < x) : isq a ≤ (x + a / x) / 2 := by
  obtain ⟨h1, _⟩ := isq_spec a
  refine Nat.le_of_not_lt (fun hlt => ?_)
  generalize isq a = s at *
  have h3 := Nat.lt_mul_div_succ a hp
  generalize a / x = q at *
  have h2 : x + q ≤ 2 * s - 1 := by omega
  have h4 : x * (q + 1) ≤ x * (2 * s - x) := Nat.mul_le_mul_left _ (by omega)
  obtain ⟨d, hd⟩ : ∃ d, x = s + d := ⟨x - s, by omega⟩
  obtain ⟨e, he⟩ : ∃ e, s = e + d := ⟨s - d, by omega⟩
  have e1 : 2 * s - x = e := by omega
  rw [e1] at h4
  have e2 : x = e + 2 * d := by omega
  have h5 : (e + 2 * d) * e ≤ (e + d) * (e + d) := by
    rw [Nat.add_mul, Nat.add_mul, Nat.mul_add, Nat.mul_add, Nat.mul_comm d e]
    have : 2 * d * e = e * d + e * d := by rw [Nat.mul_comm e d, Nat.mul_assoc]; omega
    omega
  rw [← e2, ← he] at h5
  omega
/-- where the step does not go down, the root is there -/
theorem newton_end (a x : Nat) (hx : isq a ≤ x) (hp : 0 < x) (h : x ≤ (x + a / x) / 2) : x = isq a := by
  obtain ⟨_, h2⟩ := isq_spec a
  refine Nat.le_antisymm (Nat.le_of_not_lt (fun hlt => ?_)) hx
  have h3 : (isq a + 1) * (isq a + 1) ≤ x * x := Nat.mul_le_mul hlt hlt
  have h4 : a / x < x := by rw [Nat.div_lt_iff_lt_mul hp]; omega
  omega
theorem newton_start (a : Nat) : isq a < 2 ^ ((blen a + 1) / 2) := by
  obtain ⟨h1, _⟩ := isq_spec a
  refine sq_lt (Nat.lt_of_le_of_lt h1 ?_)
  rw [← Nat.pow_add]
  exact Nat.lt_of_lt_of_le (lt_blen a) (Nat.pow_le_pow_right (by decide) (by omega))
/-- what a square root returns -/
def SqPost (w : World) (A : Nat) (e : Ending) (w' : World) : Prop := ∃ a c a' c', e = .returned (.tuple #[.slice a (lim (isq A)).length c, .slice a' (lim (A - isq A * isq A)).length c']) ∧ RD w' a c (lim (isq A)) ∧ RD w' a' c' (lim (A - isq A * isq A)) ∧ Below w.heap.size w w'
theorem lim_len2 (e k : Nat) (h : e < 16 * k) : (lim (2 ^ e)).length ≤ k := lim_len k _ (by rw [pow_16]; exact Nat.pow_lt_pow_right (by decide) h)

theorem lim_add_len {x y k : Nat} (hx : (lim x).length ≤ k) (hy : (lim y).length ≤ k) : (lim (x + y)).length ≤ k + 1 := by
  refine lim_len _ _ ?_
  have h1 := val_lt _ (lim_ok x)
  have h2 := val_lt _ (lim_ok y)
  rw [val_lim] at h1 h2
  have h3 : 65536 ^ (lim x).length ≤ 65536 ^ k := Nat.pow_le_pow_right (by decide) hx
  have h4 : 65536 ^ (lim y).length ≤ 65536 ^ k := Nat.pow_le_pow_right (by decide) hy
  rw [Nat.pow_succ]
  omega

set_option maxHeartbeats 4000000 in
theorem sqrt_any (l : List Nat) (a : Option Addr) (c : Nat) (w : World) (hr : RD w a c l) (hl : l.length ≤ 100000) :
    Calls Tryz.prog 94 #[.slice a l.length c] w (SqPost w (val l)) := by
  have hn1 := nrm_len l
  have hbb := blen_bound l hr.ok
  have hlB : l.length ≤ lenB := by unfold lenB; omega
  have hno := norm_any l a c w hr hlB
  rw [← lim_val l hr.ok] at hno hn1
  refine calls_of_W (args := [.slice a l.length c]) (rs := [.tmp 2, .tmp 3]) (n := 46) Tryz.func94 rfl rfl rfl (by kernel_rfl) ?_
  first | refine W_rt (by kernel_rfl) (fun K hK => ?_) | refine W_text (by kernel_rfl) (fun K hK => ?_)
  simp [go_sem]
  refine hK _ _ ?_; clear hK K
  first | refine W_rt (by kernel_rfl) (fun K hK => ?_) | refine W_text (by kernel_rfl) (fun K hK => ?_)
  simp [go_sem]
  refine hv_call (by simp [go_sem]) rfl Tryz.call123 (fun R hR => ?_)
  simp [go_sem]
  refine (hno).mono ?_
  rintro e w1 ⟨a1, c1, rfl, hr1, hE1⟩
  refine ⟨_, rfl, hR _ _ ?_⟩
  clear hR R
  simp [go_sem]
  refine hK _ _ ?_; clear hK K
  have hE := hE1
  clear hr hE1 hno
  generalize val l = A at *
  refine W_seq (fun K1 hK1 => ?_)
  by_cases h0 : A = 0
  · subst h0
    rw [lim_zero]
    first | refine W_rt (by kernel_rfl) (fun K hK => ?_) | refine W_text (by kernel_rfl) (fun K hK => ?_)
    simp [go_sem]
    refine hK _ _ ?_; clear hK K
    refine W_if (by simp [go_sem]; rfl) rfl ?_
    first | refine W_rt (by kernel_rfl) (fun K hK => ?_) | refine W_text (by kernel_rfl) (fun K hK => ?_)
    simp [go_sem]
    refine hK _ _ ?_; clear hK K
    refine W_ret ?_
    repeat (first | refine thenG_ret ?_ | refine inBlock_ret ?_)
    refine ⟨trivial, none, 0, none, 0, ?_, ?_, ?_, hE⟩
    · simp [isq, lim_zero, go_sem, pack, resL]
    · simp only [isq, lim_zero]; exact RD.nil _ _ _
    · show RD w1 none 0 (lim 0)
      rw [lim_zero]; exact RD.nil _ _ _
  · have hp : 0 < (lim A).length := lim_ne h0
    have hp' : ¬ ((lim A).length : Int) = 0 := by omega
    have hp'' : ¬ lim A = [] := by intro e; rw [e] at hp; simp at hp
    have hlA : (lim A).length ≤ 100000 := by omega
    have hst := newton_start A
    have hbits := fun {w} hr => bits_any (lim A) a1 c1 w hr (by unfold lenB; omega)
    rw [val_lim] at hbits
    obtain ⟨ee, hee⟩ : ∃ ee, ee = (blen A + 1) / 2 := ⟨_, rfl⟩
    rw [← hee] at hst
    have heb : ee ≤ 800001 := by omega
    have f1 : IntKind.i64.wrap ((blen A : Int) + 1) = ((blen A + 1 : Nat) : Int) := by rw [IntWalk.i64_in _ (by omega)]; omega
    have f2 : ((blen A + 1 : Nat) : Int).tdiv 2 = (ee : Int) := by rw [hee]; rfl
    have f3 : IntKind.i64.wrap (ee : Int) = (ee : Int) := IntWalk.i64_in _ (by omega)
    obtain ⟨bl1, hbl1⟩ : ∃ bl1, bl1 = blen A + 1 := ⟨_, rfl⟩
    rw [← hbl1] at f1 f2
    have hxl : (lim (2 ^ ee)).length ≤ 100001 := lim_len2 _ _ (by omega)
    first | refine W_rt (by kernel_rfl) (fun K hK => ?_) | refine W_text (by kernel_rfl) (fun K hK => ?_)
    simp [go_sem, hp', hp'']
    refine hK _ _ ?_; clear hK K
    refine W_if (by simp [go_sem, hp', hp'']; rfl) rfl ?_
    refine W_skip ?_
    refine hK1 _ _ ?_; clear hK1 K1
    first | refine W_rt (by kernel_rfl) (fun K hK => ?_) | refine W_text (by kernel_rfl) (fun K hK => ?_)
    simp [go_sem]
    refine hv_buildSlice #[.int .u16 1] (by simp [go_sem]) rfl ty_slZ22 (by decide) [(0, .int .u16 1)] (by simp [go_sem]) (by kernel_rfl) (fun w2 b2 hE2 hle2 hB2 => ?_)
    have hr2 : RD w2 (some ⟨b2, 0, none⟩) 1 [1] := RD.of_lm hB2 (Ok.cons (by decide) Ok.nil) (by decide)
    replace hr1 := hr1.ext hE2
    replace hE := hE.next hE2
    clear hE2 hB2
    simp [go_sem]
    refine hv_call (by simp [go_sem]) rfl Tryz.call120 (fun R hR => ?_)
    simp [go_sem]
    refine (hbits hr1).mono ?_
    rintro e w3 ⟨rfl, rfl⟩
    refine ⟨_, rfl, hR _ _ ?_⟩
    clear hR R
    have hsh := (shl_any [1] _ _ ee _ hr2 (by decide) (by omega)).mono (fun _ _ => retN_of_O)
    rw [show val [1] = 1 from rfl, Nat.one_mul] at hsh
    simp [go_sem, f1, f2, f3]
    refine hv_call (by simp [go_sem, f1, f2, f3]) rfl Tryz.call116 (fun R hR => ?_)
    simp [go_sem, f1, f2, f3]
    refine (hsh).mono ?_
    rintro e w3 ⟨a3, c3, rfl, hr3, hE3⟩
    refine ⟨_, rfl, hR _ _ ?_⟩
    clear hR R
    replace hr1 := hr1.ext hE3
    replace hE := hE.next hE3
    simp [go_sem]
    refine hK _ _ ?_; clear hK K
    refine W_seq (fun K1 hK1 => ?_)
    refine W_block ?_
    refine W_loop (fun t g w' => Below w.heap.size w w' ∧ RD w' a1 c1 (lim A) ∧ ∃ ax cx, g 0 = .slice a1 (lim A).length c1 ∧ g 4 = .slice ax (lim t).length cx ∧ RD w' ax cx (lim t) ∧ isq A ≤ t ∧ 0 < t ∧ (lim t).length ≤ 100001) (2 ^ ee) ?_ ?_
    · exact ⟨hE, hr1, a3, c3, by simp [go_sem], by simp [go_sem], hr3, by omega, by omega, hxl⟩
    · clear hE hr1 hr3 hE3 hr2 hxl hst f1 f2 f3 hee heb
      rintro x g w' ⟨hE, hr1, ax, cx, g0, g4, hrx, hge, hx0, hxl⟩
      refine W_block ?_
      have hdm := divmod_any (lim A) (lim x) a1 ax c1 cx _ hr1 hrx (by unfold lenS; omega) (by unfold lenS; omega)
      rw [val_lim, val_lim] at hdm
      have hnge := newton_ge A x hge hx0
      have hnend := newton_end A x hge hx0
      obtain ⟨y, hy⟩ : ∃ y, y = (x + A / x) / 2 := ⟨_, rfl⟩
      rw [← hy] at hnge hnend
      first | refine W_rt (by kernel_rfl) (fun K hK => ?_) | refine W_text (by kernel_rfl) (fun K hK => ?_)
      simp [go_sem, g0, g4]
      refine hv_call (by simp [go_sem, g0, g4]) rfl Tryz.call117 (fun R hR => ?_)
      simp [go_sem, g0, g4]
      refine hdm.mono ?_
      rintro e w4 (⟨hbad, _⟩ | ⟨_, a4, c4, a5, c5, rfl, hr4, hr5, hE4⟩)
      · omega
      refine ⟨_, rfl, hR _ _ ?_⟩
      clear hR R hr5
      replace hr1 := hr1.ext hE4
      replace hrx := hrx.ext hE4
      replace hE := hE.next hE4
      clear hE4
      simp [go_sem]
      refine hK _ _ ?_; clear hK K
      have hql : (lim (A / x)).length ≤ 100000 := lim_mono (Nat.div_le_self _ _) hlA
      have hsl : (lim (x + A / x)).length ≤ 100002 := lim_add_len hxl (by omega)
      first | refine W_rt (by kernel_rfl) (fun K hK => ?_) | refine W_text (by kernel_rfl) (fun K hK => ?_)
      simp [go_sem, g4]
      refine hv_call (by simp [go_sem, g4]) rfl Tryz.call118 (fun R hR => ?_)
      simp [go_sem, g4]
      refine (add_any _ _ _ _ _ _ _ hrx hr4 (by unfold lenB; omega) (by unfold lenB; omega)).mono ?_
      rintro e w6 ⟨a6, c6, rfl, hr6, hE6⟩
      refine ⟨_, rfl, hR _ _ ?_⟩
      clear hR R
      rw [val_lim, val_lim] at hr6
      rw [val_lim, val_lim]
      replace hr1 := hr1.ext hE6
      replace hrx := hrx.ext hE6
      replace hE := hE.next hE6
      clear hE6
      have hsh := shr_any _ _ _ 1 _ hr6 (by unfold lenS; omega) (by decide) (by decide)
      rw [val_lim, show (2 : Nat) ^ 1 = 2 from rfl, ← hy, show (-((1 : Nat) : Int)) = -1 from rfl] at hsh
      simp [go_sem]
      refine hv_call (by simp [go_sem]) rfl Tryz.call116 (fun R hR => ?_)
      simp [go_sem]
      refine (hsh).mono ?_
      rintro e w7 ⟨a7, c7, rfl, hr7, hE7⟩
      refine ⟨_, rfl, hR _ _ ?_⟩
      clear hR R
      replace hr1 := hr1.ext hE7
      replace hrx := hrx.ext hE7
      replace hE := hE.next hE7
      clear hE7 hr6 hr4
      simp [go_sem]
      refine hK _ _ ?_; clear hK K
      refine W_seq (fun K2 hK2 => ?_)
      have hyl : (lim y).length ≤ 100002 := lim_mono (by omega) hsl
      have hcm := fun {w} hr7 hrx => cmp_any (lim y) (lim x) a7 ax c7 cx w hr7 hrx (by unfold lenB; omega) (by unfold lenB; omega)
      rw [val_lim, val_lim] at hcm
      first | refine W_rt (by kernel_rfl) (fun K hK => ?_) | refine W_text (by kernel_rfl) (fun K hK => ?_)
      simp [go_sem, g4]
      refine hv_call (by simp [go_sem, g4]) rfl Tryz.call121 (fun R hR => ?_)
      simp [go_sem, g4]
      refine (hcm hr7 hrx).mono ?_
      rintro e w8 ⟨rfl, hE8⟩
      refine ⟨_, rfl, hR _ _ ?_⟩
      clear hR R
      replace hr1 := hr1.ext hE8
      replace hrx := hrx.ext hE8
      replace hr7 := hr7.ext hE8
      replace hE := hE.next hE8
      clear hE8
      simp [go_sem]
      refine hK _ _ ?_; clear hK K
      by_cases hyx : y < x
      · have cy : cmpV y x < 0 := by rw [cmpV_lt hyx]; decide
        have cy' : ¬ (0 : Int) ≤ cmpV y x := by omega
        refine W_if (by simp [go_sem, cy, cy']; rfl) rfl ?_
        refine W_skip ?_
        refine hK2 _ _ ?_; clear hK2 K2
        first | refine W_rt (by kernel_rfl) (fun K hK => ?_) | refine W_text (by kernel_rfl) (fun K hK => ?_)
        simp [go_sem]
        exact hK _ _ ⟨y, hyx, hE, hr1, a7, c7, by simp [go_sem, g0], by simp [go_sem], hr7, hnge, by
          obtain ⟨_, hi⟩ := isq_spec A
          rcases Nat.eq_zero_or_pos y with h | h
          · rw [h] at hnge
            have : isq A = 0 := by omega
            rw [this] at hi
            omega
          · exact h, lim_mono (Nat.le_of_lt hyx) hxl⟩
      · have cy : (0 : Int) ≤ cmpV y x := by unfold cmpV; rw [if_neg hyx]; split <;> omega
        have hxe := hnend (by omega)
        obtain ⟨hi, _⟩ := isq_spec A
        refine W_if (by simp [go_sem, cy]; rfl) rfl ?_
        refine W_exit ?_
        repeat (first | refine thenG_exit ?_ | refine inBlock_other rfl ?_ | refine inBlock_same ?_)
        refine hK1 _ _ ?_; clear hK1 K1 hK2 K2 hnend hnge hge
        have hmul : (lim (val (lim x) * val (lim x))).length ≤ lenB := by
          rw [val_lim]; exact lim_mono (B := A) (by rw [hxe]; exact hi) (by unfold lenB; omega)
        first | refine W_rt (by kernel_rfl) (fun K hK => ?_) | refine W_text (by kernel_rfl) (fun K hK => ?_)
        simp [go_sem, g0, g4]
        refine hv_call (by simp [go_sem, g0, g4]) rfl Tryz.call110 (fun R hR => ?_)
        simp [go_sem, g0, g4]
        refine (mul_any _ _ _ _ _ _ _ hrx hrx (by unfold lenS; omega) (by unfold lenS; omega)).mono ?_
        rintro e w9 ⟨a9, c9, rfl, hr9, hE9⟩
        refine ⟨_, rfl, hR _ _ ?_⟩
        clear hR R
        replace hr1 := hr1.ext hE9
        replace hrx := hrx.ext hE9
        replace hE := hE.next hE9
        have hsu := sub_any (lim A) _ a1 a9 c1 c9 _ hr1 hr9 (by unfold lenB; omega) hmul
        rw [val_lim A, val_lim (val (lim x) * val (lim x)), val_lim x] at hsu
        rw [val_lim x]
        simp [go_sem, g0, g4]
        refine hv_call (by simp [go_sem, g0, g4]) rfl Tryz.call119 (fun R hR => ?_)
        simp [go_sem, g0, g4]
        refine hsu.mono ?_
        rintro e w10 (⟨hbad, _⟩ | ⟨_, a10, c10, rfl, hr10, hE10⟩)
        · rw [hxe] at hbad; omega
        refine ⟨_, rfl, hR _ _ ?_⟩
        clear hR R
        replace hrx := hrx.ext hE10
        simp [go_sem]
        refine hK _ _ ?_; clear hK K
        first | refine W_rt (by kernel_rfl) (fun K hK => ?_) | refine W_text (by kernel_rfl) (fun K hK => ?_)
        simp [go_sem, g4]
        refine hK _ _ ?_; clear hK K
        refine W_ret ?_
        repeat (first | refine thenG_ret ?_ | refine inBlock_ret ?_)
        refine ⟨trivial, ax, cx, a10, c10, ?_, by rw [← hxe]; exact hrx, by rw [← hxe]; exact hr10, hE.next hE10⟩
        rw [← hxe]
        simp [go_sem, pack, resL]
end Go.Proofs.YtifgdiejpglhfaaGreat
namespace Go.Proofs.YtifgdiejpglhfaaGreat
open Go.RowKit Go.V
set_option linter.unusedSimpArgs false
set_option linter.unusedVariables false
set_option maxRecDepth 20000

theorem RD.drop {w : World} {a : Option Addr} {c : Nat} {l : List Nat} (h : RD w a c l) {k : Nat} (hk : k < l.length) : RD w (a.map (·.add k)) (c - k) (l.drop k) := by
  refine ⟨?_, h.ok.drop k, by have := h.cap; rw [List.length_drop]; omega⟩
  have := h.sl.sub k l.length
  rw [List.take_of_length_le (by rw [List.length_drop, lmC_len]; omega), ← lmC_drop] at this
  exact this
theorem shift_left_val (A k s n : Nat) (hn : n = 16 * k + s) : val (List.replicate k 0 ++ lim (A * 2 ^ s)) = A * 2 ^ n := by
  rw [val_app, val_zeros, val_lim, List.length_replicate, Nat.zero_add, pow_16, hn, Nat.pow_add, Nat.mul_left_comm]

set_option maxHeartbeats 1000000 in
theorem shiftR_any (l : List Nat) (a : Option Addr) (c : Nat) (N : Int) (w : World) (hr : RD w a c l) (hl : l.length + 1 ≤ lenS) :
    Calls Tryz.prog 122 #[.slice a l.length c, .int .i64 N] w (RetN w (lim (shiftV (val l) N))) := by
  have hl' : l.length + 1 ≤ 100000000000 := hl
  obtain ⟨X, hX⟩ : ∃ X, X = shiftV (val l) N := ⟨_, rfl⟩
  rw [← hX]
  unfold shiftV at hX
  refine calls_of_W (args := [.slice a l.length c, .int .i64 N]) (rs := [.tmp 4]) (n := 51) Tryz.func122 rfl rfl rfl (by kernel_rfl) ?_
  first | refine W_rt (by kernel_rfl) (fun K hK => ?_) | refine W_text (by kernel_rfl) (fun K hK => ?_)
  simp [go_sem]
  refine hK _ _ ?_; clear hK K
  refine W_seq (fun K1 hK1 => ?_)
  by_cases h1 : N < -1048576 ∨ 1048576 < N
  · rw [if_pos h1] at hX
    have hX0 : lim X = [] := by rw [hX, lim_zero]
    by_cases h2 : 1048576 < N
    · first | refine W_rt (by kernel_rfl) (fun K hK => ?_) | refine W_text (by kernel_rfl) (fun K hK => ?_)
      simp [go_sem, h2]
      refine hK _ _ ?_; clear hK K
      refine W_if (by simp [go_sem, h2]; rfl) rfl ?_
      first | refine W_rt (by kernel_rfl) (fun K hK => ?_) | refine W_text (by kernel_rfl) (fun K hK => ?_)
      simp [go_sem]
      refine hK _ _ ?_; clear hK K
      refine W_ret ?_
      repeat (first | refine thenG_ret ?_ | refine inBlock_ret ?_)
      rw [hX0]
      exact ⟨trivial, none, 0, by simp [go_sem, pack, resL], RD.nil _ _ _, Below.refl _ _⟩
    · have h3 : N < -1048576 := by omega
      first | refine W_rt (by kernel_rfl) (fun K hK => ?_) | refine W_text (by kernel_rfl) (fun K hK => ?_)
      simp [go_sem, h2, h3]
      refine hK _ _ ?_; clear hK K
      refine W_if (by simp [go_sem, h2, h3]; rfl) rfl ?_
      first | refine W_rt (by kernel_rfl) (fun K hK => ?_) | refine W_text (by kernel_rfl) (fun K hK => ?_)
      simp [go_sem]
      refine hK _ _ ?_; clear hK K
      refine W_ret ?_
      repeat (first | refine thenG_ret ?_ | refine inBlock_ret ?_)
      rw [hX0]
      exact ⟨trivial, none, 0, by simp [go_sem, pack, resL], RD.nil _ _ _, Below.refl _ _⟩
  · rw [if_neg h1] at hX
    have h2 : ¬ 1048576 < N := by omega
    have h3 : ¬ N < -1048576 := by omega
    first | refine W_rt (by kernel_rfl) (fun K hK => ?_) | refine W_text (by kernel_rfl) (fun K hK => ?_)
    simp [go_sem, h2, h3]
    refine hK _ _ ?_; clear hK K
    refine W_if (by simp [go_sem, h2, h3]; rfl) rfl ?_
    refine W_skip ?_
    refine hK1 _ _ ?_; clear hK1 K1
    refine W_seq (fun K1 hK1 => ?_)
    by_cases h4 : N < 0
    · obtain ⟨n, rfl⟩ : ∃ n : Nat, N = -(n : Int) := ⟨(-N).toNat, by omega⟩
      have en : (- -(n : Int)).toNat = n := by omega
      rw [if_pos h4, en] at hX
      have h4' : ¬ (0 : Int) ≤ -(n : Int) := by omega
      have f0 : IntKind.i64.wrap (- -(n : Int)) = (n : Int) := by rw [IntWalk.i64_in _ (by omega)]; omega
      have f1 : (n : Int).tdiv 16 = ((n / 16 : Nat) : Int) := rfl
      have f1' : IntKind.i64.wrap ((n / 16 : Nat) : Int) = ((n / 16 : Nat) : Int) := IntWalk.i64_in _ (by omega)
      have f2 : (n : Int).tmod 16 = ((n % 16 : Nat) : Int) := rfl
      have hks : n = 16 * (n / 16) + n % 16 := by omega
      have hs16 : n % 16 < 16 := by omega
      have hk0 : n / 16 ≤ 65536 := by omega
      generalize n / 16 = k at *
      generalize n % 16 = s at *
      have hV : val l / 2 ^ n = val (l.drop k) / 2 ^ s := by
        rw [val_drop_div k l hr.ok, Nat.div_div_eq_div_mul, pow_16, ← Nat.pow_add, ← hks]
      rw [hV] at hX
      generalize hNN : -(n : Int) = NN at *
      first | refine W_rt (by kernel_rfl) (fun K hK => ?_) | refine W_text (by kernel_rfl) (fun K hK => ?_)
      simp [go_sem, h4']
      refine hK _ _ ?_; clear hK K
      refine W_if (by simp [go_sem, h4']; rfl) rfl ?_
      refine W_skip ?_
      refine hK1 _ _ ?_; clear hK1 K1
      refine W_seq (fun K1 hK1 => ?_)
      by_cases hkl : l.length ≤ k
      · have hkl' : (l.length : Int) ≤ k := by omega
        have hz : lim (val (l.drop k) / 2 ^ s) = [] := by
          rw [List.drop_eq_nil_of_le hkl]; simp [val, lim_zero]
        first | refine W_rt (by kernel_rfl) (fun K hK => ?_) | refine W_text (by kernel_rfl) (fun K hK => ?_)
        simp [go_sem, f0, f1, f1', hkl, hkl']
        refine hK _ _ ?_; clear hK K
        refine W_if (by simp [go_sem, hkl, hkl']; rfl) rfl ?_
        first | refine W_rt (by kernel_rfl) (fun K hK => ?_) | refine W_text (by kernel_rfl) (fun K hK => ?_)
        simp [go_sem]
        refine hK _ _ ?_; clear hK K
        refine W_ret ?_
        repeat (first | refine thenG_ret ?_ | refine inBlock_ret ?_)
        rw [hX, hz]
        exact ⟨trivial, none, 0, by simp [go_sem, pack, resL], RD.nil _ _ _, Below.refl _ _⟩
      · have hkl' : ¬ (l.length : Int) ≤ k := by omega
        first | refine W_rt (by kernel_rfl) (fun K hK => ?_) | refine W_text (by kernel_rfl) (fun K hK => ?_)
        simp [go_sem, f0, f1, f1', hkl, hkl']
        refine hK _ _ ?_; clear hK K
        refine W_if (by simp [go_sem, hkl, hkl']; rfl) rfl ?_
        refine W_skip ?_
        refine hK1 _ _ ?_; clear hK1 K1
        have hD : Below w.heap.size w w.drew := Below.drew1 _
        have hrd := (hr.ext hD).drop (k := k) (by omega)
        have hcap := hr.cap
        have q1 : (0 : Int) ≤ k := by omega
        have q2 : ¬ c = k := by omega
        have q3 : (l.length : Int) ≤ c := by omega
        have q4 : (k : Int) ≤ l.length := by omega
        have q5 : k ≤ l.length := by omega
        have q6 : (0 : Int) ≤ s := by omega
        obtain ⟨T, hT⟩ : ∃ T, T = l.drop k := ⟨_, rfl⟩
        have hTl : l.length - k = T.length := by rw [hT, List.length_drop]
        have hTb : T.length + 1 ≤ lenS := by rw [← hTl]; omega
        rw [← hT] at hrd hX
        have p15 : 2 ^ s ≤ 2 ^ 15 := Nat.pow_le_pow_right (by decide) (by omega)
        have p0 : 0 < 2 ^ s := Nat.pow_pos (by decide)
        have f3 : shlI .u64 1 (s : Int) = ((2 ^ s : Nat) : Int) := by
          have := shl_nat .u64 1 s (by show s ≤ 64; omega)
          rw [Nat.one_mul] at this
          rw [show ((1 : Nat) : Int) = 1 from rfl] at this
          rw [this]; exact w64_in _ (by omega)
        obtain ⟨D, hDD⟩ : ∃ D, D = 2 ^ s := ⟨_, rfl⟩
        rw [← hDD] at f3 p15 p0 hX
        have hDl : (lim D).length + 1 ≤ lenS := Nat.le_trans (Nat.succ_le_succ (lim_len 4 D (by omega))) (by decide)
        first | refine W_rd [(0, 0), (1, 0), (2, 0), (3, 0), (4, 0), (5, 0), (6, 0), (7, 0), (8, 0), (9, 1), (10, 1), (11, 0), (12, 0), (13, 0), (14, 0), (15, 0), (16, 0), (17, 0)] (by kernel_rfl) (by kernel_rfl) (fun K hK => ?_) | refine W_draw [(0, 0), (1, 0), (2, 0), (3, 0), (4, 0), (5, 0), (6, 0), (7, 0), (8, 0), (9, 1), (10, 1), (11, 0), (12, 0), (13, 0), (14, 0), (15, 0), (16, 0), (17, 0)] (by kernel_rfl) (by kernel_rfl) (fun K hK => ?_)
        simp [go_sem, f0, f1, f1', f2, f3, q1, q2, q3, q4, q5, q6, hTl]
        refine hv_call (by simp [go_sem, f0, f1, f1', f2, f3, q1, q2, q3, q4, q5, q6, hTl]) rfl Tryz.call54 (fun R hR => ?_)
        simp [go_sem, f0, f1, f1', f2, f3, q1, q2, q3, q4, q5, q6, hTl]
        refine (ofR_any D _ (by omega)).mono ?_
        rintro e w2 ⟨a2, c2, rfl, hr2, hE2⟩
        refine ⟨_, rfl, hE2, hR _ _ ?_⟩
        clear hR R
        have hdm := divmodR_any T (lim D) (a.map (·.add k)) a2 (c - k) c2 _ (hrd.ext hE2) hr2 hTb hDl
        rw [val_lim] at hdm
        simp [go_sem, f0, f1, f1', f2, f3, q1, q2, q3, q4, q5, q6, hTl]
        refine hv_call (by simp [go_sem]) rfl Tryz.call104 (fun R hR => ?_)
        simp [go_sem]
        refine hdm.mono ?_
        rintro e w4 (⟨hbad, _⟩ | ⟨_, a4, c4, a5, c5, rfl, hr4, hr5, hE4⟩)
        · omega
        refine ⟨_, rfl, ?_, hR _ _ ?_⟩
        · exact hE4
        clear hR R
        simp [go_sem]
        refine hK _ _ ?_; clear hK K
        first | refine W_rt (by kernel_rfl) (fun K hK => ?_) | refine W_text (by kernel_rfl) (fun K hK => ?_)
        simp [go_sem]
        refine hK _ _ ?_; clear hK K
        refine W_ret ?_
        repeat (first | refine thenG_ret ?_ | refine inBlock_ret ?_)
        rw [hX]
        refine ⟨trivial, a4, c4, ?_, hr4, (hD.next hE2).next hE4⟩
        simp [go_sem, pack, resL]
    · obtain ⟨n, rfl⟩ : ∃ n : Nat, N = (n : Int) := ⟨N.toNat, by omega⟩
      have en : ((n : Int)).toNat = n := by omega
      rw [if_neg h4, en] at hX
      have h4' : (0 : Int) ≤ (n : Int) := by omega
      have f1 : (n : Int).tdiv 16 = ((n / 16 : Nat) : Int) := rfl
      have f1' : IntKind.i64.wrap ((n / 16 : Nat) : Int) = ((n / 16 : Nat) : Int) := IntWalk.i64_in _ (by omega)
      have f2 : (n : Int).tmod 16 = ((n % 16 : Nat) : Int) := rfl
      have hks : n = 16 * (n / 16) + n % 16 := by omega
      have hs16 : n % 16 < 16 := by omega
      have hk0 : n / 16 ≤ 65536 := by omega
      generalize n / 16 = k at *
      generalize n % 16 = s at *
      have q6 : (0 : Int) ≤ s := by omega
      have p15 : 2 ^ s ≤ 2 ^ 15 := Nat.pow_le_pow_right (by decide) (by omega)
      have p0 : 0 < 2 ^ s := Nat.pow_pos (by decide)
      have f3 : shlI .u64 1 (s : Int) = ((2 ^ s : Nat) : Int) := by
        have := shl_nat .u64 1 s (by show s ≤ 64; omega)
        rw [Nat.one_mul] at this
        rw [show ((1 : Nat) : Int) = 1 from rfl] at this
        rw [this]; exact w64_in _ (by omega)
      have hsv := shift_left_val (val l) k s n hks
      obtain ⟨D, hDD⟩ : ∃ D, D = 2 ^ s := ⟨_, rfl⟩
      rw [← hDD] at f3 p15 p0 hsv
      have hDl : (lim D).length ≤ lenS := Nat.le_trans (lim_len 4 D (by omega)) (by decide)
      have hprod : (lim (val l * D)).length ≤ l.length + 1 := by
        refine lim_len _ _ ?_
        rw [Nat.pow_succ]
        exact Nat.mul_lt_mul'' (val_lt l hr.ok) (by omega)
      first | refine W_rt (by kernel_rfl) (fun K hK => ?_) | refine W_text (by kernel_rfl) (fun K hK => ?_)
      simp [go_sem, h4']
      refine hK _ _ ?_; clear hK K
      refine W_if (by simp [go_sem, h4']; rfl) rfl ?_
      first | refine W_rt (by kernel_rfl) (fun K hK => ?_) | refine W_text (by kernel_rfl) (fun K hK => ?_)
      simp [go_sem, f1, f1']
      refine hv_make (kl := .i64) (kc := .i64) k k (by simp [go_sem, f1, f1']) rfl ty_slZ22 ty_bytes96 (by simp [go_sem, f1, f1']) (by simp [go_sem, f1, f1']) (by omega) (by omega) (by omega) (fun w2 b2 hE2 hle2 hB2 => ?_)
      rw [Nat.mul_one, madeCells_one, lm_zeros] at hB2
      replace hr := hr.ext hE2
      have hown2 : w2.ownsRow w.heap.size 96 1 (.slice (some ⟨b2, 0, none⟩) k k) k (lmC (List.replicate k 0)) := own_of_bx (xs := lmC (List.replicate k 0)) hB2 hle2 (by simp [lmC_len]) (by unfold maxLen; omega)
      simp [go_sem]
      refine hK _ _ ?_; clear hK K
      first | refine W_rt (by kernel_rfl) (fun K hK => ?_) | refine W_text (by kernel_rfl) (fun K hK => ?_)
      simp [go_sem, f2, f3, q6]
      refine hv_call (by simp [go_sem, f2, f3, q6]) rfl Tryz.call54 (fun R hR => ?_)
      simp [go_sem, f2, f3, q6]
      refine (ofR_any D _ (by omega)).mono ?_
      rintro e w3 ⟨a3, c3, rfl, hr3, hE3⟩
      refine ⟨_, rfl, hR _ _ ?_⟩
      clear hR R
      replace hr := hr.ext hE3
      simp [go_sem]
      refine hv_call (by simp [go_sem]) rfl Tryz.call99 (fun R hR => ?_)
      simp [go_sem]
      refine (mulR_any l (lim D) a a3 c c3 _ hr hr3 (by omega) hDl).mono ?_
      rintro e w4 ⟨a4, c4, rfl, hr4, hE4⟩
      refine ⟨_, rfl, hR _ _ ?_⟩
      clear hR R
      rw [val_lim] at hr4
      rw [val_lim]
      have hown4 := own_keep (own_keep hown2 hE3) hE4
      have hE := (hE2.next hE3).next hE4
      simp [go_sem]
      refine hv_appendL (a := a4) (c := c4) (len := (lim (val l * D)).length) (lmC (lim (val l * D))) (by simp [go_sem]) rfl ty_slZ22 ty_bytes96 rfl (by simp [go_sem]) (by simp [go_sem]) hown4 (lmC_len _) hr4.sl (lmC_one _) (by unfold maxLen; omega) (by omega) hE.size (by decide) (fun v5 w5 hown5 hg5 => ?_)
      rw [← lmC_app] at hown5
      replace hE := hE.nextG hg5 (fun k e => (hown4.lt k e).1)
      have hok5 : Ok (List.replicate k 0 ++ lim (val l * D)) := (Ok.zeros k).app (lim_ok _)
      obtain ⟨a5, c5, rfl, hr5⟩ := RD.of_own hown5 hok5
      have hl5 : (List.replicate k 0 ++ lim (val l * D)).length ≤ lenB := by
        rw [List.length_append, List.length_replicate]; unfold lenB; omega
      have hno := normR_any _ a5 c5 _ hr5 hl5
      rw [← lim_val _ hok5, hsv, ← hX] at hno
      generalize (List.replicate k 0 ++ lim (val l * D)).length = len5 at *
      simp [go_sem]
      refine hv_call (by simp [go_sem]) rfl Tryz.call103 (fun R hR => ?_)
      simp [go_sem]
      refine (hno).mono ?_
      rintro e w6 ⟨a6, c6, rfl, hr6, hE6⟩
      refine ⟨_, rfl, hR _ _ ?_⟩
      clear hR R
      simp [go_sem]
      refine hK _ _ ?_; clear hK K
      refine W_ret ?_
      repeat (first | refine thenG_ret ?_ | refine inBlock_ret ?_)
      refine ⟨trivial, a6, c6, ?_, hr6, hE.next hE6⟩
      simp [go_sem, pack, resL]
end Go.Proofs.YtifgdiejpglhfaaGreat
namespace Go.Proofs.YtifgdiejpglhfaaGreat
open Go.RowKit Go.V
set_option linter.unusedSimpArgs false
set_option linter.unusedVariables false
set_option maxRecDepth 20000

theorem shiftV_one (j : Nat) (hj : j ≤ 1048576) : shiftV 1 (j : Int) = 2 ^ j := by
  unfold shiftV
  rw [if_neg (by omega), if_neg (by omega), Int.toNat_natCast, Nat.one_mul]
theorem sq_self_le {r A : Nat} (h : r * r ≤ A) : r ≤ A := by
  rcases r with _ | r
  · omega
  · exact Nat.le_trans (Nat.le_mul_of_pos_left _ (by omega)) h
theorem sqrt_first (A t : Nat) (ht : t = (blen A - 1) / 2 + 1) : A < (0 + 2 ^ t) * (0 + 2 ^ t) := by
  rw [Nat.zero_add, ← Nat.pow_add]
  exact Nat.lt_of_lt_of_le (lt_blen A) (Nat.pow_le_pow_right (by decide) (by omega))
theorem lim_mul_len {x y k m : Nat} (hx : (lim x).length ≤ k) (hy : (lim y).length ≤ m) : (lim (x * y)).length ≤ k + m := by
  refine lim_len _ _ ?_
  have h1 := val_lt _ (lim_ok x)
  have h2 := val_lt _ (lim_ok y)
  rw [val_lim] at h1 h2
  have h3 : 65536 ^ (lim x).length ≤ 65536 ^ k := Nat.pow_le_pow_right (by decide) hx
  have h4 : 65536 ^ (lim y).length ≤ 65536 ^ m := Nat.pow_le_pow_right (by decide) hy
  rw [Nat.pow_add]
  exact Nat.mul_lt_mul'' (by omega) (by omega)
theorem sq_expand (r p : Nat) : r + 2 * p = r + p + p := by omega

set_option maxHeartbeats 2000000 in
theorem sqrtR_any (l : List Nat) (a : Option Addr) (c : Nat) (w : World) (hr : RD w a c l) (hl : l.length ≤ 100000) :
    Calls Tryz.prog 96 #[.slice a l.length c] w (SqPost w (val l)) := by
  have hbb := blen_bound l hr.ok
  have hAl : (lim (val l)).length ≤ 100000 := by rw [lim_val l hr.ok]; exact Nat.le_trans (nrm_len l) hl
  have hfirst := sqrt_first (val l)
  obtain ⟨A, hA⟩ : ∃ A, A = val l := ⟨_, rfl⟩
  rw [← hA] at hAl hfirst hbb ⊢
  obtain ⟨T0, hT0⟩ : ∃ T0, T0 = (blen A - 1) / 2 + 1 := ⟨_, rfl⟩
  replace hfirst := hfirst T0 hT0
  have hbi := bitsR_any l a c w hr (by unfold lenB; omega)
  rw [← hA] at hbi
  have f1 : IntKind.i64.wrap ((blen A : Int) - 1) = (blen A : Int) - 1 := IntWalk.i64_in _ (by omega)
  have f2 : IntKind.i64.wrap (((blen A : Int) - 1).tdiv 2) = (T0 : Int) - 1 := by
    rcases hb : blen A with _ | b
    · rw [hb] at hT0; subst hT0; decide
    · have e : ((b + 1 : Nat) : Int) - 1 = (b : Int) := by omega
      have e2 : (b : Int).tdiv 2 = ((b / 2 : Nat) : Int) := rfl
      rw [e, e2, IntWalk.i64_in _ (by omega)]; omega
  refine calls_of_W (args := [.slice a l.length c]) (rs := [.tmp 2, .tmp 3]) (n := 39) Tryz.func96 rfl rfl rfl (by kernel_rfl) ?_
  first | refine W_rt (by kernel_rfl) (fun K hK => ?_) | refine W_text (by kernel_rfl) (fun K hK => ?_)
  simp [go_sem]
  refine hK _ _ ?_; clear hK K
  first | refine W_rt (by kernel_rfl) (fun K hK => ?_) | refine W_text (by kernel_rfl) (fun K hK => ?_)
  simp [go_sem]
  refine hK _ _ ?_; clear hK K
  refine W_seq (fun K1 hK1 => ?_)
  first | refine W_rt (by kernel_rfl) (fun K hK => ?_) | refine W_text (by kernel_rfl) (fun K hK => ?_)
  simp [go_sem]
  refine hv_call (by simp [go_sem]) rfl Tryz.call124 (fun R hR => ?_)
  simp [go_sem]
  refine (hbi).mono ?_
  rintro e w1 ⟨rfl, hE1⟩
  refine ⟨_, rfl, hR _ _ ?_⟩
  clear hR R
  replace hr := hr.ext hE1
  have hE := hE1
  simp [go_sem, f1, f2]
  refine hK _ _ ?_; clear hK K
  have hTb : T0 ≤ 800001 := by omega
  clear hE1 hbi f1 f2 hT0 hbb
  refine W_block ?_
  refine W_loop (fun t g w' => Below w.heap.size w w' ∧ RD w' a c l ∧ ∃ root ar cr, t ≤ T0 ∧ g 0 = .slice a l.length c ∧ g 4 = .slice ar (lim root).length cr ∧ RD w' ar cr (lim root) ∧ g 5 = .int .i64 ((t : Int) - 1) ∧ root * root ≤ A ∧ A < (root + 2 ^ t) * (root + 2 ^ t)) T0 ?_ ?_
  · refine ⟨hE, hr, 0, none, 0, by omega, by simp [go_sem], ?_, ?_, by simp [go_sem], by omega, hfirst⟩
    · rw [lim_zero]; simp [go_sem]
    · rw [lim_zero]; exact RD.nil _ _ _
  · clear hE hr hfirst
    rintro t g w' ⟨hE, hr, root, ar, cr, htT, g0, g4, hrr, g5, h1, h2⟩
    have hrl : (lim root).length ≤ 100000 := lim_mono (sq_self_le h1) hAl
    refine W_seq (fun K2 hK2 => ?_)
    rcases t with _ | j
    · have hroot : root = isq A := isq_uniq h1 (by simpa using h2)
      first | refine W_rt (by kernel_rfl) (fun K hK => ?_) | refine W_text (by kernel_rfl) (fun K hK => ?_)
      simp [go_sem, g5]
      refine hK _ _ ?_; clear hK K
      refine W_if (by simp [go_sem]; rfl) rfl ?_
      refine W_exit ?_
      repeat (first | refine thenG_exit ?_ | refine inBlock_other rfl ?_ | refine inBlock_same ?_)
      refine hK1 _ _ ?_; clear hK1 K1 hK2 K2
      have hmul : (lim (root * root)).length ≤ lenB := lim_mono h1 (by unfold lenB; omega)
      first | refine W_rt (by kernel_rfl) (fun K hK => ?_) | refine W_text (by kernel_rfl) (fun K hK => ?_)
      simp [go_sem, g0, g4]
      refine hv_call (by simp [go_sem, g0, g4]) rfl Tryz.call99 (fun R hR => ?_)
      simp [go_sem, g0, g4]
      refine (mulR_any _ _ _ _ _ _ _ hrr hrr (by unfold lenS; omega) (by unfold lenS; omega)).mono ?_
      rintro e w2 ⟨a2, c2, rfl, hr2, hE2⟩
      refine ⟨_, rfl, hR _ _ ?_⟩
      clear hR R
      rw [val_lim] at hr2
      rw [val_lim]
      replace hr := hr.ext hE2
      replace hrr := hrr.ext hE2
      replace hE := hE.next hE2
      have hsu := subR_any l _ a a2 c c2 _ hr hr2 (by unfold lenB; omega) hmul
      rw [← hA, val_lim] at hsu
      simp [go_sem, g0, g4]
      refine hv_call (by simp [go_sem, g0, g4]) rfl Tryz.call101 (fun R hR => ?_)
      simp [go_sem, g0, g4]
      refine hsu.mono ?_
      rintro e w10 (⟨hbad, _⟩ | ⟨_, a10, c10, rfl, hr10, hE10⟩)
      · omega
      refine ⟨_, rfl, hR _ _ ?_⟩
      clear hR R
      replace hrr := hrr.ext hE10
      simp [go_sem]
      refine hK _ _ ?_; clear hK K
      first | refine W_rt (by kernel_rfl) (fun K hK => ?_) | refine W_text (by kernel_rfl) (fun K hK => ?_)
      simp [go_sem, g4]
      refine hK _ _ ?_; clear hK K
      refine W_ret ?_
      repeat (first | refine thenG_ret ?_ | refine inBlock_ret ?_)
      refine ⟨trivial, ar, cr, a10, c10, ?_, by rw [← hroot]; exact hrr, by rw [← hroot]; exact hr10, hE.next hE10⟩
      rw [← hroot]
      simp [go_sem, pack, resL]
    · have ej : ((j + 1 : Nat) : Int) - 1 = (j : Int) := by omega
      rw [ej] at g5
      have p0 : (0 : Int) ≤ j := by omega
      have hpl : (lim (2 ^ j)).length ≤ 100001 := lim_len2 _ _ (by omega)
      have hpow : (2 : Nat) ^ (j + 1) = 2 * 2 ^ j := by rw [Nat.pow_succ, Nat.mul_comm]
      rw [hpow, sq_expand] at h2
      have hsv := shiftV_one j (by omega)
      obtain ⟨p, hp⟩ : ∃ p, p = 2 ^ j := ⟨_, rfl⟩
      rw [← hp] at hpl h2 hsv
      have hnl : (lim (root + p)).length ≤ 100002 := lim_add_len (by omega) hpl
      have hml : (lim ((root + p) * (root + p))).length ≤ 100002 + 100002 := lim_mul_len hnl hnl
      first | refine W_rt (by kernel_rfl) (fun K hK => ?_) | refine W_text (by kernel_rfl) (fun K hK => ?_)
      simp [go_sem, g5, p0]
      refine hK _ _ ?_; clear hK K
      refine W_if (by simp [go_sem, p0]; rfl) rfl ?_
      refine W_skip ?_
      refine hK2 _ _ ?_; clear hK2 K2
      refine W_seq (fun K2 hK2 => ?_)
      refine W_block ?_
      first | refine W_rt (by kernel_rfl) (fun K hK => ?_) | refine W_text (by kernel_rfl) (fun K hK => ?_)
      simp [go_sem, g4, g5]
      refine hv_call (by simp [go_sem, g4, g5]) rfl Tryz.call54 (fun R hR => ?_)
      simp [go_sem, g4, g5]
      refine (ofR_any 1 _ (by decide)).mono ?_
      rintro e w2 ⟨a2, c2, rfl, hr2, hE2⟩
      refine ⟨_, rfl, hR _ _ ?_⟩
      clear hR R
      have hsh := shiftR_any (lim 1) a2 c2 (j : Int) _ hr2 (Nat.le_trans (Nat.succ_le_succ (lim_len 4 1 (by decide))) (by decide))
      rw [val_lim, hsv] at hsh
      simp [go_sem, g4, g5]
      refine hv_call (by simp [go_sem, g4, g5]) rfl Tryz.call122 (fun R hR => ?_)
      simp [go_sem, g4, g5]
      refine (hsh).mono ?_
      rintro e w3 ⟨a3, c3, rfl, hr3, hE3⟩
      refine ⟨_, rfl, hR _ _ ?_⟩
      clear hR R
      have hE23 := hE2.next hE3
      replace hr := hr.ext hE23
      replace hrr := hrr.ext hE23
      replace hE := hE.next hE23
      have had := addR_any (lim root) (lim p) ar a3 cr c3 _ hrr hr3 (by unfold lenS; omega) (by unfold lenS; omega)
      rw [val_lim, val_lim] at had
      simp [go_sem, g4, g5]
      refine hv_call (by simp [go_sem, g4, g5]) rfl Tryz.call100 (fun R hR => ?_)
      simp [go_sem, g4, g5]
      refine (had).mono ?_
      rintro e w4 ⟨a4, c4, rfl, hr4, hE4⟩
      refine ⟨_, rfl, hR _ _ ?_⟩
      clear hR R
      replace hr := hr.ext hE4
      replace hrr := hrr.ext hE4
      replace hE := hE.next hE4
      simp [go_sem]
      refine hK _ _ ?_; clear hK K
      have hmu := mulR_any (lim (root + p)) (lim (root + p)) a4 a4 c4 c4 _ hr4 hr4 (by unfold lenS; omega) (by unfold lenS; omega)
      rw [val_lim] at hmu
      first | refine W_rt (by kernel_rfl) (fun K hK => ?_) | refine W_text (by kernel_rfl) (fun K hK => ?_)
      simp [go_sem, g0]
      refine hv_call (by simp [go_sem, g0]) rfl Tryz.call99 (fun R hR => ?_)
      simp [go_sem, g0]
      refine (hmu).mono ?_
      rintro e w5 ⟨a5, c5, rfl, hr5, hE5⟩
      refine ⟨_, rfl, hR _ _ ?_⟩
      clear hR R
      replace hr := hr.ext hE5
      replace hrr := hrr.ext hE5
      replace hr4 := hr4.ext hE5
      replace hE := hE.next hE5
      have hcm := cmpR_any _ l a5 a c5 c _ hr5 hr (by unfold lenB; omega) (by unfold lenB; omega)
      rw [val_lim, ← hA] at hcm
      simp [go_sem, g0]
      refine hv_call (by simp [go_sem, g0]) rfl Tryz.call125 (fun R hR => ?_)
      simp [go_sem, g0]
      refine (hcm).mono ?_
      rintro e w6 ⟨rfl, rfl⟩
      refine ⟨_, rfl, hR _ _ ?_⟩
      clear hR R
      simp [go_sem]
      refine hK _ _ ?_; clear hK K
      have f5 : IntKind.i64.wrap ((j : Int) - 1) = (j : Int) - 1 := IntWalk.i64_in _ (by omega)
      by_cases hle : (root + p) * (root + p) ≤ A
      · have hc := cmpV_le hle
        refine W_if (by simp [go_sem, hc]; rfl) rfl ?_
        first | refine W_rt (by kernel_rfl) (fun K hK => ?_) | refine W_text (by kernel_rfl) (fun K hK => ?_)
        simp [go_sem]
        refine hK _ _ ?_; clear hK K
        refine hK2 _ _ ?_; clear hK2 K2
        first | refine W_rt (by kernel_rfl) (fun K hK => ?_) | refine W_text (by kernel_rfl) (fun K hK => ?_)
        simp [go_sem, g5, f5]
        exact hK _ _ ⟨j, by omega, hE, hr, root + p, a4, c4, by omega, by simp [go_sem, g0], by simp [go_sem], hr4, by simp [go_sem], hle, by rw [← hp]; exact h2⟩
      · have hc := cmpV_nle hle
        refine W_if (by simp [go_sem, hc]; rfl) rfl ?_
        refine W_skip ?_
        refine hK2 _ _ ?_; clear hK2 K2
        first | refine W_rt (by kernel_rfl) (fun K hK => ?_) | refine W_text (by kernel_rfl) (fun K hK => ?_)
        simp [go_sem, g5, f5]
        exact hK _ _ ⟨j, by omega, hE, hr, root, ar, cr, by omega, by simp [go_sem, g0], by simp [go_sem, g4], hrr, by simp [go_sem], h1, by rw [← hp]; omega⟩
end Go.Proofs.YtifgdiejpglhfaaGreat
namespace Go.Proofs.YtifgdiejpglhfaaGreat
open Go.RowKit Go.V
set_option linter.unusedSimpArgs false
set_option linter.unusedVariables false
set_option maxRecDepth 20000


end Go.Proofs.YtifgdiejpglhfaaGreat
namespace Go.Proofs.YtifgdiejpglhfaaGreat
open Go.RowKit Go.V
set_option linter.unusedSimpArgs false
set_option linter.unusedVariables false
set_option maxRecDepth 20000

end Go.Proofs.YtifgdiejpglhfaaGreat
