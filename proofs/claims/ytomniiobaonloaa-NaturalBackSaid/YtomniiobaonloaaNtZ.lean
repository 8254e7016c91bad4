/- Natural numbers: Sqrt. -/
import Derived.Test.YtomniiobaonloaaNtV
import Derived.Test.YtomniiobaonloaaNtE
import Derived.Test.YtomniiobaonloaaNtC
namespace Go.Proofs.Ytomniiobaonloaa
open Go.RowKit Go.V
set_option linter.unusedSimpArgs false
set_option linter.unusedVariables false

/-- the integer square root -/
def isq : Nat → Nat
  | 0 => 0
  | n + 1 => if (isq n + 1) * (isq n + 1) ≤ n + 1 then isq n + 1 else isq n
theorem isq_spec (n : Nat) : isq n * isq n ≤ n ∧ n < (isq n + 1) * (isq n + 1) := by
  induction n with
  | zero => simp [isq]
  | succ n ih =>
    unfold isq
    split
    · rename_i h
      refine ⟨h, ?_⟩
      have : (isq n + 1 + 1) * (isq n + 1 + 1) = (isq n + 1) * (isq n + 1) + 2 * (isq n + 1) + 1 := by
        rw [Nat.add_mul, Nat.mul_add, Nat.one_mul, Nat.mul_one]; omega
      omega
    · omega
theorem sq_lt {a b : Nat} (h : a * a < b * b) : a < b := by
  rcases Nat.lt_or_ge a b with h' | h'
  · exact h'
  · exact absurd (Nat.mul_le_mul h' h') (by omega)
theorem isq_uniq {n r : Nat} (h1 : r * r ≤ n) (h2 : n < (r + 1) * (r + 1)) : r = isq n := by
  obtain ⟨a, b⟩ := isq_spec n
  have c := sq_lt (Nat.lt_of_le_of_lt h1 b)
  have d := sq_lt (Nat.lt_of_le_of_lt a h2)
  omega
/-- a step of the approximation stays above the root -/
theorem newton_ge (a x : Nat) (hx : isq a ≤ x) (hp : 0 < x) : isq a ≤ (x + a / x) / 2 := by
  obtain ⟨h1, _⟩ := isq_spec a
  refine Nat.le_of_not_lt (fun hlt => ?_)
  generalize isq a = s at *
  have h3 := Nat.lt_mul_div_succ a hp
  generalize a / x = q at *
  have h2 : x + q ≤ 2 * s - 1 := by omega
  have h4 : x * (q + 1) ≤ x * (2 * s - x) := Nat.mul_le_mul_left _ (by omega)
  obtain ⟨d, hd⟩ : ∃ d, x = s + d := ⟨x - s, by omega⟩
  obtain ⟨e, he⟩ : ∃ e, s = e + d := ⟨s - d, by omega⟩
  have e1 : 2 * s - x = e := by omega
  rw [e1] at h4
  have e2 : x = e + 2 * d := by omega
  have h5 : (e + 2 * d) * e ≤ (e + d) * (e + d) := by
    rw [Nat.add_mul, Nat.add_mul, Nat.mul_add, Nat.mul_add, Nat.mul_comm d e]
    have : 2 * d * e = e * d + e * d := by rw [Nat.mul_comm e d, Nat.mul_assoc]; omega
    omega
  rw [← e2, ← he] at h5
  omega
/-- where the step does not go down, the root is there -/
theorem newton_end (a x : Nat) (hx : isq a ≤ x) (hp : 0 < x) (h : x ≤ (x + a / x) / 2) : x = isq a := by
  obtain ⟨_, h2⟩ := isq_spec a
  refine Nat.le_antisymm (Nat.le_of_not_lt (fun hlt => ?_)) hx
  have h3 : (isq a + 1) * (isq a + 1) ≤ x * x := Nat.mul_le_mul hlt hlt
  have h4 : a / x < x := by rw [Nat.div_lt_iff_lt_mul hp]; omega
  omega
theorem newton_start (a : Nat) : isq a < 2 ^ ((blen a + 1) / 2) := by
  obtain ⟨h1, _⟩ := isq_spec a
  refine sq_lt (Nat.lt_of_le_of_lt h1 ?_)
  rw [← Nat.pow_add]
  exact Nat.lt_of_lt_of_le (lt_blen a) (Nat.pow_le_pow_right (by decide) (by omega))
/-- what a square root returns -/
def SqPost (w : World) (A : Nat) (e : Ending) (w' : World) : Prop := ∃ a c a' c', e = .returned (.tuple #[.slice a (lim (isq A)).length c, .slice a' (lim (A - isq A * isq A)).length c']) ∧ RD w' a c (lim (isq A)) ∧ RD w' a' c' (lim (A - isq A * isq A)) ∧ Below w.heap.size w w'
theorem lim_len2 (e k : Nat) (h : e < 16 * k) : (lim (2 ^ e)).length ≤ k := lim_len k _ (by rw [pow_16]; exact Nat.pow_lt_pow_right (by decide) h)

theorem lim_add_len {x y k : Nat} (hx : (lim x).length ≤ k) (hy : (lim y).length ≤ k) : (lim (x + y)).length ≤ k + 1 := by
  refine lim_len _ _ ?_
  have h1 := val_lt _ (lim_ok x)
  have h2 := val_lt _ (lim_ok y)
  rw [val_lim] at h1 h2
  have h3 : 65536 ^ (lim x).length ≤ 65536 ^ k := Nat.pow_le_pow_right (by decide) hx
  have h4 : 65536 ^ (lim y).length ≤ 65536 ^ k := Nat.pow_le_pow_right (by decide) hy
  rw [Nat.pow_succ]
  omega

set_option maxHeartbeats 4000000 in
theorem sqrt_any (l : List Nat) (a : Option Addr) (c : Nat) (w : World) (hr : RD w a c l) (hl : l.length ≤ 100000) :
    Calls Try.prog 39 #[.slice a l.length c] w (SqPost w (val l)) := by
  have hn1 := nrm_len l
  have hbb := blen_bound l hr.ok
  have hlB : l.length ≤ lenB := by unfold lenB; omega
  have hno := norm_any l a c w hr hlB
  rw [← lim_val l hr.ok] at hno hn1
  refine calls_of_W (args := [.slice a l.length c]) (rs := [.tmp 2, .tmp 3]) (n := 46) Try.func39 rfl rfl rfl (by kernel_rfl) ?_
  first | refine W_rt (by kernel_rfl) (fun K hK => ?_) | refine W_text (by kernel_rfl) (fun K hK => ?_)
  simp [go_sem]
  refine hK _ _ ?_; clear hK K
  first | refine W_rt (by kernel_rfl) (fun K hK => ?_) | refine W_text (by kernel_rfl) (fun K hK => ?_)
  simp [go_sem]
  refine hv_call (by simp [go_sem]) rfl Try.call17 (fun R hR => ?_)
  simp [go_sem]
  refine (hno).mono ?_
  rintro e w1 ⟨a1, c1, rfl, hr1, hE1⟩
  refine ⟨_, rfl, hR _ _ ?_⟩
  clear hR R
  simp [go_sem]
  refine hK _ _ ?_; clear hK K
  have hE := hE1
  clear hr hE1 hno
  generalize val l = A at *
  refine W_seq (fun K1 hK1 => ?_)
  by_cases h0 : A = 0
  · subst h0
    rw [lim_zero]
    first | refine W_rt (by kernel_rfl) (fun K hK => ?_) | refine W_text (by kernel_rfl) (fun K hK => ?_)
    simp [go_sem]
    refine hK _ _ ?_; clear hK K
    refine W_if (by simp [go_sem]; rfl) rfl ?_
    first | refine W_rt (by kernel_rfl) (fun K hK => ?_) | refine W_text (by kernel_rfl) (fun K hK => ?_)
    simp [go_sem]
    refine hK _ _ ?_; clear hK K
    refine W_ret ?_
    repeat (first | refine thenG_ret ?_ | refine inBlock_ret ?_)
    refine ⟨trivial, none, 0, none, 0, ?_, ?_, ?_, hE⟩
    · simp [isq, lim_zero, go_sem, pack, resL]
    · simp only [isq, lim_zero]; exact RD.nil _ _ _
    · show RD w1 none 0 (lim 0)
      rw [lim_zero]; exact RD.nil _ _ _
  · have hp : 0 < (lim A).length := lim_ne h0
    have hp' : ¬ ((lim A).length : Int) = 0 := by omega
    have hp'' : ¬ lim A = [] := by intro e; rw [e] at hp; simp at hp
    have hlA : (lim A).length ≤ 100000 := by omega
    have hst := newton_start A
    have hbits := fun {w} hr => bits_any (lim A) a1 c1 w hr (by unfold lenB; omega)
    rw [val_lim] at hbits
    obtain ⟨ee, hee⟩ : ∃ ee, ee = (blen A + 1) / 2 := ⟨_, rfl⟩
    rw [← hee] at hst
    have heb : ee ≤ 800001 := by omega
    have f1 : IntKind.i64.wrap ((blen A : Int) + 1) = ((blen A + 1 : Nat) : Int) := by rw [IntWalk.i64_in _ (by omega)]; omega
    have f2 : ((blen A + 1 : Nat) : Int).tdiv 2 = (ee : Int) := by rw [hee]; rfl
    have f3 : IntKind.i64.wrap (ee : Int) = (ee : Int) := IntWalk.i64_in _ (by omega)
    obtain ⟨bl1, hbl1⟩ : ∃ bl1, bl1 = blen A + 1 := ⟨_, rfl⟩
    rw [← hbl1] at f1 f2
    have hxl : (lim (2 ^ ee)).length ≤ 100001 := lim_len2 _ _ (by omega)
    first | refine W_rt (by kernel_rfl) (fun K hK => ?_) | refine W_text (by kernel_rfl) (fun K hK => ?_)
    simp [go_sem, hp', hp'']
    refine hK _ _ ?_; clear hK K
    refine W_if (by simp [go_sem, hp', hp'']; rfl) rfl ?_
    refine W_skip ?_
    refine hK1 _ _ ?_; clear hK1 K1
    first | refine W_rt (by kernel_rfl) (fun K hK => ?_) | refine W_text (by kernel_rfl) (fun K hK => ?_)
    simp [go_sem]
    refine hv_buildSlice #[.int .u16 1] (by simp [go_sem]) rfl ty_slZ22 (by decide) [(0, .int .u16 1)] (by simp [go_sem]) (by kernel_rfl) (fun w2 b2 hE2 hle2 hB2 => ?_)
    have hr2 : RD w2 (some ⟨b2, 0, none⟩) 1 [1] := RD.of_lm hB2 (Ok.cons (by decide) Ok.nil) (by decide)
    replace hr1 := hr1.ext hE2
    replace hE := hE.next hE2
    clear hE2 hB2
    simp [go_sem]
    refine hv_call (by simp [go_sem]) rfl Try.call19 (fun R hR => ?_)
    simp [go_sem]
    refine (hbits hr1).mono ?_
    rintro e w3 ⟨rfl, rfl⟩
    refine ⟨_, rfl, hR _ _ ?_⟩
    clear hR R
    have hsh := (shl_any [1] _ _ ee _ hr2 (by decide) (by omega)).mono (fun _ _ => retN_of_O)
    rw [show val [1] = 1 from rfl, Nat.one_mul] at hsh
    simp [go_sem, f1, f2, f3]
    refine hv_call (by simp [go_sem, f1, f2, f3]) rfl Try.call41 (fun R hR => ?_)
    simp [go_sem, f1, f2, f3]
    refine (hsh).mono ?_
    rintro e w3 ⟨a3, c3, rfl, hr3, hE3⟩
    refine ⟨_, rfl, hR _ _ ?_⟩
    clear hR R
    replace hr1 := hr1.ext hE3
    replace hE := hE.next hE3
    simp [go_sem]
    refine hK _ _ ?_; clear hK K
    refine W_seq (fun K1 hK1 => ?_)
    refine W_block ?_
    refine W_loop (fun t g w' => Below w.heap.size w w' ∧ RD w' a1 c1 (lim A) ∧ ∃ ax cx, g 0 = .slice a1 (lim A).length c1 ∧ g 4 = .slice ax (lim t).length cx ∧ RD w' ax cx (lim t) ∧ isq A ≤ t ∧ 0 < t ∧ (lim t).length ≤ 100001) (2 ^ ee) ?_ ?_
    · exact ⟨hE, hr1, a3, c3, by simp [go_sem], by simp [go_sem], hr3, by omega, by omega, hxl⟩
    · clear hE hr1 hr3 hE3 hr2 hxl hst f1 f2 f3 hee heb
      rintro x g w' ⟨hE, hr1, ax, cx, g0, g4, hrx, hge, hx0, hxl⟩
      refine W_block ?_
      have hdm := divmod_any (lim A) (lim x) a1 ax c1 cx _ hr1 hrx (by unfold lenS; omega) (by unfold lenS; omega)
      rw [val_lim, val_lim] at hdm
      have hnge := newton_ge A x hge hx0
      have hnend := newton_end A x hge hx0
      obtain ⟨y, hy⟩ : ∃ y, y = (x + A / x) / 2 := ⟨_, rfl⟩
      rw [← hy] at hnge hnend
      first | refine W_rt (by kernel_rfl) (fun K hK => ?_) | refine W_text (by kernel_rfl) (fun K hK => ?_)
      simp [go_sem, g0, g4]
      refine hv_call (by simp [go_sem, g0, g4]) rfl Try.call25 (fun R hR => ?_)
      simp [go_sem, g0, g4]
      refine hdm.mono ?_
      rintro e w4 (⟨hbad, _⟩ | ⟨_, a4, c4, a5, c5, rfl, hr4, hr5, hE4⟩)
      · omega
      refine ⟨_, rfl, hR _ _ ?_⟩
      clear hR R hr5
      replace hr1 := hr1.ext hE4
      replace hrx := hrx.ext hE4
      replace hE := hE.next hE4
      clear hE4
      simp [go_sem]
      refine hK _ _ ?_; clear hK K
      have hql : (lim (A / x)).length ≤ 100000 := lim_mono (Nat.div_le_self _ _) hlA
      have hsl : (lim (x + A / x)).length ≤ 100002 := lim_add_len hxl (by omega)
      first | refine W_rt (by kernel_rfl) (fun K hK => ?_) | refine W_text (by kernel_rfl) (fun K hK => ?_)
      simp [go_sem, g4]
      refine hv_call (by simp [go_sem, g4]) rfl Try.call29 (fun R hR => ?_)
      simp [go_sem, g4]
      refine (add_any _ _ _ _ _ _ _ hrx hr4 (by unfold lenB; omega) (by unfold lenB; omega)).mono ?_
      rintro e w6 ⟨a6, c6, rfl, hr6, hE6⟩
      refine ⟨_, rfl, hR _ _ ?_⟩
      clear hR R
      rw [val_lim, val_lim] at hr6
      rw [val_lim, val_lim]
      replace hr1 := hr1.ext hE6
      replace hrx := hrx.ext hE6
      replace hE := hE.next hE6
      clear hE6
      have hsh := shr_any _ _ _ 1 _ hr6 (by unfold lenS; omega) (by decide) (by decide)
      rw [val_lim, show (2 : Nat) ^ 1 = 2 from rfl, ← hy, show (-((1 : Nat) : Int)) = -1 from rfl] at hsh
      simp [go_sem]
      refine hv_call (by simp [go_sem]) rfl Try.call41 (fun R hR => ?_)
      simp [go_sem]
      refine (hsh).mono ?_
      rintro e w7 ⟨a7, c7, rfl, hr7, hE7⟩
      refine ⟨_, rfl, hR _ _ ?_⟩
      clear hR R
      replace hr1 := hr1.ext hE7
      replace hrx := hrx.ext hE7
      replace hE := hE.next hE7
      clear hE7 hr6 hr4
      simp [go_sem]
      refine hK _ _ ?_; clear hK K
      refine W_seq (fun K2 hK2 => ?_)
      have hyl : (lim y).length ≤ 100002 := lim_mono (by omega) hsl
      have hcm := fun {w} hr7 hrx => cmp_any (lim y) (lim x) a7 ax c7 cx w hr7 hrx (by unfold lenB; omega) (by unfold lenB; omega)
      rw [val_lim, val_lim] at hcm
      first | refine W_rt (by kernel_rfl) (fun K hK => ?_) | refine W_text (by kernel_rfl) (fun K hK => ?_)
      simp [go_sem, g4]
      refine hv_call (by simp [go_sem, g4]) rfl Try.call21 (fun R hR => ?_)
      simp [go_sem, g4]
      refine (hcm hr7 hrx).mono ?_
      rintro e w8 ⟨rfl, hE8⟩
      refine ⟨_, rfl, hR _ _ ?_⟩
      clear hR R
      replace hr1 := hr1.ext hE8
      replace hrx := hrx.ext hE8
      replace hr7 := hr7.ext hE8
      replace hE := hE.next hE8
      clear hE8
      simp [go_sem]
      refine hK _ _ ?_; clear hK K
      by_cases hyx : y < x
      · have cy : cmpV y x < 0 := by rw [cmpV_lt hyx]; decide
        have cy' : ¬ (0 : Int) ≤ cmpV y x := by omega
        refine W_if (by simp [go_sem, cy, cy']; rfl) rfl ?_
        refine W_skip ?_
        refine hK2 _ _ ?_; clear hK2 K2
        first | refine W_rt (by kernel_rfl) (fun K hK => ?_) | refine W_text (by kernel_rfl) (fun K hK => ?_)
        simp [go_sem]
        exact hK _ _ ⟨y, hyx, hE, hr1, a7, c7, by simp [go_sem, g0], by simp [go_sem], hr7, hnge, by
          obtain ⟨_, hi⟩ := isq_spec A
          rcases Nat.eq_zero_or_pos y with h | h
          · rw [h] at hnge
            have : isq A = 0 := by omega
            rw [this] at hi
            omega
          · exact h, lim_mono (Nat.le_of_lt hyx) hxl⟩
      · have cy : (0 : Int) ≤ cmpV y x := by unfold cmpV; rw [if_neg hyx]; split <;> omega
        have hxe := hnend (by omega)
        obtain ⟨hi, _⟩ := isq_spec A
        refine W_if (by simp [go_sem, cy]; rfl) rfl ?_
        refine W_exit ?_
        repeat (first | refine thenG_exit ?_ | refine inBlock_other rfl ?_ | refine inBlock_same ?_)
        refine hK1 _ _ ?_; clear hK1 K1 hK2 K2 hnend hnge hge
        have hmul : (lim (val (lim x) * val (lim x))).length ≤ lenB := by
          rw [val_lim]; exact lim_mono (B := A) (by rw [hxe]; exact hi) (by unfold lenB; omega)
        first | refine W_rt (by kernel_rfl) (fun K hK => ?_) | refine W_text (by kernel_rfl) (fun K hK => ?_)
        simp [go_sem, g0, g4]
        refine hv_call (by simp [go_sem, g0, g4]) rfl Try.call30 (fun R hR => ?_)
        simp [go_sem, g0, g4]
        refine (mul_any _ _ _ _ _ _ _ hrx hrx (by unfold lenS; omega) (by unfold lenS; omega)).mono ?_
        rintro e w9 ⟨a9, c9, rfl, hr9, hE9⟩
        refine ⟨_, rfl, hR _ _ ?_⟩
        clear hR R
        replace hr1 := hr1.ext hE9
        replace hrx := hrx.ext hE9
        replace hE := hE.next hE9
        have hsu := sub_any (lim A) _ a1 a9 c1 c9 _ hr1 hr9 (by unfold lenB; omega) hmul
        rw [val_lim A, val_lim (val (lim x) * val (lim x)), val_lim x] at hsu
        rw [val_lim x]
        simp [go_sem, g0, g4]
        refine hv_call (by simp [go_sem, g0, g4]) rfl Try.call31 (fun R hR => ?_)
        simp [go_sem, g0, g4]
        refine hsu.mono ?_
        rintro e w10 (⟨hbad, _⟩ | ⟨_, a10, c10, rfl, hr10, hE10⟩)
        · rw [hxe] at hbad; omega
        refine ⟨_, rfl, hR _ _ ?_⟩
        clear hR R
        replace hrx := hrx.ext hE10
        simp [go_sem]
        refine hK _ _ ?_; clear hK K
        first | refine W_rt (by kernel_rfl) (fun K hK => ?_) | refine W_text (by kernel_rfl) (fun K hK => ?_)
        simp [go_sem, g4]
        refine hK _ _ ?_; clear hK K
        refine W_ret ?_
        repeat (first | refine thenG_ret ?_ | refine inBlock_ret ?_)
        refine ⟨trivial, ax, cx, a10, c10, ?_, by rw [← hxe]; exact hrx, by rw [← hxe]; exact hr10, hE.next hE10⟩
        rw [← hxe]
        simp [go_sem, pack, resL]
end Go.Proofs.Ytomniiobaonloaa
