/- Integers: values; of, made, Norm, Neg, Right, Same, Sign. -/
import Derived.Test.YtkampmdekonjmaaVE
import Derived.Test.YtkampmdekonjmaaNu8
import Derived.Test.YtkampmdekonjmaaNtH
namespace Go.Proofs.Ytkampmdekonjmaa
open Go.RowKit Go.V
set_option linter.unusedSimpArgs false
set_option linter.unusedVariables false
set_option maxRecDepth 20000

/-- the integer with a sign and an absolute value -/
def iv (neg : Bool) (x : Nat) : Int := if neg then -(x : Int) else x
/-- an integer's valid representation -/
def iR (z : Int) (a : Option Addr) (c : Nat) : Value := .agg #[.bool (decide (z < 0)), .slice a (lim z.natAbs).length c]
def RetI (w : World) (z : Int) (e : Ending) (w' : World) : Prop := ∃ a c, e = .returned (iR z a c) ∧ RD w' a c (lim z.natAbs) ∧ Below w.heap.size w w'
theorem iv_abs (neg : Bool) (x : Nat) : (iv neg x).natAbs = x := by unfold iv; cases neg <;> simp
theorem iv_neg (neg : Bool) (x : Nat) : decide (iv neg x < 0) = (neg && decide (0 < (lim x).length)) := by
  unfold iv
  cases neg with
  | false => simp
  | true =>
    by_cases h : x = 0
    · subst h; simp [lim_zero]
    · have := lim_ne h
      simp [this]; omega
theorem iv_self (z : Int) : iv (decide (z < 0)) z.natAbs = z := by
  unfold iv
  by_cases h : z < 0
  · simp [h]; omega
  · simp [h]; omega
theorem iR_iv (neg : Bool) (x : Nat) (a : Option Addr) (c : Nat) : iR (iv neg x) a c = .agg #[.bool (neg && decide (0 < (lim x).length)), .slice a (lim x).length c] := by
  unfold iR; rw [iv_abs, iv_neg]
theorem RD.keep {w w' : World} {a : Option Addr} {c : Nat} {l : List Nat} (h : RD w a c l) (hb : Below w.heap.size w w') : RD w' a c l := h.ext hb
theorem RD.nbox {w : World} {a a' : Option Addr} {c n c' b : Nat} {l : List Nat} {neg : Bool} {t : TypeId} (h : RD w a c l) (hB : Bx w b #[.bool neg, .slice a' n c'] t) : ∀ ad, a = some ad → l ≠ [] → ad.block ≠ b := by
  intro ad ha hl e
  rcases h.sl with e0 | ⟨b', off, e1, hc⟩
  · exact hl (List.map_eq_nil_iff.1 e0)
  · rw [ha] at e1
    injection e1 with e1
    subst e1
    subst e
    obtain ⟨x, r, rfl⟩ : ∃ x r, l = x :: r := by
      cases l with
      | nil => exact absurd rfl hl
      | cons x r => exact ⟨x, r, rfl⟩
    have h1 := hc 0 (.int .u16 x) rfl
    rw [hB.cell] at h1
    rcases off with _ | _ | off
    · cases h1
    · cases h1
    · cases h1
theorem ibx {w : World} {b n c : Nat} {t : TypeId} {a : Option Addr} {neg : Bool} (h : Bx w b #[.bool neg, .slice a n c] t) : w.cell? ⟨b, 0, none⟩ = some (.bool neg) ∧ w.cell? ⟨b, 1, none⟩ = some (.slice a n c) := ⟨h.cell 0, h.cell 1⟩

theorem iv_n (x : Nat) : decide (iv false x < 0) = false := by rw [iv_neg]; rfl
theorem iv_z : decide (iv true 0 < 0) = false := by rw [iv_neg, lim_zero]; rfl
theorem iv_p (x : Nat) (h : x ≠ 0) : decide (iv true x < 0) = true := by
  rw [iv_neg]; have := lim_ne h; simp [this]
set_option maxHeartbeats 400000 in
theorem made_any (neg : Bool) (x : Nat) (a : Option Addr) (c : Nat) (w : World) (hr : RD w a c (lim x)) :
    Calls Try.prog 121 #[.bool neg, .slice a (lim x).length c] w (RetI w (iv neg x)) := by
  refine calls_of_W (args := [.bool neg, .slice a (lim x).length c]) (rs := [.cell 4 26]) (n := 13) Try.func121 rfl rfl rfl (by kernel_rfl) ?_
  first | refine W_rt (by kernel_rfl) (fun K hK => ?_) | refine W_text (by kernel_rfl) (fun K hK => ?_)
  simp [go_sem]
  refine hv_alloc (by simp [go_sem]) rfl ty_zeroC26 (fun w4 b4 hE4 hle4 hB4 => ?_)
  replace hr := hr.ext hE4
  have hE := hE4
  simp [go_sem]
  refine hK _ _ ?_; clear hK K
  cases neg with
  | false =>
    have e0 := iv_n x
    first | refine W_rt (by kernel_rfl) (fun K hK => ?_) | refine W_text (by kernel_rfl) (fun K hK => ?_)
    simp [go_sem, lim_zero]
    refine hv_build #[.bool false, .slice a (lim x).length c] (by simp [go_sem, lim_zero]) rfl ty_stZ26 [(0, .bool false), (1, .slice a (lim x).length c)] (by simp [go_sem, lim_zero]) rfl ?_
    simp [go_sem, lim_zero]
    refine hv_store (b := b4) (off := 0) [.bool false, .slice a (lim x).length c] (by simp [go_sem, lim_zero]) rfl (by simp [go_sem, lim_zero]) (by simp [go_sem, Value.cells, lim_zero]) ty_size26 hB4 (by simp) (by simp [Value.oneCell']) (by decide) (fun w5 hS5 hB5 => ?_)
    simp [putC] at hB5
    replace hr := hr.sto hS5 (hr.nbox hB4)
    obtain ⟨k0, k1⟩ := ibx hB5
    simp [go_sem]
    refine hK _ _ ?_; clear hK K
    refine W_ret ?_
    repeat (first | refine thenG_ret ?_ | refine inBlock_ret ?_)
    refine ⟨by simp [resOk, go_sem, rowOk, k0, k1, add_mk], a, c, ?_, by rw [iv_abs]; exact hr, hE.nextS hS5 hle4⟩
    simp [go_sem, pack, resL, rowV, k0, k1, add_mk, iR, iv_abs, e0]
  | true =>
    by_cases h : x = 0
    · have e0 : decide (iv true x < 0) = false := by rw [h]; exact iv_z
      have hx1 : ¬ 0 < (lim x).length := by rw [h, lim_zero]; simp
      have hx1' : ¬ (0 : Int) < (lim x).length := by omega
      first | refine W_rt (by kernel_rfl) (fun K hK => ?_) | refine W_text (by kernel_rfl) (fun K hK => ?_)
      simp [go_sem, hx1, hx1']
      refine hv_build #[.bool false, .slice a (lim x).length c] (by simp [go_sem, hx1, hx1']) rfl ty_stZ26 [(0, .bool false), (1, .slice a (lim x).length c)] (by simp [go_sem, hx1, hx1']) rfl ?_
      simp [go_sem, hx1, hx1']
      refine hv_store (b := b4) (off := 0) [.bool false, .slice a (lim x).length c] (by simp [go_sem, hx1, hx1']) rfl (by simp [go_sem, hx1, hx1']) (by simp [go_sem, Value.cells, hx1, hx1']) ty_size26 hB4 (by simp) (by simp [Value.oneCell']) (by decide) (fun w5 hS5 hB5 => ?_)
      simp [putC] at hB5
      replace hr := hr.sto hS5 (hr.nbox hB4)
      obtain ⟨k0, k1⟩ := ibx hB5
      simp [go_sem]
      refine hK _ _ ?_; clear hK K
      refine W_ret ?_
      repeat (first | refine thenG_ret ?_ | refine inBlock_ret ?_)
      refine ⟨by simp [resOk, go_sem, rowOk, k0, k1, add_mk], a, c, ?_, by rw [iv_abs]; exact hr, hE.nextS hS5 hle4⟩
      simp [go_sem, pack, resL, rowV, k0, k1, add_mk, iR, iv_abs, e0]
    · have e0 := iv_p x h
      have hp := lim_ne h
      have hp' : (0 : Int) < (lim x).length := by omega
      first | refine W_rt (by kernel_rfl) (fun K hK => ?_) | refine W_text (by kernel_rfl) (fun K hK => ?_)
      simp [go_sem, hp, hp']
      refine hv_build #[.bool true, .slice a (lim x).length c] (by simp [go_sem, hp, hp']) rfl ty_stZ26 [(0, .bool true), (1, .slice a (lim x).length c)] (by simp [go_sem, hp, hp']) rfl ?_
      simp [go_sem, hp, hp']
      refine hv_store (b := b4) (off := 0) [.bool true, .slice a (lim x).length c] (by simp [go_sem, hp, hp']) rfl (by simp [go_sem, hp, hp']) (by simp [go_sem, Value.cells, hp, hp']) ty_size26 hB4 (by simp) (by simp [Value.oneCell']) (by decide) (fun w5 hS5 hB5 => ?_)
      simp [putC] at hB5
      replace hr := hr.sto hS5 (hr.nbox hB4)
      obtain ⟨k0, k1⟩ := ibx hB5
      simp [go_sem]
      refine hK _ _ ?_; clear hK K
      refine W_ret ?_
      repeat (first | refine thenG_ret ?_ | refine inBlock_ret ?_)
      refine ⟨by simp [resOk, go_sem, rowOk, k0, k1, add_mk], a, c, ?_, by rw [iv_abs]; exact hr, hE.nextS hS5 hle4⟩
      simp [go_sem, pack, resL, rowV, k0, k1, add_mk, iR, iv_abs, e0]
set_option maxHeartbeats 400000 in
theorem iof_any (neg : Bool) (l : List Nat) (a : Option Addr) (c : Nat) (w : World) (hr : RD w a c l) (hl : l.length ≤ lenB) :
    Calls Try.prog 131 #[.bool neg, .slice a l.length c] w (RetI w (iv neg (val l))) := by
  have hno := fun {w} hr => norm_any l a c w hr hl
  rw [← lim_val l hr.ok] at hno
  refine calls_of_W (args := [.bool neg, .slice a l.length c]) (rs := [.cell 4 26]) (n := 15) Try.func131 rfl rfl rfl (by kernel_rfl) ?_
  first | refine W_rt (by kernel_rfl) (fun K hK => ?_) | refine W_text (by kernel_rfl) (fun K hK => ?_)
  simp [go_sem]
  refine hv_alloc (by simp [go_sem]) rfl ty_zeroC26 (fun w4 b4 hE4 hle4 hB4 => ?_)
  replace hr := hr.ext hE4
  simp [go_sem]
  refine hK _ _ ?_; clear hK K
  first | refine W_rt (by kernel_rfl) (fun K hK => ?_) | refine W_text (by kernel_rfl) (fun K hK => ?_)
  simp [go_sem]
  refine hv_call (by simp [go_sem]) rfl Try.call93 (fun R hR => ?_)
  simp [go_sem]
  refine (hno hr).mono ?_
  rintro e w6 ⟨a, c, rfl, hr, hE6⟩
  refine ⟨_, rfl, hR _ _ ?_⟩
  clear hR R
  generalize val l = x at *
  have hE := hE4.next hE6
  replace hB4 := hB4.keep hE6
  simp [go_sem]
  refine hK _ _ ?_; clear hK K
  cases neg with
  | false =>
    have e0 := iv_n x
    first | refine W_rt (by kernel_rfl) (fun K hK => ?_) | refine W_text (by kernel_rfl) (fun K hK => ?_)
    simp [go_sem, lim_zero]
    refine hv_build #[.bool false, .slice a (lim x).length c] (by simp [go_sem, lim_zero]) rfl ty_stZ26 [(0, .bool false), (1, .slice a (lim x).length c)] (by simp [go_sem, lim_zero]) rfl ?_
    simp [go_sem, lim_zero]
    refine hv_store (b := b4) (off := 0) [.bool false, .slice a (lim x).length c] (by simp [go_sem, lim_zero]) rfl (by simp [go_sem, lim_zero]) (by simp [go_sem, Value.cells, lim_zero]) ty_size26 hB4 (by simp) (by simp [Value.oneCell']) (by decide) (fun w5 hS5 hB5 => ?_)
    simp [putC] at hB5
    replace hr := hr.sto hS5 (hr.nbox hB4)
    obtain ⟨k0, k1⟩ := ibx hB5
    simp [go_sem]
    refine hK _ _ ?_; clear hK K
    refine W_ret ?_
    repeat (first | refine thenG_ret ?_ | refine inBlock_ret ?_)
    refine ⟨by simp [resOk, go_sem, rowOk, k0, k1, add_mk], a, c, ?_, by rw [iv_abs]; exact hr, hE.nextS hS5 hle4⟩
    simp [go_sem, pack, resL, rowV, k0, k1, add_mk, iR, iv_abs, e0]
  | true =>
    by_cases h : x = 0
    · have e0 : decide (iv true x < 0) = false := by rw [h]; exact iv_z
      have hx1 : ¬ 0 < (lim x).length := by rw [h, lim_zero]; simp
      have hx1' : ¬ (0 : Int) < (lim x).length := by omega
      first | refine W_rt (by kernel_rfl) (fun K hK => ?_) | refine W_text (by kernel_rfl) (fun K hK => ?_)
      simp [go_sem, hx1, hx1']
      refine hv_build #[.bool false, .slice a (lim x).length c] (by simp [go_sem, hx1, hx1']) rfl ty_stZ26 [(0, .bool false), (1, .slice a (lim x).length c)] (by simp [go_sem, hx1, hx1']) rfl ?_
      simp [go_sem, hx1, hx1']
      refine hv_store (b := b4) (off := 0) [.bool false, .slice a (lim x).length c] (by simp [go_sem, hx1, hx1']) rfl (by simp [go_sem, hx1, hx1']) (by simp [go_sem, Value.cells, hx1, hx1']) ty_size26 hB4 (by simp) (by simp [Value.oneCell']) (by decide) (fun w5 hS5 hB5 => ?_)
      simp [putC] at hB5
      replace hr := hr.sto hS5 (hr.nbox hB4)
      obtain ⟨k0, k1⟩ := ibx hB5
      simp [go_sem]
      refine hK _ _ ?_; clear hK K
      refine W_ret ?_
      repeat (first | refine thenG_ret ?_ | refine inBlock_ret ?_)
      refine ⟨by simp [resOk, go_sem, rowOk, k0, k1, add_mk], a, c, ?_, by rw [iv_abs]; exact hr, hE.nextS hS5 hle4⟩
      simp [go_sem, pack, resL, rowV, k0, k1, add_mk, iR, iv_abs, e0]
    · have e0 := iv_p x h
      have hp := lim_ne h
      have hp' : (0 : Int) < (lim x).length := by omega
      first | refine W_rt (by kernel_rfl) (fun K hK => ?_) | refine W_text (by kernel_rfl) (fun K hK => ?_)
      simp [go_sem, hp, hp']
      refine hv_build #[.bool true, .slice a (lim x).length c] (by simp [go_sem, hp, hp']) rfl ty_stZ26 [(0, .bool true), (1, .slice a (lim x).length c)] (by simp [go_sem, hp, hp']) rfl ?_
      simp [go_sem, hp, hp']
      refine hv_store (b := b4) (off := 0) [.bool true, .slice a (lim x).length c] (by simp [go_sem, hp, hp']) rfl (by simp [go_sem, hp, hp']) (by simp [go_sem, Value.cells, hp, hp']) ty_size26 hB4 (by simp) (by simp [Value.oneCell']) (by decide) (fun w5 hS5 hB5 => ?_)
      simp [putC] at hB5
      replace hr := hr.sto hS5 (hr.nbox hB4)
      obtain ⟨k0, k1⟩ := ibx hB5
      simp [go_sem]
      refine hK _ _ ?_; clear hK K
      refine W_ret ?_
      repeat (first | refine thenG_ret ?_ | refine inBlock_ret ?_)
      refine ⟨by simp [resOk, go_sem, rowOk, k0, k1, add_mk], a, c, ?_, by rw [iv_abs]; exact hr, hE.nextS hS5 hle4⟩
      simp [go_sem, pack, resL, rowV, k0, k1, add_mk, iR, iv_abs, e0]
set_option maxHeartbeats 400000 in
theorem iofR_any (neg : Bool) (l : List Nat) (a : Option Addr) (c : Nat) (w : World) (hr : RD w a c l) (hl : l.length ≤ lenB) :
    Calls Try.prog 85 #[.bool neg, .slice a l.length c] w (RetI w (iv neg (val l))) := by
  have hno := fun {w} hr => normR_any l a c w hr hl
  rw [← lim_val l hr.ok] at hno
  refine calls_of_W (args := [.bool neg, .slice a l.length c]) (rs := [.cell 4 26]) (n := 15) Try.func85 rfl rfl rfl (by kernel_rfl) ?_
  first | refine W_rt (by kernel_rfl) (fun K hK => ?_) | refine W_text (by kernel_rfl) (fun K hK => ?_)
  simp [go_sem]
  refine hv_alloc (by simp [go_sem]) rfl ty_zeroC26 (fun w4 b4 hE4 hle4 hB4 => ?_)
  replace hr := hr.ext hE4
  simp [go_sem]
  refine hK _ _ ?_; clear hK K
  first | refine W_rt (by kernel_rfl) (fun K hK => ?_) | refine W_text (by kernel_rfl) (fun K hK => ?_)
  simp [go_sem]
  refine hv_call (by simp [go_sem]) rfl Try.call97 (fun R hR => ?_)
  simp [go_sem]
  refine (hno hr).mono ?_
  rintro e w6 ⟨a, c, rfl, hr, hE6⟩
  refine ⟨_, rfl, hR _ _ ?_⟩
  clear hR R
  generalize val l = x at *
  have hE := hE4.next hE6
  replace hB4 := hB4.keep hE6
  simp [go_sem]
  refine hK _ _ ?_; clear hK K
  cases neg with
  | false =>
    have e0 := iv_n x
    first | refine W_rt (by kernel_rfl) (fun K hK => ?_) | refine W_text (by kernel_rfl) (fun K hK => ?_)
    simp [go_sem, lim_zero]
    refine hv_build #[.bool false, .slice a (lim x).length c] (by simp [go_sem, lim_zero]) rfl ty_stZ26 [(0, .bool false), (1, .slice a (lim x).length c)] (by simp [go_sem, lim_zero]) rfl ?_
    simp [go_sem, lim_zero]
    refine hv_store (b := b4) (off := 0) [.bool false, .slice a (lim x).length c] (by simp [go_sem, lim_zero]) rfl (by simp [go_sem, lim_zero]) (by simp [go_sem, Value.cells, lim_zero]) ty_size26 hB4 (by simp) (by simp [Value.oneCell']) (by decide) (fun w5 hS5 hB5 => ?_)
    simp [putC] at hB5
    replace hr := hr.sto hS5 (hr.nbox hB4)
    obtain ⟨k0, k1⟩ := ibx hB5
    simp [go_sem]
    refine hK _ _ ?_; clear hK K
    refine W_ret ?_
    repeat (first | refine thenG_ret ?_ | refine inBlock_ret ?_)
    refine ⟨by simp [resOk, go_sem, rowOk, k0, k1, add_mk], a, c, ?_, by rw [iv_abs]; exact hr, hE.nextS hS5 hle4⟩
    simp [go_sem, pack, resL, rowV, k0, k1, add_mk, iR, iv_abs, e0]
  | true =>
    by_cases h : x = 0
    · have e0 : decide (iv true x < 0) = false := by rw [h]; exact iv_z
      have hx1 : ¬ 0 < (lim x).length := by rw [h, lim_zero]; simp
      have hx1' : ¬ (0 : Int) < (lim x).length := by omega
      first | refine W_rt (by kernel_rfl) (fun K hK => ?_) | refine W_text (by kernel_rfl) (fun K hK => ?_)
      simp [go_sem, hx1, hx1']
      refine hv_build #[.bool false, .slice a (lim x).length c] (by simp [go_sem, hx1, hx1']) rfl ty_stZ26 [(0, .bool false), (1, .slice a (lim x).length c)] (by simp [go_sem, hx1, hx1']) rfl ?_
      simp [go_sem, hx1, hx1']
      refine hv_store (b := b4) (off := 0) [.bool false, .slice a (lim x).length c] (by simp [go_sem, hx1, hx1']) rfl (by simp [go_sem, hx1, hx1']) (by simp [go_sem, Value.cells, hx1, hx1']) ty_size26 hB4 (by simp) (by simp [Value.oneCell']) (by decide) (fun w5 hS5 hB5 => ?_)
      simp [putC] at hB5
      replace hr := hr.sto hS5 (hr.nbox hB4)
      obtain ⟨k0, k1⟩ := ibx hB5
      simp [go_sem]
      refine hK _ _ ?_; clear hK K
      refine W_ret ?_
      repeat (first | refine thenG_ret ?_ | refine inBlock_ret ?_)
      refine ⟨by simp [resOk, go_sem, rowOk, k0, k1, add_mk], a, c, ?_, by rw [iv_abs]; exact hr, hE.nextS hS5 hle4⟩
      simp [go_sem, pack, resL, rowV, k0, k1, add_mk, iR, iv_abs, e0]
    · have e0 := iv_p x h
      have hp := lim_ne h
      have hp' : (0 : Int) < (lim x).length := by omega
      first | refine W_rt (by kernel_rfl) (fun K hK => ?_) | refine W_text (by kernel_rfl) (fun K hK => ?_)
      simp [go_sem, hp, hp']
      refine hv_build #[.bool true, .slice a (lim x).length c] (by simp [go_sem, hp, hp']) rfl ty_stZ26 [(0, .bool true), (1, .slice a (lim x).length c)] (by simp [go_sem, hp, hp']) rfl ?_
      simp [go_sem, hp, hp']
      refine hv_store (b := b4) (off := 0) [.bool true, .slice a (lim x).length c] (by simp [go_sem, hp, hp']) rfl (by simp [go_sem, hp, hp']) (by simp [go_sem, Value.cells, hp, hp']) ty_size26 hB4 (by simp) (by simp [Value.oneCell']) (by decide) (fun w5 hS5 hB5 => ?_)
      simp [putC] at hB5
      replace hr := hr.sto hS5 (hr.nbox hB4)
      obtain ⟨k0, k1⟩ := ibx hB5
      simp [go_sem]
      refine hK _ _ ?_; clear hK K
      refine W_ret ?_
      repeat (first | refine thenG_ret ?_ | refine inBlock_ret ?_)
      refine ⟨by simp [resOk, go_sem, rowOk, k0, k1, add_mk], a, c, ?_, by rw [iv_abs]; exact hr, hE.nextS hS5 hle4⟩
      simp [go_sem, pack, resL, rowV, k0, k1, add_mk, iR, iv_abs, e0]
set_option maxHeartbeats 400000 in
theorem iNorm_any (neg : Bool) (l : List Nat) (a : Option Addr) (c : Nat) (w : World) (hr : RD w a c l) (hl : l.length ≤ lenB) :
    Calls Try.prog 100 #[.agg #[.bool neg, .slice a l.length c]] w (RetI w (iv (neg) (val l))) := by
  refine calls_of_W (args := [.agg #[.bool neg, .slice a l.length c]]) (rs := [.cell 2 26]) (n := 8) Try.func100 rfl rfl rfl (by kernel_rfl) ?_
  first | refine W_rt (by kernel_rfl) (fun K hK => ?_) | refine W_text (by kernel_rfl) (fun K hK => ?_)
  simp [go_sem]
  refine hv_box #[.bool neg, .slice a l.length c] (by simp [go_sem]) rfl (by simp [go_sem, Value.cells]) (fun w1 b1 hE1 hle1 hB1 => ?_)
  replace hr := hr.ext hE1
  simp [go_sem]
  refine hv_alloc (by simp [go_sem]) rfl ty_zeroC26 (fun w2 b2 hE2 hle2 hB2 => ?_)
  replace hr := hr.ext hE2
  have hE := hE1.next hE2
  have hle2' := Nat.le_trans hE1.size hle2
  replace hB1 := hB1.keep hE2
  obtain ⟨k0, k1⟩ := ibx hB1
  simp [go_sem]
  refine hK _ _ ?_; clear hK K
  first | refine W_rt (by kernel_rfl) (fun K hK => ?_) | refine W_text (by kernel_rfl) (fun K hK => ?_)
  simp [go_sem, k0, k1, add_mk]
  refine hv_call (by simp [go_sem, k0, k1, add_mk]) rfl Try.call131 (fun R hR => ?_)
  simp [go_sem, k0, k1, add_mk]
  refine (iof_any (neg) l a c _ hr hl).mono ?_
  rintro e w6 ⟨a6, c6, rfl, hr6, hE6⟩
  refine ⟨_, rfl, hR _ _ ?_⟩
  clear hR R
  replace hB2 := hB2.keep hE6
  replace hE := hE.next hE6
  simp [go_sem]
  generalize iv (neg) (val l) = z at *
  refine hv_store (b := b2) (off := 0) [.bool (decide (z < 0)), .slice a6 (lim z.natAbs).length c6] (by simp [go_sem, iR]) rfl (by simp [go_sem, iR]) (by simp [go_sem, Value.cells, iR]) ty_size26 hB2 (by simp) (by simp [Value.oneCell']) (by decide) (fun w7 hS7 hB7 => ?_)
  simp [putC] at hB7
  replace hr6 := hr6.sto hS7 (hr6.nbox hB2)
  obtain ⟨k0, k1⟩ := ibx hB7
  simp [go_sem]
  refine hK _ _ ?_; clear hK K
  refine W_ret ?_
  repeat (first | refine thenG_ret ?_ | refine inBlock_ret ?_)
  refine ⟨by simp [resOk, go_sem, rowOk, k0, k1, add_mk], a6, c6, ?_, hr6, hE.nextS hS7 hle2'⟩
  simp [go_sem, pack, resL, rowV, k0, k1, add_mk, iR]
set_option maxHeartbeats 400000 in
theorem iNormR_any (neg : Bool) (l : List Nat) (a : Option Addr) (c : Nat) (w : World) (hr : RD w a c l) (hl : l.length ≤ lenB) :
    Calls Try.prog 75 #[.agg #[.bool neg, .slice a l.length c]] w (RetI w (iv (neg) (val l))) := by
  refine calls_of_W (args := [.agg #[.bool neg, .slice a l.length c]]) (rs := [.cell 2 26]) (n := 8) Try.func75 rfl rfl rfl (by kernel_rfl) ?_
  first | refine W_rt (by kernel_rfl) (fun K hK => ?_) | refine W_text (by kernel_rfl) (fun K hK => ?_)
  simp [go_sem]
  refine hv_box #[.bool neg, .slice a l.length c] (by simp [go_sem]) rfl (by simp [go_sem, Value.cells]) (fun w1 b1 hE1 hle1 hB1 => ?_)
  replace hr := hr.ext hE1
  simp [go_sem]
  refine hv_alloc (by simp [go_sem]) rfl ty_zeroC26 (fun w2 b2 hE2 hle2 hB2 => ?_)
  replace hr := hr.ext hE2
  have hE := hE1.next hE2
  have hle2' := Nat.le_trans hE1.size hle2
  replace hB1 := hB1.keep hE2
  obtain ⟨k0, k1⟩ := ibx hB1
  simp [go_sem]
  refine hK _ _ ?_; clear hK K
  first | refine W_rt (by kernel_rfl) (fun K hK => ?_) | refine W_text (by kernel_rfl) (fun K hK => ?_)
  simp [go_sem, k0, k1, add_mk]
  refine hv_call (by simp [go_sem, k0, k1, add_mk]) rfl Try.call85 (fun R hR => ?_)
  simp [go_sem, k0, k1, add_mk]
  refine (iofR_any (neg) l a c _ hr hl).mono ?_
  rintro e w6 ⟨a6, c6, rfl, hr6, hE6⟩
  refine ⟨_, rfl, hR _ _ ?_⟩
  clear hR R
  replace hB2 := hB2.keep hE6
  replace hE := hE.next hE6
  simp [go_sem]
  generalize iv (neg) (val l) = z at *
  refine hv_store (b := b2) (off := 0) [.bool (decide (z < 0)), .slice a6 (lim z.natAbs).length c6] (by simp [go_sem, iR]) rfl (by simp [go_sem, iR]) (by simp [go_sem, Value.cells, iR]) ty_size26 hB2 (by simp) (by simp [Value.oneCell']) (by decide) (fun w7 hS7 hB7 => ?_)
  simp [putC] at hB7
  replace hr6 := hr6.sto hS7 (hr6.nbox hB2)
  obtain ⟨k0, k1⟩ := ibx hB7
  simp [go_sem]
  refine hK _ _ ?_; clear hK K
  refine W_ret ?_
  repeat (first | refine thenG_ret ?_ | refine inBlock_ret ?_)
  refine ⟨by simp [resOk, go_sem, rowOk, k0, k1, add_mk], a6, c6, ?_, hr6, hE.nextS hS7 hle2'⟩
  simp [go_sem, pack, resL, rowV, k0, k1, add_mk, iR]
set_option maxHeartbeats 400000 in
theorem iNegR_any (neg : Bool) (l : List Nat) (a : Option Addr) (c : Nat) (w : World) (hr : RD w a c l) (hl : l.length ≤ lenB) :
    Calls Try.prog 84 #[.agg #[.bool neg, .slice a l.length c]] w (RetI w (iv (!neg) (val l))) := by
  refine calls_of_W (args := [.agg #[.bool neg, .slice a l.length c]]) (rs := [.cell 2 26]) (n := 9) Try.func84 rfl rfl rfl (by kernel_rfl) ?_
  first | refine W_rt (by kernel_rfl) (fun K hK => ?_) | refine W_text (by kernel_rfl) (fun K hK => ?_)
  simp [go_sem]
  refine hv_box #[.bool neg, .slice a l.length c] (by simp [go_sem]) rfl (by simp [go_sem, Value.cells]) (fun w1 b1 hE1 hle1 hB1 => ?_)
  replace hr := hr.ext hE1
  simp [go_sem]
  refine hv_alloc (by simp [go_sem]) rfl ty_zeroC26 (fun w2 b2 hE2 hle2 hB2 => ?_)
  replace hr := hr.ext hE2
  have hE := hE1.next hE2
  have hle2' := Nat.le_trans hE1.size hle2
  replace hB1 := hB1.keep hE2
  obtain ⟨k0, k1⟩ := ibx hB1
  simp [go_sem]
  refine hK _ _ ?_; clear hK K
  first | refine W_rt (by kernel_rfl) (fun K hK => ?_) | refine W_text (by kernel_rfl) (fun K hK => ?_)
  simp [go_sem, k0, k1, add_mk]
  refine hv_call (by simp [go_sem, k0, k1, add_mk]) rfl Try.call85 (fun R hR => ?_)
  simp [go_sem, k0, k1, add_mk]
  refine (iofR_any (!neg) l a c _ hr hl).mono ?_
  rintro e w6 ⟨a6, c6, rfl, hr6, hE6⟩
  refine ⟨_, rfl, hR _ _ ?_⟩
  clear hR R
  replace hB2 := hB2.keep hE6
  replace hE := hE.next hE6
  simp [go_sem]
  generalize iv (!neg) (val l) = z at *
  refine hv_store (b := b2) (off := 0) [.bool (decide (z < 0)), .slice a6 (lim z.natAbs).length c6] (by simp [go_sem, iR]) rfl (by simp [go_sem, iR]) (by simp [go_sem, Value.cells, iR]) ty_size26 hB2 (by simp) (by simp [Value.oneCell']) (by decide) (fun w7 hS7 hB7 => ?_)
  simp [putC] at hB7
  replace hr6 := hr6.sto hS7 (hr6.nbox hB2)
  obtain ⟨k0, k1⟩ := ibx hB7
  simp [go_sem]
  refine hK _ _ ?_; clear hK K
  refine W_ret ?_
  repeat (first | refine thenG_ret ?_ | refine inBlock_ret ?_)
  refine ⟨by simp [resOk, go_sem, rowOk, k0, k1, add_mk], a6, c6, ?_, hr6, hE.nextS hS7 hle2'⟩
  simp [go_sem, pack, resL, rowV, k0, k1, add_mk, iR]
end Go.Proofs.Ytkampmdekonjmaa
