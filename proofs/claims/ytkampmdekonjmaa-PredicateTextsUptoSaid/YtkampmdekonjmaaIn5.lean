/- Integers: Of. -/
import Derived.Test.YtkampmdekonjmaaIn4
namespace Go.Proofs.Ytkampmdekonjmaa
open Go.RowKit Go.V
set_option linter.unusedSimpArgs false
set_option linter.unusedVariables false
set_option maxRecDepth 20000

set_option maxHeartbeats 1000000 in
theorem iOf_any (n : Int) (w : World) (h1 : -9223372036854775808 ≤ n) (h2 : n < 9223372036854775808) :
    Calls Try.prog 90 #[.int .i64 n] w (RetI w n) := by
  obtain ⟨Z, hZ⟩ : ∃ Z, Z = n := ⟨_, rfl⟩
  rw [← hZ, hZ]
  have hR0 : RetI w n = RetI w Z := by rw [hZ]
  rw [hR0]; clear hR0
  refine calls_of_W (args := [.int .i64 n]) (rs := [.cell 2 26]) (n := 16) Try.func90 rfl rfl rfl (by kernel_rfl) ?_
  first | refine W_rt (by kernel_rfl) (fun K hK => ?_) | refine W_text (by kernel_rfl) (fun K hK => ?_)
  simp [go_sem]
  refine hv_alloc (by simp [go_sem]) rfl ty_zeroC26 (fun w2 b2 hE2 hle2 hB2 => ?_)
  have hE := hE2
  simp [go_sem]
  refine hK _ _ ?_; clear hK K
  refine W_seq (fun K1 hK1 => ?_)
  first | refine W_rt (by kernel_rfl) (fun K hK => ?_) | refine W_text (by kernel_rfl) (fun K hK => ?_)
  simp [go_sem]
  refine hK _ _ ?_; clear hK K
  by_cases hn : n < 0
  · refine W_if (by simp [go_sem, hn]; rfl) rfl ?_
    obtain ⟨x, hx⟩ : ∃ x : Nat, n + 1 = -(x : Int) := ⟨(-(n + 1)).toNat, by omega⟩
    have f1 : IntKind.i64.wrap (n + 1) = -(x : Int) := by rw [IntWalk.i64_in _ (by omega)]; omega
    have f2 : IntKind.i64.wrap (x : Int) = (x : Int) := by rw [IntWalk.i64_in _ (by omega)]
    have f3 : IntKind.u64.wrap (x : Int) = (x : Int) := by rw [IntWalk.u64_in _ (by omega)]
    obtain ⟨y, hy⟩ : ∃ y : Nat, y = x + 1 := ⟨_, rfl⟩
    have f4 : IntKind.u64.wrap ((x : Int) + 1) = (y : Int) := by rw [IntWalk.u64_in _ (by omega)]; omega
    first | refine W_rt (by kernel_rfl) (fun K hK => ?_) | refine W_text (by kernel_rfl) (fun K hK => ?_)
    simp [go_sem, f1, f2, f3, f4]
    refine hv_call (by simp [go_sem, f1, f2, f3, f4]) rfl Try.call95 (fun R hR => ?_)
    simp [go_sem, f1, f2, f3, f4]
    refine (of_any y _ (by omega)).mono ?_
    rintro e w5 ⟨a5, c5, rfl, hr5, hE5⟩
    refine ⟨_, rfl, hR _ _ ?_⟩
    clear hR R
    replace hB2 := hB2.keep hE5
    replace hE := hE.next hE5
    have hma := made_any true _ _ _ _ hr5
    have hyZ : iv true y = Z := by unfold iv; simp; omega
    rw [hyZ] at hma
    simp [go_sem]
    refine hv_call (by simp [go_sem]) rfl Try.call121 (fun R hR => ?_)
    simp [go_sem]
    refine (hma).mono ?_
    rintro e w6 ⟨a6, c6, rfl, hr6, hE6⟩
    refine ⟨_, rfl, hR _ _ ?_⟩
    clear hR R
    replace hB2 := hB2.keep hE6
    replace hE := hE.next hE6
    simp [go_sem]
    refine hv_store (b := b2) (off := 0) [.bool (decide (Z < 0)), .slice a6 (lim Z.natAbs).length c6] (by simp [go_sem, iR]) rfl (by simp [go_sem, iR]) (by simp [go_sem, Value.cells, iR]) ty_size26 hB2 (by simp) (by simp [Value.oneCell']) (by decide) (fun w9 hS9 hB9 => ?_)
    simp [putC] at hB9
    replace hr6 := hr6.sto hS9 (hr6.nbox hB2)
    obtain ⟨k0, k1⟩ := ibx hB9
    simp [go_sem]
    refine hK _ _ ?_; clear hK K
    refine W_ret ?_
    repeat (first | refine thenG_ret ?_ | refine inBlock_ret ?_)
    refine ⟨by simp [resOk, go_sem, rowOk, k0, k1, add_mk], a6, c6, ?_, hr6, hE.nextS hS9 hle2⟩
    simp [go_sem, pack, resL, rowV, k0, k1, add_mk, iR]
  · refine W_if (by simp [go_sem, hn]; rfl) rfl ?_
    refine W_skip ?_
    refine hK1 _ _ ?_; clear hK1 K1
    obtain ⟨y, hy⟩ : ∃ y : Nat, n = (y : Int) := ⟨n.toNat, by omega⟩
    have f3 : IntKind.u64.wrap n = (y : Int) := by rw [IntWalk.u64_in _ (by omega)]; omega
    first | refine W_rt (by kernel_rfl) (fun K hK => ?_) | refine W_text (by kernel_rfl) (fun K hK => ?_)
    simp [go_sem, f3]
    refine hv_call (by simp [go_sem, f3]) rfl Try.call95 (fun R hR => ?_)
    simp [go_sem, f3]
    refine (of_any y _ (by omega)).mono ?_
    rintro e w5 ⟨a5, c5, rfl, hr5, hE5⟩
    refine ⟨_, rfl, hR _ _ ?_⟩
    clear hR R
    replace hB2 := hB2.keep hE5
    replace hE := hE.next hE5
    have hma := made_any false _ _ _ _ hr5
    have hyZ : iv false y = Z := by unfold iv; simp; omega
    rw [hyZ] at hma
    simp [go_sem]
    refine hv_call (by simp [go_sem]) rfl Try.call121 (fun R hR => ?_)
    simp [go_sem]
    refine (hma).mono ?_
    rintro e w6 ⟨a6, c6, rfl, hr6, hE6⟩
    refine ⟨_, rfl, hR _ _ ?_⟩
    clear hR R
    replace hB2 := hB2.keep hE6
    replace hE := hE.next hE6
    simp [go_sem]
    refine hv_store (b := b2) (off := 0) [.bool (decide (Z < 0)), .slice a6 (lim Z.natAbs).length c6] (by simp [go_sem, iR]) rfl (by simp [go_sem, iR]) (by simp [go_sem, Value.cells, iR]) ty_size26 hB2 (by simp) (by simp [Value.oneCell']) (by decide) (fun w9 hS9 hB9 => ?_)
    simp [putC] at hB9
    replace hr6 := hr6.sto hS9 (hr6.nbox hB2)
    obtain ⟨k0, k1⟩ := ibx hB9
    simp [go_sem]
    refine hK _ _ ?_; clear hK K
    refine W_ret ?_
    repeat (first | refine thenG_ret ?_ | refine inBlock_ret ?_)
    refine ⟨by simp [resOk, go_sem, rowOk, k0, k1, add_mk], a6, c6, ?_, hr6, hE.nextS hS9 hle2⟩
    simp [go_sem, pack, resL, rowV, k0, k1, add_mk, iR]
set_option maxHeartbeats 1000000 in
theorem iOfR_any (n : Int) (w : World) (h1 : -9223372036854775808 ≤ n) (h2 : n < 9223372036854775808) :
    Calls Try.prog 49 #[.int .i64 n] w (RetI w n) := by
  obtain ⟨Z, hZ⟩ : ∃ Z, Z = n := ⟨_, rfl⟩
  have hR0 : RetI w n = RetI w Z := by rw [hZ]
  rw [hR0]; clear hR0
  refine calls_of_W (args := [.int .i64 n]) (rs := [.cell 2 26]) (n := 17) Try.func49 rfl rfl rfl (by kernel_rfl) ?_
  first | refine W_rt (by kernel_rfl) (fun K hK => ?_) | refine W_text (by kernel_rfl) (fun K hK => ?_)
  simp [go_sem]
  refine hv_alloc (by simp [go_sem]) rfl ty_zeroC26 (fun w2 b2 hE2 hle2 hB2 => ?_)
  have hE := hE2
  simp [go_sem]
  refine hK _ _ ?_; clear hK K
  refine W_seq (fun K1 hK1 => ?_)
  first | refine W_rt (by kernel_rfl) (fun K hK => ?_) | refine W_text (by kernel_rfl) (fun K hK => ?_)
  simp [go_sem]
  refine hK _ _ ?_; clear hK K
  by_cases hn : n < 0
  · refine W_if (by simp [go_sem, hn]; rfl) rfl ?_
    obtain ⟨x, hx⟩ : ∃ x : Nat, n + 1 = -(x : Int) := ⟨(-(n + 1)).toNat, by omega⟩
    have f1 : IntKind.i64.wrap (n + 1) = -(x : Int) := by rw [IntWalk.i64_in _ (by omega)]; omega
    have f2 : IntKind.i64.wrap (x : Int) = (x : Int) := by rw [IntWalk.i64_in _ (by omega)]
    have f3 : IntKind.u64.wrap (x : Int) = (x : Int) := by rw [IntWalk.u64_in _ (by omega)]
    have hlx : (lim x).length ≤ 4 := lim_len 4 x (by simp; omega)
    have hl1 : (lim 1).length ≤ 4 := lim_len 4 1 (by simp)
    first | refine W_rt (by kernel_rfl) (fun K hK => ?_) | refine W_text (by kernel_rfl) (fun K hK => ?_)
    simp [go_sem, f1, f2, f3]
    refine hv_call (by simp [go_sem, f1, f2, f3]) rfl Try.call65 (fun R hR => ?_)
    simp [go_sem, f1, f2, f3]
    refine (ofR_any x _ (by omega)).mono ?_
    rintro e w3 ⟨a3, c3, rfl, hr3, hE3⟩
    refine ⟨_, rfl, hR _ _ ?_⟩
    clear hR R
    replace hB2 := hB2.keep hE3
    replace hE := hE.next hE3
    simp [go_sem]
    refine hv_call (by simp [go_sem]) rfl Try.call65 (fun R hR => ?_)
    simp [go_sem]
    refine (ofR_any 1 _ (by omega)).mono ?_
    rintro e w4 ⟨a4, c4, rfl, hr4, hE4⟩
    refine ⟨_, rfl, hR _ _ ?_⟩
    clear hR R
    replace hB2 := hB2.keep hE4
    replace hr3 := hr3.keep hE4
    replace hE := hE.next hE4
    simp [go_sem]
    refine hv_call (by simp [go_sem]) rfl Try.call86 (fun R hR => ?_)
    simp [go_sem]
    refine (addR_any (lim x) (lim 1) a3 a4 c3 c4 _ hr3 hr4 (by unfold lenS; omega) (by unfold lenS; omega)).mono ?_
    rintro e w5 ⟨a5, c5, rfl, hr5, hE5⟩
    refine ⟨_, rfl, hR _ _ ?_⟩
    clear hR R
    replace hB2 := hB2.keep hE5
    replace hE := hE.next hE5
    rw [val_lim, val_lim] at hr5 ⊢
    have hl5 : (lim (x + 1)).length ≤ 5 := lim_add_len hlx hl1
    have hma := iofR_any true _ _ _ _ hr5 (by unfold lenB; omega)
    have hyZ : iv true (x + 1) = Z := by unfold iv; simp; omega
    rw [val_lim, hyZ] at hma
    simp [go_sem]
    refine hv_call (by simp [go_sem]) rfl Try.call85 (fun R hR => ?_)
    simp [go_sem]
    refine (hma).mono ?_
    rintro e w6 ⟨a6, c6, rfl, hr6, hE6⟩
    refine ⟨_, rfl, hR _ _ ?_⟩
    clear hR R
    replace hB2 := hB2.keep hE6
    replace hE := hE.next hE6
    simp [go_sem]
    refine hv_store (b := b2) (off := 0) [.bool (decide (Z < 0)), .slice a6 (lim Z.natAbs).length c6] (by simp [go_sem, iR]) rfl (by simp [go_sem, iR]) (by simp [go_sem, Value.cells, iR]) ty_size26 hB2 (by simp) (by simp [Value.oneCell']) (by decide) (fun w9 hS9 hB9 => ?_)
    simp [putC] at hB9
    replace hr6 := hr6.sto hS9 (hr6.nbox hB2)
    obtain ⟨k0, k1⟩ := ibx hB9
    simp [go_sem]
    refine hK _ _ ?_; clear hK K
    refine W_ret ?_
    repeat (first | refine thenG_ret ?_ | refine inBlock_ret ?_)
    refine ⟨by simp [resOk, go_sem, rowOk, k0, k1, add_mk], a6, c6, ?_, hr6, hE.nextS hS9 hle2⟩
    simp [go_sem, pack, resL, rowV, k0, k1, add_mk, iR]
  · refine W_if (by simp [go_sem, hn]; rfl) rfl ?_
    refine W_skip ?_
    refine hK1 _ _ ?_; clear hK1 K1
    obtain ⟨y, hy⟩ : ∃ y : Nat, n = (y : Int) := ⟨n.toNat, by omega⟩
    have f3 : IntKind.u64.wrap n = (y : Int) := by rw [IntWalk.u64_in _ (by omega)]; omega
    have hly : (lim y).length ≤ 4 := lim_len 4 y (by simp; omega)
    first | refine W_rt (by kernel_rfl) (fun K hK => ?_) | refine W_text (by kernel_rfl) (fun K hK => ?_)
    simp [go_sem, f3]
    refine hv_call (by simp [go_sem, f3]) rfl Try.call65 (fun R hR => ?_)
    simp [go_sem, f3]
    refine (ofR_any y _ (by omega)).mono ?_
    rintro e w5 ⟨a5, c5, rfl, hr5, hE5⟩
    refine ⟨_, rfl, hR _ _ ?_⟩
    clear hR R
    replace hB2 := hB2.keep hE5
    replace hE := hE.next hE5
    have hma := iofR_any false _ _ _ _ hr5 (by unfold lenB; omega)
    have hyZ : iv false y = Z := by unfold iv; simp; omega
    rw [val_lim, hyZ] at hma
    simp [go_sem]
    refine hv_call (by simp [go_sem]) rfl Try.call85 (fun R hR => ?_)
    simp [go_sem]
    refine (hma).mono ?_
    rintro e w6 ⟨a6, c6, rfl, hr6, hE6⟩
    refine ⟨_, rfl, hR _ _ ?_⟩
    clear hR R
    replace hB2 := hB2.keep hE6
    replace hE := hE.next hE6
    simp [go_sem]
    refine hv_store (b := b2) (off := 0) [.bool (decide (Z < 0)), .slice a6 (lim Z.natAbs).length c6] (by simp [go_sem, iR]) rfl (by simp [go_sem, iR]) (by simp [go_sem, Value.cells, iR]) ty_size26 hB2 (by simp) (by simp [Value.oneCell']) (by decide) (fun w9 hS9 hB9 => ?_)
    simp [putC] at hB9
    replace hr6 := hr6.sto hS9 (hr6.nbox hB2)
    obtain ⟨k0, k1⟩ := ibx hB9
    simp [go_sem]
    refine hK _ _ ?_; clear hK K
    refine W_ret ?_
    repeat (first | refine thenG_ret ?_ | refine inBlock_ret ?_)
    refine ⟨by simp [resOk, go_sem, rowOk, k0, k1, add_mk], a6, c6, ?_, hr6, hE.nextS hS9 hle2⟩
    simp [go_sem, pack, resL, rowV, k0, k1, add_mk, iR]
end Go.Proofs.Ytkampmdekonjmaa
