/- Integers: Add, Sub, Mul. -/
import Derived.Test.YtkampmdekonjmaaIn2
namespace Go.Proofs.Ytkampmdekonjmaa
open Go.RowKit Go.V
set_option linter.unusedSimpArgs false
set_option linter.unusedVariables false
set_option maxRecDepth 20000

theorem iv_mul (neg peg : Bool) (x y : Nat) : iv (!(neg == peg)) (x * y) = iv neg x * iv peg y := by
  unfold iv
  cases neg <;> cases peg <;> simp [Int.natCast_mul, Int.neg_mul, Int.mul_neg]
theorem iv_add (neg : Bool) (x y : Nat) : iv neg (x + y) = iv neg x + iv neg y := by
  unfold iv
  cases neg <;> simp <;> omega
theorem iv_sub1 {neg peg : Bool} {x y : Nat} (h : neg ≠ peg) (hx : y ≤ x) : iv neg (x - y) = iv neg x + iv peg y := by
  unfold iv
  cases neg <;> cases peg <;> simp at * <;> omega
theorem iv_sub2 {neg peg : Bool} {x y : Nat} (h : neg ≠ peg) (hx : x < y) : iv peg (y - x) = iv neg x + iv peg y := by
  unfold iv
  cases neg <;> cases peg <;> simp at * <;> omega
theorem iv_not (neg : Bool) (x : Nat) : iv (!neg) x = - iv neg x := by
  unfold iv
  cases neg <;> simp
set_option maxHeartbeats 1000000 in
theorem iMul_any (neg peg : Bool) (l m : List Nat) (a b : Option Addr) (c d : Nat) (w : World) (hr : RD w a c l) (hs : RD w b d m) (hl : l.length ≤ 1000000000) (hm : m.length ≤ 1000000000) :
    Calls Try.prog 88 #[.agg #[.bool neg, .slice a l.length c], .agg #[.bool peg, .slice b m.length d]] w (RetI w (iv neg (val l) * iv peg (val m))) := by
  have hT : isBoolT Try.prog 4 = true := by kernel_rfl
  obtain ⟨Z, hZ⟩ : ∃ Z, Z = iv neg (val l) * iv peg (val m) := ⟨_, rfl⟩
  rw [← hZ]
  rw [← iv_mul] at hZ
  refine calls_of_W (args := [.agg #[.bool neg, .slice a l.length c], .agg #[.bool peg, .slice b m.length d]]) (rs := [.cell 4 26]) (n := 16) Try.func88 rfl rfl rfl (by kernel_rfl) ?_
  first | refine W_rt (by kernel_rfl) (fun K hK => ?_) | refine W_text (by kernel_rfl) (fun K hK => ?_)
  simp [go_sem]
  refine hv_box #[.bool neg, .slice a l.length c] (by simp [go_sem]) rfl (by simp [go_sem, Value.cells]) (fun w1 b1 hE1 hle1 hB1 => ?_)
  replace hr := hr.keep hE1
  replace hs := hs.keep hE1
  simp [go_sem]
  refine hv_box #[.bool peg, .slice b m.length d] (by simp [go_sem]) rfl (by simp [go_sem, Value.cells]) (fun w2 b2 hE2 hle2 hB2 => ?_)
  replace hr := hr.keep hE2
  replace hs := hs.keep hE2
  replace hB1 := hB1.keep hE2
  simp [go_sem]
  refine hv_alloc (by simp [go_sem]) rfl ty_zeroC26 (fun w4 b4 hE4 hle4 hB4 => ?_)
  replace hr := hr.keep hE4
  replace hs := hs.keep hE4
  replace hB1 := hB1.keep hE4
  replace hB2 := hB2.keep hE4
  have hE := (hE1.next hE2).next hE4
  have hle4' : w.heap.size ≤ b4 := Nat.le_trans hE1.size (Nat.le_trans hE2.size hle4)
  obtain ⟨k0, k1⟩ := ibx hB1
  obtain ⟨k2, k3⟩ := ibx hB2
  simp [go_sem]
  refine hK _ _ ?_; clear hK K
  have hD : Below w4.heap.size w4 w4.drew := Below.drew1 _
  replace hr := hr.keep hD
  replace hs := hs.keep hD
  replace hB1 := hB1.keep hD
  replace hB2 := hB2.keep hD
  replace hB4 := hB4.keep hD
  replace hE := hE.next hD
  obtain ⟨k0, k1⟩ := ibx hB1
  obtain ⟨k2, k3⟩ := ibx hB2
  first | refine W_rd [(0, 0), (1, 0), (2, 0), (3, 0), (4, 0), (5, 0), (6, 0), (7, 0), (8, 0), (9, 1), (10, 1), (11, 2)] (by kernel_rfl) (by kernel_rfl) (fun K hK => ?_) | refine W_draw [(0, 0), (1, 0), (2, 0), (3, 0), (4, 0), (5, 0), (6, 0), (7, 0), (8, 0), (9, 1), (10, 1), (11, 2)] (by kernel_rfl) (by kernel_rfl) (fun K hK => ?_)
  simp [go_sem, k0, k1, k2, k3, add_mk, hT]
  refine hv_call (by simp [go_sem, k0, k1, k2, k3, add_mk, hT]) rfl Try.call89 (fun R hR => ?_)
  simp [go_sem, k0, k1, k2, k3, add_mk, hT]
  refine (mul_any l m a b c d _ hr hs (by unfold lenS; omega) (by unfold lenS; omega)).mono ?_
  rintro e w5 ⟨a5, c5, rfl, hr5, hE5⟩
  refine ⟨_, rfl, hE5, hR _ _ ?_⟩
  clear hR R
  replace hB4 := hB4.keep hE5
  replace hE := hE.next hE5
  have hma := made_any (!(neg == peg)) _ _ _ _ hr5
  rw [← hZ] at hma
  simp [go_sem, k0, k2, hT]
  refine hv_call (by simp [go_sem, k0, k2, hT]) rfl Try.call121 (fun R hR => ?_)
  simp [go_sem, k0, k2, hT]
  refine (hma).mono ?_
  rintro e w6 ⟨a6, c6, rfl, hr6, hE6⟩
  refine ⟨_, rfl, hE6, hR _ _ ?_⟩
  clear hR R
  replace hB4 := hB4.keep hE6
  replace hE := hE.next hE6
  simp [go_sem]
  refine hv_store (b := b4) (off := 0) [.bool (decide (Z < 0)), .slice a6 (lim Z.natAbs).length c6] (by simp [go_sem, iR]) rfl (by simp [go_sem, iR]) (by simp [go_sem, Value.cells, iR]) ty_size26 hB4 (by simp) (by simp [Value.oneCell']) (by decide) (fun w9 hS9 hB9 => ?_)
  simp [putC] at hB9
  replace hr6 := hr6.sto hS9 (hr6.nbox hB4)
  obtain ⟨k0, k1⟩ := ibx hB9
  simp [go_sem]
  refine hK _ _ ?_; clear hK K
  refine W_ret ?_
  repeat (first | refine thenG_ret ?_ | refine inBlock_ret ?_)
  refine ⟨by simp [resOk, go_sem, rowOk, k0, k1, add_mk], a6, c6, ?_, hr6, hE.nextS hS9 hle4'⟩
  simp [go_sem, pack, resL, rowV, k0, k1, add_mk, iR]
set_option maxHeartbeats 1000000 in
theorem iMulR_any (neg peg : Bool) (l m : List Nat) (a b : Option Addr) (c d : Nat) (w : World) (hr : RD w a c l) (hs : RD w b d m) (hl : l.length ≤ 1000000000) (hm : m.length ≤ 1000000000) :
    Calls Try.prog 108 #[.agg #[.bool neg, .slice a l.length c], .agg #[.bool peg, .slice b m.length d]] w (RetI w (iv neg (val l) * iv peg (val m))) := by
  have hT : isBoolT Try.prog 4 = true := by kernel_rfl
  obtain ⟨Z, hZ⟩ : ∃ Z, Z = iv neg (val l) * iv peg (val m) := ⟨_, rfl⟩
  rw [← hZ]
  rw [← iv_mul] at hZ
  refine calls_of_W (args := [.agg #[.bool neg, .slice a l.length c], .agg #[.bool peg, .slice b m.length d]]) (rs := [.cell 4 26]) (n := 16) Try.func108 rfl rfl rfl (by kernel_rfl) ?_
  first | refine W_rt (by kernel_rfl) (fun K hK => ?_) | refine W_text (by kernel_rfl) (fun K hK => ?_)
  simp [go_sem]
  refine hv_box #[.bool neg, .slice a l.length c] (by simp [go_sem]) rfl (by simp [go_sem, Value.cells]) (fun w1 b1 hE1 hle1 hB1 => ?_)
  replace hr := hr.keep hE1
  replace hs := hs.keep hE1
  simp [go_sem]
  refine hv_box #[.bool peg, .slice b m.length d] (by simp [go_sem]) rfl (by simp [go_sem, Value.cells]) (fun w2 b2 hE2 hle2 hB2 => ?_)
  replace hr := hr.keep hE2
  replace hs := hs.keep hE2
  replace hB1 := hB1.keep hE2
  simp [go_sem]
  refine hv_alloc (by simp [go_sem]) rfl ty_zeroC26 (fun w4 b4 hE4 hle4 hB4 => ?_)
  replace hr := hr.keep hE4
  replace hs := hs.keep hE4
  replace hB1 := hB1.keep hE4
  replace hB2 := hB2.keep hE4
  have hE := (hE1.next hE2).next hE4
  have hle4' : w.heap.size ≤ b4 := Nat.le_trans hE1.size (Nat.le_trans hE2.size hle4)
  obtain ⟨k0, k1⟩ := ibx hB1
  obtain ⟨k2, k3⟩ := ibx hB2
  simp [go_sem]
  refine hK _ _ ?_; clear hK K
  have hD : Below w4.heap.size w4 w4.drew := Below.drew1 _
  replace hr := hr.keep hD
  replace hs := hs.keep hD
  replace hB1 := hB1.keep hD
  replace hB2 := hB2.keep hD
  replace hB4 := hB4.keep hD
  replace hE := hE.next hD
  obtain ⟨k0, k1⟩ := ibx hB1
  obtain ⟨k2, k3⟩ := ibx hB2
  first | refine W_rd [(0, 0), (1, 0), (2, 0), (3, 0), (4, 0), (5, 0), (6, 0), (7, 0), (8, 0), (9, 1), (10, 1), (11, 2)] (by kernel_rfl) (by kernel_rfl) (fun K hK => ?_) | refine W_draw [(0, 0), (1, 0), (2, 0), (3, 0), (4, 0), (5, 0), (6, 0), (7, 0), (8, 0), (9, 1), (10, 1), (11, 2)] (by kernel_rfl) (by kernel_rfl) (fun K hK => ?_)
  simp [go_sem, k0, k1, k2, k3, add_mk, hT]
  refine hv_call (by simp [go_sem, k0, k1, k2, k3, add_mk, hT]) rfl Try.call110 (fun R hR => ?_)
  simp [go_sem, k0, k1, k2, k3, add_mk, hT]
  refine (mulR_any l m a b c d _ hr hs (by unfold lenS; omega) (by unfold lenS; omega)).mono ?_
  rintro e w5 ⟨a5, c5, rfl, hr5, hE5⟩
  refine ⟨_, rfl, hE5, hR _ _ ?_⟩
  clear hR R
  replace hB4 := hB4.keep hE5
  replace hE := hE.next hE5
  have hml : (lim (val l * val m)).length ≤ 1000000000 + 1000000000 := lim_mul_len (by rw [lim_val l hr.ok]; exact Nat.le_trans (nrm_len l) hl) (by rw [lim_val m hs.ok]; exact Nat.le_trans (nrm_len m) hm)
  have hma := iofR_any (!(neg == peg)) _ _ _ _ hr5 (by unfold lenB; omega)
  rw [val_lim] at hma
  rw [← hZ] at hma
  simp [go_sem, k0, k2, hT]
  refine hv_call (by simp [go_sem, k0, k2, hT]) rfl Try.call85 (fun R hR => ?_)
  simp [go_sem, k0, k2, hT]
  refine (hma).mono ?_
  rintro e w6 ⟨a6, c6, rfl, hr6, hE6⟩
  refine ⟨_, rfl, hE6, hR _ _ ?_⟩
  clear hR R
  replace hB4 := hB4.keep hE6
  replace hE := hE.next hE6
  simp [go_sem]
  refine hv_store (b := b4) (off := 0) [.bool (decide (Z < 0)), .slice a6 (lim Z.natAbs).length c6] (by simp [go_sem, iR]) rfl (by simp [go_sem, iR]) (by simp [go_sem, Value.cells, iR]) ty_size26 hB4 (by simp) (by simp [Value.oneCell']) (by decide) (fun w9 hS9 hB9 => ?_)
  simp [putC] at hB9
  replace hr6 := hr6.sto hS9 (hr6.nbox hB4)
  obtain ⟨k0, k1⟩ := ibx hB9
  simp [go_sem]
  refine hK _ _ ?_; clear hK K
  refine W_ret ?_
  repeat (first | refine thenG_ret ?_ | refine inBlock_ret ?_)
  refine ⟨by simp [resOk, go_sem, rowOk, k0, k1, add_mk], a6, c6, ?_, hr6, hE.nextS hS9 hle4'⟩
  simp [go_sem, pack, resL, rowV, k0, k1, add_mk, iR]
end Go.Proofs.Ytkampmdekonjmaa
