/- IntegerOrder. -/
import Derived.Test.YtocdcpkdcljabaaInB
namespace Go.Proofs.Ytocdcpkdcljabaa
open Go.RowKit Go.V Go.ChangeMaps
set_option linter.unusedSimpArgs false
set_option linter.unusedVariables false
theorem signZ {z : Int} {a : Option Addr} {c : Nat} {w : World} (hr : RD w a c (lim z.natAbs)) (hl : (lim z.natAbs).length ≤ 1000) :
    Calls Try.prog 17 #[iR z a c] w fun e w' => e = .returned (.int .i64 (sg z)) ∧ Below w.heap.size w w' := by
  have := iSign_any (decide (z < 0)) (lim z.natAbs) a c w hr (by unfold lenB; omega)
  rw [val_lim, iv_self] at this
  exact this
theorem cmpZ {z y : Int} {a b : Option Addr} {c d : Nat} {w : World} (hr : RD w a c (lim z.natAbs)) (hs : RD w b d (lim y.natAbs)) (hl : (lim z.natAbs).length ≤ 1000) (hm : (lim y.natAbs).length ≤ 1000) :
    Calls Try.prog 19 #[iR z a c, iR y b d] w fun e w' => e = .returned (.int .i64 (icmp z y)) ∧ Below w.heap.size w w' := by
  have := iCmp_any (decide (z < 0)) (decide (y < 0)) (lim z.natAbs) (lim y.natAbs) a b c d w hr hs (by unfold lenB; omega) (by unfold lenB; omega)
  rw [val_lim, val_lim, iv_self, iv_self] at this
  exact this
theorem sg_abs (z : Int) : -1 ≤ sg z ∧ sg z ≤ 1 := by unfold sg; repeat (first | split | omega)
theorem icmp_sg (z y : Int) : icmp z y = sg (z - y) := by unfold icmp sg; repeat (first | omega | split)
theorem sg_minus (z : Int) : sg (-z) = - sg z := by unfold sg; repeat (first | omega | split)
theorem sg_mul (z y : Int) : sg (z * y) = sg z * sg y := by
  rcases Int.lt_trichotomy z 0 with h | h | h <;> rcases Int.lt_trichotomy y 0 with g | g | g
  · rw [sg_neg h, sg_neg g, sg_pos (Int.mul_pos_of_neg_of_neg h g)]; rfl
  · rw [g, Int.mul_zero, sg_zero rfl, Int.mul_zero]
  · rw [sg_neg h, sg_pos g, sg_neg (Int.mul_neg_of_neg_of_pos h g)]; rfl
  · rw [h, Int.zero_mul, sg_zero rfl, Int.zero_mul]
  · rw [h, Int.zero_mul, sg_zero rfl, Int.zero_mul]
  · rw [h, Int.zero_mul, sg_zero rfl, Int.zero_mul]
  · rw [sg_pos h, sg_neg g, sg_neg (Int.mul_neg_of_pos_of_neg h g)]; rfl
  · rw [g, Int.mul_zero, sg_zero rfl, Int.mul_zero]
  · rw [sg_pos h, sg_pos g, sg_pos (Int.mul_pos h g)]; rfl
theorem icmp_swap (z y : Int) : - icmp y z = icmp z y := by rw [icmp_sg, icmp_sg, ← sg_minus]; congr 1; omega
theorem icmp_add (z y x : Int) : icmp (z + x) (y + x) = icmp z y := by rw [icmp_sg, icmp_sg]; congr 1; omega
theorem icmp_mul (z y x : Int) : icmp (z * x) (y * x) = icmp z y * sg x := by rw [icmp_sg, icmp_sg, ← sg_mul, Int.sub_mul]
theorem wrap_s {z : Int} (h : -1 ≤ z ∧ z ≤ 1) : IntKind.i64.wrap z = z := IntWalk.i64_in _ (by omega)
theorem mul_s {z y : Int} : -1 ≤ sg z * sg y ∧ sg z * sg y ≤ 1 := by rw [← sg_mul]; exact sg_abs _
theorem small3 {b : Nat} {w : World} {n p q : Bool} {a e f : Option Addr} {l m k c d i : Nat} {t : TypeId} (h : Bx w b #[.bool n, .slice a l c, .bool p, .slice e m d, .bool q, .slice f k i] t) :
    ∀ j (h : j < [(a, l, c), (e, m, d), (f, k, i)].length), w.cell? ⟨b, j * 2 + 1, none⟩ = some (.slice [(a, l, c), (e, m, d), (f, k, i)][j].1 [(a, l, c), (e, m, d), (f, k, i)][j].2.1 [(a, l, c), (e, m, d), (f, k, i)][j].2.2) := by
  intro j hj
  match j, hj with
  | 0, _ => exact h.cell 1
  | 1, _ => exact h.cell 3
  | 2, _ => exact h.cell 5
set_option maxHeartbeats 4000000 in
theorem integerOrder_any (neg peg qeg : Bool) (l m k : List Nat) (a b f : Option Addr) (c d i : Nat) (w : World) (hr : RD w a c l) (hs : RD w b d m) (ht : RD w f i k) :
    Calls Try.prog 6 #[.agg #[.bool neg, .slice a l.length c], .agg #[.bool peg, .slice b m.length d], .agg #[.bool qeg, .slice f k.length i]] w fun e w' => e = .returned (.bool true) ∧ Below w.heap.size w w' := by
  refine calls_of_W (args := [.agg #[.bool neg, .slice a l.length c], .agg #[.bool peg, .slice b m.length d], .agg #[.bool qeg, .slice f k.length i]]) (rs := [.tmp 6]) (n := 70) Try.func6 rfl rfl rfl (by kernel_rfl) ?_
  first | refine W_rt (by kernel_rfl) (fun K hK => ?_) | refine W_text (by kernel_rfl) (fun K hK => ?_)
  simp [go_sem]
  refine hv_box #[.bool neg, .slice a l.length c] (by simp [go_sem]) rfl (by simp [go_sem, Value.cells]) (fun w2 b2 hE2 hle2 hB2 => ?_)
  replace hr := hr.keep hE2
  replace hs := hs.keep hE2
  replace ht := ht.keep hE2
  simp [go_sem]
  refine hv_box #[.bool peg, .slice b m.length d] (by simp [go_sem]) rfl (by simp [go_sem, Value.cells]) (fun w3 b3 hE3 hle3 hB3 => ?_)
  replace hr := hr.keep hE3
  replace hs := hs.keep hE3
  replace ht := ht.keep hE3
  replace hB2 := hB2.keep hE3
  simp [go_sem]
  refine hv_box #[.bool qeg, .slice f k.length i] (by simp [go_sem]) rfl (by simp [go_sem, Value.cells]) (fun w7 b7 hE7 hle7 hB7 => ?_)
  replace hr := hr.keep hE7
  replace hs := hs.keep hE7
  replace ht := ht.keep hE7
  replace hB2 := hB2.keep hE7
  replace hB3 := hB3.keep hE7
  have hE := (hE2.next hE3).next hE7
  obtain ⟨k0, k1⟩ := ibx hB2
  obtain ⟨k2, k3⟩ := ibx hB3
  obtain ⟨k4, k5⟩ := ibx hB7
  simp [go_sem]
  refine hK _ _ ?_; clear hK K
  refine W_seq (fun K1 hK1 => ?_)
  first | refine W_rt (by kernel_rfl) (fun K hK => ?_) | refine W_text (by kernel_rfl) (fun K hK => ?_)
  simp [go_sem, k0, k1, k2, k3, k4, k5, add_mk, rowV, rowOk]
  refine hv_buildSlice #[.bool neg, .slice a l.length c, .bool peg, .slice b m.length d, .bool qeg, .slice f k.length i] (by simp [go_sem, k0, k1, k2, k3, k4, k5, add_mk, rowV, rowOk]) rfl ty_slZ45 (by decide) [(0, .agg #[.bool neg, .slice a l.length c]), (1, .agg #[.bool peg, .slice b m.length d]), (2, .agg #[.bool qeg, .slice f k.length i])] (by simp [go_sem, k0, k1, k2, k3, k4, k5, add_mk, rowV, rowOk]) (by kernel_rfl) (fun w4 b4 hE4 hle4 hB4 => ?_)
  replace hr := hr.keep hE4
  replace hs := hs.keep hE4
  replace ht := ht.keep hE4
  replace hB2 := hB2.keep hE4
  replace hB3 := hB3.keep hE4
  replace hB7 := hB7.keep hE4
  replace hE := hE.next hE4
  have hsm := small3 hB4
  simp [go_sem, k0, k1, k2, k3, k4, k5, add_mk, rowV, rowOk]
  refine hv_call (by simp [go_sem]) rfl Try.call10 (fun R hR => ?_)
  simp [go_sem]
  refine (smallI_any [(a, l.length, c), (b, m.length, d), (f, k.length, i)] b4 _ hsm (by simp)).mono ?_
  rintro e w5 ⟨rfl, rfl⟩
  refine ⟨_, rfl, hR _ _ ?_⟩
  clear hR R
  simp [go_sem]
  refine hK _ _ ?_; clear hK K
  clear hE2 hE3 hE4 hB4 hsm k0 k1 k2 k3 k4 k5
  by_cases h24 : l.length ≤ 24 ∧ m.length ≤ 24 ∧ k.length ≤ 24
  · obtain ⟨h1, h2, h3⟩ := h24
    have x1 := lim_24 l hr.ok h1
    have x2 := lim_24 m hs.ok h2
    have x3 := lim_24 k ht.ok h3
    have v1 := Nat.lt_of_lt_of_le (val_lt l hr.ok) (Nat.pow_le_pow_right (by decide) h1)
    have v2 := Nat.lt_of_lt_of_le (val_lt m hs.ok) (Nat.pow_le_pow_right (by decide) h2)
    have v3 := Nat.lt_of_lt_of_le (val_lt k ht.ok) (Nat.pow_le_pow_right (by decide) h3)
    have n1 := iv_abs neg (val l)
    have n2 := iv_abs peg (val m)
    have n3 := iv_abs qeg (val k)
    have c1 := fun {w} hr hs => iCmp_any neg peg l m a b c d w hr hs (by unfold lenB; omega) (by unfold lenB; omega)
    have c2 := fun {w} hs hr => iCmp_any peg neg m l b a d c w hs hr (by unfold lenB; omega) (by unfold lenB; omega)
    have c3 := fun {w} hr hs => iSub_any neg peg l m a b c d w hr hs (by omega) (by omega)
    have c4 := fun {w} hr ht => iAdd_any neg qeg l k a f c i w hr ht (by omega) (by omega)
    have c5 := fun {w} hs ht => iAdd_any peg qeg m k b f d i w hs ht (by omega) (by omega)
    have c6 := fun {w} hr ht => iMul_any neg qeg l k a f c i w hr ht (by omega) (by omega)
    have c7 := fun {w} hs ht => iMul_any peg qeg m k b f d i w hs ht (by omega) (by omega)
    have c8 := fun {w} hr hs => iMul_any neg peg l m a b c d w hr hs (by omega) (by omega)
    have s1 := fun {w} hr => iSign_any neg l a c w hr (by unfold lenB; omega)
    have s2 := fun {w} hs => iSign_any peg m b d w hs (by unfold lenB; omega)
    have s3 := fun {w} ht => iSign_any qeg k f i w ht (by unfold lenB; omega)
    obtain ⟨A, hA⟩ : ∃ A, A = iv neg (val l) := ⟨_, rfl⟩
    obtain ⟨B, hB⟩ : ∃ B, B = iv peg (val m) := ⟨_, rfl⟩
    obtain ⟨C, hC⟩ : ∃ C, C = iv qeg (val k) := ⟨_, rfl⟩
    rw [← hA] at n1
    rw [← hB] at n2
    rw [← hC] at n3
    have l1 : (lim (A - B).natAbs).length ≤ 1000 := Nat.le_trans (lz_sub n1 n2 x1 x2) (by decide)
    have l2 : (lim (A + C).natAbs).length ≤ 1000 := Nat.le_trans (lz_add n1 n3 x1 x3) (by decide)
    have l3 : (lim (B + C).natAbs).length ≤ 1000 := Nat.le_trans (lz_add n2 n3 x2 x3) (by decide)
    have l4 : (lim (A * C).natAbs).length ≤ 1000 := Nat.le_trans (lz_mul n1 n3 v1 v3) (by decide)
    have l5 : (lim (B * C).natAbs).length ≤ 1000 := Nat.le_trans (lz_mul n2 n3 v2 v3) (by decide)
    have l6 : (lim (A * B).natAbs).length ≤ 1000 := Nat.le_trans (lz_mul n1 n2 v1 v2) (by decide)
    simp only [← hA, ← hB, ← hC] at c1 c2 c3 c4 c5 c6 c7 c8 s1 s2 s3
    have e1 := icmp_swap A B
    have e2 : sg (A - B) = icmp A B := (icmp_sg A B).symm
    have e3 := icmp_add A B C
    have e4 := icmp_mul A B C
    have e5 := sg_mul A B
    have f1 : IntKind.i64.wrap (-(icmp B A)) = icmp A B := by rw [e1]; exact wrap_s (by rw [icmp_sg]; exact sg_abs _)
    have f2 : IntKind.i64.wrap (icmp A B * sg C) = icmp A B * sg C := wrap_s (by rw [icmp_sg]; exact mul_s)
    have f3 : IntKind.i64.wrap (sg A * sg B) = sg A * sg B := wrap_s mul_s
    generalize A - B = Z1 at *
    generalize A + C = Z2 at *
    generalize B + C = Z3 at *
    generalize A * C = Z4 at *
    generalize B * C = Z5 at *
    generalize A * B = Z6 at *
    have d1 : ∀ {a c w}, RD w a c (lim Z1.natAbs) → Calls Try.prog 17 #[iR Z1 a c] w fun e w' => e = .returned (.int .i64 (icmp A B)) ∧ Below w.heap.size w w' := fun h => e2 ▸ signZ h l1
    have d2 : ∀ {a c b d w}, RD w a c (lim Z2.natAbs) → RD w b d (lim Z3.natAbs) → Calls Try.prog 19 #[iR Z2 a c, iR Z3 b d] w fun e w' => e = .returned (.int .i64 (icmp A B)) ∧ Below w.heap.size w w' := fun h h' => e3 ▸ cmpZ h h' l2 l3
    have d3 : ∀ {a c b d w}, RD w a c (lim Z4.natAbs) → RD w b d (lim Z5.natAbs) → Calls Try.prog 19 #[iR Z4 a c, iR Z5 b d] w fun e w' => e = .returned (.int .i64 (icmp A B * sg C)) ∧ Below w.heap.size w w' := fun h h' => e4 ▸ cmpZ h h' l4 l5
    have d4 : ∀ {a c w}, RD w a c (lim Z6.natAbs) → Calls Try.prog 17 #[iR Z6 a c] w fun e w' => e = .returned (.int .i64 (sg A * sg B)) ∧ Below w.heap.size w w' := fun h => e5 ▸ signZ h l6
    generalize icmp A B = n at *
    generalize icmp B A = n' at *
    generalize sg A = sA at *
    generalize sg B = sB at *
    generalize sg C = sC at *
    clear e1 e2 e3 e4 e5 hA hB hC
    refine W_if (by simp [go_sem, h1, h2, h3]; rfl) rfl ?_
    refine W_skip ?_
    refine hK1 _ _ ?_; clear hK1 K1
    obtain ⟨k0, k1⟩ := ibx hB2
    obtain ⟨k2, k3⟩ := ibx hB3
    obtain ⟨k4, k5⟩ := ibx hB7
    first | refine W_rt (by kernel_rfl) (fun K hK => ?_) | refine W_text (by kernel_rfl) (fun K hK => ?_)
    simp [go_sem, k0, k1, k2, k3, k4, k5, add_mk, rowV, rowOk]
    refine hv_call (by simp [go_sem, k0, k1, k2, k3, k4, k5, add_mk, rowV, rowOk]) rfl Try.call19 (fun R hR => ?_)
    simp [go_sem, k0, k1, k2, k3, k4, k5, add_mk, rowV, rowOk]
    refine (c1 hr hs).mono ?_
    rintro e w9 ⟨rfl, hE9⟩
    refine ⟨_, rfl, hR _ _ ?_⟩
    clear hR R
    replace hE := hE.next hE9
    replace hr := hr.keep hE9
    replace hs := hs.keep hE9
    replace ht := ht.keep hE9
    replace hB2 := hB2.keep hE9
    replace hB3 := hB3.keep hE9
    replace hB7 := hB7.keep hE9
    simp [go_sem]
    refine hK _ _ ?_; clear hK K
    refine W_seq (fun K1 hK1 => ?_)
    have hD := Below.drew1 w9
    replace hr := hr.keep hD
    replace hs := hs.keep hD
    replace ht := ht.keep hD
    replace hB2 := hB2.keep hD
    replace hB3 := hB3.keep hD
    replace hB7 := hB7.keep hD
    replace hE := hE.next hD
    obtain ⟨k0, k1⟩ := ibx hB2
    obtain ⟨k2, k3⟩ := ibx hB3
    obtain ⟨k4, k5⟩ := ibx hB7
    first | refine W_rd [(0, 0), (1, 0), (2, 0), (3, 1), (4, 0), (5, 0), (6, 0), (7, 0), (8, 0), (9, 0), (10, 1), (11, 1), (12, 0), (13, 0), (14, 0), (15, 0), (16, 0), (17, 0), (19, 0), (20, 0), (18, 1), (21, 1), (22, 1), (23, 0), (24, 0)] (by kernel_rfl) (by kernel_rfl) (fun K hK => ?_) | refine W_draw [(0, 0), (1, 0), (2, 0), (3, 1), (4, 0), (5, 0), (6, 0), (7, 0), (8, 0), (9, 0), (10, 1), (11, 1), (12, 0), (13, 0), (14, 0), (15, 0), (16, 0), (17, 0), (19, 0), (20, 0), (18, 1), (21, 1), (22, 1), (23, 0), (24, 0)] (by kernel_rfl) (by kernel_rfl) (fun K hK => ?_)
    simp [go_sem, k0, k1, k2, k3, k4, k5, add_mk, rowV, rowOk, f1]
    refine hv_call (by simp [go_sem, k0, k1, k2, k3, k4, k5, add_mk, rowV, rowOk, f1]) rfl Try.call19 (fun R hR => ?_)
    simp [go_sem, k0, k1, k2, k3, k4, k5, add_mk, rowV, rowOk, f1]
    refine (c2 hs hr).mono ?_
    rintro e w10 ⟨rfl, hE10⟩
    refine ⟨_, rfl, hE10, hR _ _ ?_⟩
    clear hR R
    replace hE := hE.next hE10
    replace hr := hr.keep hE10
    replace hs := hs.keep hE10
    replace ht := ht.keep hE10
    replace hB2 := hB2.keep hE10
    replace hB3 := hB3.keep hE10
    replace hB7 := hB7.keep hE10
    obtain ⟨k0, k1⟩ := ibx hB2
    obtain ⟨k2, k3⟩ := ibx hB3
    obtain ⟨k4, k5⟩ := ibx hB7
    simp [go_sem, k0, k1, k2, k3, k4, k5, add_mk, rowV, rowOk, f1]
    refine hv_call (by simp [go_sem, k0, k1, k2, k3, k4, k5, add_mk, rowV, rowOk, f1]) rfl Try.call31 (fun R hR => ?_)
    simp [go_sem, k0, k1, k2, k3, k4, k5, add_mk, rowV, rowOk, f1]
    refine (c3 hr hs).mono ?_
    rintro e w11 ⟨a11, c11, rfl, hr11, hE11⟩
    refine ⟨_, rfl, hE11, hR _ _ ?_⟩
    clear hR R
    replace hE := hE.next hE11
    replace hr := hr.keep hE11
    replace hs := hs.keep hE11
    replace ht := ht.keep hE11
    replace hB2 := hB2.keep hE11
    replace hB3 := hB3.keep hE11
    replace hB7 := hB7.keep hE11
    obtain ⟨k0, k1⟩ := ibx hB2
    obtain ⟨k2, k3⟩ := ibx hB3
    obtain ⟨k4, k5⟩ := ibx hB7
    simp [go_sem, k0, k1, k2, k3, k4, k5, add_mk, rowV, rowOk, f1]
    refine hv_call (by simp [go_sem, k0, k1, k2, k3, k4, k5, add_mk, rowV, rowOk, f1]) rfl Try.call17 (fun R hR => ?_)
    simp [go_sem, k0, k1, k2, k3, k4, k5, add_mk, rowV, rowOk, f1]
    refine (d1 hr11).mono ?_
    rintro e w12 ⟨rfl, hE12⟩
    refine ⟨_, rfl, hE12, hR _ _ ?_⟩
    clear hR R
    replace hE := hE.next hE12
    replace hr := hr.keep hE12
    replace hs := hs.keep hE12
    replace ht := ht.keep hE12
    replace hB2 := hB2.keep hE12
    replace hB3 := hB3.keep hE12
    replace hB7 := hB7.keep hE12
    obtain ⟨k0, k1⟩ := ibx hB2
    obtain ⟨k2, k3⟩ := ibx hB3
    obtain ⟨k4, k5⟩ := ibx hB7
    simp [go_sem, k0, k1, k2, k3, k4, k5, add_mk, rowV, rowOk, f1]
    refine hv_call (by simp [go_sem, k0, k1, k2, k3, k4, k5, add_mk, rowV, rowOk, f1]) rfl Try.call29 (fun R hR => ?_)
    simp [go_sem, k0, k1, k2, k3, k4, k5, add_mk, rowV, rowOk, f1]
    refine (c4 hr ht).mono ?_
    rintro e w13 ⟨a13, c13, rfl, hr13, hE13⟩
    refine ⟨_, rfl, hE13, hR _ _ ?_⟩
    clear hR R
    replace hE := hE.next hE13
    replace hr := hr.keep hE13
    replace hs := hs.keep hE13
    replace ht := ht.keep hE13
    replace hB2 := hB2.keep hE13
    replace hB3 := hB3.keep hE13
    replace hB7 := hB7.keep hE13
    obtain ⟨k0, k1⟩ := ibx hB2
    obtain ⟨k2, k3⟩ := ibx hB3
    obtain ⟨k4, k5⟩ := ibx hB7
    simp [go_sem, k0, k1, k2, k3, k4, k5, add_mk, rowV, rowOk, f1]
    refine hv_call (by simp [go_sem, k0, k1, k2, k3, k4, k5, add_mk, rowV, rowOk, f1]) rfl Try.call29 (fun R hR => ?_)
    simp [go_sem, k0, k1, k2, k3, k4, k5, add_mk, rowV, rowOk, f1]
    refine (c5 hs ht).mono ?_
    rintro e w14 ⟨a14, c14, rfl, hr14, hE14⟩
    refine ⟨_, rfl, hE14, hR _ _ ?_⟩
    clear hR R
    replace hE := hE.next hE14
    replace hr := hr.keep hE14
    replace hs := hs.keep hE14
    replace ht := ht.keep hE14
    replace hB2 := hB2.keep hE14
    replace hB3 := hB3.keep hE14
    replace hB7 := hB7.keep hE14
    replace hr13 := hr13.keep hE14
    obtain ⟨k0, k1⟩ := ibx hB2
    obtain ⟨k2, k3⟩ := ibx hB3
    obtain ⟨k4, k5⟩ := ibx hB7
    simp [go_sem, k0, k1, k2, k3, k4, k5, add_mk, rowV, rowOk, f1]
    refine hv_call (by simp [go_sem, k0, k1, k2, k3, k4, k5, add_mk, rowV, rowOk, f1]) rfl Try.call19 (fun R hR => ?_)
    simp [go_sem, k0, k1, k2, k3, k4, k5, add_mk, rowV, rowOk, f1]
    refine (d2 hr13 hr14).mono ?_
    rintro e w15 ⟨rfl, hE15⟩
    refine ⟨_, rfl, hE15, hR _ _ ?_⟩
    clear hR R
    replace hE := hE.next hE15
    replace hr := hr.keep hE15
    replace hs := hs.keep hE15
    replace ht := ht.keep hE15
    replace hB2 := hB2.keep hE15
    replace hB3 := hB3.keep hE15
    replace hB7 := hB7.keep hE15
    obtain ⟨k0, k1⟩ := ibx hB2
    obtain ⟨k2, k3⟩ := ibx hB3
    obtain ⟨k4, k5⟩ := ibx hB7
    simp [go_sem, k0, k1, k2, k3, k4, k5, add_mk, rowV, rowOk, f1]
    refine hK _ _ ?_; clear hK K
    refine W_if (by simp [go_sem]; rfl) rfl ?_
    refine W_skip ?_
    refine hK1 _ _ ?_; clear hK1 K1
    have hD2 := Below.drew1 w15
    replace hr := hr.keep hD2
    replace hs := hs.keep hD2
    replace ht := ht.keep hD2
    replace hB2 := hB2.keep hD2
    replace hB3 := hB3.keep hD2
    replace hB7 := hB7.keep hD2
    replace hE := hE.next hD2
    obtain ⟨k0, k1⟩ := ibx hB2
    obtain ⟨k2, k3⟩ := ibx hB3
    obtain ⟨k4, k5⟩ := ibx hB7
    first | refine W_rd [(0, 0), (1, 0), (3, 0), (4, 0), (7, 0), (8, 0), (2, 1), (5, 1), (6, 1), (9, 1), (10, 0), (11, 0), (12, 0), (13, 0), (14, 0), (17, 0), (19, 0), (15, 1), (16, 1), (18, 1), (20, 1), (21, 0), (22, 0), (23, 0), (24, 0), (25, 1), (26, 0), (27, 0)] (by kernel_rfl) (by kernel_rfl) (fun K hK => ?_) | refine W_draw [(0, 0), (1, 0), (3, 0), (4, 0), (7, 0), (8, 0), (2, 1), (5, 1), (6, 1), (9, 1), (10, 0), (11, 0), (12, 0), (13, 0), (14, 0), (17, 0), (19, 0), (15, 1), (16, 1), (18, 1), (20, 1), (21, 0), (22, 0), (23, 0), (24, 0), (25, 1), (26, 0), (27, 0)] (by kernel_rfl) (by kernel_rfl) (fun K hK => ?_)
    simp [go_sem, k0, k1, k2, k3, k4, k5, add_mk, rowV, rowOk, f2, f3]
    refine hv_call (by simp [go_sem, k0, k1, k2, k3, k4, k5, add_mk, rowV, rowOk, f2, f3]) rfl Try.call33 (fun R hR => ?_)
    simp [go_sem, k0, k1, k2, k3, k4, k5, add_mk, rowV, rowOk, f2, f3]
    refine (c6 hr ht).mono ?_
    rintro e w16 ⟨a16, c16, rfl, hr16, hE16⟩
    refine ⟨_, rfl, hE16, hR _ _ ?_⟩
    clear hR R
    replace hE := hE.next hE16
    replace hr := hr.keep hE16
    replace hs := hs.keep hE16
    replace ht := ht.keep hE16
    replace hB2 := hB2.keep hE16
    replace hB3 := hB3.keep hE16
    replace hB7 := hB7.keep hE16
    obtain ⟨k0, k1⟩ := ibx hB2
    obtain ⟨k2, k3⟩ := ibx hB3
    obtain ⟨k4, k5⟩ := ibx hB7
    simp [go_sem, k0, k1, k2, k3, k4, k5, add_mk, rowV, rowOk, f2, f3]
    refine hv_call (by simp [go_sem, k0, k1, k2, k3, k4, k5, add_mk, rowV, rowOk, f2, f3]) rfl Try.call33 (fun R hR => ?_)
    simp [go_sem, k0, k1, k2, k3, k4, k5, add_mk, rowV, rowOk, f2, f3]
    refine (c7 hs ht).mono ?_
    rintro e w17 ⟨a17, c17, rfl, hr17, hE17⟩
    refine ⟨_, rfl, hE17, hR _ _ ?_⟩
    clear hR R
    replace hE := hE.next hE17
    replace hr := hr.keep hE17
    replace hs := hs.keep hE17
    replace ht := ht.keep hE17
    replace hB2 := hB2.keep hE17
    replace hB3 := hB3.keep hE17
    replace hB7 := hB7.keep hE17
    replace hr16 := hr16.keep hE17
    obtain ⟨k0, k1⟩ := ibx hB2
    obtain ⟨k2, k3⟩ := ibx hB3
    obtain ⟨k4, k5⟩ := ibx hB7
    simp [go_sem, k0, k1, k2, k3, k4, k5, add_mk, rowV, rowOk, f2, f3]
    refine hv_call (by simp [go_sem, k0, k1, k2, k3, k4, k5, add_mk, rowV, rowOk, f2, f3]) rfl Try.call19 (fun R hR => ?_)
    simp [go_sem, k0, k1, k2, k3, k4, k5, add_mk, rowV, rowOk, f2, f3]
    refine (d3 hr16 hr17).mono ?_
    rintro e w18 ⟨rfl, hE18⟩
    refine ⟨_, rfl, hE18, hR _ _ ?_⟩
    clear hR R
    replace hE := hE.next hE18
    replace hr := hr.keep hE18
    replace hs := hs.keep hE18
    replace ht := ht.keep hE18
    replace hB2 := hB2.keep hE18
    replace hB3 := hB3.keep hE18
    replace hB7 := hB7.keep hE18
    obtain ⟨k0, k1⟩ := ibx hB2
    obtain ⟨k2, k3⟩ := ibx hB3
    obtain ⟨k4, k5⟩ := ibx hB7
    simp [go_sem, k0, k1, k2, k3, k4, k5, add_mk, rowV, rowOk, f2, f3]
    refine hv_call (by simp [go_sem, k0, k1, k2, k3, k4, k5, add_mk, rowV, rowOk, f2, f3]) rfl Try.call17 (fun R hR => ?_)
    simp [go_sem, k0, k1, k2, k3, k4, k5, add_mk, rowV, rowOk, f2, f3]
    refine (s3 ht).mono ?_
    rintro e w19 ⟨rfl, hE19⟩
    refine ⟨_, rfl, hE19, hR _ _ ?_⟩
    clear hR R
    replace hE := hE.next hE19
    replace hr := hr.keep hE19
    replace hs := hs.keep hE19
    replace ht := ht.keep hE19
    replace hB2 := hB2.keep hE19
    replace hB3 := hB3.keep hE19
    replace hB7 := hB7.keep hE19
    obtain ⟨k0, k1⟩ := ibx hB2
    obtain ⟨k2, k3⟩ := ibx hB3
    obtain ⟨k4, k5⟩ := ibx hB7
    simp [go_sem, k0, k1, k2, k3, k4, k5, add_mk, rowV, rowOk, f2, f3]
    refine hv_call (by simp [go_sem, k0, k1, k2, k3, k4, k5, add_mk, rowV, rowOk, f2, f3]) rfl Try.call33 (fun R hR => ?_)
    simp [go_sem, k0, k1, k2, k3, k4, k5, add_mk, rowV, rowOk, f2, f3]
    refine (c8 hr hs).mono ?_
    rintro e w20 ⟨a20, c20, rfl, hr20, hE20⟩
    refine ⟨_, rfl, hE20, hR _ _ ?_⟩
    clear hR R
    replace hE := hE.next hE20
    replace hr := hr.keep hE20
    replace hs := hs.keep hE20
    replace ht := ht.keep hE20
    replace hB2 := hB2.keep hE20
    replace hB3 := hB3.keep hE20
    replace hB7 := hB7.keep hE20
    obtain ⟨k0, k1⟩ := ibx hB2
    obtain ⟨k2, k3⟩ := ibx hB3
    obtain ⟨k4, k5⟩ := ibx hB7
    simp [go_sem, k0, k1, k2, k3, k4, k5, add_mk, rowV, rowOk, f2, f3]
    refine hv_call (by simp [go_sem, k0, k1, k2, k3, k4, k5, add_mk, rowV, rowOk, f2, f3]) rfl Try.call17 (fun R hR => ?_)
    simp [go_sem, k0, k1, k2, k3, k4, k5, add_mk, rowV, rowOk, f2, f3]
    refine (d4 hr20).mono ?_
    rintro e w21 ⟨rfl, hE21⟩
    refine ⟨_, rfl, hE21, hR _ _ ?_⟩
    clear hR R
    replace hE := hE.next hE21
    replace hr := hr.keep hE21
    replace hs := hs.keep hE21
    replace ht := ht.keep hE21
    replace hB2 := hB2.keep hE21
    replace hB3 := hB3.keep hE21
    replace hB7 := hB7.keep hE21
    obtain ⟨k0, k1⟩ := ibx hB2
    obtain ⟨k2, k3⟩ := ibx hB3
    obtain ⟨k4, k5⟩ := ibx hB7
    simp [go_sem, k0, k1, k2, k3, k4, k5, add_mk, rowV, rowOk, f2, f3]
    refine hv_call (by simp [go_sem, k0, k1, k2, k3, k4, k5, add_mk, rowV, rowOk, f2, f3]) rfl Try.call17 (fun R hR => ?_)
    simp [go_sem, k0, k1, k2, k3, k4, k5, add_mk, rowV, rowOk, f2, f3]
    refine (s1 hr).mono ?_
    rintro e w22 ⟨rfl, hE22⟩
    refine ⟨_, rfl, hE22, hR _ _ ?_⟩
    clear hR R
    replace hE := hE.next hE22
    replace hr := hr.keep hE22
    replace hs := hs.keep hE22
    replace ht := ht.keep hE22
    replace hB2 := hB2.keep hE22
    replace hB3 := hB3.keep hE22
    replace hB7 := hB7.keep hE22
    obtain ⟨k0, k1⟩ := ibx hB2
    obtain ⟨k2, k3⟩ := ibx hB3
    obtain ⟨k4, k5⟩ := ibx hB7
    simp [go_sem, k0, k1, k2, k3, k4, k5, add_mk, rowV, rowOk, f2, f3]
    refine hv_call (by simp [go_sem, k0, k1, k2, k3, k4, k5, add_mk, rowV, rowOk, f2, f3]) rfl Try.call17 (fun R hR => ?_)
    simp [go_sem, k0, k1, k2, k3, k4, k5, add_mk, rowV, rowOk, f2, f3]
    refine (s2 hs).mono ?_
    rintro e w23 ⟨rfl, hE23⟩
    refine ⟨_, rfl, hE23, hR _ _ ?_⟩
    clear hR R
    replace hE := hE.next hE23
    replace hr := hr.keep hE23
    replace hs := hs.keep hE23
    replace ht := ht.keep hE23
    replace hB2 := hB2.keep hE23
    replace hB3 := hB3.keep hE23
    replace hB7 := hB7.keep hE23
    obtain ⟨k0, k1⟩ := ibx hB2
    obtain ⟨k2, k3⟩ := ibx hB3
    obtain ⟨k4, k5⟩ := ibx hB7
    simp [go_sem, k0, k1, k2, k3, k4, k5, add_mk, rowV, rowOk, f2, f3]
    refine hv_call (by simp [go_sem]) rfl Try.call11 (fun R hR => ?_)
    simp [go_sem]
    refine (aliveI_any _).mono ?_
    rintro e w80 ⟨rfl, hE80⟩
    refine ⟨_, rfl, hE80, hR _ _ ?_⟩
    clear hR R
    replace hE := hE.next hE80
    simp [go_sem]
    refine hK _ _ ?_; clear hK K
    refine W_ret ?_
    repeat (first | refine thenG_ret ?_ | refine inBlock_ret ?_)
    refine ⟨trivial, ?_, hE⟩
    simp [go_sem, pack, resL]
  · have hb : (!decide (l.length ≤ 24) || (!decide (m.length ≤ 24) || !decide (k.length ≤ 24))) = true := by
      by_cases h : l.length ≤ 24
      · by_cases h' : m.length ≤ 24
        · have : ¬ k.length ≤ 24 := fun h'' => h24 ⟨h, h', h''⟩
          simp [h, h', this]
        · simp [h']
      · simp [h]
    refine W_if (by simp [go_sem, hb]; rfl) rfl ?_
    first | refine W_rt (by kernel_rfl) (fun K hK => ?_) | refine W_text (by kernel_rfl) (fun K hK => ?_)
    simp [go_sem]
    refine hv_call (by simp [go_sem]) rfl Try.call11 (fun R hR => ?_)
    simp [go_sem]
    refine (aliveI_any _).mono ?_
    rintro e w4 ⟨rfl, hE4⟩
    refine ⟨_, rfl, hR _ _ ?_⟩
    clear hR R
    replace hE := hE.next hE4
    clear hE4
    simp [go_sem]
    refine hK _ _ ?_; clear hK K
    refine W_ret ?_
    repeat (first | refine thenG_ret ?_ | refine inBlock_ret ?_)
    refine ⟨trivial, ?_, hE⟩
    simp [go_sem, pack, resL]
set_option maxRecDepth 100000 in
theorem integerOrder_lifted (os : Os) (started : os.Started) (H : Type) (enc : TypeId × Value → H) :
    ReturnsInHanded {} Try.checked os 6 .any (Rows.integerOrderSpec.pre6 enc Try.prog Try.f6 Rows.integerOrderRow.domain false) (Rows.integerOrderSpec.post enc Try.prog Try.f6 false true false false) := by
  refine law_lifted (C := Try.checked) (s := Rows.integerOrderSpec) Try.own Try.laidOut (by kernel_rfl) Try.func6 rfl 4 rfl Try.underlying4 (by kernel_rfl) enc ?_ ?_ os started
    (ChangeSpec.witness6 (enc := enc) (C := Try.checked) false ⟨#[], #[.agg #[.bool false, .slice none 0 0], .agg #[.bool false, .slice none 0 0], .agg #[.bool false, .slice none 0 0]], []⟩ 8 (by kernel_rfl) (by kernel_rfl) (by kernel_rfl) (by kernel_rfl))
  · intro ds hl
    match ds, hl with
    | [d0, d1, d2], _ => rfl
  · intro W base args ds ps hval hA hlt _
    have hA' : DataW.TrodAll enc Try.prog W 0 (fun _ => true) true [25, 25, 25] args.toList ds ps := hA
    have hval' : ∀ (j : Nat) t v, Try.f6.params[j]? = some t → args[j]? = some v → Value.okWide Try.prog W .any base t v := hval
    obtain ⟨v0, v1, v2, d0, d1, d2, p0, p1, p2, rfl, rfl, rfl, h0, h1, h2⟩ := Go.ChangeShapes.trodAll_three hA'
    obtain ⟨n_x, x, a_x, c_x, rfl, hr_x⟩ := open_Int (hval' 0 25 v0 rfl rfl) h0
    obtain ⟨n_y, y, a_y, c_y, rfl, hr_y⟩ := open_Int (hval' 1 25 v1 rfl rfl) h1
    obtain ⟨n_z, z, a_z, c_z, rfl, hr_z⟩ := open_Int (hval' 2 25 v2 rfl rfl) h2
    exact integerOrder_any n_x n_y n_z x y z a_x a_y a_z c_x c_y c_z W hr_x hr_y hr_z

theorem integerOrder_holds : Rows.IntegerOrderSaid :=
  OpenClaim.holds_of_wide 6 Try.f6 rfl rfl rfl rfl rfl rfl rfl ⟨rfl, rfl, rfl, rfl, rfl⟩ rfl rfl rfl rfl rfl (by kernel_rfl) Try.func6 (by kernel_rfl)
    (of_decide_eq_true (by kernel_rfl)) (by unfold Func.isWrapper; first | (rw [if_pos (by decide +kernel)]; kernel_rfl) | (rw [if_neg (by decide +kernel)]; exact ⟨rfl, rfl⟩))
    (fun os started H enc _ => integerOrder_lifted os started H enc)
end Go.Proofs.Ytocdcpkdcljabaa
