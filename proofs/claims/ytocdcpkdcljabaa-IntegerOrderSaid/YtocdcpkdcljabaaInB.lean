/- IntegerAdds. -/
import Derived.Test.YtocdcpkdcljabaaInA
namespace Go.Proofs.Ytocdcpkdcljabaa
open Go.RowKit Go.V Go.ChangeMaps
set_option linter.unusedSimpArgs false
set_option linter.unusedVariables false
theorem lim_24 (l : List Nat) (h : Ok l) (hl : l.length ≤ 24) : (lim (val l)).length ≤ 24 := lim_of_len h hl
theorem lz_add {z y : Int} {x u k : Nat} (h1 : z.natAbs = x) (h2 : y.natAbs = u) (h3 : (lim x).length ≤ k) (h4 : (lim u).length ≤ k) : (lim (z + y).natAbs).length ≤ k + 1 :=
  lim_mono (A := (z + y).natAbs) (B := x + u) (by omega) (lim_add_len h3 h4)
theorem lz_sub {z y : Int} {x u k : Nat} (h1 : z.natAbs = x) (h2 : y.natAbs = u) (h3 : (lim x).length ≤ k) (h4 : (lim u).length ≤ k) : (lim (z - y).natAbs).length ≤ k + 1 :=
  lim_mono (A := (z - y).natAbs) (B := x + u) (by omega) (lim_add_len h3 h4)
theorem lz_mul {z y : Int} {x u k j : Nat} (h1 : z.natAbs = x) (h2 : y.natAbs = u) (h3 : x < 65536 ^ k) (h4 : u < 65536 ^ j) : (lim (z * y).natAbs).length ≤ k + j := by
  rw [Int.natAbs_mul, h1, h2]
  exact lim_len _ _ (by rw [Nat.pow_add]; exact Nat.mul_lt_mul'' h3 h4)
theorem small2 {b : Nat} {w : World} {n p : Bool} {a e : Option Addr} {l m c d : Nat} {t : TypeId} (h : Bx w b #[.bool n, .slice a l c, .bool p, .slice e m d] t) :
    ∀ i (h : i < [(a, l, c), (e, m, d)].length), w.cell? ⟨b, i * 2 + 1, none⟩ = some (.slice [(a, l, c), (e, m, d)][i].1 [(a, l, c), (e, m, d)][i].2.1 [(a, l, c), (e, m, d)][i].2.2) := by
  intro i hi
  match i, hi with
  | 0, _ => exact h.cell 1
  | 1, _ => exact h.cell 3
set_option maxHeartbeats 4000000 in
theorem integerAdds_any (neg peg : Bool) (l m : List Nat) (a b : Option Addr) (c d : Nat) (w : World) (hr : RD w a c l) (hs : RD w b d m) :
    Calls Try.prog 5 #[.agg #[.bool neg, .slice a l.length c], .agg #[.bool peg, .slice b m.length d]] w fun e w' => e = .returned (.bool true) ∧ Below w.heap.size w w' := by
  refine calls_of_W (args := [.agg #[.bool neg, .slice a l.length c], .agg #[.bool peg, .slice b m.length d]]) (rs := [.tmp 4]) (n := 39) Try.func5 rfl rfl rfl (by kernel_rfl) ?_
  first | refine W_rt (by kernel_rfl) (fun K hK => ?_) | refine W_text (by kernel_rfl) (fun K hK => ?_)
  simp [go_sem]
  refine hv_box #[.bool neg, .slice a l.length c] (by simp [go_sem]) rfl (by simp [go_sem, Value.cells]) (fun w2 b2 hE2 hle2 hB2 => ?_)
  replace hr := hr.keep hE2
  replace hs := hs.keep hE2
  simp [go_sem]
  refine hv_box #[.bool peg, .slice b m.length d] (by simp [go_sem]) rfl (by simp [go_sem, Value.cells]) (fun w3 b3 hE3 hle3 hB3 => ?_)
  replace hr := hr.keep hE3
  replace hs := hs.keep hE3
  replace hB2 := hB2.keep hE3
  have hE := hE2.next hE3
  obtain ⟨k0, k1⟩ := ibx hB2
  obtain ⟨k2, k3⟩ := ibx hB3
  simp [go_sem]
  refine hK _ _ ?_; clear hK K
  refine W_seq (fun K1 hK1 => ?_)
  first | refine W_rt (by kernel_rfl) (fun K hK => ?_) | refine W_text (by kernel_rfl) (fun K hK => ?_)
  simp [go_sem, k0, k1, k2, k3, add_mk, rowV, rowOk]
  refine hv_buildSlice #[.bool neg, .slice a l.length c, .bool peg, .slice b m.length d] (by simp [go_sem, k0, k1, k2, k3, add_mk, rowV, rowOk]) rfl ty_slZ45 (by decide) [(0, .agg #[.bool neg, .slice a l.length c]), (1, .agg #[.bool peg, .slice b m.length d])] (by simp [go_sem, k0, k1, k2, k3, add_mk, rowV, rowOk]) (by kernel_rfl) (fun w4 b4 hE4 hle4 hB4 => ?_)
  replace hr := hr.keep hE4
  replace hs := hs.keep hE4
  replace hB2 := hB2.keep hE4
  replace hB3 := hB3.keep hE4
  replace hE := hE.next hE4
  have hsm := small2 hB4
  simp [go_sem, k0, k1, k2, k3, add_mk, rowV, rowOk]
  refine hv_call (by simp [go_sem]) rfl Try.call10 (fun R hR => ?_)
  simp [go_sem]
  refine (smallI_any [(a, l.length, c), (b, m.length, d)] b4 _ hsm (by simp)).mono ?_
  rintro e w5 ⟨rfl, rfl⟩
  refine ⟨_, rfl, hR _ _ ?_⟩
  clear hR R
  simp [go_sem]
  refine hK _ _ ?_; clear hK K
  clear hE2 hE3 hE4 hB4 hsm k0 k1 k2 k3
  by_cases h24 : l.length ≤ 24 ∧ m.length ≤ 24
  · obtain ⟨h1, h2⟩ := h24
    have hb1 : l.length ≤ 100000 := by omega
    have hb2 : m.length ≤ 100000 := by omega
    have n1 := iv_abs neg (val l)
    have n2 := iv_abs peg (val m)
    have la : (lim (iv neg (val l) + iv peg (val m)).natAbs).length ≤ lenB := Nat.le_trans (lz_add n1 n2 (lim_24 l hr.ok h1) (lim_24 m hs.ok h2)) (by decide)
    have lb : (lim (iv neg (val l) - iv peg (val m)).natAbs).length ≤ lenB := Nat.le_trans (lz_sub n1 n2 (lim_24 l hr.ok h1) (lim_24 m hs.ok h2)) (by decide)
    have lc : (lim (iv neg (val l) * iv peg (val m)).natAbs).length ≤ lenB := Nat.le_trans (lz_mul n1 n2 (Nat.lt_of_lt_of_le (val_lt l hr.ok) (Nat.pow_le_pow_right (by decide) h1)) (Nat.lt_of_lt_of_le (val_lt m hs.ok) (Nat.pow_le_pow_right (by decide) h2))) (by decide)
    have c1 := fun {w} hr hs => iAdd_any neg peg l m a b c d w hr hs hb1 hb2
    have c2 := fun {w} hr hs => iAddR_any neg peg l m a b c d w hr hs hb1 hb2
    have c3 := fun {w} hr hs => iSub_any neg peg l m a b c d w hr hs hb1 hb2
    have c4 := fun {w} hr hs => iSubR_any neg peg l m a b c d w hr hs hb1 hb2
    have c5 := fun {w} hr hs => iMul_any neg peg l m a b c d w hr hs hb1 hb2
    have c6 := fun {w} hr hs => iMulR_any neg peg l m a b c d w hr hs hb1 hb2
    generalize iv neg (val l) + iv peg (val m) = ZA at *
    generalize iv neg (val l) - iv peg (val m) = ZB at *
    generalize iv neg (val l) * iv peg (val m) = ZC at *
    refine W_if (by simp [go_sem, h1, h2]; rfl) rfl ?_
    refine W_skip ?_
    refine hK1 _ _ ?_; clear hK1 K1
    have hD : Below w4.heap.size w4 w4.drew := Below.drew1 _
    replace hr := hr.keep hD
    replace hs := hs.keep hD
    replace hB2 := hB2.keep hD
    replace hB3 := hB3.keep hD
    replace hE := hE.next hD
    obtain ⟨k0, k1⟩ := ibx hB2
    obtain ⟨k2, k3⟩ := ibx hB3
    first | refine W_rd [(0, 0), (1, 0), (3, 0), (4, 0), (2, 1), (5, 1), (6, 1), (7, 0), (8, 0), (9, 0), (11, 0), (12, 0), (10, 1), (13, 1), (14, 1), (15, 0), (16, 0), (17, 0), (18, 0), (20, 0), (21, 0), (19, 1), (22, 1), (23, 1), (24, 0), (25, 0), (26, 1), (27, 0), (28, 0)] (by kernel_rfl) (by kernel_rfl) (fun K hK => ?_) | refine W_draw [(0, 0), (1, 0), (3, 0), (4, 0), (2, 1), (5, 1), (6, 1), (7, 0), (8, 0), (9, 0), (11, 0), (12, 0), (10, 1), (13, 1), (14, 1), (15, 0), (16, 0), (17, 0), (18, 0), (20, 0), (21, 0), (19, 1), (22, 1), (23, 1), (24, 0), (25, 0), (26, 1), (27, 0), (28, 0)] (by kernel_rfl) (by kernel_rfl) (fun K hK => ?_)
    simp [go_sem, k0, k1, k2, k3, add_mk, rowV, rowOk]
    refine hv_call (by simp [go_sem, k0, k1, k2, k3, add_mk, rowV, rowOk]) rfl Try.call29 (fun R hR => ?_)
    simp [go_sem, k0, k1, k2, k3, add_mk, rowV, rowOk]
    refine (c1 hr hs).mono ?_
    rintro e w10 ⟨a10, c10, rfl, hr10, hE10⟩
    refine ⟨_, rfl, hE10, hR _ _ ?_⟩
    clear hR R
    replace hE := hE.next hE10
    replace hr := hr.keep hE10
    replace hs := hs.keep hE10
    replace hB2 := hB2.keep hE10
    replace hB3 := hB3.keep hE10
    obtain ⟨k0, k1⟩ := ibx hB2
    obtain ⟨k2, k3⟩ := ibx hB3
    simp [go_sem, k0, k1, k2, k3, add_mk, rowV, rowOk]
    refine hv_call (by simp [go_sem, k0, k1, k2, k3, add_mk, rowV, rowOk]) rfl Try.call30 (fun R hR => ?_)
    simp [go_sem, k0, k1, k2, k3, add_mk, rowV, rowOk]
    refine (c2 hr hs).mono ?_
    rintro e w11 ⟨a11, c11, rfl, hr11, hE11⟩
    refine ⟨_, rfl, hE11, hR _ _ ?_⟩
    clear hR R
    replace hE := hE.next hE11
    replace hr := hr.keep hE11
    replace hs := hs.keep hE11
    replace hB2 := hB2.keep hE11
    replace hB3 := hB3.keep hE11
    replace hr10 := hr10.keep hE11
    obtain ⟨k0, k1⟩ := ibx hB2
    obtain ⟨k2, k3⟩ := ibx hB3
    simp [go_sem, k0, k1, k2, k3, add_mk, rowV, rowOk]
    refine hv_call (by simp [go_sem, k0, k1, k2, k3, add_mk, rowV, rowOk]) rfl Try.call14 (fun R hR => ?_)
    simp [go_sem, k0, k1, k2, k3, add_mk, rowV, rowOk]
    refine (iSame_any _ _ _ _ _ _ hr10 hr11 la).mono ?_
    rintro e w12 ⟨rfl, hE12⟩
    refine ⟨_, rfl, hE12, hR _ _ ?_⟩
    clear hR R
    replace hE := hE.next hE12
    replace hr := hr.keep hE12
    replace hs := hs.keep hE12
    replace hB2 := hB2.keep hE12
    replace hB3 := hB3.keep hE12
    obtain ⟨k0, k1⟩ := ibx hB2
    obtain ⟨k2, k3⟩ := ibx hB3
    simp [go_sem, k0, k1, k2, k3, add_mk, rowV, rowOk]
    refine hv_call (by simp [go_sem, k0, k1, k2, k3, add_mk, rowV, rowOk]) rfl Try.call31 (fun R hR => ?_)
    simp [go_sem, k0, k1, k2, k3, add_mk, rowV, rowOk]
    refine (c3 hr hs).mono ?_
    rintro e w13 ⟨a13, c13, rfl, hr13, hE13⟩
    refine ⟨_, rfl, hE13, hR _ _ ?_⟩
    clear hR R
    replace hE := hE.next hE13
    replace hr := hr.keep hE13
    replace hs := hs.keep hE13
    replace hB2 := hB2.keep hE13
    replace hB3 := hB3.keep hE13
    obtain ⟨k0, k1⟩ := ibx hB2
    obtain ⟨k2, k3⟩ := ibx hB3
    simp [go_sem, k0, k1, k2, k3, add_mk, rowV, rowOk]
    refine hv_call (by simp [go_sem, k0, k1, k2, k3, add_mk, rowV, rowOk]) rfl Try.call32 (fun R hR => ?_)
    simp [go_sem, k0, k1, k2, k3, add_mk, rowV, rowOk]
    refine (c4 hr hs).mono ?_
    rintro e w14 ⟨a14, c14, rfl, hr14, hE14⟩
    refine ⟨_, rfl, hE14, hR _ _ ?_⟩
    clear hR R
    replace hE := hE.next hE14
    replace hr := hr.keep hE14
    replace hs := hs.keep hE14
    replace hB2 := hB2.keep hE14
    replace hB3 := hB3.keep hE14
    replace hr13 := hr13.keep hE14
    obtain ⟨k0, k1⟩ := ibx hB2
    obtain ⟨k2, k3⟩ := ibx hB3
    simp [go_sem, k0, k1, k2, k3, add_mk, rowV, rowOk]
    refine hv_call (by simp [go_sem, k0, k1, k2, k3, add_mk, rowV, rowOk]) rfl Try.call14 (fun R hR => ?_)
    simp [go_sem, k0, k1, k2, k3, add_mk, rowV, rowOk]
    refine (iSame_any _ _ _ _ _ _ hr13 hr14 lb).mono ?_
    rintro e w15 ⟨rfl, hE15⟩
    refine ⟨_, rfl, hE15, hR _ _ ?_⟩
    clear hR R
    replace hE := hE.next hE15
    replace hr := hr.keep hE15
    replace hs := hs.keep hE15
    replace hB2 := hB2.keep hE15
    replace hB3 := hB3.keep hE15
    obtain ⟨k0, k1⟩ := ibx hB2
    obtain ⟨k2, k3⟩ := ibx hB3
    simp [go_sem, k0, k1, k2, k3, add_mk, rowV, rowOk]
    refine hv_call (by simp [go_sem, k0, k1, k2, k3, add_mk, rowV, rowOk]) rfl Try.call33 (fun R hR => ?_)
    simp [go_sem, k0, k1, k2, k3, add_mk, rowV, rowOk]
    refine (c5 hr hs).mono ?_
    rintro e w16 ⟨a16, c16, rfl, hr16, hE16⟩
    refine ⟨_, rfl, hE16, hR _ _ ?_⟩
    clear hR R
    replace hE := hE.next hE16
    replace hr := hr.keep hE16
    replace hs := hs.keep hE16
    replace hB2 := hB2.keep hE16
    replace hB3 := hB3.keep hE16
    obtain ⟨k0, k1⟩ := ibx hB2
    obtain ⟨k2, k3⟩ := ibx hB3
    simp [go_sem, k0, k1, k2, k3, add_mk, rowV, rowOk]
    refine hv_call (by simp [go_sem, k0, k1, k2, k3, add_mk, rowV, rowOk]) rfl Try.call34 (fun R hR => ?_)
    simp [go_sem, k0, k1, k2, k3, add_mk, rowV, rowOk]
    refine (c6 hr hs).mono ?_
    rintro e w17 ⟨a17, c17, rfl, hr17, hE17⟩
    refine ⟨_, rfl, hE17, hR _ _ ?_⟩
    clear hR R
    replace hE := hE.next hE17
    replace hr := hr.keep hE17
    replace hs := hs.keep hE17
    replace hB2 := hB2.keep hE17
    replace hB3 := hB3.keep hE17
    replace hr16 := hr16.keep hE17
    obtain ⟨k0, k1⟩ := ibx hB2
    obtain ⟨k2, k3⟩ := ibx hB3
    simp [go_sem, k0, k1, k2, k3, add_mk, rowV, rowOk]
    refine hv_call (by simp [go_sem, k0, k1, k2, k3, add_mk, rowV, rowOk]) rfl Try.call14 (fun R hR => ?_)
    simp [go_sem, k0, k1, k2, k3, add_mk, rowV, rowOk]
    refine (iSame_any _ _ _ _ _ _ hr16 hr17 lc).mono ?_
    rintro e w18 ⟨rfl, hE18⟩
    refine ⟨_, rfl, hE18, hR _ _ ?_⟩
    clear hR R
    replace hE := hE.next hE18
    replace hr := hr.keep hE18
    replace hs := hs.keep hE18
    replace hB2 := hB2.keep hE18
    replace hB3 := hB3.keep hE18
    obtain ⟨k0, k1⟩ := ibx hB2
    obtain ⟨k2, k3⟩ := ibx hB3
    simp [go_sem, k0, k1, k2, k3, add_mk, rowV, rowOk]
    refine hv_call (by simp [go_sem]) rfl Try.call11 (fun R hR => ?_)
    simp [go_sem]
    refine (aliveI_any _).mono ?_
    rintro e w20 ⟨rfl, hE20⟩
    refine ⟨_, rfl, hE20, hR _ _ ?_⟩
    clear hR R
    replace hE := hE.next hE20
    simp [go_sem]
    refine hK _ _ ?_; clear hK K
    refine W_ret ?_
    repeat (first | refine thenG_ret ?_ | refine inBlock_ret ?_)
    refine ⟨trivial, ?_, hE⟩
    simp [go_sem, pack, resL]
  · have hb : (!decide (l.length ≤ 24) || !decide (m.length ≤ 24)) = true := by
      by_cases h : l.length ≤ 24
      · have : ¬ m.length ≤ 24 := fun h' => h24 ⟨h, h'⟩
        simp [h, this]
      · simp [h]
    refine W_if (by simp [go_sem, hb]; rfl) rfl ?_
    first | refine W_rt (by kernel_rfl) (fun K hK => ?_) | refine W_text (by kernel_rfl) (fun K hK => ?_)
    simp [go_sem]
    refine hv_call (by simp [go_sem]) rfl Try.call11 (fun R hR => ?_)
    simp [go_sem]
    refine (aliveI_any _).mono ?_
    rintro e w4 ⟨rfl, hE4⟩
    refine ⟨_, rfl, hR _ _ ?_⟩
    clear hR R
    replace hE := hE.next hE4
    clear hE4
    simp [go_sem]
    refine hK _ _ ?_; clear hK K
    refine W_ret ?_
    repeat (first | refine thenG_ret ?_ | refine inBlock_ret ?_)
    refine ⟨trivial, ?_, hE⟩
    simp [go_sem, pack, resL]
set_option maxRecDepth 100000 in
theorem integerAdds_lifted (os : Os) (started : os.Started) (H : Type) (enc : TypeId × Value → H) :
    ReturnsInHanded {} Try.checked os 5 .any (Rows.integerAddsSpec.pre6 enc Try.prog Try.f5 Rows.integerAddsRow.domain false) (Rows.integerAddsSpec.post enc Try.prog Try.f5 false true false false) := by
  refine law_lifted (C := Try.checked) (s := Rows.integerAddsSpec) Try.own Try.laidOut (by kernel_rfl) Try.func5 rfl 4 rfl Try.underlying4 (by kernel_rfl) enc ?_ ?_ os started
    (ChangeSpec.witness6 (enc := enc) (C := Try.checked) false ⟨#[], #[.agg #[.bool false, .slice none 0 0], .agg #[.bool false, .slice none 0 0]], []⟩ 8 (by kernel_rfl) (by kernel_rfl) (by kernel_rfl) (by kernel_rfl))
  · intro ds hl
    match ds, hl with
    | [d0, d1], _ => rfl
  · intro W base args ds ps hval hA hlt _
    have hA' : DataW.TrodAll enc Try.prog W 0 (fun _ => true) true [25, 25] args.toList ds ps := hA
    have hval' : ∀ (j : Nat) t v, Try.f5.params[j]? = some t → args[j]? = some v → Value.okWide Try.prog W .any base t v := hval
    obtain ⟨v0, v1, d0, d1, p0, p1, rfl, rfl, rfl, h0, h1⟩ := Go.ChangeShapes.trodAll_two hA'
    obtain ⟨n_x, x, a_x, c_x, rfl, hr_x⟩ := open_Int (hval' 0 25 v0 rfl rfl) h0
    obtain ⟨n_y, y, a_y, c_y, rfl, hr_y⟩ := open_Int (hval' 1 25 v1 rfl rfl) h1
    exact integerAdds_any n_x n_y x y a_x a_y c_x c_y W hr_x hr_y

theorem integerAdds_holds : Rows.IntegerAddsSaid :=
  OpenClaim.holds_of_wide 5 Try.f5 rfl rfl rfl rfl rfl rfl rfl ⟨rfl, rfl, rfl, rfl, rfl⟩ rfl rfl rfl rfl rfl (by kernel_rfl) Try.func5 (by kernel_rfl)
    (of_decide_eq_true (by kernel_rfl)) (by unfold Func.isWrapper; first | (rw [if_pos (by decide +kernel)]; kernel_rfl) | (rw [if_neg (by decide +kernel)]; exact ⟨rfl, rfl⟩))
    (fun os started H enc _ => integerAdds_lifted os started H enc)
end Go.Proofs.Ytocdcpkdcljabaa
