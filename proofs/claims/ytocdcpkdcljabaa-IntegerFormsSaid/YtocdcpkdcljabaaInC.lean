/- IntegerForms. -/
import Derived.Test.YtocdcpkdcljabaaInB
namespace Go.Proofs.Ytocdcpkdcljabaa
open Go.RowKit Go.V Go.ChangeMaps
set_option linter.unusedSimpArgs false
set_option linter.unusedVariables false

set_option maxHeartbeats 4000000 in
theorem integerForms_any (neg peg : Bool) (l m : List Nat) (a b : Option Addr) (c d : Nat) (n : Int) (w : World) (hr : RD w a c l) (hs : RD w b d m) (hn : -9223372036854775808 ≤ n ∧ n < 9223372036854775808) :
    Calls Try.prog 3 #[.agg #[.bool neg, .slice a l.length c], .agg #[.bool peg, .slice b m.length d], .int .i64 n] w fun e w' => e = .returned (.bool true) ∧ Below w.heap.size w w' := by
  refine calls_of_W (args := [.agg #[.bool neg, .slice a l.length c], .agg #[.bool peg, .slice b m.length d], .int .i64 n]) (rs := [.tmp 6]) (n := 58) Try.func3 rfl rfl rfl (by kernel_rfl) ?_
  first | refine W_rt (by kernel_rfl) (fun K hK => ?_) | refine W_text (by kernel_rfl) (fun K hK => ?_)
  simp [go_sem]
  refine hv_box #[.bool neg, .slice a l.length c] (by simp [go_sem]) rfl (by simp [go_sem, Value.cells]) (fun w2 b2 hE2 hle2 hB2 => ?_)
  replace hr := hr.keep hE2
  replace hs := hs.keep hE2
  simp [go_sem]
  refine hv_box #[.bool peg, .slice b m.length d] (by simp [go_sem]) rfl (by simp [go_sem, Value.cells]) (fun w3 b3 hE3 hle3 hB3 => ?_)
  replace hr := hr.keep hE3
  replace hs := hs.keep hE3
  replace hB2 := hB2.keep hE3
  have hE := hE2.next hE3
  obtain ⟨k0, k1⟩ := ibx hB2
  obtain ⟨k2, k3⟩ := ibx hB3
  simp [go_sem]
  refine hK _ _ ?_; clear hK K
  refine W_seq (fun K1 hK1 => ?_)
  first | refine W_rt (by kernel_rfl) (fun K hK => ?_) | refine W_text (by kernel_rfl) (fun K hK => ?_)
  simp [go_sem, k0, k1, k2, k3, add_mk, rowV, rowOk]
  refine hv_buildSlice #[.bool neg, .slice a l.length c, .bool peg, .slice b m.length d] (by simp [go_sem, k0, k1, k2, k3, add_mk, rowV, rowOk]) rfl ty_slZ45 (by decide) [(0, .agg #[.bool neg, .slice a l.length c]), (1, .agg #[.bool peg, .slice b m.length d])] (by simp [go_sem, k0, k1, k2, k3, add_mk, rowV, rowOk]) (by kernel_rfl) (fun w4 b4 hE4 hle4 hB4 => ?_)
  replace hr := hr.keep hE4
  replace hs := hs.keep hE4
  replace hB2 := hB2.keep hE4
  replace hB3 := hB3.keep hE4
  replace hE := hE.next hE4
  have hsm := small2 hB4
  simp [go_sem, k0, k1, k2, k3, add_mk, rowV, rowOk]
  refine hv_call (by simp [go_sem]) rfl Try.call10 (fun R hR => ?_)
  simp [go_sem]
  refine (smallI_any [(a, l.length, c), (b, m.length, d)] b4 _ hsm (by simp)).mono ?_
  rintro e w5 ⟨rfl, rfl⟩
  refine ⟨_, rfl, hR _ _ ?_⟩
  clear hR R
  simp [go_sem]
  refine hK _ _ ?_; clear hK K
  clear hE2 hE3 hE4 hB4 hsm k0 k1 k2 k3
  by_cases h24 : l.length ≤ 24 ∧ m.length ≤ 24
  · obtain ⟨h1, h2⟩ := h24
    have hb1 : l.length ≤ lenB := by unfold lenB; omega
    have hb2 : m.length ≤ lenB := by unfold lenB; omega
    have n1 := iv_abs neg (val l)
    have n1' := iv_abs (!neg) (val l)
    have la : (lim (iv neg (val l)).natAbs).length ≤ lenB := by rw [n1]; exact Nat.le_trans (lim_24 l hr.ok h1) (by decide)
    have lb : (lim (iv (!neg) (val l)).natAbs).length ≤ lenB := by rw [n1']; exact Nat.le_trans (lim_24 l hr.ok h1) (by decide)
    have ln : (lim n.natAbs).length ≤ lenB := Nat.le_trans (lim_len 4 n.natAbs (by simp; omega)) (by decide)
    have c1 := fun {w} hr => iRight_any neg l a c w hr hb1
    have c2 := fun {w} hr => iRightR_any neg l a c w hr hb1
    have c3 := fun {w} hr => iNorm_any neg l a c w hr hb1
    have c4 := fun {w} hr => iNormR_any neg l a c w hr hb1
    have c5 := fun {w} hr => iSign_any neg l a c w hr hb1
    have c6 := fun {w} hr => iSignR_any neg l a c w hr hb1
    have c7 := fun {w} hr hs => iCmp_any neg peg l m a b c d w hr hs hb1 hb2
    have c8 := fun {w} hr hs => iCmpR_any neg peg l m a b c d w hr hs hb1 hb2
    have c9 := fun {w} hr => iNeg_any neg l a c w hr hb1
    have cA := fun {w} hr => iNegR_any neg l a c w hr hb1
    have cB := fun w => iOf_any n w hn.1 hn.2
    have cC := fun w => iOfR_any n w hn.1 hn.2
    generalize iRight neg l = rt at *
    generalize icmp (iv neg (val l)) (iv peg (val m)) = cm at *
    generalize sg (iv neg (val l)) = sn at *
    generalize iv neg (val l) = ZA at *
    generalize iv (!neg) (val l) = ZB at *
    refine W_if (by simp [go_sem, h1, h2]; rfl) rfl ?_
    refine W_skip ?_
    refine hK1 _ _ ?_; clear hK1 K1
    have hD : Below w4.heap.size w4 w4.drew := Below.drew1 _
    replace hr := hr.keep hD
    replace hs := hs.keep hD
    replace hB2 := hB2.keep hD
    replace hB3 := hB3.keep hD
    replace hE := hE.next hD
    obtain ⟨k0, k1⟩ := ibx hB2
    obtain ⟨k2, k3⟩ := ibx hB3
    first | refine W_rd [(0, 0), (2, 0), (1, 1), (3, 1), (4, 0), (5, 0), (6, 0), (8, 0), (7, 1), (9, 1), (10, 1), (11, 0), (12, 0), (13, 0), (15, 0), (14, 1), (16, 1), (17, 0), (18, 0), (19, 0), (20, 0), (21, 0), (23, 0), (24, 0), (22, 1), (25, 1), (26, 0), (27, 0), (28, 0), (29, 0), (31, 0), (30, 1), (32, 1), (33, 1), (34, 0), (35, 0), (36, 0), (38, 0), (37, 1), (39, 1), (40, 1), (41, 0), (42, 0), (43, 1), (44, 0), (45, 0)] (by kernel_rfl) (by kernel_rfl) (fun K hK => ?_) | refine W_draw [(0, 0), (2, 0), (1, 1), (3, 1), (4, 0), (5, 0), (6, 0), (8, 0), (7, 1), (9, 1), (10, 1), (11, 0), (12, 0), (13, 0), (15, 0), (14, 1), (16, 1), (17, 0), (18, 0), (19, 0), (20, 0), (21, 0), (23, 0), (24, 0), (22, 1), (25, 1), (26, 0), (27, 0), (28, 0), (29, 0), (31, 0), (30, 1), (32, 1), (33, 1), (34, 0), (35, 0), (36, 0), (38, 0), (37, 1), (39, 1), (40, 1), (41, 0), (42, 0), (43, 1), (44, 0), (45, 0)] (by kernel_rfl) (by kernel_rfl) (fun K hK => ?_)
    simp [go_sem, k0, k1, k2, k3, add_mk, rowV, rowOk]
    refine hv_call (by simp [go_sem, k0, k1, k2, k3, add_mk, rowV, rowOk]) rfl Try.call12 (fun R hR => ?_)
    simp [go_sem, k0, k1, k2, k3, add_mk, rowV, rowOk]
    refine (c1 hr).mono ?_
    rintro e w10 ⟨rfl, hE10⟩
    refine ⟨_, rfl, hE10, hR _ _ ?_⟩
    clear hR R
    replace hE := hE.next hE10
    replace hr := hr.keep hE10
    replace hs := hs.keep hE10
    replace hB2 := hB2.keep hE10
    replace hB3 := hB3.keep hE10
    obtain ⟨k0, k1⟩ := ibx hB2
    obtain ⟨k2, k3⟩ := ibx hB3
    simp [go_sem, k0, k1, k2, k3, add_mk, rowV, rowOk]
    refine hv_call (by simp [go_sem, k0, k1, k2, k3, add_mk, rowV, rowOk]) rfl Try.call13 (fun R hR => ?_)
    simp [go_sem, k0, k1, k2, k3, add_mk, rowV, rowOk]
    refine (c2 hr).mono ?_
    rintro e w11 ⟨rfl, hE11⟩
    refine ⟨_, rfl, hE11, hR _ _ ?_⟩
    clear hR R
    replace hE := hE.next hE11
    replace hr := hr.keep hE11
    replace hs := hs.keep hE11
    replace hB2 := hB2.keep hE11
    replace hB3 := hB3.keep hE11
    obtain ⟨k0, k1⟩ := ibx hB2
    obtain ⟨k2, k3⟩ := ibx hB3
    simp [go_sem, k0, k1, k2, k3, add_mk, rowV, rowOk]
    refine hv_call (by simp [go_sem, k0, k1, k2, k3, add_mk, rowV, rowOk]) rfl Try.call15 (fun R hR => ?_)
    simp [go_sem, k0, k1, k2, k3, add_mk, rowV, rowOk]
    refine (c3 hr).mono ?_
    rintro e w12 ⟨a12, c12, rfl, hr12, hE12⟩
    refine ⟨_, rfl, hE12, hR _ _ ?_⟩
    clear hR R
    replace hE := hE.next hE12
    replace hr := hr.keep hE12
    replace hs := hs.keep hE12
    replace hB2 := hB2.keep hE12
    replace hB3 := hB3.keep hE12
    obtain ⟨k0, k1⟩ := ibx hB2
    obtain ⟨k2, k3⟩ := ibx hB3
    simp [go_sem, k0, k1, k2, k3, add_mk, rowV, rowOk]
    refine hv_call (by simp [go_sem, k0, k1, k2, k3, add_mk, rowV, rowOk]) rfl Try.call16 (fun R hR => ?_)
    simp [go_sem, k0, k1, k2, k3, add_mk, rowV, rowOk]
    refine (c4 hr).mono ?_
    rintro e w13 ⟨a13, c13, rfl, hr13, hE13⟩
    refine ⟨_, rfl, hE13, hR _ _ ?_⟩
    clear hR R
    replace hE := hE.next hE13
    replace hr := hr.keep hE13
    replace hs := hs.keep hE13
    replace hB2 := hB2.keep hE13
    replace hB3 := hB3.keep hE13
    replace hr12 := hr12.keep hE13
    obtain ⟨k0, k1⟩ := ibx hB2
    obtain ⟨k2, k3⟩ := ibx hB3
    simp [go_sem, k0, k1, k2, k3, add_mk, rowV, rowOk]
    refine hv_call (by simp [go_sem, k0, k1, k2, k3, add_mk, rowV, rowOk]) rfl Try.call14 (fun R hR => ?_)
    simp [go_sem, k0, k1, k2, k3, add_mk, rowV, rowOk]
    refine (iSame_any _ _ _ _ _ _ hr12 hr13 la).mono ?_
    rintro e w14 ⟨rfl, hE14⟩
    refine ⟨_, rfl, hE14, hR _ _ ?_⟩
    clear hR R
    replace hE := hE.next hE14
    replace hr := hr.keep hE14
    replace hs := hs.keep hE14
    replace hB2 := hB2.keep hE14
    replace hB3 := hB3.keep hE14
    obtain ⟨k0, k1⟩ := ibx hB2
    obtain ⟨k2, k3⟩ := ibx hB3
    simp [go_sem, k0, k1, k2, k3, add_mk, rowV, rowOk]
    refine hv_call (by simp [go_sem, k0, k1, k2, k3, add_mk, rowV, rowOk]) rfl Try.call17 (fun R hR => ?_)
    simp [go_sem, k0, k1, k2, k3, add_mk, rowV, rowOk]
    refine (c5 hr).mono ?_
    rintro e w15 ⟨rfl, hE15⟩
    refine ⟨_, rfl, hE15, hR _ _ ?_⟩
    clear hR R
    replace hE := hE.next hE15
    replace hr := hr.keep hE15
    replace hs := hs.keep hE15
    replace hB2 := hB2.keep hE15
    replace hB3 := hB3.keep hE15
    obtain ⟨k0, k1⟩ := ibx hB2
    obtain ⟨k2, k3⟩ := ibx hB3
    simp [go_sem, k0, k1, k2, k3, add_mk, rowV, rowOk]
    refine hv_call (by simp [go_sem, k0, k1, k2, k3, add_mk, rowV, rowOk]) rfl Try.call18 (fun R hR => ?_)
    simp [go_sem, k0, k1, k2, k3, add_mk, rowV, rowOk]
    refine (c6 hr).mono ?_
    rintro e w16 ⟨rfl, hE16⟩
    refine ⟨_, rfl, hE16, hR _ _ ?_⟩
    clear hR R
    replace hE := hE.next hE16
    replace hr := hr.keep hE16
    replace hs := hs.keep hE16
    replace hB2 := hB2.keep hE16
    replace hB3 := hB3.keep hE16
    obtain ⟨k0, k1⟩ := ibx hB2
    obtain ⟨k2, k3⟩ := ibx hB3
    simp [go_sem, k0, k1, k2, k3, add_mk, rowV, rowOk]
    refine hv_call (by simp [go_sem, k0, k1, k2, k3, add_mk, rowV, rowOk]) rfl Try.call19 (fun R hR => ?_)
    simp [go_sem, k0, k1, k2, k3, add_mk, rowV, rowOk]
    refine (c7 hr hs).mono ?_
    rintro e w17 ⟨rfl, hE17⟩
    refine ⟨_, rfl, hE17, hR _ _ ?_⟩
    clear hR R
    replace hE := hE.next hE17
    replace hr := hr.keep hE17
    replace hs := hs.keep hE17
    replace hB2 := hB2.keep hE17
    replace hB3 := hB3.keep hE17
    obtain ⟨k0, k1⟩ := ibx hB2
    obtain ⟨k2, k3⟩ := ibx hB3
    simp [go_sem, k0, k1, k2, k3, add_mk, rowV, rowOk]
    refine hv_call (by simp [go_sem, k0, k1, k2, k3, add_mk, rowV, rowOk]) rfl Try.call20 (fun R hR => ?_)
    simp [go_sem, k0, k1, k2, k3, add_mk, rowV, rowOk]
    refine (c8 hr hs).mono ?_
    rintro e w18 ⟨rfl, hE18⟩
    refine ⟨_, rfl, hE18, hR _ _ ?_⟩
    clear hR R
    replace hE := hE.next hE18
    replace hr := hr.keep hE18
    replace hs := hs.keep hE18
    replace hB2 := hB2.keep hE18
    replace hB3 := hB3.keep hE18
    obtain ⟨k0, k1⟩ := ibx hB2
    obtain ⟨k2, k3⟩ := ibx hB3
    simp [go_sem, k0, k1, k2, k3, add_mk, rowV, rowOk]
    refine hv_call (by simp [go_sem, k0, k1, k2, k3, add_mk, rowV, rowOk]) rfl Try.call21 (fun R hR => ?_)
    simp [go_sem, k0, k1, k2, k3, add_mk, rowV, rowOk]
    refine (c9 hr).mono ?_
    rintro e w19 ⟨a19, c19, rfl, hr19, hE19⟩
    refine ⟨_, rfl, hE19, hR _ _ ?_⟩
    clear hR R
    replace hE := hE.next hE19
    replace hr := hr.keep hE19
    replace hs := hs.keep hE19
    replace hB2 := hB2.keep hE19
    replace hB3 := hB3.keep hE19
    obtain ⟨k0, k1⟩ := ibx hB2
    obtain ⟨k2, k3⟩ := ibx hB3
    simp [go_sem, k0, k1, k2, k3, add_mk, rowV, rowOk]
    refine hv_call (by simp [go_sem, k0, k1, k2, k3, add_mk, rowV, rowOk]) rfl Try.call22 (fun R hR => ?_)
    simp [go_sem, k0, k1, k2, k3, add_mk, rowV, rowOk]
    refine (cA hr).mono ?_
    rintro e w20 ⟨a20, c20, rfl, hr20, hE20⟩
    refine ⟨_, rfl, hE20, hR _ _ ?_⟩
    clear hR R
    replace hE := hE.next hE20
    replace hr := hr.keep hE20
    replace hs := hs.keep hE20
    replace hB2 := hB2.keep hE20
    replace hB3 := hB3.keep hE20
    replace hr19 := hr19.keep hE20
    obtain ⟨k0, k1⟩ := ibx hB2
    obtain ⟨k2, k3⟩ := ibx hB3
    simp [go_sem, k0, k1, k2, k3, add_mk, rowV, rowOk]
    refine hv_call (by simp [go_sem, k0, k1, k2, k3, add_mk, rowV, rowOk]) rfl Try.call14 (fun R hR => ?_)
    simp [go_sem, k0, k1, k2, k3, add_mk, rowV, rowOk]
    refine (iSame_any _ _ _ _ _ _ hr19 hr20 lb).mono ?_
    rintro e w21 ⟨rfl, hE21⟩
    refine ⟨_, rfl, hE21, hR _ _ ?_⟩
    clear hR R
    replace hE := hE.next hE21
    replace hr := hr.keep hE21
    replace hs := hs.keep hE21
    replace hB2 := hB2.keep hE21
    replace hB3 := hB3.keep hE21
    obtain ⟨k0, k1⟩ := ibx hB2
    obtain ⟨k2, k3⟩ := ibx hB3
    simp [go_sem, k0, k1, k2, k3, add_mk, rowV, rowOk]
    refine hv_call (by simp [go_sem, k0, k1, k2, k3, add_mk, rowV, rowOk]) rfl Try.call23 (fun R hR => ?_)
    simp [go_sem, k0, k1, k2, k3, add_mk, rowV, rowOk]
    refine (cB _).mono ?_
    rintro e w22 ⟨a22, c22, rfl, hr22, hE22⟩
    refine ⟨_, rfl, hE22, hR _ _ ?_⟩
    clear hR R
    replace hE := hE.next hE22
    replace hr := hr.keep hE22
    replace hs := hs.keep hE22
    replace hB2 := hB2.keep hE22
    replace hB3 := hB3.keep hE22
    obtain ⟨k0, k1⟩ := ibx hB2
    obtain ⟨k2, k3⟩ := ibx hB3
    simp [go_sem, k0, k1, k2, k3, add_mk, rowV, rowOk]
    refine hv_call (by simp [go_sem, k0, k1, k2, k3, add_mk, rowV, rowOk]) rfl Try.call24 (fun R hR => ?_)
    simp [go_sem, k0, k1, k2, k3, add_mk, rowV, rowOk]
    refine (cC _).mono ?_
    rintro e w23 ⟨a23, c23, rfl, hr23, hE23⟩
    refine ⟨_, rfl, hE23, hR _ _ ?_⟩
    clear hR R
    replace hE := hE.next hE23
    replace hr := hr.keep hE23
    replace hs := hs.keep hE23
    replace hB2 := hB2.keep hE23
    replace hB3 := hB3.keep hE23
    replace hr22 := hr22.keep hE23
    obtain ⟨k0, k1⟩ := ibx hB2
    obtain ⟨k2, k3⟩ := ibx hB3
    simp [go_sem, k0, k1, k2, k3, add_mk, rowV, rowOk]
    refine hv_call (by simp [go_sem, k0, k1, k2, k3, add_mk, rowV, rowOk]) rfl Try.call14 (fun R hR => ?_)
    simp [go_sem, k0, k1, k2, k3, add_mk, rowV, rowOk]
    refine (iSame_any _ _ _ _ _ _ hr22 hr23 ln).mono ?_
    rintro e w24 ⟨rfl, hE24⟩
    refine ⟨_, rfl, hE24, hR _ _ ?_⟩
    clear hR R
    replace hE := hE.next hE24
    replace hr := hr.keep hE24
    replace hs := hs.keep hE24
    replace hB2 := hB2.keep hE24
    replace hB3 := hB3.keep hE24
    obtain ⟨k0, k1⟩ := ibx hB2
    obtain ⟨k2, k3⟩ := ibx hB3
    simp [go_sem, k0, k1, k2, k3, add_mk, rowV, rowOk]
    refine hv_call (by simp [go_sem]) rfl Try.call11 (fun R hR => ?_)
    simp [go_sem]
    refine (aliveI_any _).mono ?_
    rintro e w80 ⟨rfl, hE80⟩
    refine ⟨_, rfl, hE80, hR _ _ ?_⟩
    clear hR R
    replace hE := hE.next hE80
    simp [go_sem]
    refine hK _ _ ?_; clear hK K
    refine W_ret ?_
    repeat (first | refine thenG_ret ?_ | refine inBlock_ret ?_)
    refine ⟨trivial, ?_, hE⟩
    simp [go_sem, pack, resL]
  · have hb : (!decide (l.length ≤ 24) || !decide (m.length ≤ 24)) = true := by
      by_cases h : l.length ≤ 24
      · have : ¬ m.length ≤ 24 := fun h' => h24 ⟨h, h'⟩
        simp [h, this]
      · simp [h]
    refine W_if (by simp [go_sem, hb]; rfl) rfl ?_
    first | refine W_rt (by kernel_rfl) (fun K hK => ?_) | refine W_text (by kernel_rfl) (fun K hK => ?_)
    simp [go_sem]
    refine hv_call (by simp [go_sem]) rfl Try.call11 (fun R hR => ?_)
    simp [go_sem]
    refine (aliveI_any _).mono ?_
    rintro e w4 ⟨rfl, hE4⟩
    refine ⟨_, rfl, hR _ _ ?_⟩
    clear hR R
    replace hE := hE.next hE4
    clear hE4
    simp [go_sem]
    refine hK _ _ ?_; clear hK K
    refine W_ret ?_
    repeat (first | refine thenG_ret ?_ | refine inBlock_ret ?_)
    refine ⟨trivial, ?_, hE⟩
    simp [go_sem, pack, resL]
theorem i64_wf {n : Int} (h : (Lit.int .i64 n).wf = true) : -9223372036854775808 ≤ n ∧ n < 9223372036854775808 := by
  simp only [Lit.wf, Bool.and_eq_true, decide_eq_true_eq] at h
  have e1 : IntKind.i64.min = -9223372036854775808 := by decide
  have e2 : IntKind.i64.max = 9223372036854775807 := by decide
  omega
set_option maxRecDepth 100000 in
theorem integerForms_lifted (os : Os) (started : os.Started) (H : Type) (enc : TypeId × Value → H) :
    ReturnsInHanded {} Try.checked os 3 .any (Rows.integerFormsSpec.pre6 enc Try.prog Try.f3 Rows.integerFormsRow.domain false) (Rows.integerFormsSpec.post enc Try.prog Try.f3 false true false false) := by
  refine law_lifted (C := Try.checked) (s := Rows.integerFormsSpec) Try.own Try.laidOut (by kernel_rfl) Try.func3 rfl 4 rfl Try.underlying4 (by kernel_rfl) enc ?_ ?_ os started
    (ChangeSpec.witness6 (enc := enc) (C := Try.checked) false ⟨#[], #[.agg #[.bool false, .slice none 0 0], .agg #[.bool false, .slice none 0 0], .int .i64 0], []⟩ 8 (by kernel_rfl) (by kernel_rfl) (by kernel_rfl) (by kernel_rfl))
  · intro ds hl
    match ds, hl with
    | [d0, d1, d2], _ => rfl
  · intro W base args ds ps hval hA hlt _
    have hA' : DataW.TrodAll enc Try.prog W 0 (fun _ => true) true [25, 25, 3] args.toList ds ps := hA
    have hval' : ∀ (j : Nat) t v, Try.f3.params[j]? = some t → args[j]? = some v → Value.okWide Try.prog W .any base t v := hval
    obtain ⟨v0, v1, v2, d0, d1, d2, p0, p1, p2, rfl, rfl, rfl, h0, h1, h2⟩ := Go.ChangeShapes.trodAll_three hA'
    obtain ⟨n_x, x, a_x, c_x, rfl, hr_x⟩ := open_Int (hval' 0 25 v0 rfl rfl) h0
    obtain ⟨n_y, y, a_y, c_y, rfl, hr_y⟩ := open_Int (hval' 1 25 v1 rfl rfl) h1
    obtain ⟨k, rfl, rfl, rfl, hs_k⟩ := Go.ChangeShapes.open_int Try.underlying3 (hval' 2 3 v2 rfl rfl) h2
    exact integerForms_any n_x n_y x y a_x a_y c_x c_y k W hr_x hr_y (i64_wf hs_k)

theorem integerForms_holds : Rows.IntegerFormsSaid :=
  OpenClaim.holds_of_wide 3 Try.f3 rfl rfl rfl rfl rfl rfl rfl ⟨rfl, rfl, rfl, rfl, rfl⟩ rfl rfl rfl rfl rfl (by kernel_rfl) Try.func3 (by kernel_rfl)
    (of_decide_eq_true (by kernel_rfl)) (by unfold Func.isWrapper; first | (rw [if_pos (by decide +kernel)]; kernel_rfl) | (rw [if_neg (by decide +kernel)]; exact ⟨rfl, rfl⟩))
    (fun os started H enc _ => integerForms_lifted os started H enc)
end Go.Proofs.Ytocdcpkdcljabaa
