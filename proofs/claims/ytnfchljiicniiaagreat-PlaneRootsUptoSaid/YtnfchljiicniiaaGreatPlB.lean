/- Points: the laws of lines, circles and roots. -/
import Derived.Test.YtnfchljiicniiaaGreatPl5
namespace Go.Proofs.YtnfchljiicniiaaGreat
open Go Go.RowKit Go.V Go.ChangeMaps
set_option linter.unusedSimpArgs false
set_option linter.unusedVariables false
set_option maxRecDepth 20000
def ct_samepT : Ct := { args := [[.r, .r], [.n], [.r, .r], [.n]], res := [[(.kb true)]], F := cq (kG g_same [[(.kb true)]].flatten), L := 100000, A := 0, B := 0 }
theorem ctF_samepT : ct_samepT.F = cq (kG g_same [(.kb true)]) := rfl
theorem ok_samepT : ct_samepT.ok Tryz.prog 9 := ok_kq ok_samep rfl
/-- a result, twice -/
def Twice (A : Option (List QA)) : Prop := ∃ (p q : QA) (e : Int), A = some [p, q, .n e] ∧ g_same [p, q, .n e, p, q, .n e] = some [.b true]
theorem twice_err {A : Option (List QA)} {e : Int} (hA : A = some [.z, .z, .n e]) (he : ¬ e = 0) : Twice A := ⟨_, _, _, hA, by simp only [g_same]; rw [if_pos ⟨trivial, he⟩]⟩
theorem twice_ok {A : Option (List QA)} {p q : Rat} (hA : A = some [.q p, .q q, .n 0]) : Twice A := ⟨_, _, _, hA, by simp only [g_same, and_self, if_true, decide_true]⟩
theorem m11 : ¬ (11 : Int) = 0 := by decide
theorem m12 : ¬ (12 : Int) = 0 := by decide
theorem tw_foot (px py ax ay bx by' : Rat) : Twice (g_foot [.q px, .q py, .q ax, .q ay, .q bx, .q by']) := by
  by_cases h : ax = bx ∧ ay = by'
  · exact twice_err (e := 11) (by simp only [g_foot, if_pos h]) m11
  · exact twice_ok (by simp only [g_foot, if_neg h]; rfl)
theorem tw_mirror (px py ax ay bx by' : Rat) : Twice (g_mirror [.q px, .q py, .q ax, .q ay, .q bx, .q by']) := by
  by_cases h : ax = bx ∧ ay = by'
  · exact twice_err (e := 11) (by simp only [g_mirror, if_pos h]) m11
  · exact twice_ok (by simp only [g_mirror, if_neg h]; rfl)
theorem tw_meet (ax ay bx by' cx cy dx dy : Rat) : Twice (g_meet [.q ax, .q ay, .q bx, .q by', .q cx, .q cy, .q dx, .q dy]) := by
  by_cases h : pcross ax ay bx by' cx cy dx dy = 0
  · exact twice_err (e := 11) (by simp only [g_meet, if_pos h]) m11
  · exact twice_ok (by simp only [g_meet, if_neg h]; rfl)
theorem tw_other (px py qx qy ox oy : Rat) : Twice (g_other [.q px, .q py, .q qx, .q qy, .q ox, .q oy]) := by
  by_cases h : px = qx ∧ py = qy
  · exact twice_err (e := 11) (by simp only [g_other, if_pos h]) m11
  · exact twice_ok (by simp only [g_other, if_neg h]; rfl)
theorem tw_center (ax ay bx by' cx cy : Rat) : Twice (g_center [.q ax, .q ay, .q bx, .q by', .q cx, .q cy]) := by
  by_cases h : pcross ax ay bx by' ax ay cx cy = 0
  · exact twice_err (e := 11) (by simp only [g_center, if_pos h]) m11
  · exact twice_ok (by simp only [g_center, if_neg h]; rfl)
theorem tw_cut (ax ay bx by' ox oy px py : Rat) (g : Bool) : Twice (g_cut [.q ax, .q ay, .q bx, .q by', .q ox, .q oy, .q px, .q py, .b g]) := by
  by_cases h : ax = bx ∧ ay = by'
  · exact twice_err (e := 11) (by simp only [g_cut, if_pos h]) m11
  · by_cases h0 : rootE (cutD ax ay bx by' ox oy px py) = 0
    · exact twice_ok (by simp only [g_cut, if_neg h, if_pos h0]; rfl)
    · exact twice_err (e := rootE (cutD ax ay bx by' ox oy px py)) (by simp only [g_cut, if_neg h, if_neg h0]) h0
theorem tw_intersect (ox oy px py qx qy rx ry : Rat) (g : Bool) : Twice (g_intersect [.q ox, .q oy, .q px, .q py, .q qx, .q qy, .q rx, .q ry, .b g]) := by
  by_cases h : ox = qx ∧ oy = qy
  · exact twice_err (e := 11) (by simp only [g_intersect, if_pos h]) m11
  · by_cases h0 : rootE (intD ox oy px py qx qy rx ry) = 0
    · exact twice_ok (by simp only [g_intersect, if_neg h, if_pos h0]; rfl)
    · exact twice_err (e := rootE (intD ox oy px py qx qy rx ry)) (by simp only [g_intersect, if_neg h, if_neg h0]) h0
theorem tw_apex (ax ay bx by' : Rat) (g : Bool) : Twice (g_apex [.q ax, .q ay, .q bx, .q by', .b g]) := by
  by_cases h : ax = bx ∧ ay = by'
  · exact twice_err (e := 11) (by simp only [g_apex, if_pos h]) m11
  · exact twice_err (e := 12) (by simp only [g_apex, if_neg h]) m12
def GB_planeLines : Gam := gamOf [(6, ct_fitsF)]
theorem GB_planeLines_ok : GamOk Tryz.prog GB_planeLines := gamOk_of ⟨ok_fitsF, trivial⟩
theorem GB_planeLines_fitsF : GB_planeLines 6 = some ct_fitsF := rfl
def tr_planeLinesB : Tr (List SA) := (.call 6 [(.ob 0), (.ob 1), (.ob 2), (.ob 3), (.ob 4), (.ob 5), (.ob 6), (.ob 7), (.ob 8), (.b (.var 9))] 10 (.leaf [(.b (.lit true))]))
theorem ev_planeLinesB : Ct.ok Tryz.prog 3 { args := [[.r, .r, .r, .r, .r, .r, .r, .r, .r, .b]], res := [[.b]], F := fun als => tr_planeLinesB.den GB_planeLines (env0 als), L := 1048576, A := 0, B := 0 } :=
  top_ok (by kernel_rfl) GB_planeLines_ok (plans := planF) (lf := 60) (k := 20) (by kernel_rfl)
theorem planeLinesB_den (a1 : Bool) (l1 m1 : List Nat) (a2 : Bool) (l2 m2 : List Nat) (a3 : Bool) (l3 m3 : List Nat) (a4 : Bool) (l4 m4 : List Nat) (a5 : Bool) (l5 m5 : List Nat) (a6 : Bool) (l6 m6 : List Nat) (a7 : Bool) (l7 m7 : List Nat) (a8 : Bool) (l8 m8 : List Nat) (a9 : Bool) (l9 m9 : List Nat) (f : Bool) (h : f_fits [.r a1 l1 m1, .r a2 l2 m2, .r a3 l3 m3, .r a4 l4 m4, .r a5 l5 m5, .r a6 l6 m6, .r a7 l7 m7, .r a8 l8 m8, .r a9 l9 m9, .b f] = some [.b false]) : tr_planeLinesB.den GB_planeLines (env0 [.r a1 l1 m1, .r a2 l2 m2, .r a3 l3 m3, .r a4 l4 m4, .r a5 l5 m5, .r a6 l6 m6, .r a7 l7 m7, .r a8 l8 m8, .r a9 l9 m9, .b f]) = some [.b true] := by
  have h := fitsF_of h
  simp only [tr_planeLinesB, Tr.den, evAll, SA.ev, BE.ev, IE.ev, SE.ev, LE.ev, env0, extE_eq, pickO, evN, evB, evS, evLen, evBit, evLst, At.len, At.bit, At.lst, op1, op2, op3, Nat.reduceLeDiff, Nat.reduceSub, Nat.reduceEqDiff, if_true, if_false, ite_true, ite_false, decide_true, decide_false, Bool.not_true, Bool.not_false, Nat.zero_le, Nat.sub_zero, List.getElem?_cons_zero, List.getElem?_cons_succ, List.getElem?_nil, GB_planeLines_fitsF, ctF_fitsF, h]
def G_planeLines0 : Gam := gamOf [(6, ct_fitsT), (7, ct_foot), (8, ct_rfoot), (10, ct_mirror), (11, ct_rmirror), (12, ct_meet), (13, ct_rmeet), (9, ct_samepT)]
theorem G_planeLines0_ok : GamOk Tryz.prog G_planeLines0 := gamOk_of ⟨ok_fitsT, ok_foot, ok_rfoot, ok_mirror, ok_rmirror, ok_meet, ok_rmeet, ok_samepT, trivial⟩
theorem G_planeLines0_fitsT : G_planeLines0 6 = some ct_fitsT := rfl
theorem G_planeLines0_foot : G_planeLines0 7 = some ct_foot := rfl
theorem G_planeLines0_rfoot : G_planeLines0 8 = some ct_rfoot := rfl
theorem G_planeLines0_mirror : G_planeLines0 10 = some ct_mirror := rfl
theorem G_planeLines0_rmirror : G_planeLines0 11 = some ct_rmirror := rfl
theorem G_planeLines0_meet : G_planeLines0 12 = some ct_meet := rfl
theorem G_planeLines0_rmeet : G_planeLines0 13 = some ct_rmeet := rfl
theorem G_planeLines0_samepT : G_planeLines0 9 = some ct_samepT := rfl
def tr_planeLines0 : Tr (List SA) := (.call 6 [(.ob 0), (.ob 1), (.ob 2), (.ob 3), (.ob 4), (.ob 5), (.ob 6), (.ob 7), (.ob 8), (.b (.var 9))] 10 (.call 7 [(.ob 4), (.ob 5), (.ob 0), (.ob 1), (.ob 2), (.ob 3)] 11 (.call 8 [(.ob 4), (.ob 5), (.ob 0), (.ob 1), (.ob 2), (.ob 3)] 14 (.call 9 [(.ob 11), (.ob 12), (.n (.var 13)), (.ob 14), (.ob 15), (.n (.var 16))] 17 (.call 10 [(.ob 4), (.ob 5), (.ob 0), (.ob 1), (.ob 2), (.ob 3)] 18 (.call 11 [(.ob 4), (.ob 5), (.ob 0), (.ob 1), (.ob 2), (.ob 3)] 21 (.call 9 [(.ob 18), (.ob 19), (.n (.var 20)), (.ob 21), (.ob 22), (.n (.var 23))] 24 (.call 12 [(.ob 0), (.ob 1), (.ob 2), (.ob 3), (.ob 4), (.ob 5), (.ob 6), (.ob 7)] 25 (.call 13 [(.ob 0), (.ob 1), (.ob 2), (.ob 3), (.ob 4), (.ob 5), (.ob 6), (.ob 7)] 28 (.call 9 [(.ob 25), (.ob 26), (.n (.var 27)), (.ob 28), (.ob 29), (.n (.var 30))] 31 (.leaf [(.b (.lit true))])))))))))))
theorem ev_planeLines0 : Ct.ok Tryz.prog 3 { args := [[.r, .r, .r, .r, .r, .r, .r, .r, .r, .b]], res := [[.b]], F := fun als => tr_planeLines0.den G_planeLines0 (env0 als), L := 2, A := 0, B := 0 } :=
  top_ok (by kernel_rfl) G_planeLines0_ok (plans := planF) (lf := 60) (k := 20) (by kernel_rfl)
set_option maxHeartbeats 1000000 in
theorem planeLines0_den (x1 x2 x3 x4 x5 x6 x7 x8 x9 : Rat) (f : Bool) (h : f_fits (List.map QA.at [.q x1, .q x2, .q x3, .q x4, .q x5, .q x6, .q x7, .q x8, .q x9, .b f]) = some [.b true]) : tr_planeLines0.den G_planeLines0 (env0 (List.map QA.at [.q x1, .q x2, .q x3, .q x4, .q x5, .q x6, .q x7, .q x8, .q x9, .b f])) = some [.b true] := by
  have h := fitsT_of h
  simp only [List.map_cons, List.map_nil] at h
  obtain ⟨p0, q0, e0, ha0, hb0⟩ := tw_foot x5 x6 x1 x2 x3 x4
  obtain ⟨p1, q1, e1, ha1, hb1⟩ := tw_mirror x5 x6 x1 x2 x3 x4
  obtain ⟨p2, q2, e2, ha2, hb2⟩ := tw_meet x1 x2 x3 x4 x5 x6 x7 x8
  simp only [tr_planeLines0, Tr.den, evAll, SA.ev, BE.ev, IE.ev, SE.ev, LE.ev, env0, extE_eq, pickO, op1, op2, op3, Nat.reduceLeDiff, Nat.reduceSub, Nat.reduceEqDiff, if_true, if_false, ite_true, ite_false, decide_true, decide_false, Bool.not_true, Bool.not_false, Nat.zero_le, Nat.sub_zero, List.getElem?_cons_zero, List.getElem?_cons_succ, List.getElem?_nil, cq0, cq1, cq2, cq3, cq4, cq5, cq6, cq7, cq8, cq9, cq10, cq12, cq16, outQ1, outQ2, outQ3, outQ4, outQ5, evN_at, evB_at, evS_at, evLen_z1, evLen_z2, evBit_z, at_n, at_b, at_s, at_z, at_k, at_kb, kG, kQ, kQ1, List.map_cons, List.map_nil, List.cons_append, List.nil_append, decide_eq_true_eq, Bool.false_eq_true, G_planeLines0_fitsT, ctF_fitsT, G_planeLines0_foot, ctF_foot, G_planeLines0_rfoot, ctF_rfoot, G_planeLines0_mirror, ctF_mirror, G_planeLines0_rmirror, ctF_rmirror, G_planeLines0_meet, ctF_meet, G_planeLines0_rmeet, ctF_rmeet, G_planeLines0_samepT, ctF_samepT, h, ha0, hb0, ha1, hb1, ha2, hb2, eq_self]
theorem planeLinesA_any (x1 x2 x3 x4 x5 x6 x7 x8 x9 : Rat) (f : Bool) (h : f_fits (List.map QA.at [.q x1, .q x2, .q x3, .q x4, .q x5, .q x6, .q x7, .q x8, .q x9, .b f]) = some [.b true]) : ∃ FA A1 B1, Ct.ok Tryz.prog 3 { args := [[.r, .r, .r, .r, .r, .r, .r, .r, .r, .b]], res := [[.b]], F := FA, L := 2, A := A1, B := B1 } ∧ FA (List.map QA.at [.q x1, .q x2, .q x3, .q x4, .q x5, .q x6, .q x7, .q x8, .q x9, .b f]) = some [.b true] := by
  exact ⟨_, _, _, ev_planeLines0, planeLines0_den _ _ _ _ _ _ _ _ _ _ h⟩
set_option maxRecDepth 100000 in
theorem planeLines_liftedU (os : Os) (started : os.Started) (H : Type) (enc : TypeId × Value → H) (F : Stop.Interp) :
    ReturnsInHanded {} Tryz.checked os 3 .any ((Rows.OpenSpec.upto Rows.planeLinesSpec).pre6 enc Tryz.prog Tryz.f3 Rows.planeLinesUptoRow.domain false) (((Rows.OpenSpec.upto Rows.planeLinesSpec).at F).post enc Tryz.prog Tryz.f3 false true false false) := by
  refine law_liftedU (C := Tryz.checked) (s := Rows.planeLinesSpec) Tryz.own Tryz.laidOut (by kernel_rfl) Tryz.func3 rfl 4 rfl Tryz.underlying4 (by kernel_rfl) enc ?_ ?_ os started F
    (OpenSpec.witness (enc := enc) (C := Tryz.checked) (s := Rows.OpenSpec.upto Rows.planeLinesSpec) (k := Rows.uptoSmall) rfl false ⟨#[], #[.agg #[.bool false, .slice none 0 0, .slice none 0 0, .bool false, .slice none 0 0, .slice none 0 0, .bool false, .slice none 0 0, .slice none 0 0, .bool false, .slice none 0 0, .slice none 0 0, .bool false, .slice none 0 0, .slice none 0 0, .bool false, .slice none 0 0, .slice none 0 0, .bool false, .slice none 0 0, .slice none 0 0, .bool false, .slice none 0 0, .slice none 0 0, .bool false, .slice none 0 0, .slice none 0 0, .bool false]], []⟩ 8 (by kernel_rfl) (by kernel_rfl) (by kernel_rfl) (x := ([.agg [.agg [.agg [.agg [.lit (.bool false), .nil], .nil], .agg [.agg [.lit (.bool false), .nil], .nil]], .agg [.agg [.agg [.lit (.bool false), .nil], .nil], .agg [.agg [.lit (.bool false), .nil], .nil]], .agg [.agg [.agg [.lit (.bool false), .nil], .nil], .agg [.agg [.lit (.bool false), .nil], .nil]], .agg [.agg [.agg [.lit (.bool false), .nil], .nil], .agg [.agg [.lit (.bool false), .nil], .nil]], .agg [.agg [.lit (.bool false), .nil], .nil], .lit (.bool false)]], [], [])) (by kernel_rfl) rfl (by kernel_rfl))
  · intro ds hl
    match ds, hl with
    | [d0], _ => rfl
  · intro W base args ds ps hval hA hlt hk
    have hA' : DataW.TrodAll enc Tryz.prog W 0 (fun _ => true) true [31] args.toList ds ps := hA
    have hval' : ∀ (j : Nat) t v, Tryz.f3.params[j]? = some t → args[j]? = some v → Value.okWide Tryz.prog W .any base t v := hval
    obtain ⟨v0, d0, rfl, rfl, h0⟩ := Go.ChangeShapes.trodAll_one hA'
    simp only [Rows.uptoBulkAll] at hk
    have hb_x : Rows.uptoBulk d0 ≤ 1048576 := by omega
    obtain ⟨als_x, hr_x, hg_x⟩ := open_Case (hval' 0 31 v0 rfl rfl) h0
    exact case_law ev_planeLinesB planeLinesA_any (fun _ _ _ _ _ _ _ _ _ _ _ _ _ _ _ _ _ _ _ _ _ _ _ _ _ _ _ _ h => planeLinesB_den _ _ _ _ _ _ _ _ _ _ _ _ _ _ _ _ _ _ _ _ _ _ _ _ _ _ _ _ h) hr_x hg_x hb_x

theorem planeLinesUpto_holds : Rows.PlaneLinesUptoSaid :=
  OpenClaim.holds_of_cond 3 Tryz.f3 rfl rfl rfl rfl rfl rfl rfl ⟨rfl, rfl, rfl, rfl, rfl⟩ rfl rfl rfl rfl rfl (by kernel_rfl) Tryz.func3 (by kernel_rfl)
    (of_decide_eq_true (by kernel_rfl)) (by unfold Func.isWrapper; first | (rw [if_pos (by decide +kernel)]; kernel_rfl) | (rw [if_neg (by decide +kernel)]; exact ⟨rfl, rfl⟩))
    (fun os started H enc _ F => planeLines_liftedU os started H enc F)
def GB_planeCircles : Gam := gamOf [(6, ct_fitsF)]
theorem GB_planeCircles_ok : GamOk Tryz.prog GB_planeCircles := gamOk_of ⟨ok_fitsF, trivial⟩
theorem GB_planeCircles_fitsF : GB_planeCircles 6 = some ct_fitsF := rfl
def tr_planeCirclesB : Tr (List SA) := (.call 6 [(.ob 0), (.ob 1), (.ob 2), (.ob 3), (.ob 4), (.ob 5), (.ob 6), (.ob 7), (.ob 8), (.b (.var 9))] 10 (.leaf [(.b (.lit true))]))
theorem ev_planeCirclesB : Ct.ok Tryz.prog 4 { args := [[.r, .r, .r, .r, .r, .r, .r, .r, .r, .b]], res := [[.b]], F := fun als => tr_planeCirclesB.den GB_planeCircles (env0 als), L := 1048576, A := 0, B := 0 } :=
  top_ok (by kernel_rfl) GB_planeCircles_ok (plans := planF) (lf := 60) (k := 20) (by kernel_rfl)
theorem planeCirclesB_den (a1 : Bool) (l1 m1 : List Nat) (a2 : Bool) (l2 m2 : List Nat) (a3 : Bool) (l3 m3 : List Nat) (a4 : Bool) (l4 m4 : List Nat) (a5 : Bool) (l5 m5 : List Nat) (a6 : Bool) (l6 m6 : List Nat) (a7 : Bool) (l7 m7 : List Nat) (a8 : Bool) (l8 m8 : List Nat) (a9 : Bool) (l9 m9 : List Nat) (f : Bool) (h : f_fits [.r a1 l1 m1, .r a2 l2 m2, .r a3 l3 m3, .r a4 l4 m4, .r a5 l5 m5, .r a6 l6 m6, .r a7 l7 m7, .r a8 l8 m8, .r a9 l9 m9, .b f] = some [.b false]) : tr_planeCirclesB.den GB_planeCircles (env0 [.r a1 l1 m1, .r a2 l2 m2, .r a3 l3 m3, .r a4 l4 m4, .r a5 l5 m5, .r a6 l6 m6, .r a7 l7 m7, .r a8 l8 m8, .r a9 l9 m9, .b f]) = some [.b true] := by
  have h := fitsF_of h
  simp only [tr_planeCirclesB, Tr.den, evAll, SA.ev, BE.ev, IE.ev, SE.ev, LE.ev, env0, extE_eq, pickO, evN, evB, evS, evLen, evBit, evLst, At.len, At.bit, At.lst, op1, op2, op3, Nat.reduceLeDiff, Nat.reduceSub, Nat.reduceEqDiff, if_true, if_false, ite_true, ite_false, decide_true, decide_false, Bool.not_true, Bool.not_false, Nat.zero_le, Nat.sub_zero, List.getElem?_cons_zero, List.getElem?_cons_succ, List.getElem?_nil, GB_planeCircles_fitsF, ctF_fitsF, h]
def G_planeCircles0 : Gam := gamOf [(6, ct_fitsT), (14, ct_other), (15, ct_rother), (16, ct_center), (17, ct_rcenter), (9, ct_samepT)]
theorem G_planeCircles0_ok : GamOk Tryz.prog G_planeCircles0 := gamOk_of ⟨ok_fitsT, ok_other, ok_rother, ok_center, ok_rcenter, ok_samepT, trivial⟩
theorem G_planeCircles0_fitsT : G_planeCircles0 6 = some ct_fitsT := rfl
theorem G_planeCircles0_other : G_planeCircles0 14 = some ct_other := rfl
theorem G_planeCircles0_rother : G_planeCircles0 15 = some ct_rother := rfl
theorem G_planeCircles0_center : G_planeCircles0 16 = some ct_center := rfl
theorem G_planeCircles0_rcenter : G_planeCircles0 17 = some ct_rcenter := rfl
theorem G_planeCircles0_samepT : G_planeCircles0 9 = some ct_samepT := rfl
def tr_planeCircles0 : Tr (List SA) := (.call 6 [(.ob 0), (.ob 1), (.ob 2), (.ob 3), (.ob 4), (.ob 5), (.ob 6), (.ob 7), (.ob 8), (.b (.var 9))] 10 (.call 14 [(.ob 0), (.ob 1), (.ob 2), (.ob 3), (.ob 4), (.ob 5)] 11 (.call 15 [(.ob 0), (.ob 1), (.ob 2), (.ob 3), (.ob 4), (.ob 5)] 14 (.call 9 [(.ob 11), (.ob 12), (.n (.var 13)), (.ob 14), (.ob 15), (.n (.var 16))] 17 (.call 16 [(.ob 0), (.ob 1), (.ob 2), (.ob 3), (.ob 4), (.ob 5)] 18 (.call 17 [(.ob 0), (.ob 1), (.ob 2), (.ob 3), (.ob 4), (.ob 5)] 21 (.call 9 [(.ob 18), (.ob 19), (.n (.var 20)), (.ob 21), (.ob 22), (.n (.var 23))] 24 (.leaf [(.b (.lit true))]))))))))
theorem ev_planeCircles0 : Ct.ok Tryz.prog 4 { args := [[.r, .r, .r, .r, .r, .r, .r, .r, .r, .b]], res := [[.b]], F := fun als => tr_planeCircles0.den G_planeCircles0 (env0 als), L := 2, A := 0, B := 0 } :=
  top_ok (by kernel_rfl) G_planeCircles0_ok (plans := planF) (lf := 60) (k := 20) (by kernel_rfl)
set_option maxHeartbeats 1000000 in
theorem planeCircles0_den (x1 x2 x3 x4 x5 x6 x7 x8 x9 : Rat) (f : Bool) (h : f_fits (List.map QA.at [.q x1, .q x2, .q x3, .q x4, .q x5, .q x6, .q x7, .q x8, .q x9, .b f]) = some [.b true]) : tr_planeCircles0.den G_planeCircles0 (env0 (List.map QA.at [.q x1, .q x2, .q x3, .q x4, .q x5, .q x6, .q x7, .q x8, .q x9, .b f])) = some [.b true] := by
  have h := fitsT_of h
  simp only [List.map_cons, List.map_nil] at h
  obtain ⟨p0, q0, e0, ha0, hb0⟩ := tw_other x1 x2 x3 x4 x5 x6
  obtain ⟨p1, q1, e1, ha1, hb1⟩ := tw_center x1 x2 x3 x4 x5 x6
  simp only [tr_planeCircles0, Tr.den, evAll, SA.ev, BE.ev, IE.ev, SE.ev, LE.ev, env0, extE_eq, pickO, op1, op2, op3, Nat.reduceLeDiff, Nat.reduceSub, Nat.reduceEqDiff, if_true, if_false, ite_true, ite_false, decide_true, decide_false, Bool.not_true, Bool.not_false, Nat.zero_le, Nat.sub_zero, List.getElem?_cons_zero, List.getElem?_cons_succ, List.getElem?_nil, cq0, cq1, cq2, cq3, cq4, cq5, cq6, cq7, cq8, cq9, cq10, cq12, cq16, outQ1, outQ2, outQ3, outQ4, outQ5, evN_at, evB_at, evS_at, evLen_z1, evLen_z2, evBit_z, at_n, at_b, at_s, at_z, at_k, at_kb, kG, kQ, kQ1, List.map_cons, List.map_nil, List.cons_append, List.nil_append, decide_eq_true_eq, Bool.false_eq_true, G_planeCircles0_fitsT, ctF_fitsT, G_planeCircles0_other, ctF_other, G_planeCircles0_rother, ctF_rother, G_planeCircles0_center, ctF_center, G_planeCircles0_rcenter, ctF_rcenter, G_planeCircles0_samepT, ctF_samepT, h, ha0, hb0, ha1, hb1, eq_self]
theorem planeCirclesA_any (x1 x2 x3 x4 x5 x6 x7 x8 x9 : Rat) (f : Bool) (h : f_fits (List.map QA.at [.q x1, .q x2, .q x3, .q x4, .q x5, .q x6, .q x7, .q x8, .q x9, .b f]) = some [.b true]) : ∃ FA A1 B1, Ct.ok Tryz.prog 4 { args := [[.r, .r, .r, .r, .r, .r, .r, .r, .r, .b]], res := [[.b]], F := FA, L := 2, A := A1, B := B1 } ∧ FA (List.map QA.at [.q x1, .q x2, .q x3, .q x4, .q x5, .q x6, .q x7, .q x8, .q x9, .b f]) = some [.b true] := by
  exact ⟨_, _, _, ev_planeCircles0, planeCircles0_den _ _ _ _ _ _ _ _ _ _ h⟩
set_option maxRecDepth 100000 in
theorem planeCircles_liftedU (os : Os) (started : os.Started) (H : Type) (enc : TypeId × Value → H) (F : Stop.Interp) :
    ReturnsInHanded {} Tryz.checked os 4 .any ((Rows.OpenSpec.upto Rows.planeCirclesSpec).pre6 enc Tryz.prog Tryz.f4 Rows.planeCirclesUptoRow.domain false) (((Rows.OpenSpec.upto Rows.planeCirclesSpec).at F).post enc Tryz.prog Tryz.f4 false true false false) := by
  refine law_liftedU (C := Tryz.checked) (s := Rows.planeCirclesSpec) Tryz.own Tryz.laidOut (by kernel_rfl) Tryz.func4 rfl 4 rfl Tryz.underlying4 (by kernel_rfl) enc ?_ ?_ os started F
    (OpenSpec.witness (enc := enc) (C := Tryz.checked) (s := Rows.OpenSpec.upto Rows.planeCirclesSpec) (k := Rows.uptoSmall) rfl false ⟨#[], #[.agg #[.bool false, .slice none 0 0, .slice none 0 0, .bool false, .slice none 0 0, .slice none 0 0, .bool false, .slice none 0 0, .slice none 0 0, .bool false, .slice none 0 0, .slice none 0 0, .bool false, .slice none 0 0, .slice none 0 0, .bool false, .slice none 0 0, .slice none 0 0, .bool false, .slice none 0 0, .slice none 0 0, .bool false, .slice none 0 0, .slice none 0 0, .bool false, .slice none 0 0, .slice none 0 0, .bool false]], []⟩ 8 (by kernel_rfl) (by kernel_rfl) (by kernel_rfl) (x := ([.agg [.agg [.agg [.agg [.lit (.bool false), .nil], .nil], .agg [.agg [.lit (.bool false), .nil], .nil]], .agg [.agg [.agg [.lit (.bool false), .nil], .nil], .agg [.agg [.lit (.bool false), .nil], .nil]], .agg [.agg [.agg [.lit (.bool false), .nil], .nil], .agg [.agg [.lit (.bool false), .nil], .nil]], .agg [.agg [.agg [.lit (.bool false), .nil], .nil], .agg [.agg [.lit (.bool false), .nil], .nil]], .agg [.agg [.lit (.bool false), .nil], .nil], .lit (.bool false)]], [], [])) (by kernel_rfl) rfl (by kernel_rfl))
  · intro ds hl
    match ds, hl with
    | [d0], _ => rfl
  · intro W base args ds ps hval hA hlt hk
    have hA' : DataW.TrodAll enc Tryz.prog W 0 (fun _ => true) true [31] args.toList ds ps := hA
    have hval' : ∀ (j : Nat) t v, Tryz.f4.params[j]? = some t → args[j]? = some v → Value.okWide Tryz.prog W .any base t v := hval
    obtain ⟨v0, d0, rfl, rfl, h0⟩ := Go.ChangeShapes.trodAll_one hA'
    simp only [Rows.uptoBulkAll] at hk
    have hb_x : Rows.uptoBulk d0 ≤ 1048576 := by omega
    obtain ⟨als_x, hr_x, hg_x⟩ := open_Case (hval' 0 31 v0 rfl rfl) h0
    exact case_law ev_planeCirclesB planeCirclesA_any (fun _ _ _ _ _ _ _ _ _ _ _ _ _ _ _ _ _ _ _ _ _ _ _ _ _ _ _ _ h => planeCirclesB_den _ _ _ _ _ _ _ _ _ _ _ _ _ _ _ _ _ _ _ _ _ _ _ _ _ _ _ _ h) hr_x hg_x hb_x

theorem planeCirclesUpto_holds : Rows.PlaneCirclesUptoSaid :=
  OpenClaim.holds_of_cond 4 Tryz.f4 rfl rfl rfl rfl rfl rfl rfl ⟨rfl, rfl, rfl, rfl, rfl⟩ rfl rfl rfl rfl rfl (by kernel_rfl) Tryz.func4 (by kernel_rfl)
    (of_decide_eq_true (by kernel_rfl)) (by unfold Func.isWrapper; first | (rw [if_pos (by decide +kernel)]; kernel_rfl) | (rw [if_neg (by decide +kernel)]; exact ⟨rfl, rfl⟩))
    (fun os started H enc _ F => planeCircles_liftedU os started H enc F)
def GB_planeRoots : Gam := gamOf [(6, ct_fitsF)]
theorem GB_planeRoots_ok : GamOk Tryz.prog GB_planeRoots := gamOk_of ⟨ok_fitsF, trivial⟩
theorem GB_planeRoots_fitsF : GB_planeRoots 6 = some ct_fitsF := rfl
def tr_planeRootsB : Tr (List SA) := (.call 6 [(.ob 0), (.ob 1), (.ob 2), (.ob 3), (.ob 4), (.ob 5), (.ob 6), (.ob 7), (.ob 8), (.b (.var 9))] 10 (.leaf [(.b (.lit true))]))
theorem ev_planeRootsB : Ct.ok Tryz.prog 5 { args := [[.r, .r, .r, .r, .r, .r, .r, .r, .r, .b]], res := [[.b]], F := fun als => tr_planeRootsB.den GB_planeRoots (env0 als), L := 1048576, A := 0, B := 0 } :=
  top_ok (by kernel_rfl) GB_planeRoots_ok (plans := planF) (lf := 60) (k := 20) (by kernel_rfl)
theorem planeRootsB_den (a1 : Bool) (l1 m1 : List Nat) (a2 : Bool) (l2 m2 : List Nat) (a3 : Bool) (l3 m3 : List Nat) (a4 : Bool) (l4 m4 : List Nat) (a5 : Bool) (l5 m5 : List Nat) (a6 : Bool) (l6 m6 : List Nat) (a7 : Bool) (l7 m7 : List Nat) (a8 : Bool) (l8 m8 : List Nat) (a9 : Bool) (l9 m9 : List Nat) (f : Bool) (h : f_fits [.r a1 l1 m1, .r a2 l2 m2, .r a3 l3 m3, .r a4 l4 m4, .r a5 l5 m5, .r a6 l6 m6, .r a7 l7 m7, .r a8 l8 m8, .r a9 l9 m9, .b f] = some [.b false]) : tr_planeRootsB.den GB_planeRoots (env0 [.r a1 l1 m1, .r a2 l2 m2, .r a3 l3 m3, .r a4 l4 m4, .r a5 l5 m5, .r a6 l6 m6, .r a7 l7 m7, .r a8 l8 m8, .r a9 l9 m9, .b f]) = some [.b true] := by
  have h := fitsF_of h
  simp only [tr_planeRootsB, Tr.den, evAll, SA.ev, BE.ev, IE.ev, SE.ev, LE.ev, env0, extE_eq, pickO, evN, evB, evS, evLen, evBit, evLst, At.len, At.bit, At.lst, op1, op2, op3, Nat.reduceLeDiff, Nat.reduceSub, Nat.reduceEqDiff, if_true, if_false, ite_true, ite_false, decide_true, decide_false, Bool.not_true, Bool.not_false, Nat.zero_le, Nat.sub_zero, List.getElem?_cons_zero, List.getElem?_cons_succ, List.getElem?_nil, GB_planeRoots_fitsF, ctF_fitsF, h]
def G_planeRoots0 : Gam := gamOf [(6, ct_fitsT), (18, ct_cut), (19, ct_rcut), (20, ct_intersect), (21, ct_rintersect), (22, ct_apex), (23, ct_rapex), (9, ct_samepT)]
theorem G_planeRoots0_ok : GamOk Tryz.prog G_planeRoots0 := gamOk_of ⟨ok_fitsT, ok_cut, ok_rcut, ok_intersect, ok_rintersect, ok_apex, ok_rapex, ok_samepT, trivial⟩
theorem G_planeRoots0_fitsT : G_planeRoots0 6 = some ct_fitsT := rfl
theorem G_planeRoots0_cut : G_planeRoots0 18 = some ct_cut := rfl
theorem G_planeRoots0_rcut : G_planeRoots0 19 = some ct_rcut := rfl
theorem G_planeRoots0_intersect : G_planeRoots0 20 = some ct_intersect := rfl
theorem G_planeRoots0_rintersect : G_planeRoots0 21 = some ct_rintersect := rfl
theorem G_planeRoots0_apex : G_planeRoots0 22 = some ct_apex := rfl
theorem G_planeRoots0_rapex : G_planeRoots0 23 = some ct_rapex := rfl
theorem G_planeRoots0_samepT : G_planeRoots0 9 = some ct_samepT := rfl
def tr_planeRoots0 : Tr (List SA) := (.call 6 [(.ob 0), (.ob 1), (.ob 2), (.ob 3), (.ob 4), (.ob 5), (.ob 6), (.ob 7), (.ob 8), (.b (.var 9))] 10 (.call 18 [(.ob 0), (.ob 1), (.ob 2), (.ob 3), (.ob 4), (.ob 5), (.ob 6), (.ob 7), (.b (.var 9))] 11 (.call 19 [(.ob 0), (.ob 1), (.ob 2), (.ob 3), (.ob 4), (.ob 5), (.ob 6), (.ob 7), (.b (.var 9))] 14 (.call 9 [(.ob 11), (.ob 12), (.n (.var 13)), (.ob 14), (.ob 15), (.n (.var 16))] 17 (.call 20 [(.ob 0), (.ob 1), (.ob 2), (.ob 3), (.ob 4), (.ob 5), (.ob 6), (.ob 7), (.b (.var 9))] 18 (.call 21 [(.ob 0), (.ob 1), (.ob 2), (.ob 3), (.ob 4), (.ob 5), (.ob 6), (.ob 7), (.b (.var 9))] 21 (.call 9 [(.ob 18), (.ob 19), (.n (.var 20)), (.ob 21), (.ob 22), (.n (.var 23))] 24 (.call 22 [(.ob 0), (.ob 1), (.ob 2), (.ob 3), (.b (.var 9))] 25 (.call 23 [(.ob 0), (.ob 1), (.ob 2), (.ob 3), (.b (.var 9))] 28 (.call 9 [(.ob 25), (.ob 26), (.n (.var 27)), (.ob 28), (.ob 29), (.n (.var 30))] 31 (.leaf [(.b (.lit true))])))))))))))
theorem ev_planeRoots0 : Ct.ok Tryz.prog 5 { args := [[.r, .r, .r, .r, .r, .r, .r, .r, .r, .b]], res := [[.b]], F := fun als => tr_planeRoots0.den G_planeRoots0 (env0 als), L := 2, A := 0, B := 0 } :=
  top_ok (by kernel_rfl) G_planeRoots0_ok (plans := planF) (lf := 60) (k := 20) (by kernel_rfl)
set_option maxHeartbeats 1000000 in
theorem planeRoots0_den (x1 x2 x3 x4 x5 x6 x7 x8 x9 : Rat) (f : Bool) (h : f_fits (List.map QA.at [.q x1, .q x2, .q x3, .q x4, .q x5, .q x6, .q x7, .q x8, .q x9, .b f]) = some [.b true]) : tr_planeRoots0.den G_planeRoots0 (env0 (List.map QA.at [.q x1, .q x2, .q x3, .q x4, .q x5, .q x6, .q x7, .q x8, .q x9, .b f])) = some [.b true] := by
  have h := fitsT_of h
  simp only [List.map_cons, List.map_nil] at h
  obtain ⟨p0, q0, e0, ha0, hb0⟩ := tw_cut x1 x2 x3 x4 x5 x6 x7 x8 f
  obtain ⟨p1, q1, e1, ha1, hb1⟩ := tw_intersect x1 x2 x3 x4 x5 x6 x7 x8 f
  obtain ⟨p2, q2, e2, ha2, hb2⟩ := tw_apex x1 x2 x3 x4 f
  simp only [tr_planeRoots0, Tr.den, evAll, SA.ev, BE.ev, IE.ev, SE.ev, LE.ev, env0, extE_eq, pickO, op1, op2, op3, Nat.reduceLeDiff, Nat.reduceSub, Nat.reduceEqDiff, if_true, if_false, ite_true, ite_false, decide_true, decide_false, Bool.not_true, Bool.not_false, Nat.zero_le, Nat.sub_zero, List.getElem?_cons_zero, List.getElem?_cons_succ, List.getElem?_nil, cq0, cq1, cq2, cq3, cq4, cq5, cq6, cq7, cq8, cq9, cq10, cq12, cq16, outQ1, outQ2, outQ3, outQ4, outQ5, evN_at, evB_at, evS_at, evLen_z1, evLen_z2, evBit_z, at_n, at_b, at_s, at_z, at_k, at_kb, kG, kQ, kQ1, List.map_cons, List.map_nil, List.cons_append, List.nil_append, decide_eq_true_eq, Bool.false_eq_true, G_planeRoots0_fitsT, ctF_fitsT, G_planeRoots0_cut, ctF_cut, G_planeRoots0_rcut, ctF_rcut, G_planeRoots0_intersect, ctF_intersect, G_planeRoots0_rintersect, ctF_rintersect, G_planeRoots0_apex, ctF_apex, G_planeRoots0_rapex, ctF_rapex, G_planeRoots0_samepT, ctF_samepT, h, ha0, hb0, ha1, hb1, ha2, hb2, eq_self]
theorem planeRootsA_any (x1 x2 x3 x4 x5 x6 x7 x8 x9 : Rat) (f : Bool) (h : f_fits (List.map QA.at [.q x1, .q x2, .q x3, .q x4, .q x5, .q x6, .q x7, .q x8, .q x9, .b f]) = some [.b true]) : ∃ FA A1 B1, Ct.ok Tryz.prog 5 { args := [[.r, .r, .r, .r, .r, .r, .r, .r, .r, .b]], res := [[.b]], F := FA, L := 2, A := A1, B := B1 } ∧ FA (List.map QA.at [.q x1, .q x2, .q x3, .q x4, .q x5, .q x6, .q x7, .q x8, .q x9, .b f]) = some [.b true] := by
  exact ⟨_, _, _, ev_planeRoots0, planeRoots0_den _ _ _ _ _ _ _ _ _ _ h⟩
set_option maxRecDepth 100000 in
theorem planeRoots_liftedU (os : Os) (started : os.Started) (H : Type) (enc : TypeId × Value → H) (F : Stop.Interp) :
    ReturnsInHanded {} Tryz.checked os 5 .any ((Rows.OpenSpec.upto Rows.planeRootsSpec).pre6 enc Tryz.prog Tryz.f5 Rows.planeRootsUptoRow.domain false) (((Rows.OpenSpec.upto Rows.planeRootsSpec).at F).post enc Tryz.prog Tryz.f5 false true false false) := by
  refine law_liftedU (C := Tryz.checked) (s := Rows.planeRootsSpec) Tryz.own Tryz.laidOut (by kernel_rfl) Tryz.func5 rfl 4 rfl Tryz.underlying4 (by kernel_rfl) enc ?_ ?_ os started F
    (OpenSpec.witness (enc := enc) (C := Tryz.checked) (s := Rows.OpenSpec.upto Rows.planeRootsSpec) (k := Rows.uptoSmall) rfl false ⟨#[], #[.agg #[.bool false, .slice none 0 0, .slice none 0 0, .bool false, .slice none 0 0, .slice none 0 0, .bool false, .slice none 0 0, .slice none 0 0, .bool false, .slice none 0 0, .slice none 0 0, .bool false, .slice none 0 0, .slice none 0 0, .bool false, .slice none 0 0, .slice none 0 0, .bool false, .slice none 0 0, .slice none 0 0, .bool false, .slice none 0 0, .slice none 0 0, .bool false, .slice none 0 0, .slice none 0 0, .bool false]], []⟩ 8 (by kernel_rfl) (by kernel_rfl) (by kernel_rfl) (x := ([.agg [.agg [.agg [.agg [.lit (.bool false), .nil], .nil], .agg [.agg [.lit (.bool false), .nil], .nil]], .agg [.agg [.agg [.lit (.bool false), .nil], .nil], .agg [.agg [.lit (.bool false), .nil], .nil]], .agg [.agg [.agg [.lit (.bool false), .nil], .nil], .agg [.agg [.lit (.bool false), .nil], .nil]], .agg [.agg [.agg [.lit (.bool false), .nil], .nil], .agg [.agg [.lit (.bool false), .nil], .nil]], .agg [.agg [.lit (.bool false), .nil], .nil], .lit (.bool false)]], [], [])) (by kernel_rfl) rfl (by kernel_rfl))
  · intro ds hl
    match ds, hl with
    | [d0], _ => rfl
  · intro W base args ds ps hval hA hlt hk
    have hA' : DataW.TrodAll enc Tryz.prog W 0 (fun _ => true) true [31] args.toList ds ps := hA
    have hval' : ∀ (j : Nat) t v, Tryz.f5.params[j]? = some t → args[j]? = some v → Value.okWide Tryz.prog W .any base t v := hval
    obtain ⟨v0, d0, rfl, rfl, h0⟩ := Go.ChangeShapes.trodAll_one hA'
    simp only [Rows.uptoBulkAll] at hk
    have hb_x : Rows.uptoBulk d0 ≤ 1048576 := by omega
    obtain ⟨als_x, hr_x, hg_x⟩ := open_Case (hval' 0 31 v0 rfl rfl) h0
    exact case_law ev_planeRootsB planeRootsA_any (fun _ _ _ _ _ _ _ _ _ _ _ _ _ _ _ _ _ _ _ _ _ _ _ _ _ _ _ _ h => planeRootsB_den _ _ _ _ _ _ _ _ _ _ _ _ _ _ _ _ _ _ _ _ _ _ _ _ _ _ _ _ h) hr_x hg_x hb_x

theorem planeRootsUpto_holds : Rows.PlaneRootsUptoSaid :=
  OpenClaim.holds_of_cond 5 Tryz.f5 rfl rfl rfl rfl rfl rfl rfl ⟨rfl, rfl, rfl, rfl, rfl⟩ rfl rfl rfl rfl rfl (by kernel_rfl) Tryz.func5 (by kernel_rfl)
    (of_decide_eq_true (by kernel_rfl)) (by unfold Func.isWrapper; first | (rw [if_pos (by decide +kernel)]; kernel_rfl) | (rw [if_neg (by decide +kernel)]; exact ⟨rfl, rfl⟩))
    (fun os started H enc _ F => planeRoots_liftedU os started H enc F)
end Go.Proofs.YtnfchljiicniiaaGreat
