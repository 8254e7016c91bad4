/- Points: the laws of vectors and points. -/
import Derived.Test.YtnfchljiicniiaaPl5
namespace Go.Proofs.Ytnfchljiicniiaa
open Go Go.RowKit Go.V Go.ChangeMaps
set_option linter.unusedSimpArgs false
set_option linter.unusedVariables false
set_option maxRecDepth 20000
def GPL : Gam := gamOf [(74, ct_dadd), (83, ct_dradd), (71, ct_dsub), (84, ct_drsub), (65, ct_dmul), (67, ct_drmul), (73, ct_dneg), (86, ct_drneg), (63, ct_dof), (60, ct_drof), (32, ct_drfrac), (70, ct_dsign), (37, ct_drsign), (77, ct_dcmp), (52, ct_drcmp), (42, ct_dequal), (15, ct_drequal), (14, ct_drright), (9, ct_pequal), (10, ct_rpequal), (11, ct_ppdot), (16, ct_rpdot), (12, ct_ppcross), (17, ct_rpcross), (13, ct_ppnorm), (18, ct_rpnorm), (20, ct_divide), (21, ct_rdivide), (22, ct_shiftp), (23, ct_rshiftp), (24, ct_turn), (25, ct_rturn), (26, ct_oncircle), (27, ct_roncircle), (28, ct_foot), (31, ct_mirror), (33, ct_meet), (34, ct_other), (35, ct_center), (36, ct_cut), (38, ct_intersect), (8, ct_fits), (19, ct_samep)]
theorem GPL_ok : GamOk Try.prog GPL := gamOk_of ⟨ok_dadd, ok_dradd, ok_dsub, ok_drsub, ok_dmul, ok_drmul, ok_dneg, ok_drneg, ok_dof, ok_drof, ok_drfrac, ok_dsign, ok_drsign, ok_dcmp, ok_drcmp, ok_dequal, ok_drequal, ok_drright, ok_pequal, ok_rpequal, ok_ppdot, ok_rpdot, ok_ppcross, ok_rpcross, ok_ppnorm, ok_rpnorm, ok_divide, ok_rdivide, ok_shiftp, ok_rshiftp, ok_turn, ok_rturn, ok_oncircle, ok_roncircle, ok_foot, ok_mirror, ok_meet, ok_other, ok_center, ok_cut, ok_intersect, ok_fits, ok_samep, trivial⟩
theorem GPL_dadd : GPL 74 = some ct_dadd := rfl
theorem GPL_dradd : GPL 83 = some ct_dradd := rfl
theorem GPL_dsub : GPL 71 = some ct_dsub := rfl
theorem GPL_drsub : GPL 84 = some ct_drsub := rfl
theorem GPL_dmul : GPL 65 = some ct_dmul := rfl
theorem GPL_drmul : GPL 67 = some ct_drmul := rfl
theorem GPL_dneg : GPL 73 = some ct_dneg := rfl
theorem GPL_drneg : GPL 86 = some ct_drneg := rfl
theorem GPL_dof : GPL 63 = some ct_dof := rfl
theorem GPL_drof : GPL 60 = some ct_drof := rfl
theorem GPL_drfrac : GPL 32 = some ct_drfrac := rfl
theorem GPL_dsign : GPL 70 = some ct_dsign := rfl
theorem GPL_drsign : GPL 37 = some ct_drsign := rfl
theorem GPL_dcmp : GPL 77 = some ct_dcmp := rfl
theorem GPL_drcmp : GPL 52 = some ct_drcmp := rfl
theorem GPL_dequal : GPL 42 = some ct_dequal := rfl
theorem GPL_drequal : GPL 15 = some ct_drequal := rfl
theorem GPL_drright : GPL 14 = some ct_drright := rfl
theorem GPL_pequal : GPL 9 = some ct_pequal := rfl
theorem GPL_rpequal : GPL 10 = some ct_rpequal := rfl
theorem GPL_ppdot : GPL 11 = some ct_ppdot := rfl
theorem GPL_rpdot : GPL 16 = some ct_rpdot := rfl
theorem GPL_ppcross : GPL 12 = some ct_ppcross := rfl
theorem GPL_rpcross : GPL 17 = some ct_rpcross := rfl
theorem GPL_ppnorm : GPL 13 = some ct_ppnorm := rfl
theorem GPL_rpnorm : GPL 18 = some ct_rpnorm := rfl
theorem GPL_divide : GPL 20 = some ct_divide := rfl
theorem GPL_rdivide : GPL 21 = some ct_rdivide := rfl
theorem GPL_shiftp : GPL 22 = some ct_shiftp := rfl
theorem GPL_rshiftp : GPL 23 = some ct_rshiftp := rfl
theorem GPL_turn : GPL 24 = some ct_turn := rfl
theorem GPL_rturn : GPL 25 = some ct_rturn := rfl
theorem GPL_oncircle : GPL 26 = some ct_oncircle := rfl
theorem GPL_roncircle : GPL 27 = some ct_roncircle := rfl
theorem GPL_foot : GPL 28 = some ct_foot := rfl
theorem GPL_mirror : GPL 31 = some ct_mirror := rfl
theorem GPL_meet : GPL 33 = some ct_meet := rfl
theorem GPL_other : GPL 34 = some ct_other := rfl
theorem GPL_center : GPL 35 = some ct_center := rfl
theorem GPL_cut : GPL 36 = some ct_cut := rfl
theorem GPL_intersect : GPL 38 = some ct_intersect := rfl
theorem GPL_fits : GPL 8 = some ct_fits := rfl
theorem GPL_samep : GPL 19 = some ct_samep := rfl
def tr_planeVectorsA : Tr (List SA) := (.call 8 [(.ob 0), (.ob 1), (.ob 2), (.ob 3), (.ob 4), (.ob 5), (.ob 6), (.ob 7), (.ob 8), (.b (.var 9))] 10 (.br (.not (.var 10)) (.leaf [(.b (.lit true))]) (.call 9 [(.ob 0), (.ob 1), (.ob 2), (.ob 3)] 11 (.call 10 [(.ob 0), (.ob 1), (.ob 2), (.ob 3)] 12 (.br (.not (.beq (.var 11) (.var 12))) (.leaf [(.b (.lit false))]) (.call 9 [(.ob 4), (.ob 5), (.ob 4), (.ob 5)] 13 (.br (.not (.var 13)) (.leaf [(.b (.lit false))]) (.call 11 [(.ob 0), (.ob 1), (.ob 2), (.ob 3), (.ob 4), (.ob 5), (.ob 6), (.ob 7)] 14 (.call 12 [(.ob 0), (.ob 1), (.ob 2), (.ob 3), (.ob 4), (.ob 5), (.ob 6), (.ob 7)] 15 (.call 13 [(.ob 0), (.ob 1), (.ob 2), (.ob 3)] 16 (.call 14 [(.ob 14)] 17 (.br (.not (.var 17)) (.leaf [(.b (.lit false))]) (.call 14 [(.ob 15)] 18 (.br (.not (.var 18)) (.leaf [(.b (.lit false))]) (.call 14 [(.ob 16)] 19 (.br (.not (.var 19)) (.leaf [(.b (.lit false))]) (.call 16 [(.ob 0), (.ob 1), (.ob 2), (.ob 3), (.ob 4), (.ob 5), (.ob 6), (.ob 7)] 20 (.call 15 [(.ob 14), (.ob 20)] 21 (.br (.var 21) (.call 17 [(.ob 0), (.ob 1), (.ob 2), (.ob 3), (.ob 4), (.ob 5), (.ob 6), (.ob 7)] 22 (.call 15 [(.ob 15), (.ob 22)] 23 (.br (.var 23) (.call 18 [(.ob 0), (.ob 1), (.ob 2), (.ob 3)] 24 (.call 15 [(.ob 16), (.ob 24)] 25 (.leaf [(.b (.var 25))]))) (.leaf [(.b (.lit false))])))) (.leaf [(.b (.lit false))]))))))))))))))))))))
theorem ev_planeVectorsA : Ct.ok Try.prog 3 { args := [[.r, .r, .r, .r, .r, .r, .r, .r, .r, .b]], res := [[.b]], F := fun als => tr_planeVectorsA.den GPL (env0 als), L := 2, A := 0, B := 0 } :=
  top_ok (by kernel_rfl) GPL_ok (plans := planF) (lf := 60) (k := 20) (by kernel_rfl)
def tr_planeVectorsB : Tr (List SA) := (.call 8 [(.ob 0), (.ob 1), (.ob 2), (.ob 3), (.ob 4), (.ob 5), (.ob 6), (.ob 7), (.ob 8), (.b (.var 9))] 10 (.br (.not (.var 10)) (.leaf [(.b (.lit true))]) .bad))
theorem ev_planeVectorsB : Ct.ok Try.prog 3 { args := [[.r, .r, .r, .r, .r, .r, .r, .r, .r, .b]], res := [[.b]], F := fun als => tr_planeVectorsB.den GPL (env0 als), L := 1048576, A := 0, B := 0 } :=
  top_ok (by kernel_rfl) GPL_ok (plans := planF) (lf := 60) (k := 20) (by kernel_rfl)
theorem planeVectorsB_den (a1 : Bool) (l1 m1 : List Nat) (a2 : Bool) (l2 m2 : List Nat) (a3 : Bool) (l3 m3 : List Nat) (a4 : Bool) (l4 m4 : List Nat) (a5 : Bool) (l5 m5 : List Nat) (a6 : Bool) (l6 m6 : List Nat) (a7 : Bool) (l7 m7 : List Nat) (a8 : Bool) (l8 m8 : List Nat) (a9 : Bool) (l9 m9 : List Nat) (f : Bool) (h : f_fits [.r a1 l1 m1, .r a2 l2 m2, .r a3 l3 m3, .r a4 l4 m4, .r a5 l5 m5, .r a6 l6 m6, .r a7 l7 m7, .r a8 l8 m8, .r a9 l9 m9, .b f] = some [.b false]) : tr_planeVectorsB.den GPL (env0 [.r a1 l1 m1, .r a2 l2 m2, .r a3 l3 m3, .r a4 l4 m4, .r a5 l5 m5, .r a6 l6 m6, .r a7 l7 m7, .r a8 l8 m8, .r a9 l9 m9, .b f]) = some [.b true] := by
  simp only [tr_planeVectorsB, Tr.den, evAll, SA.ev, BE.ev, IE.ev, SE.ev, LE.ev, env0, extE_eq, pickO, evN, evB, evS, evLen, evBit, evLst, At.len, At.bit, At.lst, op1, op2, op3, Nat.reduceLeDiff, Nat.reduceSub, Nat.reduceEqDiff, if_true, if_false, ite_true, ite_false, decide_true, decide_false, Bool.not_true, Bool.not_false, Nat.zero_le, Nat.sub_zero, List.getElem?_cons_zero, List.getElem?_cons_succ, List.getElem?_nil, GPL_dadd, ctF_dadd, GPL_dradd, ctF_dradd, GPL_dsub, ctF_dsub, GPL_drsub, ctF_drsub, GPL_dmul, ctF_dmul, GPL_drmul, ctF_drmul, GPL_dneg, ctF_dneg, GPL_drneg, ctF_drneg, GPL_dof, ctF_dof, GPL_drof, ctF_drof, GPL_drfrac, ctF_drfrac, GPL_dsign, ctF_dsign, GPL_drsign, ctF_drsign, GPL_dcmp, ctF_dcmp, GPL_drcmp, ctF_drcmp, GPL_dequal, ctF_dequal, GPL_drequal, ctF_drequal, GPL_drright, ctF_drright, GPL_pequal, ctF_pequal, GPL_rpequal, ctF_rpequal, GPL_ppdot, ctF_ppdot, GPL_rpdot, ctF_rpdot, GPL_ppcross, ctF_ppcross, GPL_rpcross, ctF_rpcross, GPL_ppnorm, ctF_ppnorm, GPL_rpnorm, ctF_rpnorm, GPL_divide, ctF_divide, GPL_rdivide, ctF_rdivide, GPL_shiftp, ctF_shiftp, GPL_rshiftp, ctF_rshiftp, GPL_turn, ctF_turn, GPL_rturn, ctF_rturn, GPL_oncircle, ctF_oncircle, GPL_roncircle, ctF_roncircle, GPL_foot, ctF_foot, GPL_mirror, ctF_mirror, GPL_meet, ctF_meet, GPL_other, ctF_other, GPL_center, ctF_center, GPL_cut, ctF_cut, GPL_intersect, ctF_intersect, GPL_fits, ctF_fits, GPL_samep, ctF_samep, h]
theorem planeVectorsA_den (x1 x2 x3 x4 x5 x6 x7 x8 x9 : Rat) (f : Bool) (h : f_fits (List.map QA.at [.q x1, .q x2, .q x3, .q x4, .q x5, .q x6, .q x7, .q x8, .q x9, .b f]) = some [.b true]) : tr_planeVectorsA.den GPL (env0 (List.map QA.at [.q x1, .q x2, .q x3, .q x4, .q x5, .q x6, .q x7, .q x8, .q x9, .b f])) = some [.b true] := by
  simp only [List.map_cons, List.map_nil] at h
  simp only [tr_planeVectorsA, Tr.den, evAll, SA.ev, BE.ev, IE.ev, SE.ev, LE.ev, env0, extE_eq, pickO, op1, op2, op3, Nat.reduceLeDiff, Nat.reduceSub, Nat.reduceEqDiff, if_true, if_false, ite_true, ite_false, decide_true, decide_false, Bool.not_true, Bool.not_false, Nat.zero_le, Nat.sub_zero, List.getElem?_cons_zero, List.getElem?_cons_succ, List.getElem?_nil, cq0, cq1, cq2, cq3, cq4, cq5, cq6, cq7, cq8, cq9, cq10, outQ1, outQ2, outQ3, outQ4, outQ5, evN_at, evB_at, evS_at, evLen_z1, evLen_z2, evBit_z, at_n, at_b, at_s, at_z, List.map_cons, List.map_nil, List.cons_append, List.nil_append, decide_eq_true_eq, Bool.false_eq_true, GPL_dadd, ctF_dadd, GPL_dradd, ctF_dradd, GPL_dsub, ctF_dsub, GPL_drsub, ctF_drsub, GPL_dmul, ctF_dmul, GPL_drmul, ctF_drmul, GPL_dneg, ctF_dneg, GPL_drneg, ctF_drneg, GPL_dof, ctF_dof, GPL_drof, ctF_drof, GPL_drfrac, ctF_drfrac, GPL_dsign, ctF_dsign, GPL_drsign, ctF_drsign, GPL_dcmp, ctF_dcmp, GPL_drcmp, ctF_drcmp, GPL_dequal, ctF_dequal, GPL_drequal, ctF_drequal, GPL_drright, ctF_drright, GPL_pequal, ctF_pequal, GPL_rpequal, ctF_rpequal, GPL_ppdot, ctF_ppdot, GPL_rpdot, ctF_rpdot, GPL_ppcross, ctF_ppcross, GPL_rpcross, ctF_rpcross, GPL_ppnorm, ctF_ppnorm, GPL_rpnorm, ctF_rpnorm, GPL_divide, ctF_divide, GPL_rdivide, ctF_rdivide, GPL_shiftp, ctF_shiftp, GPL_rshiftp, ctF_rshiftp, GPL_turn, ctF_turn, GPL_rturn, ctF_rturn, GPL_oncircle, ctF_oncircle, GPL_roncircle, ctF_roncircle, GPL_foot, ctF_foot, GPL_mirror, ctF_mirror, GPL_meet, ctF_meet, GPL_other, ctF_other, GPL_center, ctF_center, GPL_cut, ctF_cut, GPL_intersect, ctF_intersect, GPL_fits, ctF_fits, GPL_samep, ctF_samep, h, g_pequal, g_pdot, g_pcross, g_pnorm, g_right, g_equal, eq_self, and_self, beq_self_eq_true]
set_option maxRecDepth 100000 in
theorem planeVectors_liftedU (os : Os) (started : os.Started) (H : Type) (enc : TypeId × Value → H) (F : Stop.Interp) :
    ReturnsInHanded {} Try.checked os 3 .any ((Rows.OpenSpec.upto Rows.planeVectorsSpec).pre6 enc Try.prog Try.f3 Rows.planeVectorsUptoRow.domain false) (((Rows.OpenSpec.upto Rows.planeVectorsSpec).at F).post enc Try.prog Try.f3 false true false false) := by
  refine law_liftedU (C := Try.checked) (s := Rows.planeVectorsSpec) Try.own Try.laidOut (by kernel_rfl) Try.func3 rfl 4 rfl Try.underlying4 (by kernel_rfl) enc ?_ ?_ os started F
    (OpenSpec.witness (enc := enc) (C := Try.checked) (s := Rows.OpenSpec.upto Rows.planeVectorsSpec) (k := Rows.uptoSmall) rfl false ⟨#[], #[.agg #[.bool false, .slice none 0 0, .slice none 0 0, .bool false, .slice none 0 0, .slice none 0 0, .bool false, .slice none 0 0, .slice none 0 0, .bool false, .slice none 0 0, .slice none 0 0, .bool false, .slice none 0 0, .slice none 0 0, .bool false, .slice none 0 0, .slice none 0 0, .bool false, .slice none 0 0, .slice none 0 0, .bool false, .slice none 0 0, .slice none 0 0, .bool false, .slice none 0 0, .slice none 0 0, .bool false]], []⟩ 8 (by kernel_rfl) (by kernel_rfl) (by kernel_rfl) (x := ([.agg [.agg [.agg [.agg [.lit (.bool false), .nil], .nil], .agg [.agg [.lit (.bool false), .nil], .nil]], .agg [.agg [.agg [.lit (.bool false), .nil], .nil], .agg [.agg [.lit (.bool false), .nil], .nil]], .agg [.agg [.agg [.lit (.bool false), .nil], .nil], .agg [.agg [.lit (.bool false), .nil], .nil]], .agg [.agg [.agg [.lit (.bool false), .nil], .nil], .agg [.agg [.lit (.bool false), .nil], .nil]], .agg [.agg [.lit (.bool false), .nil], .nil], .lit (.bool false)]], [], [])) (by kernel_rfl) rfl (by kernel_rfl))
  · intro ds hl
    match ds, hl with
    | [d0], _ => rfl
  · intro W base args ds ps hval hA hlt hk
    have hA' : DataW.TrodAll enc Try.prog W 0 (fun _ => true) true [31] args.toList ds ps := hA
    have hval' : ∀ (j : Nat) t v, Try.f3.params[j]? = some t → args[j]? = some v → Value.okWide Try.prog W .any base t v := hval
    obtain ⟨v0, d0, rfl, rfl, h0⟩ := Go.ChangeShapes.trodAll_one hA'
    simp only [Rows.uptoBulkAll] at hk
    have hb_x : Rows.uptoBulk d0 ≤ 1048576 := by omega
    obtain ⟨als_x, hr_x, hg_x⟩ := open_Case (hval' 0 31 v0 rfl rfl) h0
    exact case_law ev_planeVectorsA ev_planeVectorsB planeVectorsA_den (fun _ _ _ _ _ _ _ _ _ _ _ _ _ _ _ _ _ _ _ _ _ _ _ _ _ _ _ _ h => planeVectorsB_den _ _ _ _ _ _ _ _ _ _ _ _ _ _ _ _ _ _ _ _ _ _ _ _ _ _ _ _ h) hr_x hg_x hb_x

theorem planeVectorsUpto_holds : Rows.PlaneVectorsUptoSaid :=
  OpenClaim.holds_of_cond 3 Try.f3 rfl rfl rfl rfl rfl rfl rfl ⟨rfl, rfl, rfl, rfl, rfl⟩ rfl rfl rfl rfl rfl (by kernel_rfl) Try.func3 (by kernel_rfl)
    (of_decide_eq_true (by kernel_rfl)) (by unfold Func.isWrapper; first | (rw [if_pos (by decide +kernel)]; kernel_rfl) | (rw [if_neg (by decide +kernel)]; exact ⟨rfl, rfl⟩))
    (fun os started H enc _ F => planeVectors_liftedU os started H enc F)
def tr_planePointsA : Tr (List SA) := (.call 8 [(.ob 0), (.ob 1), (.ob 2), (.ob 3), (.ob 4), (.ob 5), (.ob 6), (.ob 7), (.ob 8), (.b (.var 9))] 10 (.br (.not (.var 10)) (.leaf [(.b (.lit true))]) (.call 20 [(.ob 0), (.ob 1), (.ob 2), (.ob 3), (.ob 8)] 11 (.call 21 [(.ob 0), (.ob 1), (.ob 2), (.ob 3), (.ob 8)] 13 (.call 19 [(.ob 11), (.ob 12), (.n (.lit 0)), (.ob 13), (.ob 14), (.n (.lit 0))] 15 (.br (.not (.var 15)) (.leaf [(.b (.lit false))]) (.call 22 [(.ob 4), (.ob 5), (.ob 0), (.ob 1), (.ob 2), (.ob 3)] 16 (.call 23 [(.ob 4), (.ob 5), (.ob 0), (.ob 1), (.ob 2), (.ob 3)] 18 (.call 19 [(.ob 16), (.ob 17), (.n (.lit 0)), (.ob 18), (.ob 19), (.n (.lit 0))] 20 (.br (.not (.var 20)) (.leaf [(.b (.lit false))]) (.call 24 [(.ob 4), (.ob 5), (.ob 0), (.ob 1), (.ob 2), (.ob 3)] 21 (.call 25 [(.ob 4), (.ob 5), (.ob 0), (.ob 1), (.ob 2), (.ob 3)] 23 (.call 19 [(.ob 21), (.ob 22), (.n (.lit 0)), (.ob 23), (.ob 24), (.n (.lit 0))] 25 (.br (.not (.var 25)) (.leaf [(.b (.lit false))]) (.call 26 [(.ob 0), (.ob 1), (.ob 2), (.ob 3), (.ob 8)] 26 (.call 27 [(.ob 0), (.ob 1), (.ob 2), (.ob 3), (.ob 8)] 28 (.call 19 [(.ob 26), (.ob 27), (.n (.lit 0)), (.ob 28), (.ob 29), (.n (.lit 0))] 30 (.leaf [(.b (.var 30))]))))))))))))))))))
theorem ev_planePointsA : Ct.ok Try.prog 4 { args := [[.r, .r, .r, .r, .r, .r, .r, .r, .r, .b]], res := [[.b]], F := fun als => tr_planePointsA.den GPL (env0 als), L := 2, A := 0, B := 0 } :=
  top_ok (by kernel_rfl) GPL_ok (plans := planF) (lf := 60) (k := 20) (by kernel_rfl)
def tr_planePointsB : Tr (List SA) := (.call 8 [(.ob 0), (.ob 1), (.ob 2), (.ob 3), (.ob 4), (.ob 5), (.ob 6), (.ob 7), (.ob 8), (.b (.var 9))] 10 (.br (.not (.var 10)) (.leaf [(.b (.lit true))]) .bad))
theorem ev_planePointsB : Ct.ok Try.prog 4 { args := [[.r, .r, .r, .r, .r, .r, .r, .r, .r, .b]], res := [[.b]], F := fun als => tr_planePointsB.den GPL (env0 als), L := 1048576, A := 0, B := 0 } :=
  top_ok (by kernel_rfl) GPL_ok (plans := planF) (lf := 60) (k := 20) (by kernel_rfl)
theorem planePointsB_den (a1 : Bool) (l1 m1 : List Nat) (a2 : Bool) (l2 m2 : List Nat) (a3 : Bool) (l3 m3 : List Nat) (a4 : Bool) (l4 m4 : List Nat) (a5 : Bool) (l5 m5 : List Nat) (a6 : Bool) (l6 m6 : List Nat) (a7 : Bool) (l7 m7 : List Nat) (a8 : Bool) (l8 m8 : List Nat) (a9 : Bool) (l9 m9 : List Nat) (f : Bool) (h : f_fits [.r a1 l1 m1, .r a2 l2 m2, .r a3 l3 m3, .r a4 l4 m4, .r a5 l5 m5, .r a6 l6 m6, .r a7 l7 m7, .r a8 l8 m8, .r a9 l9 m9, .b f] = some [.b false]) : tr_planePointsB.den GPL (env0 [.r a1 l1 m1, .r a2 l2 m2, .r a3 l3 m3, .r a4 l4 m4, .r a5 l5 m5, .r a6 l6 m6, .r a7 l7 m7, .r a8 l8 m8, .r a9 l9 m9, .b f]) = some [.b true] := by
  simp only [tr_planePointsB, Tr.den, evAll, SA.ev, BE.ev, IE.ev, SE.ev, LE.ev, env0, extE_eq, pickO, evN, evB, evS, evLen, evBit, evLst, At.len, At.bit, At.lst, op1, op2, op3, Nat.reduceLeDiff, Nat.reduceSub, Nat.reduceEqDiff, if_true, if_false, ite_true, ite_false, decide_true, decide_false, Bool.not_true, Bool.not_false, Nat.zero_le, Nat.sub_zero, List.getElem?_cons_zero, List.getElem?_cons_succ, List.getElem?_nil, GPL_dadd, ctF_dadd, GPL_dradd, ctF_dradd, GPL_dsub, ctF_dsub, GPL_drsub, ctF_drsub, GPL_dmul, ctF_dmul, GPL_drmul, ctF_drmul, GPL_dneg, ctF_dneg, GPL_drneg, ctF_drneg, GPL_dof, ctF_dof, GPL_drof, ctF_drof, GPL_drfrac, ctF_drfrac, GPL_dsign, ctF_dsign, GPL_drsign, ctF_drsign, GPL_dcmp, ctF_dcmp, GPL_drcmp, ctF_drcmp, GPL_dequal, ctF_dequal, GPL_drequal, ctF_drequal, GPL_drright, ctF_drright, GPL_pequal, ctF_pequal, GPL_rpequal, ctF_rpequal, GPL_ppdot, ctF_ppdot, GPL_rpdot, ctF_rpdot, GPL_ppcross, ctF_ppcross, GPL_rpcross, ctF_rpcross, GPL_ppnorm, ctF_ppnorm, GPL_rpnorm, ctF_rpnorm, GPL_divide, ctF_divide, GPL_rdivide, ctF_rdivide, GPL_shiftp, ctF_shiftp, GPL_rshiftp, ctF_rshiftp, GPL_turn, ctF_turn, GPL_rturn, ctF_rturn, GPL_oncircle, ctF_oncircle, GPL_roncircle, ctF_roncircle, GPL_foot, ctF_foot, GPL_mirror, ctF_mirror, GPL_meet, ctF_meet, GPL_other, ctF_other, GPL_center, ctF_center, GPL_cut, ctF_cut, GPL_intersect, ctF_intersect, GPL_fits, ctF_fits, GPL_samep, ctF_samep, h]
theorem planePointsA_den (x1 x2 x3 x4 x5 x6 x7 x8 x9 : Rat) (f : Bool) (h : f_fits (List.map QA.at [.q x1, .q x2, .q x3, .q x4, .q x5, .q x6, .q x7, .q x8, .q x9, .b f]) = some [.b true]) : tr_planePointsA.den GPL (env0 (List.map QA.at [.q x1, .q x2, .q x3, .q x4, .q x5, .q x6, .q x7, .q x8, .q x9, .b f])) = some [.b true] := by
  simp only [List.map_cons, List.map_nil] at h
  simp only [tr_planePointsA, Tr.den, evAll, SA.ev, BE.ev, IE.ev, SE.ev, LE.ev, env0, extE_eq, pickO, op1, op2, op3, Nat.reduceLeDiff, Nat.reduceSub, Nat.reduceEqDiff, if_true, if_false, ite_true, ite_false, decide_true, decide_false, Bool.not_true, Bool.not_false, Nat.zero_le, Nat.sub_zero, List.getElem?_cons_zero, List.getElem?_cons_succ, List.getElem?_nil, cq0, cq1, cq2, cq3, cq4, cq5, cq6, cq7, cq8, cq9, cq10, outQ1, outQ2, outQ3, outQ4, outQ5, evN_at, evB_at, evS_at, evLen_z1, evLen_z2, evBit_z, at_n, at_b, at_s, at_z, List.map_cons, List.map_nil, List.cons_append, List.nil_append, decide_eq_true_eq, Bool.false_eq_true, GPL_dadd, ctF_dadd, GPL_dradd, ctF_dradd, GPL_dsub, ctF_dsub, GPL_drsub, ctF_drsub, GPL_dmul, ctF_dmul, GPL_drmul, ctF_drmul, GPL_dneg, ctF_dneg, GPL_drneg, ctF_drneg, GPL_dof, ctF_dof, GPL_drof, ctF_drof, GPL_drfrac, ctF_drfrac, GPL_dsign, ctF_dsign, GPL_drsign, ctF_drsign, GPL_dcmp, ctF_dcmp, GPL_drcmp, ctF_drcmp, GPL_dequal, ctF_dequal, GPL_drequal, ctF_drequal, GPL_drright, ctF_drright, GPL_pequal, ctF_pequal, GPL_rpequal, ctF_rpequal, GPL_ppdot, ctF_ppdot, GPL_rpdot, ctF_rpdot, GPL_ppcross, ctF_ppcross, GPL_rpcross, ctF_rpcross, GPL_ppnorm, ctF_ppnorm, GPL_rpnorm, ctF_rpnorm, GPL_divide, ctF_divide, GPL_rdivide, ctF_rdivide, GPL_shiftp, ctF_shiftp, GPL_rshiftp, ctF_rshiftp, GPL_turn, ctF_turn, GPL_rturn, ctF_rturn, GPL_oncircle, ctF_oncircle, GPL_roncircle, ctF_roncircle, GPL_foot, ctF_foot, GPL_mirror, ctF_mirror, GPL_meet, ctF_meet, GPL_other, ctF_other, GPL_center, ctF_center, GPL_cut, ctF_cut, GPL_intersect, ctF_intersect, GPL_fits, ctF_fits, GPL_samep, ctF_samep, h, g_divide, g_shiftp, g_turn, g_oncircle, g_same, eq_self, and_self]
set_option maxRecDepth 100000 in
theorem planePoints_liftedU (os : Os) (started : os.Started) (H : Type) (enc : TypeId × Value → H) (F : Stop.Interp) :
    ReturnsInHanded {} Try.checked os 4 .any ((Rows.OpenSpec.upto Rows.planePointsSpec).pre6 enc Try.prog Try.f4 Rows.planePointsUptoRow.domain false) (((Rows.OpenSpec.upto Rows.planePointsSpec).at F).post enc Try.prog Try.f4 false true false false) := by
  refine law_liftedU (C := Try.checked) (s := Rows.planePointsSpec) Try.own Try.laidOut (by kernel_rfl) Try.func4 rfl 4 rfl Try.underlying4 (by kernel_rfl) enc ?_ ?_ os started F
    (OpenSpec.witness (enc := enc) (C := Try.checked) (s := Rows.OpenSpec.upto Rows.planePointsSpec) (k := Rows.uptoSmall) rfl false ⟨#[], #[.agg #[.bool false, .slice none 0 0, .slice none 0 0, .bool false, .slice none 0 0, .slice none 0 0, .bool false, .slice none 0 0, .slice none 0 0, .bool false, .slice none 0 0, .slice none 0 0, .bool false, .slice none 0 0, .slice none 0 0, .bool false, .slice none 0 0, .slice none 0 0, .bool false, .slice none 0 0, .slice none 0 0, .bool false, .slice none 0 0, .slice none 0 0, .bool false, .slice none 0 0, .slice none 0 0, .bool false]], []⟩ 8 (by kernel_rfl) (by kernel_rfl) (by kernel_rfl) (x := ([.agg [.agg [.agg [.agg [.lit (.bool false), .nil], .nil], .agg [.agg [.lit (.bool false), .nil], .nil]], .agg [.agg [.agg [.lit (.bool false), .nil], .nil], .agg [.agg [.lit (.bool false), .nil], .nil]], .agg [.agg [.agg [.lit (.bool false), .nil], .nil], .agg [.agg [.lit (.bool false), .nil], .nil]], .agg [.agg [.agg [.lit (.bool false), .nil], .nil], .agg [.agg [.lit (.bool false), .nil], .nil]], .agg [.agg [.lit (.bool false), .nil], .nil], .lit (.bool false)]], [], [])) (by kernel_rfl) rfl (by kernel_rfl))
  · intro ds hl
    match ds, hl with
    | [d0], _ => rfl
  · intro W base args ds ps hval hA hlt hk
    have hA' : DataW.TrodAll enc Try.prog W 0 (fun _ => true) true [31] args.toList ds ps := hA
    have hval' : ∀ (j : Nat) t v, Try.f4.params[j]? = some t → args[j]? = some v → Value.okWide Try.prog W .any base t v := hval
    obtain ⟨v0, d0, rfl, rfl, h0⟩ := Go.ChangeShapes.trodAll_one hA'
    simp only [Rows.uptoBulkAll] at hk
    have hb_x : Rows.uptoBulk d0 ≤ 1048576 := by omega
    obtain ⟨als_x, hr_x, hg_x⟩ := open_Case (hval' 0 31 v0 rfl rfl) h0
    exact case_law ev_planePointsA ev_planePointsB planePointsA_den (fun _ _ _ _ _ _ _ _ _ _ _ _ _ _ _ _ _ _ _ _ _ _ _ _ _ _ _ _ h => planePointsB_den _ _ _ _ _ _ _ _ _ _ _ _ _ _ _ _ _ _ _ _ _ _ _ _ _ _ _ _ h) hr_x hg_x hb_x

theorem planePointsUpto_holds : Rows.PlanePointsUptoSaid :=
  OpenClaim.holds_of_cond 4 Try.f4 rfl rfl rfl rfl rfl rfl rfl ⟨rfl, rfl, rfl, rfl, rfl⟩ rfl rfl rfl rfl rfl (by kernel_rfl) Try.func4 (by kernel_rfl)
    (of_decide_eq_true (by kernel_rfl)) (by unfold Func.isWrapper; first | (rw [if_pos (by decide +kernel)]; kernel_rfl) | (rw [if_neg (by decide +kernel)]; exact ⟨rfl, rfl⟩))
    (fun os started H enc _ F => planePoints_liftedU os started H enc F)
end Go.Proofs.Ytnfchljiicniiaa
