/- Points: the laws of vectors and points. -/
import Derived.Test.YtnfchljiicniiaaPl5
namespace Go.Proofs.Ytnfchljiicniiaa
open Go Go.RowKit Go.V Go.ChangeMaps
set_option linter.unusedSimpArgs false
set_option linter.unusedVariables false
set_option maxRecDepth 20000
def ct_pequalT : Ct := { args := [[.r, .r], [.r, .r]], res := [[(.kb true)]], F := cq (kG g_pequal [[(.kb true)]].flatten), L := 10000000, A := 0, B := 0 }
theorem ctF_pequalT : ct_pequalT.F = cq (kG g_pequal [(.kb true)]) := rfl
theorem ok_pequalT : ct_pequalT.ok Try.prog 9 := ok_kq ok_pequal rfl
def ct_rpequalT : Ct := { args := [[.r, .r], [.r, .r]], res := [[(.kb true)]], F := cq (kG g_pequal [[(.kb true)]].flatten), L := 10000000, A := 0, B := 0 }
theorem ctF_rpequalT : ct_rpequalT.F = cq (kG g_pequal [(.kb true)]) := rfl
theorem ok_rpequalT : ct_rpequalT.ok Try.prog 10 := ok_kq ok_rpequal rfl
def ct_drrightT : Ct := { args := [[.r]], res := [[(.kb true)]], F := cq (kG g_right [[(.kb true)]].flatten), L := 1000000000, A := 0, B := 0 }
theorem ctF_drrightT : ct_drrightT.F = cq (kG g_right [(.kb true)]) := rfl
theorem ok_drrightT : ct_drrightT.ok Try.prog 14 := ok_kq ok_drright rfl
def ct_drequalT : Ct := { args := [[.r], [.r]], res := [[(.kb true)]], F := cq (kG g_equal [[(.kb true)]].flatten), L := 100000000, A := 0, B := 0 }
theorem ctF_drequalT : ct_drequalT.F = cq (kG g_equal [(.kb true)]) := rfl
theorem ok_drequalT : ct_drequalT.ok Try.prog 15 := ok_kq ok_drequal rfl
def ct_samepT : Ct := { args := [[.r, .r], [.n], [.r, .r], [.n]], res := [[(.kb true)]], F := cq (kG g_same [[(.kb true)]].flatten), L := 100000, A := 0, B := 0 }
theorem ctF_samepT : ct_samepT.F = cq (kG g_same [(.kb true)]) := rfl
theorem ok_samepT : ct_samepT.ok Try.prog 19 := ok_kq ok_samep rfl
def GB_planeVectors : Gam := gamOf [(8, ct_fitsF)]
theorem GB_planeVectors_ok : GamOk Try.prog GB_planeVectors := gamOk_of ⟨ok_fitsF, trivial⟩
theorem GB_planeVectors_fitsF : GB_planeVectors 8 = some ct_fitsF := rfl
def tr_planeVectorsB : Tr (List SA) := (.call 8 [(.ob 0), (.ob 1), (.ob 2), (.ob 3), (.ob 4), (.ob 5), (.ob 6), (.ob 7), (.ob 8), (.b (.var 9))] 10 (.leaf [(.b (.lit true))]))
theorem ev_planeVectorsB : Ct.ok Try.prog 3 { args := [[.r, .r, .r, .r, .r, .r, .r, .r, .r, .b]], res := [[.b]], F := fun als => tr_planeVectorsB.den GB_planeVectors (env0 als), L := 1048576, A := 0, B := 0 } :=
  top_ok (by kernel_rfl) GB_planeVectors_ok (plans := planF) (lf := 60) (k := 20) (by kernel_rfl)
theorem planeVectorsB_den (a1 : Bool) (l1 m1 : List Nat) (a2 : Bool) (l2 m2 : List Nat) (a3 : Bool) (l3 m3 : List Nat) (a4 : Bool) (l4 m4 : List Nat) (a5 : Bool) (l5 m5 : List Nat) (a6 : Bool) (l6 m6 : List Nat) (a7 : Bool) (l7 m7 : List Nat) (a8 : Bool) (l8 m8 : List Nat) (a9 : Bool) (l9 m9 : List Nat) (f : Bool) (h : f_fits [.r a1 l1 m1, .r a2 l2 m2, .r a3 l3 m3, .r a4 l4 m4, .r a5 l5 m5, .r a6 l6 m6, .r a7 l7 m7, .r a8 l8 m8, .r a9 l9 m9, .b f] = some [.b false]) : tr_planeVectorsB.den GB_planeVectors (env0 [.r a1 l1 m1, .r a2 l2 m2, .r a3 l3 m3, .r a4 l4 m4, .r a5 l5 m5, .r a6 l6 m6, .r a7 l7 m7, .r a8 l8 m8, .r a9 l9 m9, .b f]) = some [.b true] := by
  have h := fitsF_of h
  simp only [tr_planeVectorsB, Tr.den, evAll, SA.ev, BE.ev, IE.ev, SE.ev, LE.ev, env0, extE_eq, pickO, evN, evB, evS, evLen, evBit, evLst, At.len, At.bit, At.lst, op1, op2, op3, Nat.reduceLeDiff, Nat.reduceSub, Nat.reduceEqDiff, if_true, if_false, ite_true, ite_false, decide_true, decide_false, Bool.not_true, Bool.not_false, Nat.zero_le, Nat.sub_zero, List.getElem?_cons_zero, List.getElem?_cons_succ, List.getElem?_nil, GB_planeVectors_fitsF, ctF_fitsF, h]
def G_planeVectors0 : Gam := gamOf [(8, ct_fitsT), (9, ct_pequal), (10, ct_rpequal), (11, ct_ppdot), (16, ct_rpdot), (12, ct_ppcross), (17, ct_rpcross), (13, ct_ppnorm), (18, ct_rpnorm), (14, ct_drrightT), (15, ct_drequalT)]
theorem G_planeVectors0_ok : GamOk Try.prog G_planeVectors0 := gamOk_of ⟨ok_fitsT, ok_pequal, ok_rpequal, ok_ppdot, ok_rpdot, ok_ppcross, ok_rpcross, ok_ppnorm, ok_rpnorm, ok_drrightT, ok_drequalT, trivial⟩
theorem G_planeVectors0_fitsT : G_planeVectors0 8 = some ct_fitsT := rfl
theorem G_planeVectors0_pequal : G_planeVectors0 9 = some ct_pequal := rfl
theorem G_planeVectors0_rpequal : G_planeVectors0 10 = some ct_rpequal := rfl
theorem G_planeVectors0_ppdot : G_planeVectors0 11 = some ct_ppdot := rfl
theorem G_planeVectors0_rpdot : G_planeVectors0 16 = some ct_rpdot := rfl
theorem G_planeVectors0_ppcross : G_planeVectors0 12 = some ct_ppcross := rfl
theorem G_planeVectors0_rpcross : G_planeVectors0 17 = some ct_rpcross := rfl
theorem G_planeVectors0_ppnorm : G_planeVectors0 13 = some ct_ppnorm := rfl
theorem G_planeVectors0_rpnorm : G_planeVectors0 18 = some ct_rpnorm := rfl
theorem G_planeVectors0_drrightT : G_planeVectors0 14 = some ct_drrightT := rfl
theorem G_planeVectors0_drequalT : G_planeVectors0 15 = some ct_drequalT := rfl
def tr_planeVectors0 : Tr (List SA) := (.call 8 [(.ob 0), (.ob 1), (.ob 2), (.ob 3), (.ob 4), (.ob 5), (.ob 6), (.ob 7), (.ob 8), (.b (.var 9))] 10 (.call 9 [(.ob 0), (.ob 1), (.ob 2), (.ob 3)] 11 (.call 10 [(.ob 0), (.ob 1), (.ob 2), (.ob 3)] 12 (.br (.not (.beq (.var 11) (.var 12))) (.leaf [(.b (.lit false))]) (.call 9 [(.ob 4), (.ob 5), (.ob 4), (.ob 5)] 13 (.br (.not (.var 13)) (.leaf [(.b (.lit false))]) (.call 11 [(.ob 0), (.ob 1), (.ob 2), (.ob 3), (.ob 4), (.ob 5), (.ob 6), (.ob 7)] 14 (.call 12 [(.ob 0), (.ob 1), (.ob 2), (.ob 3), (.ob 4), (.ob 5), (.ob 6), (.ob 7)] 15 (.call 13 [(.ob 0), (.ob 1), (.ob 2), (.ob 3)] 16 (.call 14 [(.ob 14)] 17 (.call 14 [(.ob 15)] 18 (.call 14 [(.ob 16)] 19 (.call 16 [(.ob 0), (.ob 1), (.ob 2), (.ob 3), (.ob 4), (.ob 5), (.ob 6), (.ob 7)] 20 (.call 15 [(.ob 14), (.ob 20)] 21 (.call 17 [(.ob 0), (.ob 1), (.ob 2), (.ob 3), (.ob 4), (.ob 5), (.ob 6), (.ob 7)] 22 (.call 15 [(.ob 15), (.ob 22)] 23 (.call 18 [(.ob 0), (.ob 1), (.ob 2), (.ob 3)] 24 (.call 15 [(.ob 16), (.ob 24)] 25 (.leaf [(.b (.lit true))])))))))))))))))))))
theorem ev_planeVectors0 : Ct.ok Try.prog 3 { args := [[.r, .r, .r, .r, .r, .r, .r, .r, .r, .b]], res := [[.b]], F := fun als => tr_planeVectors0.den G_planeVectors0 (env0 als), L := 2, A := 0, B := 0 } :=
  top_ok (by kernel_rfl) G_planeVectors0_ok (plans := planF) (lf := 60) (k := 20) (by kernel_rfl)
set_option maxHeartbeats 1000000 in
theorem planeVectors0_den (x1 x2 x3 x4 x5 x6 x7 x8 x9 : Rat) (f : Bool) (h : f_fits (List.map QA.at [.q x1, .q x2, .q x3, .q x4, .q x5, .q x6, .q x7, .q x8, .q x9, .b f]) = some [.b true])  : tr_planeVectors0.den G_planeVectors0 (env0 (List.map QA.at [.q x1, .q x2, .q x3, .q x4, .q x5, .q x6, .q x7, .q x8, .q x9, .b f])) = some [.b true] := by
  have h := fitsT_of h
  simp only [List.map_cons, List.map_nil] at h
  have n11 : ¬ (11 : Int) = 0 := by decide
  simp only [tr_planeVectors0, Tr.den, evAll, SA.ev, BE.ev, IE.ev, SE.ev, LE.ev, env0, extE_eq, pickO, op1, op2, op3, Nat.reduceLeDiff, Nat.reduceSub, Nat.reduceEqDiff, if_true, if_false, ite_true, ite_false, decide_true, decide_false, Bool.not_true, Bool.not_false, Nat.zero_le, Nat.sub_zero, List.getElem?_cons_zero, List.getElem?_cons_succ, List.getElem?_nil, cq0, cq1, cq2, cq3, cq4, cq5, cq6, cq7, cq8, cq9, cq10, cq12, cq16, outQ1, outQ2, outQ3, outQ4, outQ5, evN_at, evB_at, evS_at, evLen_z1, evLen_z2, evBit_z, at_n, at_b, at_s, at_z, at_k, at_kb, kG, kQ, kQ1, List.map_cons, List.map_nil, List.cons_append, List.nil_append, decide_eq_true_eq, Bool.false_eq_true, G_planeVectors0_fitsT, ctF_fitsT, G_planeVectors0_pequal, ctF_pequal, G_planeVectors0_rpequal, ctF_rpequal, G_planeVectors0_ppdot, ctF_ppdot, G_planeVectors0_rpdot, ctF_rpdot, G_planeVectors0_ppcross, ctF_ppcross, G_planeVectors0_rpcross, ctF_rpcross, G_planeVectors0_ppnorm, ctF_ppnorm, G_planeVectors0_rpnorm, ctF_rpnorm, G_planeVectors0_drrightT, ctF_drrightT, G_planeVectors0_drequalT, ctF_drequalT, h, n11, eq_self, and_self, g_pequal, g_pdot, g_pcross, g_pnorm, g_right, g_equal, beq_self_eq_true]
theorem planeVectorsA_any (x1 x2 x3 x4 x5 x6 x7 x8 x9 : Rat) (f : Bool) (h : f_fits (List.map QA.at [.q x1, .q x2, .q x3, .q x4, .q x5, .q x6, .q x7, .q x8, .q x9, .b f]) = some [.b true]) : ∃ FA A1 B1, Ct.ok Try.prog 3 { args := [[.r, .r, .r, .r, .r, .r, .r, .r, .r, .b]], res := [[.b]], F := FA, L := 2, A := A1, B := B1 } ∧ FA (List.map QA.at [.q x1, .q x2, .q x3, .q x4, .q x5, .q x6, .q x7, .q x8, .q x9, .b f]) = some [.b true] := by
  exact ⟨_, _, _, ev_planeVectors0, planeVectors0_den _ _ _ _ _ _ _ _ _ _ h⟩
set_option maxRecDepth 100000 in
theorem planeVectors_liftedU (os : Os) (started : os.Started) (H : Type) (enc : TypeId × Value → H) (F : Stop.Interp) :
    ReturnsInHanded {} Try.checked os 3 .any ((Rows.OpenSpec.upto Rows.planeVectorsSpec).pre6 enc Try.prog Try.f3 Rows.planeVectorsUptoRow.domain false) (((Rows.OpenSpec.upto Rows.planeVectorsSpec).at F).post enc Try.prog Try.f3 false true false false) := by
  refine law_liftedU (C := Try.checked) (s := Rows.planeVectorsSpec) Try.own Try.laidOut (by kernel_rfl) Try.func3 rfl 4 rfl Try.underlying4 (by kernel_rfl) enc ?_ ?_ os started F
    (OpenSpec.witness (enc := enc) (C := Try.checked) (s := Rows.OpenSpec.upto Rows.planeVectorsSpec) (k := Rows.uptoSmall) rfl false ⟨#[], #[.agg #[.bool false, .slice none 0 0, .slice none 0 0, .bool false, .slice none 0 0, .slice none 0 0, .bool false, .slice none 0 0, .slice none 0 0, .bool false, .slice none 0 0, .slice none 0 0, .bool false, .slice none 0 0, .slice none 0 0, .bool false, .slice none 0 0, .slice none 0 0, .bool false, .slice none 0 0, .slice none 0 0, .bool false, .slice none 0 0, .slice none 0 0, .bool false, .slice none 0 0, .slice none 0 0, .bool false]], []⟩ 8 (by kernel_rfl) (by kernel_rfl) (by kernel_rfl) (x := ([.agg [.agg [.agg [.agg [.lit (.bool false), .nil], .nil], .agg [.agg [.lit (.bool false), .nil], .nil]], .agg [.agg [.agg [.lit (.bool false), .nil], .nil], .agg [.agg [.lit (.bool false), .nil], .nil]], .agg [.agg [.agg [.lit (.bool false), .nil], .nil], .agg [.agg [.lit (.bool false), .nil], .nil]], .agg [.agg [.agg [.lit (.bool false), .nil], .nil], .agg [.agg [.lit (.bool false), .nil], .nil]], .agg [.agg [.lit (.bool false), .nil], .nil], .lit (.bool false)]], [], [])) (by kernel_rfl) rfl (by kernel_rfl))
  · intro ds hl
    match ds, hl with
    | [d0], _ => rfl
  · intro W base args ds ps hval hA hlt hk
    have hA' : DataW.TrodAll enc Try.prog W 0 (fun _ => true) true [31] args.toList ds ps := hA
    have hval' : ∀ (j : Nat) t v, Try.f3.params[j]? = some t → args[j]? = some v → Value.okWide Try.prog W .any base t v := hval
    obtain ⟨v0, d0, rfl, rfl, h0⟩ := Go.ChangeShapes.trodAll_one hA'
    simp only [Rows.uptoBulkAll] at hk
    have hb_x : Rows.uptoBulk d0 ≤ 1048576 := by omega
    obtain ⟨als_x, hr_x, hg_x⟩ := open_Case (hval' 0 31 v0 rfl rfl) h0
    exact case_law ev_planeVectorsB planeVectorsA_any (fun _ _ _ _ _ _ _ _ _ _ _ _ _ _ _ _ _ _ _ _ _ _ _ _ _ _ _ _ h => planeVectorsB_den _ _ _ _ _ _ _ _ _ _ _ _ _ _ _ _ _ _ _ _ _ _ _ _ _ _ _ _ h) hr_x hg_x hb_x

theorem planeVectorsUpto_holds : Rows.PlaneVectorsUptoSaid :=
  OpenClaim.holds_of_cond 3 Try.f3 rfl rfl rfl rfl rfl rfl rfl ⟨rfl, rfl, rfl, rfl, rfl⟩ rfl rfl rfl rfl rfl (by kernel_rfl) Try.func3 (by kernel_rfl)
    (of_decide_eq_true (by kernel_rfl)) (by unfold Func.isWrapper; first | (rw [if_pos (by decide +kernel)]; kernel_rfl) | (rw [if_neg (by decide +kernel)]; exact ⟨rfl, rfl⟩))
    (fun os started H enc _ F => planeVectors_liftedU os started H enc F)
def GB_planePoints : Gam := gamOf [(8, ct_fitsF)]
theorem GB_planePoints_ok : GamOk Try.prog GB_planePoints := gamOk_of ⟨ok_fitsF, trivial⟩
theorem GB_planePoints_fitsF : GB_planePoints 8 = some ct_fitsF := rfl
def tr_planePointsB : Tr (List SA) := (.call 8 [(.ob 0), (.ob 1), (.ob 2), (.ob 3), (.ob 4), (.ob 5), (.ob 6), (.ob 7), (.ob 8), (.b (.var 9))] 10 (.leaf [(.b (.lit true))]))
theorem ev_planePointsB : Ct.ok Try.prog 4 { args := [[.r, .r, .r, .r, .r, .r, .r, .r, .r, .b]], res := [[.b]], F := fun als => tr_planePointsB.den GB_planePoints (env0 als), L := 1048576, A := 0, B := 0 } :=
  top_ok (by kernel_rfl) GB_planePoints_ok (plans := planF) (lf := 60) (k := 20) (by kernel_rfl)
theorem planePointsB_den (a1 : Bool) (l1 m1 : List Nat) (a2 : Bool) (l2 m2 : List Nat) (a3 : Bool) (l3 m3 : List Nat) (a4 : Bool) (l4 m4 : List Nat) (a5 : Bool) (l5 m5 : List Nat) (a6 : Bool) (l6 m6 : List Nat) (a7 : Bool) (l7 m7 : List Nat) (a8 : Bool) (l8 m8 : List Nat) (a9 : Bool) (l9 m9 : List Nat) (f : Bool) (h : f_fits [.r a1 l1 m1, .r a2 l2 m2, .r a3 l3 m3, .r a4 l4 m4, .r a5 l5 m5, .r a6 l6 m6, .r a7 l7 m7, .r a8 l8 m8, .r a9 l9 m9, .b f] = some [.b false]) : tr_planePointsB.den GB_planePoints (env0 [.r a1 l1 m1, .r a2 l2 m2, .r a3 l3 m3, .r a4 l4 m4, .r a5 l5 m5, .r a6 l6 m6, .r a7 l7 m7, .r a8 l8 m8, .r a9 l9 m9, .b f]) = some [.b true] := by
  have h := fitsF_of h
  simp only [tr_planePointsB, Tr.den, evAll, SA.ev, BE.ev, IE.ev, SE.ev, LE.ev, env0, extE_eq, pickO, evN, evB, evS, evLen, evBit, evLst, At.len, At.bit, At.lst, op1, op2, op3, Nat.reduceLeDiff, Nat.reduceSub, Nat.reduceEqDiff, if_true, if_false, ite_true, ite_false, decide_true, decide_false, Bool.not_true, Bool.not_false, Nat.zero_le, Nat.sub_zero, List.getElem?_cons_zero, List.getElem?_cons_succ, List.getElem?_nil, GB_planePoints_fitsF, ctF_fitsF, h]
def G_planePoints0 : Gam := gamOf [(8, ct_fitsT), (20, ct_divide), (21, ct_rdivide), (22, ct_shiftp), (23, ct_rshiftp), (24, ct_turn), (25, ct_rturn), (26, ct_oncircle), (27, ct_roncircle), (19, ct_samepT)]
theorem G_planePoints0_ok : GamOk Try.prog G_planePoints0 := gamOk_of ⟨ok_fitsT, ok_divide, ok_rdivide, ok_shiftp, ok_rshiftp, ok_turn, ok_rturn, ok_oncircle, ok_roncircle, ok_samepT, trivial⟩
theorem G_planePoints0_fitsT : G_planePoints0 8 = some ct_fitsT := rfl
theorem G_planePoints0_divide : G_planePoints0 20 = some ct_divide := rfl
theorem G_planePoints0_rdivide : G_planePoints0 21 = some ct_rdivide := rfl
theorem G_planePoints0_shiftp : G_planePoints0 22 = some ct_shiftp := rfl
theorem G_planePoints0_rshiftp : G_planePoints0 23 = some ct_rshiftp := rfl
theorem G_planePoints0_turn : G_planePoints0 24 = some ct_turn := rfl
theorem G_planePoints0_rturn : G_planePoints0 25 = some ct_rturn := rfl
theorem G_planePoints0_oncircle : G_planePoints0 26 = some ct_oncircle := rfl
theorem G_planePoints0_roncircle : G_planePoints0 27 = some ct_roncircle := rfl
theorem G_planePoints0_samepT : G_planePoints0 19 = some ct_samepT := rfl
def tr_planePoints0 : Tr (List SA) := (.call 8 [(.ob 0), (.ob 1), (.ob 2), (.ob 3), (.ob 4), (.ob 5), (.ob 6), (.ob 7), (.ob 8), (.b (.var 9))] 10 (.call 20 [(.ob 0), (.ob 1), (.ob 2), (.ob 3), (.ob 8)] 11 (.call 21 [(.ob 0), (.ob 1), (.ob 2), (.ob 3), (.ob 8)] 13 (.call 19 [(.ob 11), (.ob 12), (.n (.lit 0)), (.ob 13), (.ob 14), (.n (.lit 0))] 15 (.call 22 [(.ob 4), (.ob 5), (.ob 0), (.ob 1), (.ob 2), (.ob 3)] 16 (.call 23 [(.ob 4), (.ob 5), (.ob 0), (.ob 1), (.ob 2), (.ob 3)] 18 (.call 19 [(.ob 16), (.ob 17), (.n (.lit 0)), (.ob 18), (.ob 19), (.n (.lit 0))] 20 (.call 24 [(.ob 4), (.ob 5), (.ob 0), (.ob 1), (.ob 2), (.ob 3)] 21 (.call 25 [(.ob 4), (.ob 5), (.ob 0), (.ob 1), (.ob 2), (.ob 3)] 23 (.call 19 [(.ob 21), (.ob 22), (.n (.lit 0)), (.ob 23), (.ob 24), (.n (.lit 0))] 25 (.call 26 [(.ob 0), (.ob 1), (.ob 2), (.ob 3), (.ob 8)] 26 (.call 27 [(.ob 0), (.ob 1), (.ob 2), (.ob 3), (.ob 8)] 28 (.call 19 [(.ob 26), (.ob 27), (.n (.lit 0)), (.ob 28), (.ob 29), (.n (.lit 0))] 30 (.leaf [(.b (.lit true))]))))))))))))))
theorem ev_planePoints0 : Ct.ok Try.prog 4 { args := [[.r, .r, .r, .r, .r, .r, .r, .r, .r, .b]], res := [[.b]], F := fun als => tr_planePoints0.den G_planePoints0 (env0 als), L := 2, A := 0, B := 0 } :=
  top_ok (by kernel_rfl) G_planePoints0_ok (plans := planF) (lf := 60) (k := 20) (by kernel_rfl)
set_option maxHeartbeats 1000000 in
theorem planePoints0_den (x1 x2 x3 x4 x5 x6 x7 x8 x9 : Rat) (f : Bool) (h : f_fits (List.map QA.at [.q x1, .q x2, .q x3, .q x4, .q x5, .q x6, .q x7, .q x8, .q x9, .b f]) = some [.b true])  : tr_planePoints0.den G_planePoints0 (env0 (List.map QA.at [.q x1, .q x2, .q x3, .q x4, .q x5, .q x6, .q x7, .q x8, .q x9, .b f])) = some [.b true] := by
  have h := fitsT_of h
  simp only [List.map_cons, List.map_nil] at h
  have n11 : ¬ (11 : Int) = 0 := by decide
  simp only [tr_planePoints0, Tr.den, evAll, SA.ev, BE.ev, IE.ev, SE.ev, LE.ev, env0, extE_eq, pickO, op1, op2, op3, Nat.reduceLeDiff, Nat.reduceSub, Nat.reduceEqDiff, if_true, if_false, ite_true, ite_false, decide_true, decide_false, Bool.not_true, Bool.not_false, Nat.zero_le, Nat.sub_zero, List.getElem?_cons_zero, List.getElem?_cons_succ, List.getElem?_nil, cq0, cq1, cq2, cq3, cq4, cq5, cq6, cq7, cq8, cq9, cq10, cq12, cq16, outQ1, outQ2, outQ3, outQ4, outQ5, evN_at, evB_at, evS_at, evLen_z1, evLen_z2, evBit_z, at_n, at_b, at_s, at_z, at_k, at_kb, kG, kQ, kQ1, List.map_cons, List.map_nil, List.cons_append, List.nil_append, decide_eq_true_eq, Bool.false_eq_true, G_planePoints0_fitsT, ctF_fitsT, G_planePoints0_divide, ctF_divide, G_planePoints0_rdivide, ctF_rdivide, G_planePoints0_shiftp, ctF_shiftp, G_planePoints0_rshiftp, ctF_rshiftp, G_planePoints0_turn, ctF_turn, G_planePoints0_rturn, ctF_rturn, G_planePoints0_oncircle, ctF_oncircle, G_planePoints0_roncircle, ctF_roncircle, G_planePoints0_samepT, ctF_samepT, h, n11, eq_self, and_self, g_divide, g_shiftp, g_turn, g_oncircle, g_same]
theorem planePointsA_any (x1 x2 x3 x4 x5 x6 x7 x8 x9 : Rat) (f : Bool) (h : f_fits (List.map QA.at [.q x1, .q x2, .q x3, .q x4, .q x5, .q x6, .q x7, .q x8, .q x9, .b f]) = some [.b true]) : ∃ FA A1 B1, Ct.ok Try.prog 4 { args := [[.r, .r, .r, .r, .r, .r, .r, .r, .r, .b]], res := [[.b]], F := FA, L := 2, A := A1, B := B1 } ∧ FA (List.map QA.at [.q x1, .q x2, .q x3, .q x4, .q x5, .q x6, .q x7, .q x8, .q x9, .b f]) = some [.b true] := by
  exact ⟨_, _, _, ev_planePoints0, planePoints0_den _ _ _ _ _ _ _ _ _ _ h⟩
set_option maxRecDepth 100000 in
theorem planePoints_liftedU (os : Os) (started : os.Started) (H : Type) (enc : TypeId × Value → H) (F : Stop.Interp) :
    ReturnsInHanded {} Try.checked os 4 .any ((Rows.OpenSpec.upto Rows.planePointsSpec).pre6 enc Try.prog Try.f4 Rows.planePointsUptoRow.domain false) (((Rows.OpenSpec.upto Rows.planePointsSpec).at F).post enc Try.prog Try.f4 false true false false) := by
  refine law_liftedU (C := Try.checked) (s := Rows.planePointsSpec) Try.own Try.laidOut (by kernel_rfl) Try.func4 rfl 4 rfl Try.underlying4 (by kernel_rfl) enc ?_ ?_ os started F
    (OpenSpec.witness (enc := enc) (C := Try.checked) (s := Rows.OpenSpec.upto Rows.planePointsSpec) (k := Rows.uptoSmall) rfl false ⟨#[], #[.agg #[.bool false, .slice none 0 0, .slice none 0 0, .bool false, .slice none 0 0, .slice none 0 0, .bool false, .slice none 0 0, .slice none 0 0, .bool false, .slice none 0 0, .slice none 0 0, .bool false, .slice none 0 0, .slice none 0 0, .bool false, .slice none 0 0, .slice none 0 0, .bool false, .slice none 0 0, .slice none 0 0, .bool false, .slice none 0 0, .slice none 0 0, .bool false, .slice none 0 0, .slice none 0 0, .bool false]], []⟩ 8 (by kernel_rfl) (by kernel_rfl) (by kernel_rfl) (x := ([.agg [.agg [.agg [.agg [.lit (.bool false), .nil], .nil], .agg [.agg [.lit (.bool false), .nil], .nil]], .agg [.agg [.agg [.lit (.bool false), .nil], .nil], .agg [.agg [.lit (.bool false), .nil], .nil]], .agg [.agg [.agg [.lit (.bool false), .nil], .nil], .agg [.agg [.lit (.bool false), .nil], .nil]], .agg [.agg [.agg [.lit (.bool false), .nil], .nil], .agg [.agg [.lit (.bool false), .nil], .nil]], .agg [.agg [.lit (.bool false), .nil], .nil], .lit (.bool false)]], [], [])) (by kernel_rfl) rfl (by kernel_rfl))
  · intro ds hl
    match ds, hl with
    | [d0], _ => rfl
  · intro W base args ds ps hval hA hlt hk
    have hA' : DataW.TrodAll enc Try.prog W 0 (fun _ => true) true [31] args.toList ds ps := hA
    have hval' : ∀ (j : Nat) t v, Try.f4.params[j]? = some t → args[j]? = some v → Value.okWide Try.prog W .any base t v := hval
    obtain ⟨v0, d0, rfl, rfl, h0⟩ := Go.ChangeShapes.trodAll_one hA'
    simp only [Rows.uptoBulkAll] at hk
    have hb_x : Rows.uptoBulk d0 ≤ 1048576 := by omega
    obtain ⟨als_x, hr_x, hg_x⟩ := open_Case (hval' 0 31 v0 rfl rfl) h0
    exact case_law ev_planePointsB planePointsA_any (fun _ _ _ _ _ _ _ _ _ _ _ _ _ _ _ _ _ _ _ _ _ _ _ _ _ _ _ _ h => planePointsB_den _ _ _ _ _ _ _ _ _ _ _ _ _ _ _ _ _ _ _ _ _ _ _ _ _ _ _ _ h) hr_x hg_x hb_x

theorem planePointsUpto_holds : Rows.PlanePointsUptoSaid :=
  OpenClaim.holds_of_cond 4 Try.f4 rfl rfl rfl rfl rfl rfl rfl ⟨rfl, rfl, rfl, rfl, rfl⟩ rfl rfl rfl rfl rfl (by kernel_rfl) Try.func4 (by kernel_rfl)
    (of_decide_eq_true (by kernel_rfl)) (by unfold Func.isWrapper; first | (rw [if_pos (by decide +kernel)]; kernel_rfl) | (rw [if_neg (by decide +kernel)]; exact ⟨rfl, rfl⟩))
    (fun os started H enc _ F => planePoints_liftedU os started H enc F)
end Go.Proofs.Ytnfchljiicniiaa
