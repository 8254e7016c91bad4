/- Points: the laws of hypotheses. -/
import Derived.Test.YtnfchljiicniiaaPl6
import Derived.Test.YtnfchljiicniiaaPl7
namespace Go.Proofs.Ytnfchljiicniiaa
open Go Go.RowKit Go.V Go.ChangeMaps
set_option linter.unusedSimpArgs false
set_option linter.unusedVariables false
set_option maxRecDepth 20000
def g_online : List QA → Option (List QA)
  | [.q px, .q py, .q ax, .q ay, .q bx, .q by'] => some [.b (decide (pcross ax ay bx by' ax ay px py = 0))]
  | _ => none
def g_upright : List QA → Option (List QA)
  | [.q ax, .q ay, .q bx, .q by', .q px, .q py, .q qx, .q qy] => some [.b (decide (pdot ax ay bx by' px py qx qy = 0))]
  | _ => none
def tr_online : Tr (List SA) := (.call 12 [(.ob 2), (.ob 3), (.ob 4), (.ob 5), (.ob 2), (.ob 3), (.ob 0), (.ob 1)] 6 (.call 37 [(.ob 6)] 7 (.leaf [(.b (.eq (.var 7) (.lit 0)))])))
theorem ev_online : Ct.ok Try.prog 29 { args := [[.r, .r], [.r, .r], [.r, .r]], res := [[.b]], F := fun als => tr_online.den GP3 (env0 als), L := 100000, A := 0, B := 0 } :=
  top_ok (by kernel_rfl) GP3_ok (plans := planF) (lf := 60) (k := 20) (by kernel_rfl)
def tr_upright : Tr (List SA) := (.call 11 [(.ob 0), (.ob 1), (.ob 2), (.ob 3), (.ob 4), (.ob 5), (.ob 6), (.ob 7)] 8 (.call 37 [(.ob 8)] 9 (.leaf [(.b (.eq (.var 9) (.lit 0)))])))
theorem ev_upright : Ct.ok Try.prog 30 { args := [[.r, .r], [.r, .r], [.r, .r], [.r, .r]], res := [[.b]], F := fun als => tr_upright.den GP3 (env0 als), L := 100000, A := 0, B := 0 } :=
  top_ok (by kernel_rfl) GP3_ok (plans := planF) (lf := 60) (k := 20) (by kernel_rfl)
theorem online_den (l r : List QA) (h : g_online l = some r) : tr_online.den GP3 (env0 (l.map QA.at)) = some (r.map QA.at) := by
  unfold g_online at h
  split at h
  · injection h with h; subst h
    simp only [tr_online, Tr.den, evAll, SA.ev, BE.ev, IE.ev, SE.ev, LE.ev, env0, extE_eq, pickO, op1, op2, op3, Nat.reduceLeDiff, Nat.reduceSub, Nat.reduceEqDiff, if_true, if_false, ite_true, ite_false, decide_true, decide_false, Bool.not_true, Bool.not_false, Nat.zero_le, Nat.sub_zero, List.getElem?_cons_zero, List.getElem?_cons_succ, List.getElem?_nil, cq0, cq1, cq2, cq3, cq4, cq5, cq6, cq7, cq8, cq9, cq10, cq12, cq16, outQ1, outQ2, outQ3, outQ4, outQ5, evN_at, evB_at, evS_at, evLen_z1, evLen_z2, evBit_z, at_n, at_b, at_s, at_z, at_k, at_kb, kG, kQ, kQ1, List.map_cons, List.map_nil, List.cons_append, List.nil_append, decide_eq_true_eq, Bool.false_eq_true, GP3_dadd, ctF_dadd, GP3_dradd, ctF_dradd, GP3_dsub, ctF_dsub, GP3_drsub, ctF_drsub, GP3_dmul, ctF_dmul, GP3_drmul, ctF_drmul, GP3_dneg, ctF_dneg, GP3_drneg, ctF_drneg, GP3_dof, ctF_dof, GP3_drof, ctF_drof, GP3_drfrac, ctF_drfrac, GP3_dsign, ctF_dsign, GP3_drsign, ctF_drsign, GP3_dcmp, ctF_dcmp, GP3_drcmp, ctF_drcmp, GP3_dequal, ctF_dequal, GP3_drequal, ctF_drequal, GP3_drright, ctF_drright, GP3_pequal, ctF_pequal, GP3_rpequal, ctF_rpequal, GP3_ppdot, ctF_ppdot, GP3_rpdot, ctF_rpdot, GP3_ppcross, ctF_ppcross, GP3_rpcross, ctF_rpcross, GP3_ppnorm, ctF_ppnorm, GP3_rpnorm, ctF_rpnorm, GP3_divide, ctF_divide, GP3_rdivide, ctF_rdivide, GP3_shiftp, ctF_shiftp, GP3_rshiftp, ctF_rshiftp, GP3_turn, ctF_turn, GP3_rturn, ctF_rturn, GP3_oncircle, ctF_oncircle, GP3_roncircle, ctF_roncircle, GP3_foot, ctF_foot, GP3_mirror, ctF_mirror, GP3_meet, ctF_meet, GP3_other, ctF_other, GP3_center, ctF_center, GP3_cut, ctF_cut, GP3_intersect, ctF_intersect, g_pcross, g_sign, qsg_0]
  · cases h
theorem upright_den (l r : List QA) (h : g_upright l = some r) : tr_upright.den GP3 (env0 (l.map QA.at)) = some (r.map QA.at) := by
  unfold g_upright at h
  split at h
  · injection h with h; subst h
    simp only [tr_upright, Tr.den, evAll, SA.ev, BE.ev, IE.ev, SE.ev, LE.ev, env0, extE_eq, pickO, op1, op2, op3, Nat.reduceLeDiff, Nat.reduceSub, Nat.reduceEqDiff, if_true, if_false, ite_true, ite_false, decide_true, decide_false, Bool.not_true, Bool.not_false, Nat.zero_le, Nat.sub_zero, List.getElem?_cons_zero, List.getElem?_cons_succ, List.getElem?_nil, cq0, cq1, cq2, cq3, cq4, cq5, cq6, cq7, cq8, cq9, cq10, cq12, cq16, outQ1, outQ2, outQ3, outQ4, outQ5, evN_at, evB_at, evS_at, evLen_z1, evLen_z2, evBit_z, at_n, at_b, at_s, at_z, at_k, at_kb, kG, kQ, kQ1, List.map_cons, List.map_nil, List.cons_append, List.nil_append, decide_eq_true_eq, Bool.false_eq_true, GP3_dadd, ctF_dadd, GP3_dradd, ctF_dradd, GP3_dsub, ctF_dsub, GP3_drsub, ctF_drsub, GP3_dmul, ctF_dmul, GP3_drmul, ctF_drmul, GP3_dneg, ctF_dneg, GP3_drneg, ctF_drneg, GP3_dof, ctF_dof, GP3_drof, ctF_drof, GP3_drfrac, ctF_drfrac, GP3_dsign, ctF_dsign, GP3_drsign, ctF_drsign, GP3_dcmp, ctF_dcmp, GP3_drcmp, ctF_drcmp, GP3_dequal, ctF_dequal, GP3_drequal, ctF_drequal, GP3_drright, ctF_drright, GP3_pequal, ctF_pequal, GP3_rpequal, ctF_rpequal, GP3_ppdot, ctF_ppdot, GP3_rpdot, ctF_rpdot, GP3_ppcross, ctF_ppcross, GP3_rpcross, ctF_rpcross, GP3_ppnorm, ctF_ppnorm, GP3_rpnorm, ctF_rpnorm, GP3_divide, ctF_divide, GP3_rdivide, ctF_rdivide, GP3_shiftp, ctF_shiftp, GP3_rshiftp, ctF_rshiftp, GP3_turn, ctF_turn, GP3_rturn, ctF_rturn, GP3_oncircle, ctF_oncircle, GP3_roncircle, ctF_roncircle, GP3_foot, ctF_foot, GP3_mirror, ctF_mirror, GP3_meet, ctF_meet, GP3_other, ctF_other, GP3_center, ctF_center, GP3_cut, ctF_cut, GP3_intersect, ctF_intersect, g_pdot, g_sign, qsg_0]
  · cases h
def ct_online : Ct := { args := [[.r, .r], [.r, .r], [.r, .r]], res := [[.b]], F := cq g_online, L := 100000, A := 0, B := 0 }
theorem ctF_online : ct_online.F = cq g_online := rfl
theorem ok_online : ct_online.ok Try.prog 29 := ev_online.weaken (of_cq (g := g_online) online_den)
def ct_upright : Ct := { args := [[.r, .r], [.r, .r], [.r, .r], [.r, .r]], res := [[.b]], F := cq g_upright, L := 100000, A := 0, B := 0 }
theorem ctF_upright : ct_upright.F = cq g_upright := rfl
theorem ok_upright : ct_upright.ok Try.prog 30 := ev_upright.weaken (of_cq (g := g_upright) upright_den)
def ct_onlineT : Ct := { args := [[.r, .r], [.r, .r], [.r, .r]], res := [[(.kb true)]], F := cq (kG g_online [[(.kb true)]].flatten), L := 100000, A := 0, B := 0 }
theorem ctF_onlineT : ct_onlineT.F = cq (kG g_online [(.kb true)]) := rfl
theorem ok_onlineT : ct_onlineT.ok Try.prog 29 := ok_kq ok_online rfl
def ct_uprightT : Ct := { args := [[.r, .r], [.r, .r], [.r, .r], [.r, .r]], res := [[(.kb true)]], F := cq (kG g_upright [[(.kb true)]].flatten), L := 100000, A := 0, B := 0 }
theorem ctF_uprightT : ct_uprightT.F = cq (kG g_upright [(.kb true)]) := rfl
theorem ok_uprightT : ct_uprightT.ok Try.prog 30 := ok_kq ok_upright rfl
def ct_footN : Ct := { args := [[.r, .r], [.r, .r], [.r, .r]], res := [[.r, .r], [(.k (0))]], F := cq (kG g_foot [[.r, .r], [(.k (0))]].flatten), L := 10000, A := 64, B := 334 }
theorem ctF_footN : ct_footN.F = cq (kG g_foot [.r, .r, (.k (0))]) := rfl
theorem ok_footN : ct_footN.ok Try.prog 28 := ok_kq ok_foot rfl
def ct_footD : Ct := { args := [[.r, .r], [.r, .r], [.r, .r]], res := [[.r, .r], [(.k (11))]], F := cq (kG g_foot [[.r, .r], [(.k (11))]].flatten), L := 10000, A := 64, B := 334 }
theorem ctF_footD : ct_footD.F = cq (kG g_foot [.r, .r, (.k (11))]) := rfl
theorem ok_footD : ct_footD.ok Try.prog 28 := ok_kq ok_foot rfl
def ct_mirrorN : Ct := { args := [[.r, .r], [.r, .r], [.r, .r]], res := [[.r, .r], [(.k (0))]], F := cq (kG g_mirror [[.r, .r], [(.k (0))]].flatten), L := 7700, A := 256, B := 1354 }
theorem ctF_mirrorN : ct_mirrorN.F = cq (kG g_mirror [.r, .r, (.k (0))]) := rfl
theorem ok_mirrorN : ct_mirrorN.ok Try.prog 31 := ok_kq ok_mirror rfl
def ct_mirrorD : Ct := { args := [[.r, .r], [.r, .r], [.r, .r]], res := [[.r, .r], [(.k (11))]], F := cq (kG g_mirror [[.r, .r], [(.k (11))]].flatten), L := 7700, A := 256, B := 1354 }
theorem ctF_mirrorD : ct_mirrorD.F = cq (kG g_mirror [.r, .r, (.k (11))]) := rfl
theorem ok_mirrorD : ct_mirrorD.ok Try.prog 31 := ok_kq ok_mirror rfl
def ct_meetN : Ct := { args := [[.r, .r], [.r, .r], [.r, .r], [.r, .r]], res := [[.r, .r], [(.k (0))]], F := cq (kG g_meet [[.r, .r], [(.k (0))]].flatten), L := 10000, A := 64, B := 334 }
theorem ctF_meetN : ct_meetN.F = cq (kG g_meet [.r, .r, (.k (0))]) := rfl
theorem ok_meetN : ct_meetN.ok Try.prog 33 := ok_kq ok_meet rfl
def ct_meetD : Ct := { args := [[.r, .r], [.r, .r], [.r, .r], [.r, .r]], res := [[.r, .r], [(.k (11))]], F := cq (kG g_meet [[.r, .r], [(.k (11))]].flatten), L := 10000, A := 64, B := 334 }
theorem ctF_meetD : ct_meetD.F = cq (kG g_meet [.r, .r, (.k (11))]) := rfl
theorem ok_meetD : ct_meetD.ok Try.prog 33 := ok_kq ok_meet rfl
def ct_otherN : Ct := { args := [[.r, .r], [.r, .r], [.r, .r]], res := [[.r, .r], [(.k (0))]], F := cq (kG g_other [[.r, .r], [(.k (0))]].flatten), L := 10000, A := 128, B := 670 }
theorem ctF_otherN : ct_otherN.F = cq (kG g_other [.r, .r, (.k (0))]) := rfl
theorem ok_otherN : ct_otherN.ok Try.prog 34 := ok_kq ok_other rfl
def ct_otherD : Ct := { args := [[.r, .r], [.r, .r], [.r, .r]], res := [[.r, .r], [(.k (11))]], F := cq (kG g_other [[.r, .r], [(.k (11))]].flatten), L := 10000, A := 128, B := 670 }
theorem ctF_otherD : ct_otherD.F = cq (kG g_other [.r, .r, (.k (11))]) := rfl
theorem ok_otherD : ct_otherD.ok Try.prog 34 := ok_kq ok_other rfl
def ct_centerN : Ct := { args := [[.r, .r], [.r, .r], [.r, .r]], res := [[.r, .r], [(.k (0))]], F := cq (kG g_center [[.r, .r], [(.k (0))]].flatten), L := 10000, A := 128, B := 678 }
theorem ctF_centerN : ct_centerN.F = cq (kG g_center [.r, .r, (.k (0))]) := rfl
theorem ok_centerN : ct_centerN.ok Try.prog 35 := ok_kq ok_center rfl
def ct_centerD : Ct := { args := [[.r, .r], [.r, .r], [.r, .r]], res := [[.r, .r], [(.k (11))]], F := cq (kG g_center [[.r, .r], [(.k (11))]].flatten), L := 10000, A := 128, B := 678 }
theorem ctF_centerD : ct_centerD.F = cq (kG g_center [.r, .r, (.k (11))]) := rfl
theorem ok_centerD : ct_centerD.ok Try.prog 35 := ok_kq ok_center rfl
theorem i12 : (inI 1 ∧ inI 2) = True := eq_true (by decide)
theorem cross_same (ax ay cx cy dx dy : Rat) : pcross ax ay ax ay cx cy dx dy = 0 := by
  unfold pcross
  grind
def GB_planeHypotheses : Gam := gamOf [(8, ct_fitsF)]
theorem GB_planeHypotheses_ok : GamOk Try.prog GB_planeHypotheses := gamOk_of ⟨ok_fitsF, trivial⟩
theorem GB_planeHypotheses_fitsF : GB_planeHypotheses 8 = some ct_fitsF := rfl
def tr_planeHypothesesB : Tr (List SA) := (.call 8 [(.ob 0), (.ob 1), (.ob 2), (.ob 3), (.ob 4), (.ob 5), (.ob 6), (.ob 7), (.ob 8), (.b (.var 9))] 10 (.leaf [(.b (.lit true))]))
theorem ev_planeHypothesesB : Ct.ok Try.prog 5 { args := [[.r, .r, .r, .r, .r, .r, .r, .r, .r, .b]], res := [[.b]], F := fun als => tr_planeHypothesesB.den GB_planeHypotheses (env0 als), L := 1048576, A := 0, B := 0 } :=
  top_ok (by kernel_rfl) GB_planeHypotheses_ok (plans := planF) (lf := 60) (k := 20) (by kernel_rfl)
theorem planeHypothesesB_den (a1 : Bool) (l1 m1 : List Nat) (a2 : Bool) (l2 m2 : List Nat) (a3 : Bool) (l3 m3 : List Nat) (a4 : Bool) (l4 m4 : List Nat) (a5 : Bool) (l5 m5 : List Nat) (a6 : Bool) (l6 m6 : List Nat) (a7 : Bool) (l7 m7 : List Nat) (a8 : Bool) (l8 m8 : List Nat) (a9 : Bool) (l9 m9 : List Nat) (f : Bool) (h : f_fits [.r a1 l1 m1, .r a2 l2 m2, .r a3 l3 m3, .r a4 l4 m4, .r a5 l5 m5, .r a6 l6 m6, .r a7 l7 m7, .r a8 l8 m8, .r a9 l9 m9, .b f] = some [.b false]) : tr_planeHypothesesB.den GB_planeHypotheses (env0 [.r a1 l1 m1, .r a2 l2 m2, .r a3 l3 m3, .r a4 l4 m4, .r a5 l5 m5, .r a6 l6 m6, .r a7 l7 m7, .r a8 l8 m8, .r a9 l9 m9, .b f]) = some [.b true] := by
  have h := fitsF_of h
  simp only [tr_planeHypothesesB, Tr.den, evAll, SA.ev, BE.ev, IE.ev, SE.ev, LE.ev, env0, extE_eq, pickO, evN, evB, evS, evLen, evBit, evLst, At.len, At.bit, At.lst, op1, op2, op3, Nat.reduceLeDiff, Nat.reduceSub, Nat.reduceEqDiff, if_true, if_false, ite_true, ite_false, decide_true, decide_false, Bool.not_true, Bool.not_false, Nat.zero_le, Nat.sub_zero, List.getElem?_cons_zero, List.getElem?_cons_succ, List.getElem?_nil, GB_planeHypotheses_fitsF, ctF_fitsF, h]
def G_planeHypotheses1 : Gam := gamOf [(8, ct_fitsT), (28, ct_footD), (31, ct_mirrorD), (33, ct_meetD), (34, ct_otherD), (35, ct_centerD), (26, ct_oncircle), (13, ct_ppnorm), (15, ct_drequalT)]
theorem G_planeHypotheses1_ok : GamOk Try.prog G_planeHypotheses1 := gamOk_of ⟨ok_fitsT, ok_footD, ok_mirrorD, ok_meetD, ok_otherD, ok_centerD, ok_oncircle, ok_ppnorm, ok_drequalT, trivial⟩
theorem G_planeHypotheses1_fitsT : G_planeHypotheses1 8 = some ct_fitsT := rfl
theorem G_planeHypotheses1_footD : G_planeHypotheses1 28 = some ct_footD := rfl
theorem G_planeHypotheses1_mirrorD : G_planeHypotheses1 31 = some ct_mirrorD := rfl
theorem G_planeHypotheses1_meetD : G_planeHypotheses1 33 = some ct_meetD := rfl
theorem G_planeHypotheses1_otherD : G_planeHypotheses1 34 = some ct_otherD := rfl
theorem G_planeHypotheses1_centerD : G_planeHypotheses1 35 = some ct_centerD := rfl
theorem G_planeHypotheses1_oncircle : G_planeHypotheses1 26 = some ct_oncircle := rfl
theorem G_planeHypotheses1_ppnorm : G_planeHypotheses1 13 = some ct_ppnorm := rfl
theorem G_planeHypotheses1_drequalT : G_planeHypotheses1 15 = some ct_drequalT := rfl
def tr_planeHypotheses1 : Tr (List SA) := (.call 8 [(.ob 0), (.ob 1), (.ob 2), (.ob 3), (.ob 4), (.ob 5), (.ob 6), (.ob 7), (.ob 8), (.b (.var 9))] 10 (.call 28 [(.ob 4), (.ob 5), (.ob 0), (.ob 1), (.ob 2), (.ob 3)] 11 (.call 31 [(.ob 4), (.ob 5), (.ob 0), (.ob 1), (.ob 2), (.ob 3)] 14 (.call 33 [(.ob 0), (.ob 1), (.ob 2), (.ob 3), (.ob 4), (.ob 5), (.ob 6), (.ob 7)] 17 (.call 34 [(.ob 0), (.ob 1), (.ob 2), (.ob 3), (.ob 4), (.ob 5)] 20 (.call 35 [(.ob 0), (.ob 1), (.ob 2), (.ob 3), (.ob 4), (.ob 5)] 23 (.call 26 [(.ob 0), (.ob 1), (.ob 2), (.ob 3), (.ob 8)] 26 (.call 13 [(.ob 0), (.ob 1), (.ob 26), (.ob 27)] 28 (.call 13 [(.ob 0), (.ob 1), (.ob 2), (.ob 3)] 29 (.call 15 [(.ob 28), (.ob 29)] 30 (.leaf [(.b (.lit true))])))))))))))
theorem ev_planeHypotheses1 : Ct.ok Try.prog 5 { args := [[.r, .r, .r, .r, .r, .r, .r, .r, .r, .b]], res := [[.b]], F := fun als => tr_planeHypotheses1.den G_planeHypotheses1 (env0 als), L := 2, A := 0, B := 0 } :=
  top_ok (by kernel_rfl) G_planeHypotheses1_ok (plans := planF) (lf := 60) (k := 20) (by kernel_rfl)
set_option maxHeartbeats 1000000 in
theorem planeHypotheses1_den (x1 x2 x3 x4 x5 x6 x7 x8 x9 : Rat) (f : Bool) (h : f_fits (List.map QA.at [.q x1, .q x2, .q x3, .q x4, .q x5, .q x6, .q x7, .q x8, .q x9, .b f]) = some [.b true]) (h1 : x1 = x3 ∧ x2 = x4) (h2 : pcross x1 x2 x3 x4 x5 x6 x7 x8 = 0) (h3 : pcross x1 x2 x3 x4 x1 x2 x5 x6 = 0) : tr_planeHypotheses1.den G_planeHypotheses1 (env0 (List.map QA.at [.q x1, .q x2, .q x3, .q x4, .q x5, .q x6, .q x7, .q x8, .q x9, .b f])) = some [.b true] := by
  have h := fitsT_of h
  simp only [List.map_cons, List.map_nil] at h
  have n11 : ¬ (11 : Int) = 0 := by decide
  simp only [tr_planeHypotheses1, Tr.den, evAll, SA.ev, BE.ev, IE.ev, SE.ev, LE.ev, env0, extE_eq, pickO, op1, op2, op3, Nat.reduceLeDiff, Nat.reduceSub, Nat.reduceEqDiff, if_true, if_false, ite_true, ite_false, decide_true, decide_false, Bool.not_true, Bool.not_false, Nat.zero_le, Nat.sub_zero, List.getElem?_cons_zero, List.getElem?_cons_succ, List.getElem?_nil, cq0, cq1, cq2, cq3, cq4, cq5, cq6, cq7, cq8, cq9, cq10, cq12, cq16, outQ1, outQ2, outQ3, outQ4, outQ5, evN_at, evB_at, evS_at, evLen_z1, evLen_z2, evBit_z, at_n, at_b, at_s, at_z, at_k, at_kb, kG, kQ, kQ1, List.map_cons, List.map_nil, List.cons_append, List.nil_append, decide_eq_true_eq, Bool.false_eq_true, G_planeHypotheses1_fitsT, ctF_fitsT, G_planeHypotheses1_footD, ctF_footD, G_planeHypotheses1_mirrorD, ctF_mirrorD, G_planeHypotheses1_meetD, ctF_meetD, G_planeHypotheses1_otherD, ctF_otherD, G_planeHypotheses1_centerD, ctF_centerD, G_planeHypotheses1_oncircle, ctF_oncircle, G_planeHypotheses1_ppnorm, ctF_ppnorm, G_planeHypotheses1_drequalT, ctF_drequalT, h, n11, eq_self, and_self, g_foot, g_mirror, g_meet, g_other, g_center, g_oncircle, g_pnorm, g_equal, oncircle_norm, eq_true h1, h2, h3]
def G_planeHypotheses2 : Gam := gamOf [(8, ct_fitsT), (28, ct_footN), (31, ct_mirrorN), (33, ct_meetD), (34, ct_otherN), (35, ct_centerD), (26, ct_oncircle), (13, ct_ppnorm), (20, ct_divide), (9, ct_pequalT), (29, ct_onlineT), (30, ct_uprightT), (15, ct_drequalT), (32, ct_drfrac)]
theorem G_planeHypotheses2_ok : GamOk Try.prog G_planeHypotheses2 := gamOk_of ⟨ok_fitsT, ok_footN, ok_mirrorN, ok_meetD, ok_otherN, ok_centerD, ok_oncircle, ok_ppnorm, ok_divide, ok_pequalT, ok_onlineT, ok_uprightT, ok_drequalT, ok_drfrac, trivial⟩
theorem G_planeHypotheses2_fitsT : G_planeHypotheses2 8 = some ct_fitsT := rfl
theorem G_planeHypotheses2_footN : G_planeHypotheses2 28 = some ct_footN := rfl
theorem G_planeHypotheses2_mirrorN : G_planeHypotheses2 31 = some ct_mirrorN := rfl
theorem G_planeHypotheses2_meetD : G_planeHypotheses2 33 = some ct_meetD := rfl
theorem G_planeHypotheses2_otherN : G_planeHypotheses2 34 = some ct_otherN := rfl
theorem G_planeHypotheses2_centerD : G_planeHypotheses2 35 = some ct_centerD := rfl
theorem G_planeHypotheses2_oncircle : G_planeHypotheses2 26 = some ct_oncircle := rfl
theorem G_planeHypotheses2_ppnorm : G_planeHypotheses2 13 = some ct_ppnorm := rfl
theorem G_planeHypotheses2_divide : G_planeHypotheses2 20 = some ct_divide := rfl
theorem G_planeHypotheses2_pequalT : G_planeHypotheses2 9 = some ct_pequalT := rfl
theorem G_planeHypotheses2_onlineT : G_planeHypotheses2 29 = some ct_onlineT := rfl
theorem G_planeHypotheses2_uprightT : G_planeHypotheses2 30 = some ct_uprightT := rfl
theorem G_planeHypotheses2_drequalT : G_planeHypotheses2 15 = some ct_drequalT := rfl
theorem G_planeHypotheses2_drfrac : G_planeHypotheses2 32 = some ct_drfrac := rfl
def tr_planeHypotheses2 : Tr (List SA) := (.call 8 [(.ob 0), (.ob 1), (.ob 2), (.ob 3), (.ob 4), (.ob 5), (.ob 6), (.ob 7), (.ob 8), (.b (.var 9))] 10 (.call 28 [(.ob 4), (.ob 5), (.ob 0), (.ob 1), (.ob 2), (.ob 3)] 11 (.call 29 [(.ob 11), (.ob 12), (.ob 0), (.ob 1), (.ob 2), (.ob 3)] 14 (.call 30 [(.ob 0), (.ob 1), (.ob 2), (.ob 3), (.ob 4), (.ob 5), (.ob 11), (.ob 12)] 15 (.call 31 [(.ob 4), (.ob 5), (.ob 0), (.ob 1), (.ob 2), (.ob 3)] 16 (.call 30 [(.ob 0), (.ob 1), (.ob 2), (.ob 3), (.ob 4), (.ob 5), (.ob 16), (.ob 17)] 19 (.call 32 [(.n (.lit 1)), (.n (.lit 2))] 20 (.call 20 [(.ob 4), (.ob 5), (.ob 16), (.ob 17), (.ob 20)] 21 (.call 9 [(.ob 21), (.ob 22), (.ob 11), (.ob 12)] 23 (.call 33 [(.ob 0), (.ob 1), (.ob 2), (.ob 3), (.ob 4), (.ob 5), (.ob 6), (.ob 7)] 24 (.call 34 [(.ob 0), (.ob 1), (.ob 2), (.ob 3), (.ob 4), (.ob 5)] 27 (.call 29 [(.ob 27), (.ob 28), (.ob 0), (.ob 1), (.ob 2), (.ob 3)] 30 (.call 13 [(.ob 4), (.ob 5), (.ob 27), (.ob 28)] 31 (.call 13 [(.ob 4), (.ob 5), (.ob 0), (.ob 1)] 32 (.call 15 [(.ob 31), (.ob 32)] 33 (.call 35 [(.ob 0), (.ob 1), (.ob 2), (.ob 3), (.ob 4), (.ob 5)] 34 (.call 26 [(.ob 0), (.ob 1), (.ob 2), (.ob 3), (.ob 8)] 37 (.call 13 [(.ob 0), (.ob 1), (.ob 37), (.ob 38)] 39 (.call 13 [(.ob 0), (.ob 1), (.ob 2), (.ob 3)] 40 (.call 15 [(.ob 39), (.ob 40)] 41 (.leaf [(.b (.lit true))])))))))))))))))))))))
theorem ev_planeHypotheses2 : Ct.ok Try.prog 5 { args := [[.r, .r, .r, .r, .r, .r, .r, .r, .r, .b]], res := [[.b]], F := fun als => tr_planeHypotheses2.den G_planeHypotheses2 (env0 als), L := 2, A := 0, B := 0 } :=
  top_ok (by kernel_rfl) G_planeHypotheses2_ok (plans := planF) (lf := 60) (k := 20) (by kernel_rfl)
set_option maxHeartbeats 1000000 in
theorem planeHypotheses2_den (x1 x2 x3 x4 x5 x6 x7 x8 x9 : Rat) (f : Bool) (h : f_fits (List.map QA.at [.q x1, .q x2, .q x3, .q x4, .q x5, .q x6, .q x7, .q x8, .q x9, .b f]) = some [.b true]) (h1 : ¬ (x1 = x3 ∧ x2 = x4)) (h2 : pcross x1 x2 x3 x4 x5 x6 x7 x8 = 0) (h3 : pcross x1 x2 x3 x4 x1 x2 x5 x6 = 0) : tr_planeHypotheses2.den G_planeHypotheses2 (env0 (List.map QA.at [.q x1, .q x2, .q x3, .q x4, .q x5, .q x6, .q x7, .q x8, .q x9, .b f])) = some [.b true] := by
  have h := fitsT_of h
  simp only [List.map_cons, List.map_nil] at h
  have n11 : ¬ (11 : Int) = 0 := by decide
  simp only [tr_planeHypotheses2, Tr.den, evAll, SA.ev, BE.ev, IE.ev, SE.ev, LE.ev, env0, extE_eq, pickO, op1, op2, op3, Nat.reduceLeDiff, Nat.reduceSub, Nat.reduceEqDiff, if_true, if_false, ite_true, ite_false, decide_true, decide_false, Bool.not_true, Bool.not_false, Nat.zero_le, Nat.sub_zero, List.getElem?_cons_zero, List.getElem?_cons_succ, List.getElem?_nil, cq0, cq1, cq2, cq3, cq4, cq5, cq6, cq7, cq8, cq9, cq10, cq12, cq16, outQ1, outQ2, outQ3, outQ4, outQ5, evN_at, evB_at, evS_at, evLen_z1, evLen_z2, evBit_z, at_n, at_b, at_s, at_z, at_k, at_kb, kG, kQ, kQ1, List.map_cons, List.map_nil, List.cons_append, List.nil_append, decide_eq_true_eq, Bool.false_eq_true, G_planeHypotheses2_fitsT, ctF_fitsT, G_planeHypotheses2_footN, ctF_footN, G_planeHypotheses2_mirrorN, ctF_mirrorN, G_planeHypotheses2_meetD, ctF_meetD, G_planeHypotheses2_otherN, ctF_otherN, G_planeHypotheses2_centerD, ctF_centerD, G_planeHypotheses2_oncircle, ctF_oncircle, G_planeHypotheses2_ppnorm, ctF_ppnorm, G_planeHypotheses2_divide, ctF_divide, G_planeHypotheses2_pequalT, ctF_pequalT, G_planeHypotheses2_onlineT, ctF_onlineT, G_planeHypotheses2_uprightT, ctF_uprightT, G_planeHypotheses2_drequalT, ctF_drequalT, G_planeHypotheses2_drfrac, ctF_drfrac, h, n11, eq_self, and_self, g_foot, g_mirror, g_meet, g_other, g_center, g_oncircle, g_online, g_upright, g_divide, g_frac, g_pequal, g_pnorm, g_equal, oncircle_norm, h1, i12, foot_on, foot_up h1, mirror_up h1, half_back, other_on, other_norm h1, h2, h3]
def G_planeHypotheses3 : Gam := gamOf [(8, ct_fitsT), (28, ct_footN), (31, ct_mirrorN), (33, ct_meetN), (34, ct_otherN), (35, ct_centerD), (26, ct_oncircle), (13, ct_ppnorm), (20, ct_divide), (9, ct_pequalT), (29, ct_onlineT), (30, ct_uprightT), (15, ct_drequalT), (32, ct_drfrac)]
theorem G_planeHypotheses3_ok : GamOk Try.prog G_planeHypotheses3 := gamOk_of ⟨ok_fitsT, ok_footN, ok_mirrorN, ok_meetN, ok_otherN, ok_centerD, ok_oncircle, ok_ppnorm, ok_divide, ok_pequalT, ok_onlineT, ok_uprightT, ok_drequalT, ok_drfrac, trivial⟩
theorem G_planeHypotheses3_fitsT : G_planeHypotheses3 8 = some ct_fitsT := rfl
theorem G_planeHypotheses3_footN : G_planeHypotheses3 28 = some ct_footN := rfl
theorem G_planeHypotheses3_mirrorN : G_planeHypotheses3 31 = some ct_mirrorN := rfl
theorem G_planeHypotheses3_meetN : G_planeHypotheses3 33 = some ct_meetN := rfl
theorem G_planeHypotheses3_otherN : G_planeHypotheses3 34 = some ct_otherN := rfl
theorem G_planeHypotheses3_centerD : G_planeHypotheses3 35 = some ct_centerD := rfl
theorem G_planeHypotheses3_oncircle : G_planeHypotheses3 26 = some ct_oncircle := rfl
theorem G_planeHypotheses3_ppnorm : G_planeHypotheses3 13 = some ct_ppnorm := rfl
theorem G_planeHypotheses3_divide : G_planeHypotheses3 20 = some ct_divide := rfl
theorem G_planeHypotheses3_pequalT : G_planeHypotheses3 9 = some ct_pequalT := rfl
theorem G_planeHypotheses3_onlineT : G_planeHypotheses3 29 = some ct_onlineT := rfl
theorem G_planeHypotheses3_uprightT : G_planeHypotheses3 30 = some ct_uprightT := rfl
theorem G_planeHypotheses3_drequalT : G_planeHypotheses3 15 = some ct_drequalT := rfl
theorem G_planeHypotheses3_drfrac : G_planeHypotheses3 32 = some ct_drfrac := rfl
def tr_planeHypotheses3 : Tr (List SA) := (.call 8 [(.ob 0), (.ob 1), (.ob 2), (.ob 3), (.ob 4), (.ob 5), (.ob 6), (.ob 7), (.ob 8), (.b (.var 9))] 10 (.call 28 [(.ob 4), (.ob 5), (.ob 0), (.ob 1), (.ob 2), (.ob 3)] 11 (.call 29 [(.ob 11), (.ob 12), (.ob 0), (.ob 1), (.ob 2), (.ob 3)] 14 (.call 30 [(.ob 0), (.ob 1), (.ob 2), (.ob 3), (.ob 4), (.ob 5), (.ob 11), (.ob 12)] 15 (.call 31 [(.ob 4), (.ob 5), (.ob 0), (.ob 1), (.ob 2), (.ob 3)] 16 (.call 30 [(.ob 0), (.ob 1), (.ob 2), (.ob 3), (.ob 4), (.ob 5), (.ob 16), (.ob 17)] 19 (.call 32 [(.n (.lit 1)), (.n (.lit 2))] 20 (.call 20 [(.ob 4), (.ob 5), (.ob 16), (.ob 17), (.ob 20)] 21 (.call 9 [(.ob 21), (.ob 22), (.ob 11), (.ob 12)] 23 (.call 33 [(.ob 0), (.ob 1), (.ob 2), (.ob 3), (.ob 4), (.ob 5), (.ob 6), (.ob 7)] 24 (.call 29 [(.ob 24), (.ob 25), (.ob 0), (.ob 1), (.ob 2), (.ob 3)] 27 (.call 29 [(.ob 24), (.ob 25), (.ob 4), (.ob 5), (.ob 6), (.ob 7)] 28 (.call 34 [(.ob 0), (.ob 1), (.ob 2), (.ob 3), (.ob 4), (.ob 5)] 29 (.call 29 [(.ob 29), (.ob 30), (.ob 0), (.ob 1), (.ob 2), (.ob 3)] 32 (.call 13 [(.ob 4), (.ob 5), (.ob 29), (.ob 30)] 33 (.call 13 [(.ob 4), (.ob 5), (.ob 0), (.ob 1)] 34 (.call 15 [(.ob 33), (.ob 34)] 35 (.call 35 [(.ob 0), (.ob 1), (.ob 2), (.ob 3), (.ob 4), (.ob 5)] 36 (.call 26 [(.ob 0), (.ob 1), (.ob 2), (.ob 3), (.ob 8)] 39 (.call 13 [(.ob 0), (.ob 1), (.ob 39), (.ob 40)] 41 (.call 13 [(.ob 0), (.ob 1), (.ob 2), (.ob 3)] 42 (.call 15 [(.ob 41), (.ob 42)] 43 (.leaf [(.b (.lit true))])))))))))))))))))))))))
theorem ev_planeHypotheses3 : Ct.ok Try.prog 5 { args := [[.r, .r, .r, .r, .r, .r, .r, .r, .r, .b]], res := [[.b]], F := fun als => tr_planeHypotheses3.den G_planeHypotheses3 (env0 als), L := 2, A := 0, B := 0 } :=
  top_ok (by kernel_rfl) G_planeHypotheses3_ok (plans := planF) (lf := 60) (k := 20) (by kernel_rfl)
set_option maxHeartbeats 1000000 in
theorem planeHypotheses3_den (x1 x2 x3 x4 x5 x6 x7 x8 x9 : Rat) (f : Bool) (h : f_fits (List.map QA.at [.q x1, .q x2, .q x3, .q x4, .q x5, .q x6, .q x7, .q x8, .q x9, .b f]) = some [.b true]) (h1 : ¬ (x1 = x3 ∧ x2 = x4)) (h2 : ¬ pcross x1 x2 x3 x4 x5 x6 x7 x8 = 0) (h3 : pcross x1 x2 x3 x4 x1 x2 x5 x6 = 0) : tr_planeHypotheses3.den G_planeHypotheses3 (env0 (List.map QA.at [.q x1, .q x2, .q x3, .q x4, .q x5, .q x6, .q x7, .q x8, .q x9, .b f])) = some [.b true] := by
  have h := fitsT_of h
  simp only [List.map_cons, List.map_nil] at h
  have n11 : ¬ (11 : Int) = 0 := by decide
  simp only [tr_planeHypotheses3, Tr.den, evAll, SA.ev, BE.ev, IE.ev, SE.ev, LE.ev, env0, extE_eq, pickO, op1, op2, op3, Nat.reduceLeDiff, Nat.reduceSub, Nat.reduceEqDiff, if_true, if_false, ite_true, ite_false, decide_true, decide_false, Bool.not_true, Bool.not_false, Nat.zero_le, Nat.sub_zero, List.getElem?_cons_zero, List.getElem?_cons_succ, List.getElem?_nil, cq0, cq1, cq2, cq3, cq4, cq5, cq6, cq7, cq8, cq9, cq10, cq12, cq16, outQ1, outQ2, outQ3, outQ4, outQ5, evN_at, evB_at, evS_at, evLen_z1, evLen_z2, evBit_z, at_n, at_b, at_s, at_z, at_k, at_kb, kG, kQ, kQ1, List.map_cons, List.map_nil, List.cons_append, List.nil_append, decide_eq_true_eq, Bool.false_eq_true, G_planeHypotheses3_fitsT, ctF_fitsT, G_planeHypotheses3_footN, ctF_footN, G_planeHypotheses3_mirrorN, ctF_mirrorN, G_planeHypotheses3_meetN, ctF_meetN, G_planeHypotheses3_otherN, ctF_otherN, G_planeHypotheses3_centerD, ctF_centerD, G_planeHypotheses3_oncircle, ctF_oncircle, G_planeHypotheses3_ppnorm, ctF_ppnorm, G_planeHypotheses3_divide, ctF_divide, G_planeHypotheses3_pequalT, ctF_pequalT, G_planeHypotheses3_onlineT, ctF_onlineT, G_planeHypotheses3_uprightT, ctF_uprightT, G_planeHypotheses3_drequalT, ctF_drequalT, G_planeHypotheses3_drfrac, ctF_drfrac, h, n11, eq_self, and_self, g_foot, g_mirror, g_meet, g_other, g_center, g_oncircle, g_online, g_upright, g_divide, g_frac, g_pequal, g_pnorm, g_equal, oncircle_norm, h1, i12, foot_on, foot_up h1, mirror_up h1, half_back, other_on, other_norm h1, h2, h3, meet_on1, meet_on2 h2]
def G_planeHypotheses4 : Gam := gamOf [(8, ct_fitsT), (28, ct_footN), (31, ct_mirrorN), (33, ct_meetD), (34, ct_otherN), (35, ct_centerN), (26, ct_oncircle), (13, ct_ppnorm), (20, ct_divide), (9, ct_pequalT), (29, ct_onlineT), (30, ct_uprightT), (15, ct_drequalT), (32, ct_drfrac)]
theorem G_planeHypotheses4_ok : GamOk Try.prog G_planeHypotheses4 := gamOk_of ⟨ok_fitsT, ok_footN, ok_mirrorN, ok_meetD, ok_otherN, ok_centerN, ok_oncircle, ok_ppnorm, ok_divide, ok_pequalT, ok_onlineT, ok_uprightT, ok_drequalT, ok_drfrac, trivial⟩
theorem G_planeHypotheses4_fitsT : G_planeHypotheses4 8 = some ct_fitsT := rfl
theorem G_planeHypotheses4_footN : G_planeHypotheses4 28 = some ct_footN := rfl
theorem G_planeHypotheses4_mirrorN : G_planeHypotheses4 31 = some ct_mirrorN := rfl
theorem G_planeHypotheses4_meetD : G_planeHypotheses4 33 = some ct_meetD := rfl
theorem G_planeHypotheses4_otherN : G_planeHypotheses4 34 = some ct_otherN := rfl
theorem G_planeHypotheses4_centerN : G_planeHypotheses4 35 = some ct_centerN := rfl
theorem G_planeHypotheses4_oncircle : G_planeHypotheses4 26 = some ct_oncircle := rfl
theorem G_planeHypotheses4_ppnorm : G_planeHypotheses4 13 = some ct_ppnorm := rfl
theorem G_planeHypotheses4_divide : G_planeHypotheses4 20 = some ct_divide := rfl
theorem G_planeHypotheses4_pequalT : G_planeHypotheses4 9 = some ct_pequalT := rfl
theorem G_planeHypotheses4_onlineT : G_planeHypotheses4 29 = some ct_onlineT := rfl
theorem G_planeHypotheses4_uprightT : G_planeHypotheses4 30 = some ct_uprightT := rfl
theorem G_planeHypotheses4_drequalT : G_planeHypotheses4 15 = some ct_drequalT := rfl
theorem G_planeHypotheses4_drfrac : G_planeHypotheses4 32 = some ct_drfrac := rfl
def tr_planeHypotheses4 : Tr (List SA) := (.call 8 [(.ob 0), (.ob 1), (.ob 2), (.ob 3), (.ob 4), (.ob 5), (.ob 6), (.ob 7), (.ob 8), (.b (.var 9))] 10 (.call 28 [(.ob 4), (.ob 5), (.ob 0), (.ob 1), (.ob 2), (.ob 3)] 11 (.call 29 [(.ob 11), (.ob 12), (.ob 0), (.ob 1), (.ob 2), (.ob 3)] 14 (.call 30 [(.ob 0), (.ob 1), (.ob 2), (.ob 3), (.ob 4), (.ob 5), (.ob 11), (.ob 12)] 15 (.call 31 [(.ob 4), (.ob 5), (.ob 0), (.ob 1), (.ob 2), (.ob 3)] 16 (.call 30 [(.ob 0), (.ob 1), (.ob 2), (.ob 3), (.ob 4), (.ob 5), (.ob 16), (.ob 17)] 19 (.call 32 [(.n (.lit 1)), (.n (.lit 2))] 20 (.call 20 [(.ob 4), (.ob 5), (.ob 16), (.ob 17), (.ob 20)] 21 (.call 9 [(.ob 21), (.ob 22), (.ob 11), (.ob 12)] 23 (.call 33 [(.ob 0), (.ob 1), (.ob 2), (.ob 3), (.ob 4), (.ob 5), (.ob 6), (.ob 7)] 24 (.call 34 [(.ob 0), (.ob 1), (.ob 2), (.ob 3), (.ob 4), (.ob 5)] 27 (.call 29 [(.ob 27), (.ob 28), (.ob 0), (.ob 1), (.ob 2), (.ob 3)] 30 (.call 13 [(.ob 4), (.ob 5), (.ob 27), (.ob 28)] 31 (.call 13 [(.ob 4), (.ob 5), (.ob 0), (.ob 1)] 32 (.call 15 [(.ob 31), (.ob 32)] 33 (.call 35 [(.ob 0), (.ob 1), (.ob 2), (.ob 3), (.ob 4), (.ob 5)] 34 (.call 13 [(.ob 34), (.ob 35), (.ob 0), (.ob 1)] 37 (.call 13 [(.ob 34), (.ob 35), (.ob 2), (.ob 3)] 38 (.call 15 [(.ob 37), (.ob 38)] 39 (.call 13 [(.ob 34), (.ob 35), (.ob 0), (.ob 1)] 40 (.call 13 [(.ob 34), (.ob 35), (.ob 4), (.ob 5)] 41 (.call 15 [(.ob 40), (.ob 41)] 42 (.call 26 [(.ob 0), (.ob 1), (.ob 2), (.ob 3), (.ob 8)] 43 (.call 13 [(.ob 0), (.ob 1), (.ob 43), (.ob 44)] 45 (.call 13 [(.ob 0), (.ob 1), (.ob 2), (.ob 3)] 46 (.call 15 [(.ob 45), (.ob 46)] 47 (.leaf [(.b (.lit true))])))))))))))))))))))))))))))
theorem ev_planeHypotheses4 : Ct.ok Try.prog 5 { args := [[.r, .r, .r, .r, .r, .r, .r, .r, .r, .b]], res := [[.b]], F := fun als => tr_planeHypotheses4.den G_planeHypotheses4 (env0 als), L := 2, A := 0, B := 0 } :=
  top_ok (by kernel_rfl) G_planeHypotheses4_ok (plans := planF) (lf := 60) (k := 20) (by kernel_rfl)
set_option maxHeartbeats 1000000 in
theorem planeHypotheses4_den (x1 x2 x3 x4 x5 x6 x7 x8 x9 : Rat) (f : Bool) (h : f_fits (List.map QA.at [.q x1, .q x2, .q x3, .q x4, .q x5, .q x6, .q x7, .q x8, .q x9, .b f]) = some [.b true]) (h1 : ¬ (x1 = x3 ∧ x2 = x4)) (h2 : pcross x1 x2 x3 x4 x5 x6 x7 x8 = 0) (h3 : ¬ pcross x1 x2 x3 x4 x1 x2 x5 x6 = 0) : tr_planeHypotheses4.den G_planeHypotheses4 (env0 (List.map QA.at [.q x1, .q x2, .q x3, .q x4, .q x5, .q x6, .q x7, .q x8, .q x9, .b f])) = some [.b true] := by
  have h := fitsT_of h
  simp only [List.map_cons, List.map_nil] at h
  have n11 : ¬ (11 : Int) = 0 := by decide
  simp only [tr_planeHypotheses4, Tr.den, evAll, SA.ev, BE.ev, IE.ev, SE.ev, LE.ev, env0, extE_eq, pickO, op1, op2, op3, Nat.reduceLeDiff, Nat.reduceSub, Nat.reduceEqDiff, if_true, if_false, ite_true, ite_false, decide_true, decide_false, Bool.not_true, Bool.not_false, Nat.zero_le, Nat.sub_zero, List.getElem?_cons_zero, List.getElem?_cons_succ, List.getElem?_nil, cq0, cq1, cq2, cq3, cq4, cq5, cq6, cq7, cq8, cq9, cq10, cq12, cq16, outQ1, outQ2, outQ3, outQ4, outQ5, evN_at, evB_at, evS_at, evLen_z1, evLen_z2, evBit_z, at_n, at_b, at_s, at_z, at_k, at_kb, kG, kQ, kQ1, List.map_cons, List.map_nil, List.cons_append, List.nil_append, decide_eq_true_eq, Bool.false_eq_true, G_planeHypotheses4_fitsT, ctF_fitsT, G_planeHypotheses4_footN, ctF_footN, G_planeHypotheses4_mirrorN, ctF_mirrorN, G_planeHypotheses4_meetD, ctF_meetD, G_planeHypotheses4_otherN, ctF_otherN, G_planeHypotheses4_centerN, ctF_centerN, G_planeHypotheses4_oncircle, ctF_oncircle, G_planeHypotheses4_ppnorm, ctF_ppnorm, G_planeHypotheses4_divide, ctF_divide, G_planeHypotheses4_pequalT, ctF_pequalT, G_planeHypotheses4_onlineT, ctF_onlineT, G_planeHypotheses4_uprightT, ctF_uprightT, G_planeHypotheses4_drequalT, ctF_drequalT, G_planeHypotheses4_drfrac, ctF_drfrac, h, n11, eq_self, and_self, g_foot, g_mirror, g_meet, g_other, g_center, g_oncircle, g_online, g_upright, g_divide, g_frac, g_pequal, g_pnorm, g_equal, oncircle_norm, h1, i12, foot_on, foot_up h1, mirror_up h1, half_back, other_on, other_norm h1, h2, h3, ← center_norm1 h3, ← center_norm2 h3]
def G_planeHypotheses5 : Gam := gamOf [(8, ct_fitsT), (28, ct_footN), (31, ct_mirrorN), (33, ct_meetN), (34, ct_otherN), (35, ct_centerN), (26, ct_oncircle), (13, ct_ppnorm), (20, ct_divide), (9, ct_pequalT), (29, ct_onlineT), (30, ct_uprightT), (15, ct_drequalT), (32, ct_drfrac)]
theorem G_planeHypotheses5_ok : GamOk Try.prog G_planeHypotheses5 := gamOk_of ⟨ok_fitsT, ok_footN, ok_mirrorN, ok_meetN, ok_otherN, ok_centerN, ok_oncircle, ok_ppnorm, ok_divide, ok_pequalT, ok_onlineT, ok_uprightT, ok_drequalT, ok_drfrac, trivial⟩
theorem G_planeHypotheses5_fitsT : G_planeHypotheses5 8 = some ct_fitsT := rfl
theorem G_planeHypotheses5_footN : G_planeHypotheses5 28 = some ct_footN := rfl
theorem G_planeHypotheses5_mirrorN : G_planeHypotheses5 31 = some ct_mirrorN := rfl
theorem G_planeHypotheses5_meetN : G_planeHypotheses5 33 = some ct_meetN := rfl
theorem G_planeHypotheses5_otherN : G_planeHypotheses5 34 = some ct_otherN := rfl
theorem G_planeHypotheses5_centerN : G_planeHypotheses5 35 = some ct_centerN := rfl
theorem G_planeHypotheses5_oncircle : G_planeHypotheses5 26 = some ct_oncircle := rfl
theorem G_planeHypotheses5_ppnorm : G_planeHypotheses5 13 = some ct_ppnorm := rfl
theorem G_planeHypotheses5_divide : G_planeHypotheses5 20 = some ct_divide := rfl
theorem G_planeHypotheses5_pequalT : G_planeHypotheses5 9 = some ct_pequalT := rfl
theorem G_planeHypotheses5_onlineT : G_planeHypotheses5 29 = some ct_onlineT := rfl
theorem G_planeHypotheses5_uprightT : G_planeHypotheses5 30 = some ct_uprightT := rfl
theorem G_planeHypotheses5_drequalT : G_planeHypotheses5 15 = some ct_drequalT := rfl
theorem G_planeHypotheses5_drfrac : G_planeHypotheses5 32 = some ct_drfrac := rfl
def tr_planeHypotheses5 : Tr (List SA) := (.call 8 [(.ob 0), (.ob 1), (.ob 2), (.ob 3), (.ob 4), (.ob 5), (.ob 6), (.ob 7), (.ob 8), (.b (.var 9))] 10 (.call 28 [(.ob 4), (.ob 5), (.ob 0), (.ob 1), (.ob 2), (.ob 3)] 11 (.call 29 [(.ob 11), (.ob 12), (.ob 0), (.ob 1), (.ob 2), (.ob 3)] 14 (.call 30 [(.ob 0), (.ob 1), (.ob 2), (.ob 3), (.ob 4), (.ob 5), (.ob 11), (.ob 12)] 15 (.call 31 [(.ob 4), (.ob 5), (.ob 0), (.ob 1), (.ob 2), (.ob 3)] 16 (.call 30 [(.ob 0), (.ob 1), (.ob 2), (.ob 3), (.ob 4), (.ob 5), (.ob 16), (.ob 17)] 19 (.call 32 [(.n (.lit 1)), (.n (.lit 2))] 20 (.call 20 [(.ob 4), (.ob 5), (.ob 16), (.ob 17), (.ob 20)] 21 (.call 9 [(.ob 21), (.ob 22), (.ob 11), (.ob 12)] 23 (.call 33 [(.ob 0), (.ob 1), (.ob 2), (.ob 3), (.ob 4), (.ob 5), (.ob 6), (.ob 7)] 24 (.call 29 [(.ob 24), (.ob 25), (.ob 0), (.ob 1), (.ob 2), (.ob 3)] 27 (.call 29 [(.ob 24), (.ob 25), (.ob 4), (.ob 5), (.ob 6), (.ob 7)] 28 (.call 34 [(.ob 0), (.ob 1), (.ob 2), (.ob 3), (.ob 4), (.ob 5)] 29 (.call 29 [(.ob 29), (.ob 30), (.ob 0), (.ob 1), (.ob 2), (.ob 3)] 32 (.call 13 [(.ob 4), (.ob 5), (.ob 29), (.ob 30)] 33 (.call 13 [(.ob 4), (.ob 5), (.ob 0), (.ob 1)] 34 (.call 15 [(.ob 33), (.ob 34)] 35 (.call 35 [(.ob 0), (.ob 1), (.ob 2), (.ob 3), (.ob 4), (.ob 5)] 36 (.call 13 [(.ob 36), (.ob 37), (.ob 0), (.ob 1)] 39 (.call 13 [(.ob 36), (.ob 37), (.ob 2), (.ob 3)] 40 (.call 15 [(.ob 39), (.ob 40)] 41 (.call 13 [(.ob 36), (.ob 37), (.ob 0), (.ob 1)] 42 (.call 13 [(.ob 36), (.ob 37), (.ob 4), (.ob 5)] 43 (.call 15 [(.ob 42), (.ob 43)] 44 (.call 26 [(.ob 0), (.ob 1), (.ob 2), (.ob 3), (.ob 8)] 45 (.call 13 [(.ob 0), (.ob 1), (.ob 45), (.ob 46)] 47 (.call 13 [(.ob 0), (.ob 1), (.ob 2), (.ob 3)] 48 (.call 15 [(.ob 47), (.ob 48)] 49 (.leaf [(.b (.lit true))])))))))))))))))))))))))))))))
theorem ev_planeHypotheses5 : Ct.ok Try.prog 5 { args := [[.r, .r, .r, .r, .r, .r, .r, .r, .r, .b]], res := [[.b]], F := fun als => tr_planeHypotheses5.den G_planeHypotheses5 (env0 als), L := 2, A := 0, B := 0 } :=
  top_ok (by kernel_rfl) G_planeHypotheses5_ok (plans := planF) (lf := 60) (k := 20) (by kernel_rfl)
set_option maxHeartbeats 1000000 in
theorem planeHypotheses5_den (x1 x2 x3 x4 x5 x6 x7 x8 x9 : Rat) (f : Bool) (h : f_fits (List.map QA.at [.q x1, .q x2, .q x3, .q x4, .q x5, .q x6, .q x7, .q x8, .q x9, .b f]) = some [.b true]) (h1 : ¬ (x1 = x3 ∧ x2 = x4)) (h2 : ¬ pcross x1 x2 x3 x4 x5 x6 x7 x8 = 0) (h3 : ¬ pcross x1 x2 x3 x4 x1 x2 x5 x6 = 0) : tr_planeHypotheses5.den G_planeHypotheses5 (env0 (List.map QA.at [.q x1, .q x2, .q x3, .q x4, .q x5, .q x6, .q x7, .q x8, .q x9, .b f])) = some [.b true] := by
  have h := fitsT_of h
  simp only [List.map_cons, List.map_nil] at h
  have n11 : ¬ (11 : Int) = 0 := by decide
  simp only [tr_planeHypotheses5, Tr.den, evAll, SA.ev, BE.ev, IE.ev, SE.ev, LE.ev, env0, extE_eq, pickO, op1, op2, op3, Nat.reduceLeDiff, Nat.reduceSub, Nat.reduceEqDiff, if_true, if_false, ite_true, ite_false, decide_true, decide_false, Bool.not_true, Bool.not_false, Nat.zero_le, Nat.sub_zero, List.getElem?_cons_zero, List.getElem?_cons_succ, List.getElem?_nil, cq0, cq1, cq2, cq3, cq4, cq5, cq6, cq7, cq8, cq9, cq10, cq12, cq16, outQ1, outQ2, outQ3, outQ4, outQ5, evN_at, evB_at, evS_at, evLen_z1, evLen_z2, evBit_z, at_n, at_b, at_s, at_z, at_k, at_kb, kG, kQ, kQ1, List.map_cons, List.map_nil, List.cons_append, List.nil_append, decide_eq_true_eq, Bool.false_eq_true, G_planeHypotheses5_fitsT, ctF_fitsT, G_planeHypotheses5_footN, ctF_footN, G_planeHypotheses5_mirrorN, ctF_mirrorN, G_planeHypotheses5_meetN, ctF_meetN, G_planeHypotheses5_otherN, ctF_otherN, G_planeHypotheses5_centerN, ctF_centerN, G_planeHypotheses5_oncircle, ctF_oncircle, G_planeHypotheses5_ppnorm, ctF_ppnorm, G_planeHypotheses5_divide, ctF_divide, G_planeHypotheses5_pequalT, ctF_pequalT, G_planeHypotheses5_onlineT, ctF_onlineT, G_planeHypotheses5_uprightT, ctF_uprightT, G_planeHypotheses5_drequalT, ctF_drequalT, G_planeHypotheses5_drfrac, ctF_drfrac, h, n11, eq_self, and_self, g_foot, g_mirror, g_meet, g_other, g_center, g_oncircle, g_online, g_upright, g_divide, g_frac, g_pequal, g_pnorm, g_equal, oncircle_norm, h1, i12, foot_on, foot_up h1, mirror_up h1, half_back, other_on, other_norm h1, h2, h3, meet_on1, meet_on2 h2, ← center_norm1 h3, ← center_norm2 h3]
theorem planeHypothesesA_any (x1 x2 x3 x4 x5 x6 x7 x8 x9 : Rat) (f : Bool) (h : f_fits (List.map QA.at [.q x1, .q x2, .q x3, .q x4, .q x5, .q x6, .q x7, .q x8, .q x9, .b f]) = some [.b true]) : ∃ FA A1 B1, Ct.ok Try.prog 5 { args := [[.r, .r, .r, .r, .r, .r, .r, .r, .r, .b]], res := [[.b]], F := FA, L := 2, A := A1, B := B1 } ∧ FA (List.map QA.at [.q x1, .q x2, .q x3, .q x4, .q x5, .q x6, .q x7, .q x8, .q x9, .b f]) = some [.b true] := by
  by_cases h1 : x1 = x3 ∧ x2 = x4
  · have h2 : pcross x1 x2 x3 x4 x5 x6 x7 x8 = 0 := by rw [← h1.1, ← h1.2]; exact cross_same _ _ _ _ _ _
    have h3 : pcross x1 x2 x3 x4 x1 x2 x5 x6 = 0 := by rw [← h1.1, ← h1.2]; exact cross_same _ _ _ _ _ _
    exact ⟨_, _, _, ev_planeHypotheses1, planeHypotheses1_den _ _ _ _ _ _ _ _ _ _ h h1 h2 h3⟩
  · by_cases h2 : pcross x1 x2 x3 x4 x5 x6 x7 x8 = 0
    · by_cases h3 : pcross x1 x2 x3 x4 x1 x2 x5 x6 = 0
      · exact ⟨_, _, _, ev_planeHypotheses2, planeHypotheses2_den _ _ _ _ _ _ _ _ _ _ h h1 h2 h3⟩
      · exact ⟨_, _, _, ev_planeHypotheses4, planeHypotheses4_den _ _ _ _ _ _ _ _ _ _ h h1 h2 h3⟩
    · by_cases h3 : pcross x1 x2 x3 x4 x1 x2 x5 x6 = 0
      · exact ⟨_, _, _, ev_planeHypotheses3, planeHypotheses3_den _ _ _ _ _ _ _ _ _ _ h h1 h2 h3⟩
      · exact ⟨_, _, _, ev_planeHypotheses5, planeHypotheses5_den _ _ _ _ _ _ _ _ _ _ h h1 h2 h3⟩
set_option maxRecDepth 100000 in
theorem planeHypotheses_liftedU (os : Os) (started : os.Started) (H : Type) (enc : TypeId × Value → H) (F : Stop.Interp) :
    ReturnsInHanded {} Try.checked os 5 .any ((Rows.OpenSpec.upto Rows.planeHypothesesSpec).pre6 enc Try.prog Try.f5 Rows.planeHypothesesUptoRow.domain false) (((Rows.OpenSpec.upto Rows.planeHypothesesSpec).at F).post enc Try.prog Try.f5 false true false false) := by
  refine law_liftedU (C := Try.checked) (s := Rows.planeHypothesesSpec) Try.own Try.laidOut (by kernel_rfl) Try.func5 rfl 4 rfl Try.underlying4 (by kernel_rfl) enc ?_ ?_ os started F
    (OpenSpec.witness (enc := enc) (C := Try.checked) (s := Rows.OpenSpec.upto Rows.planeHypothesesSpec) (k := Rows.uptoSmall) rfl false ⟨#[], #[.agg #[.bool false, .slice none 0 0, .slice none 0 0, .bool false, .slice none 0 0, .slice none 0 0, .bool false, .slice none 0 0, .slice none 0 0, .bool false, .slice none 0 0, .slice none 0 0, .bool false, .slice none 0 0, .slice none 0 0, .bool false, .slice none 0 0, .slice none 0 0, .bool false, .slice none 0 0, .slice none 0 0, .bool false, .slice none 0 0, .slice none 0 0, .bool false, .slice none 0 0, .slice none 0 0, .bool false]], []⟩ 8 (by kernel_rfl) (by kernel_rfl) (by kernel_rfl) (x := ([.agg [.agg [.agg [.agg [.lit (.bool false), .nil], .nil], .agg [.agg [.lit (.bool false), .nil], .nil]], .agg [.agg [.agg [.lit (.bool false), .nil], .nil], .agg [.agg [.lit (.bool false), .nil], .nil]], .agg [.agg [.agg [.lit (.bool false), .nil], .nil], .agg [.agg [.lit (.bool false), .nil], .nil]], .agg [.agg [.agg [.lit (.bool false), .nil], .nil], .agg [.agg [.lit (.bool false), .nil], .nil]], .agg [.agg [.lit (.bool false), .nil], .nil], .lit (.bool false)]], [], [])) (by kernel_rfl) rfl (by kernel_rfl))
  · intro ds hl
    match ds, hl with
    | [d0], _ => rfl
  · intro W base args ds ps hval hA hlt hk
    have hA' : DataW.TrodAll enc Try.prog W 0 (fun _ => true) true [31] args.toList ds ps := hA
    have hval' : ∀ (j : Nat) t v, Try.f5.params[j]? = some t → args[j]? = some v → Value.okWide Try.prog W .any base t v := hval
    obtain ⟨v0, d0, rfl, rfl, h0⟩ := Go.ChangeShapes.trodAll_one hA'
    simp only [Rows.uptoBulkAll] at hk
    have hb_x : Rows.uptoBulk d0 ≤ 1048576 := by omega
    obtain ⟨als_x, hr_x, hg_x⟩ := open_Case (hval' 0 31 v0 rfl rfl) h0
    exact case_law ev_planeHypothesesB planeHypothesesA_any (fun _ _ _ _ _ _ _ _ _ _ _ _ _ _ _ _ _ _ _ _ _ _ _ _ _ _ _ _ h => planeHypothesesB_den _ _ _ _ _ _ _ _ _ _ _ _ _ _ _ _ _ _ _ _ _ _ _ _ _ _ _ _ h) hr_x hg_x hb_x

theorem planeHypothesesUpto_holds : Rows.PlaneHypothesesUptoSaid :=
  OpenClaim.holds_of_cond 5 Try.f5 rfl rfl rfl rfl rfl rfl rfl ⟨rfl, rfl, rfl, rfl, rfl⟩ rfl rfl rfl rfl rfl (by kernel_rfl) Try.func5 (by kernel_rfl)
    (of_decide_eq_true (by kernel_rfl)) (by unfold Func.isWrapper; first | (rw [if_pos (by decide +kernel)]; kernel_rfl) | (rw [if_neg (by decide +kernel)]; exact ⟨rfl, rfl⟩))
    (fun os started H enc _ F => planeHypotheses_liftedU os started H enc F)
end Go.Proofs.Ytnfchljiicniiaa
