/- Points: contracts whose results are known. -/
import Derived.Test.YtnfchljiicniiaaPl5
import Derived.Test.YtnfchljiicniiaaPl7
namespace Go.Proofs.Ytnfchljiicniiaa
open Go Go.RowKit Go.V Go.ChangeMaps
set_option linter.unusedSimpArgs false
set_option linter.unusedVariables false
set_option maxRecDepth 20000
def ct_pequalT : Ct := { args := [[.r, .r], [.r, .r]], res := [[(.kb true)]], F := cq (kG g_pequal [[(.kb true)]].flatten), L := 10000000, A := 0, B := 0 }
theorem ctF_pequalT : ct_pequalT.F = cq (kG g_pequal [(.kb true)]) := rfl
theorem ok_pequalT : ct_pequalT.ok Try.prog 9 := ok_kq ok_pequal rfl
def ct_rpequalT : Ct := { args := [[.r, .r], [.r, .r]], res := [[(.kb true)]], F := cq (kG g_pequal [[(.kb true)]].flatten), L := 10000000, A := 0, B := 0 }
theorem ctF_rpequalT : ct_rpequalT.F = cq (kG g_pequal [(.kb true)]) := rfl
theorem ok_rpequalT : ct_rpequalT.ok Try.prog 10 := ok_kq ok_rpequal rfl
def ct_drrightT : Ct := { args := [[.r]], res := [[(.kb true)]], F := cq (kG g_right [[(.kb true)]].flatten), L := 1000000000, A := 0, B := 0 }
theorem ctF_drrightT : ct_drrightT.F = cq (kG g_right [(.kb true)]) := rfl
theorem ok_drrightT : ct_drrightT.ok Try.prog 14 := ok_kq ok_drright rfl
def ct_drequalT : Ct := { args := [[.r], [.r]], res := [[(.kb true)]], F := cq (kG g_equal [[(.kb true)]].flatten), L := 100000000, A := 0, B := 0 }
theorem ctF_drequalT : ct_drequalT.F = cq (kG g_equal [(.kb true)]) := rfl
theorem ok_drequalT : ct_drequalT.ok Try.prog 15 := ok_kq ok_drequal rfl
def ct_samepT : Ct := { args := [[.r, .r], [.n], [.r, .r], [.n]], res := [[(.kb true)]], F := cq (kG g_same [[(.kb true)]].flatten), L := 100000, A := 0, B := 0 }
theorem ctF_samepT : ct_samepT.F = cq (kG g_same [(.kb true)]) := rfl
theorem ok_samepT : ct_samepT.ok Try.prog 19 := ok_kq ok_samep rfl
def g_online : List QA → Option (List QA)
  | [.q px, .q py, .q ax, .q ay, .q bx, .q by'] => some [.b (decide (pcross ax ay bx by' ax ay px py = 0))]
  | _ => none
def g_upright : List QA → Option (List QA)
  | [.q ax, .q ay, .q bx, .q by', .q px, .q py, .q qx, .q qy] => some [.b (decide (pdot ax ay bx by' px py qx qy = 0))]
  | _ => none
def tr_online : Tr (List SA) := (.call 12 [(.ob 2), (.ob 3), (.ob 4), (.ob 5), (.ob 2), (.ob 3), (.ob 0), (.ob 1)] 6 (.call 37 [(.ob 6)] 7 (.leaf [(.b (.eq (.var 7) (.lit 0)))])))
theorem ev_online : Ct.ok Try.prog 29 { args := [[.r, .r], [.r, .r], [.r, .r]], res := [[.b]], F := fun als => tr_online.den GP3 (env0 als), L := 100000, A := 0, B := 0 } :=
  top_ok (by kernel_rfl) GP3_ok (plans := planF) (lf := 60) (k := 20) (by kernel_rfl)
def tr_upright : Tr (List SA) := (.call 11 [(.ob 0), (.ob 1), (.ob 2), (.ob 3), (.ob 4), (.ob 5), (.ob 6), (.ob 7)] 8 (.call 37 [(.ob 8)] 9 (.leaf [(.b (.eq (.var 9) (.lit 0)))])))
theorem ev_upright : Ct.ok Try.prog 30 { args := [[.r, .r], [.r, .r], [.r, .r], [.r, .r]], res := [[.b]], F := fun als => tr_upright.den GP3 (env0 als), L := 100000, A := 0, B := 0 } :=
  top_ok (by kernel_rfl) GP3_ok (plans := planF) (lf := 60) (k := 20) (by kernel_rfl)
theorem online_den (l r : List QA) (h : g_online l = some r) : tr_online.den GP3 (env0 (l.map QA.at)) = some (r.map QA.at) := by
  unfold g_online at h
  split at h
  · injection h with h; subst h
    simp only [tr_online, Tr.den, evAll, SA.ev, BE.ev, IE.ev, SE.ev, LE.ev, env0, extE_eq, pickO, op1, op2, op3, Nat.reduceLeDiff, Nat.reduceSub, Nat.reduceEqDiff, if_true, if_false, ite_true, ite_false, decide_true, decide_false, Bool.not_true, Bool.not_false, Nat.zero_le, Nat.sub_zero, List.getElem?_cons_zero, List.getElem?_cons_succ, List.getElem?_nil, cq0, cq1, cq2, cq3, cq4, cq5, cq6, cq7, cq8, cq9, cq10, cq12, cq16, outQ1, outQ2, outQ3, outQ4, outQ5, evN_at, evB_at, evS_at, evLen_z1, evLen_z2, evBit_z, at_n, at_b, at_s, at_z, at_k, at_kb, kG, kQ, kQ1, List.map_cons, List.map_nil, List.cons_append, List.nil_append, decide_eq_true_eq, Bool.false_eq_true, GP3_dadd, ctF_dadd, GP3_dradd, ctF_dradd, GP3_dsub, ctF_dsub, GP3_drsub, ctF_drsub, GP3_dmul, ctF_dmul, GP3_drmul, ctF_drmul, GP3_dneg, ctF_dneg, GP3_drneg, ctF_drneg, GP3_dof, ctF_dof, GP3_drof, ctF_drof, GP3_drfrac, ctF_drfrac, GP3_dsign, ctF_dsign, GP3_drsign, ctF_drsign, GP3_dcmp, ctF_dcmp, GP3_drcmp, ctF_drcmp, GP3_dequal, ctF_dequal, GP3_drequal, ctF_drequal, GP3_drright, ctF_drright, GP3_pequal, ctF_pequal, GP3_rpequal, ctF_rpequal, GP3_ppdot, ctF_ppdot, GP3_rpdot, ctF_rpdot, GP3_ppcross, ctF_ppcross, GP3_rpcross, ctF_rpcross, GP3_ppnorm, ctF_ppnorm, GP3_rpnorm, ctF_rpnorm, GP3_divide, ctF_divide, GP3_rdivide, ctF_rdivide, GP3_shiftp, ctF_shiftp, GP3_rshiftp, ctF_rshiftp, GP3_turn, ctF_turn, GP3_rturn, ctF_rturn, GP3_oncircle, ctF_oncircle, GP3_roncircle, ctF_roncircle, GP3_foot, ctF_foot, GP3_mirror, ctF_mirror, GP3_meet, ctF_meet, GP3_other, ctF_other, GP3_center, ctF_center, GP3_cut, ctF_cut, GP3_intersect, ctF_intersect, g_pcross, g_sign, qsg_0]
  · cases h
theorem upright_den (l r : List QA) (h : g_upright l = some r) : tr_upright.den GP3 (env0 (l.map QA.at)) = some (r.map QA.at) := by
  unfold g_upright at h
  split at h
  · injection h with h; subst h
    simp only [tr_upright, Tr.den, evAll, SA.ev, BE.ev, IE.ev, SE.ev, LE.ev, env0, extE_eq, pickO, op1, op2, op3, Nat.reduceLeDiff, Nat.reduceSub, Nat.reduceEqDiff, if_true, if_false, ite_true, ite_false, decide_true, decide_false, Bool.not_true, Bool.not_false, Nat.zero_le, Nat.sub_zero, List.getElem?_cons_zero, List.getElem?_cons_succ, List.getElem?_nil, cq0, cq1, cq2, cq3, cq4, cq5, cq6, cq7, cq8, cq9, cq10, cq12, cq16, outQ1, outQ2, outQ3, outQ4, outQ5, evN_at, evB_at, evS_at, evLen_z1, evLen_z2, evBit_z, at_n, at_b, at_s, at_z, at_k, at_kb, kG, kQ, kQ1, List.map_cons, List.map_nil, List.cons_append, List.nil_append, decide_eq_true_eq, Bool.false_eq_true, GP3_dadd, ctF_dadd, GP3_dradd, ctF_dradd, GP3_dsub, ctF_dsub, GP3_drsub, ctF_drsub, GP3_dmul, ctF_dmul, GP3_drmul, ctF_drmul, GP3_dneg, ctF_dneg, GP3_drneg, ctF_drneg, GP3_dof, ctF_dof, GP3_drof, ctF_drof, GP3_drfrac, ctF_drfrac, GP3_dsign, ctF_dsign, GP3_drsign, ctF_drsign, GP3_dcmp, ctF_dcmp, GP3_drcmp, ctF_drcmp, GP3_dequal, ctF_dequal, GP3_drequal, ctF_drequal, GP3_drright, ctF_drright, GP3_pequal, ctF_pequal, GP3_rpequal, ctF_rpequal, GP3_ppdot, ctF_ppdot, GP3_rpdot, ctF_rpdot, GP3_ppcross, ctF_ppcross, GP3_rpcross, ctF_rpcross, GP3_ppnorm, ctF_ppnorm, GP3_rpnorm, ctF_rpnorm, GP3_divide, ctF_divide, GP3_rdivide, ctF_rdivide, GP3_shiftp, ctF_shiftp, GP3_rshiftp, ctF_rshiftp, GP3_turn, ctF_turn, GP3_rturn, ctF_rturn, GP3_oncircle, ctF_oncircle, GP3_roncircle, ctF_roncircle, GP3_foot, ctF_foot, GP3_mirror, ctF_mirror, GP3_meet, ctF_meet, GP3_other, ctF_other, GP3_center, ctF_center, GP3_cut, ctF_cut, GP3_intersect, ctF_intersect, g_pdot, g_sign, qsg_0]
  · cases h
def ct_online : Ct := { args := [[.r, .r], [.r, .r], [.r, .r]], res := [[.b]], F := cq g_online, L := 100000, A := 0, B := 0 }
theorem ctF_online : ct_online.F = cq g_online := rfl
theorem ok_online : ct_online.ok Try.prog 29 := ev_online.weaken (of_cq (g := g_online) online_den)
def ct_upright : Ct := { args := [[.r, .r], [.r, .r], [.r, .r], [.r, .r]], res := [[.b]], F := cq g_upright, L := 100000, A := 0, B := 0 }
theorem ctF_upright : ct_upright.F = cq g_upright := rfl
theorem ok_upright : ct_upright.ok Try.prog 30 := ev_upright.weaken (of_cq (g := g_upright) upright_den)
def ct_onlineT : Ct := { args := [[.r, .r], [.r, .r], [.r, .r]], res := [[(.kb true)]], F := cq (kG g_online [[(.kb true)]].flatten), L := 100000, A := 0, B := 0 }
theorem ctF_onlineT : ct_onlineT.F = cq (kG g_online [(.kb true)]) := rfl
theorem ok_onlineT : ct_onlineT.ok Try.prog 29 := ok_kq ok_online rfl
def ct_uprightT : Ct := { args := [[.r, .r], [.r, .r], [.r, .r], [.r, .r]], res := [[(.kb true)]], F := cq (kG g_upright [[(.kb true)]].flatten), L := 100000, A := 0, B := 0 }
theorem ctF_uprightT : ct_uprightT.F = cq (kG g_upright [(.kb true)]) := rfl
theorem ok_uprightT : ct_uprightT.ok Try.prog 30 := ok_kq ok_upright rfl
def ct_footN : Ct := { args := [[.r, .r], [.r, .r], [.r, .r]], res := [[.r, .r], [(.k (0))]], F := cq (kG g_foot [[.r, .r], [(.k (0))]].flatten), L := 10000, A := 64, B := 334 }
theorem ctF_footN : ct_footN.F = cq (kG g_foot [.r, .r, (.k (0))]) := rfl
theorem ok_footN : ct_footN.ok Try.prog 28 := ok_kq ok_foot rfl
def ct_footD : Ct := { args := [[.r, .r], [.r, .r], [.r, .r]], res := [[.r, .r], [(.k (11))]], F := cq (kG g_foot [[.r, .r], [(.k (11))]].flatten), L := 10000, A := 64, B := 334 }
theorem ctF_footD : ct_footD.F = cq (kG g_foot [.r, .r, (.k (11))]) := rfl
theorem ok_footD : ct_footD.ok Try.prog 28 := ok_kq ok_foot rfl
def ct_mirrorN : Ct := { args := [[.r, .r], [.r, .r], [.r, .r]], res := [[.r, .r], [(.k (0))]], F := cq (kG g_mirror [[.r, .r], [(.k (0))]].flatten), L := 7700, A := 256, B := 1354 }
theorem ctF_mirrorN : ct_mirrorN.F = cq (kG g_mirror [.r, .r, (.k (0))]) := rfl
theorem ok_mirrorN : ct_mirrorN.ok Try.prog 31 := ok_kq ok_mirror rfl
def ct_mirrorD : Ct := { args := [[.r, .r], [.r, .r], [.r, .r]], res := [[.r, .r], [(.k (11))]], F := cq (kG g_mirror [[.r, .r], [(.k (11))]].flatten), L := 7700, A := 256, B := 1354 }
theorem ctF_mirrorD : ct_mirrorD.F = cq (kG g_mirror [.r, .r, (.k (11))]) := rfl
theorem ok_mirrorD : ct_mirrorD.ok Try.prog 31 := ok_kq ok_mirror rfl
def ct_meetN : Ct := { args := [[.r, .r], [.r, .r], [.r, .r], [.r, .r]], res := [[.r, .r], [(.k (0))]], F := cq (kG g_meet [[.r, .r], [(.k (0))]].flatten), L := 10000, A := 64, B := 334 }
theorem ctF_meetN : ct_meetN.F = cq (kG g_meet [.r, .r, (.k (0))]) := rfl
theorem ok_meetN : ct_meetN.ok Try.prog 33 := ok_kq ok_meet rfl
def ct_meetD : Ct := { args := [[.r, .r], [.r, .r], [.r, .r], [.r, .r]], res := [[.r, .r], [(.k (11))]], F := cq (kG g_meet [[.r, .r], [(.k (11))]].flatten), L := 10000, A := 64, B := 334 }
theorem ctF_meetD : ct_meetD.F = cq (kG g_meet [.r, .r, (.k (11))]) := rfl
theorem ok_meetD : ct_meetD.ok Try.prog 33 := ok_kq ok_meet rfl
def ct_otherN : Ct := { args := [[.r, .r], [.r, .r], [.r, .r]], res := [[.r, .r], [(.k (0))]], F := cq (kG g_other [[.r, .r], [(.k (0))]].flatten), L := 10000, A := 128, B := 670 }
theorem ctF_otherN : ct_otherN.F = cq (kG g_other [.r, .r, (.k (0))]) := rfl
theorem ok_otherN : ct_otherN.ok Try.prog 34 := ok_kq ok_other rfl
def ct_otherD : Ct := { args := [[.r, .r], [.r, .r], [.r, .r]], res := [[.r, .r], [(.k (11))]], F := cq (kG g_other [[.r, .r], [(.k (11))]].flatten), L := 10000, A := 128, B := 670 }
theorem ctF_otherD : ct_otherD.F = cq (kG g_other [.r, .r, (.k (11))]) := rfl
theorem ok_otherD : ct_otherD.ok Try.prog 34 := ok_kq ok_other rfl
def ct_centerN : Ct := { args := [[.r, .r], [.r, .r], [.r, .r]], res := [[.r, .r], [(.k (0))]], F := cq (kG g_center [[.r, .r], [(.k (0))]].flatten), L := 10000, A := 128, B := 678 }
theorem ctF_centerN : ct_centerN.F = cq (kG g_center [.r, .r, (.k (0))]) := rfl
theorem ok_centerN : ct_centerN.ok Try.prog 35 := ok_kq ok_center rfl
def ct_centerD : Ct := { args := [[.r, .r], [.r, .r], [.r, .r]], res := [[.r, .r], [(.k (11))]], F := cq (kG g_center [[.r, .r], [(.k (11))]].flatten), L := 10000, A := 128, B := 678 }
theorem ctF_centerD : ct_centerD.F = cq (kG g_center [.r, .r, (.k (11))]) := rfl
theorem ok_centerD : ct_centerD.ok Try.prog 35 := ok_kq ok_center rfl
theorem i12 : (inI 1 ∧ inI 2) = True := eq_true (by decide)
theorem cross_same (ax ay cx cy dx dy : Rat) : pcross ax ay ax ay cx cy dx dy = 0 := by
  unfold pcross
  grind
end Go.Proofs.Ytnfchljiicniiaa
