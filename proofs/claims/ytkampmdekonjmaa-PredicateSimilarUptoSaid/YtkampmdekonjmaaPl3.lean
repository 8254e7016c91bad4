/- Points: constructions, in numbers. -/
import Derived.Test.YtkampmdekonjmaaPl2
namespace Go.Proofs.Ytkampmdekonjmaa
open Go Go.RowKit Go.V
set_option linter.unusedSimpArgs false
set_option linter.unusedVariables false
set_option maxRecDepth 20000
theorem rdivide_den (l r : List QA) (h : g_divide l = some r) : tr_rdivide.den GP2 (env0 (l.map QA.at)) = some (r.map QA.at) := by
  unfold g_divide at h
  split at h
  · injection h with h; subst h
    simp only [tr_rdivide, Tr.den, evAll, SA.ev, BE.ev, IE.ev, SE.ev, LE.ev, env0, extE_eq, pickO, op1, op2, op3, Nat.reduceLeDiff, Nat.reduceSub, Nat.reduceEqDiff, if_true, if_false, ite_true, ite_false, decide_true, decide_false, Bool.not_true, Bool.not_false, Nat.zero_le, Nat.sub_zero, List.getElem?_cons_zero, List.getElem?_cons_succ, List.getElem?_nil, cq0, cq1, cq2, cq3, cq4, cq5, cq6, cq7, cq8, cq9, cq10, cq12, cq16, outQ1, outQ2, outQ3, outQ4, outQ5, evN_at, evB_at, evS_at, evLen_z1, evLen_z2, evBit_z, at_n, at_b, at_s, at_z, at_k, at_kb, kG, kQ, kQ1, List.map_cons, List.map_nil, List.cons_append, List.nil_append, decide_eq_true_eq, Bool.false_eq_true, GP2_dadd, ctF_dadd, GP2_dradd, ctF_dradd, GP2_dsub, ctF_dsub, GP2_drsub, ctF_drsub, GP2_dmul, ctF_dmul, GP2_drmul, ctF_drmul, GP2_drneg, ctF_drneg, GP2_dof, ctF_dof, GP2_drof, ctF_drof, GP2_drfrac, ctF_drfrac, GP2_dsign, ctF_dsign, GP2_drsign, ctF_drsign, GP2_dcmp, ctF_dcmp, GP2_dequal, ctF_dequal, GP2_drright, ctF_drright, GP2_vec, ctF_vec, GP2_rvec, ctF_rvec, GP2_vdot, ctF_vdot, GP2_vcross, ctF_vcross, GP2_vsq, ctF_vsq, GP2_rvturn, ctF_rvturn, GP2_vtimes, ctF_vtimes, GP2_plus, ctF_plus, GP2_along, ctF_along, GP2_pover, ctF_pover, GP2_pequal, ctF_pequal, GP2_ppdot, ctF_ppdot, GP2_ppcross, ctF_ppcross, GP2_ppnorm, ctF_ppnorm, g_vec, g_along]
  · cases h
theorem rturn_den (l r : List QA) (h : g_turn l = some r) : tr_rturn.den GP2 (env0 (l.map QA.at)) = some (r.map QA.at) := by
  unfold g_turn at h
  split at h
  · injection h with h; subst h
    simp only [tr_rturn, Tr.den, evAll, SA.ev, BE.ev, IE.ev, SE.ev, LE.ev, env0, extE_eq, pickO, op1, op2, op3, Nat.reduceLeDiff, Nat.reduceSub, Nat.reduceEqDiff, if_true, if_false, ite_true, ite_false, decide_true, decide_false, Bool.not_true, Bool.not_false, Nat.zero_le, Nat.sub_zero, List.getElem?_cons_zero, List.getElem?_cons_succ, List.getElem?_nil, cq0, cq1, cq2, cq3, cq4, cq5, cq6, cq7, cq8, cq9, cq10, cq12, cq16, outQ1, outQ2, outQ3, outQ4, outQ5, evN_at, evB_at, evS_at, evLen_z1, evLen_z2, evBit_z, at_n, at_b, at_s, at_z, at_k, at_kb, kG, kQ, kQ1, List.map_cons, List.map_nil, List.cons_append, List.nil_append, decide_eq_true_eq, Bool.false_eq_true, GP2_dadd, ctF_dadd, GP2_dradd, ctF_dradd, GP2_dsub, ctF_dsub, GP2_drsub, ctF_drsub, GP2_dmul, ctF_dmul, GP2_drmul, ctF_drmul, GP2_drneg, ctF_drneg, GP2_dof, ctF_dof, GP2_drof, ctF_drof, GP2_drfrac, ctF_drfrac, GP2_dsign, ctF_dsign, GP2_drsign, ctF_drsign, GP2_dcmp, ctF_dcmp, GP2_dequal, ctF_dequal, GP2_drright, ctF_drright, GP2_vec, ctF_vec, GP2_rvec, ctF_rvec, GP2_vdot, ctF_vdot, GP2_vcross, ctF_vcross, GP2_vsq, ctF_vsq, GP2_rvturn, ctF_rvturn, GP2_vtimes, ctF_vtimes, GP2_plus, ctF_plus, GP2_along, ctF_along, GP2_pover, ctF_pover, GP2_pequal, ctF_pequal, GP2_ppdot, ctF_ppdot, GP2_ppcross, ctF_ppcross, GP2_ppnorm, ctF_ppnorm, g_vec, g_vturn, g_along, g_of, inI1, cast1, Rat.one_mul]
  · cases h
end Go.Proofs.Ytkampmdekonjmaa
