/- Intervals, in numbers: the specification's functions; Hull, Meet, Div, Square, Sign. -/
import Derived.Test.YtifgdiejpglhfaaGreatIv2
namespace Go.Proofs.YtifgdiejpglhfaaGreat
open Go Go.RowKit Go.V
set_option linter.unusedSimpArgs false
set_option linter.unusedVariables false
set_option maxRecDepth 20000
theorem rivadd_den (l r : List QA) (h : g_ivadd l = some r) : tr_rivadd.den GV0 (env0 (l.map QA.at)) = some (r.map QA.at) := by
  unfold g_ivadd at h
  split at h
  · injection h with h; subst h
    simp only [tr_rivadd, Tr.den, evAll, SA.ev, BE.ev, IE.ev, SE.ev, LE.ev, env0, extE_eq, pickO, op1, op2, op3, Nat.reduceLeDiff, Nat.reduceSub, Nat.reduceEqDiff, if_true, if_false, ite_true, ite_false, decide_true, decide_false, Bool.not_true, Bool.not_false, Nat.zero_le, Nat.sub_zero, List.getElem?_cons_zero, List.getElem?_cons_succ, List.getElem?_nil, cq0, cq1, cq2, cq3, cq4, cq5, cq6, cq7, cq8, cq9, cq10, cq12, cq16, outQ1, outQ2, outQ3, outQ4, outQ5, evN_at, evB_at, evS_at, evLen_z1, evLen_z2, evBit_z, at_n, at_b, at_s, at_z, at_k, at_kb, kG, kQ, kQ1, List.map_cons, List.map_nil, List.cons_append, List.nil_append, decide_eq_true_eq, Bool.false_eq_true, GV0_dadd, ctF_dadd, GV0_dradd, ctF_dradd, GV0_dsub, ctF_dsub, GV0_drsub, ctF_drsub, GV0_dmul, ctF_dmul, GV0_drmul, ctF_drmul, GV0_ddiv, ctF_ddiv, GV0_drdiv, ctF_drdiv, GV0_dcmp, ctF_dcmp, GV0_drcmp, ctF_drcmp, GV0_dof, ctF_dof, GV0_drof, ctF_drof, GV0_dsign, ctF_dsign, GV0_drsign, ctF_drsign, g_add]
  · cases h
theorem rivsub_den (l r : List QA) (h : g_ivsub l = some r) : tr_rivsub.den GV0 (env0 (l.map QA.at)) = some (r.map QA.at) := by
  unfold g_ivsub at h
  split at h
  · injection h with h; subst h
    simp only [tr_rivsub, Tr.den, evAll, SA.ev, BE.ev, IE.ev, SE.ev, LE.ev, env0, extE_eq, pickO, op1, op2, op3, Nat.reduceLeDiff, Nat.reduceSub, Nat.reduceEqDiff, if_true, if_false, ite_true, ite_false, decide_true, decide_false, Bool.not_true, Bool.not_false, Nat.zero_le, Nat.sub_zero, List.getElem?_cons_zero, List.getElem?_cons_succ, List.getElem?_nil, cq0, cq1, cq2, cq3, cq4, cq5, cq6, cq7, cq8, cq9, cq10, cq12, cq16, outQ1, outQ2, outQ3, outQ4, outQ5, evN_at, evB_at, evS_at, evLen_z1, evLen_z2, evBit_z, at_n, at_b, at_s, at_z, at_k, at_kb, kG, kQ, kQ1, List.map_cons, List.map_nil, List.cons_append, List.nil_append, decide_eq_true_eq, Bool.false_eq_true, GV0_dadd, ctF_dadd, GV0_dradd, ctF_dradd, GV0_dsub, ctF_dsub, GV0_drsub, ctF_drsub, GV0_dmul, ctF_dmul, GV0_drmul, ctF_drmul, GV0_ddiv, ctF_ddiv, GV0_drdiv, ctF_drdiv, GV0_dcmp, ctF_dcmp, GV0_drcmp, ctF_drcmp, GV0_dof, ctF_dof, GV0_drof, ctF_drof, GV0_dsign, ctF_dsign, GV0_drsign, ctF_drsign, g_sub]
  · cases h
theorem rivhas_den (l r : List QA) (h : g_ivhas l = some r) : tr_rivhas.den GV0 (env0 (l.map QA.at)) = some (r.map QA.at) := by
  unfold g_ivhas at h
  split at h
  · rename_i a b x
    injection h with h; subst h
    by_cases h1 : a ≤ x
    · by_cases h2 : x ≤ b
      · simp only [tr_rivhas, Tr.den, evAll, SA.ev, BE.ev, IE.ev, SE.ev, LE.ev, env0, extE_eq, pickO, op1, op2, op3, Nat.reduceLeDiff, Nat.reduceSub, Nat.reduceEqDiff, if_true, if_false, ite_true, ite_false, decide_true, decide_false, Bool.not_true, Bool.not_false, Nat.zero_le, Nat.sub_zero, List.getElem?_cons_zero, List.getElem?_cons_succ, List.getElem?_nil, cq0, cq1, cq2, cq3, cq4, cq5, cq6, cq7, cq8, cq9, cq10, cq12, cq16, outQ1, outQ2, outQ3, outQ4, outQ5, evN_at, evB_at, evS_at, evLen_z1, evLen_z2, evBit_z, at_n, at_b, at_s, at_z, at_k, at_kb, kG, kQ, kQ1, List.map_cons, List.map_nil, List.cons_append, List.nil_append, decide_eq_true_eq, Bool.false_eq_true, GV0_dadd, ctF_dadd, GV0_dradd, ctF_dradd, GV0_dsub, ctF_dsub, GV0_drsub, ctF_drsub, GV0_dmul, ctF_dmul, GV0_drmul, ctF_drmul, GV0_ddiv, ctF_ddiv, GV0_drdiv, ctF_drdiv, GV0_dcmp, ctF_dcmp, GV0_drcmp, ctF_drcmp, GV0_dof, ctF_dof, GV0_drof, ctF_drof, GV0_dsign, ctF_dsign, GV0_drsign, ctF_drsign, g_cmp, cmp_le, eq_true h1, eq_true h2, and_self]
      · simp only [tr_rivhas, Tr.den, evAll, SA.ev, BE.ev, IE.ev, SE.ev, LE.ev, env0, extE_eq, pickO, op1, op2, op3, Nat.reduceLeDiff, Nat.reduceSub, Nat.reduceEqDiff, if_true, if_false, ite_true, ite_false, decide_true, decide_false, Bool.not_true, Bool.not_false, Nat.zero_le, Nat.sub_zero, List.getElem?_cons_zero, List.getElem?_cons_succ, List.getElem?_nil, cq0, cq1, cq2, cq3, cq4, cq5, cq6, cq7, cq8, cq9, cq10, cq12, cq16, outQ1, outQ2, outQ3, outQ4, outQ5, evN_at, evB_at, evS_at, evLen_z1, evLen_z2, evBit_z, at_n, at_b, at_s, at_z, at_k, at_kb, kG, kQ, kQ1, List.map_cons, List.map_nil, List.cons_append, List.nil_append, decide_eq_true_eq, Bool.false_eq_true, GV0_dadd, ctF_dadd, GV0_dradd, ctF_dradd, GV0_dsub, ctF_dsub, GV0_drsub, ctF_drsub, GV0_dmul, ctF_dmul, GV0_drmul, ctF_drmul, GV0_ddiv, ctF_ddiv, GV0_drdiv, ctF_drdiv, GV0_dcmp, ctF_dcmp, GV0_drcmp, ctF_drcmp, GV0_dof, ctF_dof, GV0_drof, ctF_drof, GV0_dsign, ctF_dsign, GV0_drsign, ctF_drsign, g_cmp, cmp_le, eq_true h1, h2, and_false]
    · simp only [tr_rivhas, Tr.den, evAll, SA.ev, BE.ev, IE.ev, SE.ev, LE.ev, env0, extE_eq, pickO, op1, op2, op3, Nat.reduceLeDiff, Nat.reduceSub, Nat.reduceEqDiff, if_true, if_false, ite_true, ite_false, decide_true, decide_false, Bool.not_true, Bool.not_false, Nat.zero_le, Nat.sub_zero, List.getElem?_cons_zero, List.getElem?_cons_succ, List.getElem?_nil, cq0, cq1, cq2, cq3, cq4, cq5, cq6, cq7, cq8, cq9, cq10, cq12, cq16, outQ1, outQ2, outQ3, outQ4, outQ5, evN_at, evB_at, evS_at, evLen_z1, evLen_z2, evBit_z, at_n, at_b, at_s, at_z, at_k, at_kb, kG, kQ, kQ1, List.map_cons, List.map_nil, List.cons_append, List.nil_append, decide_eq_true_eq, Bool.false_eq_true, GV0_dadd, ctF_dadd, GV0_dradd, ctF_dradd, GV0_dsub, ctF_dsub, GV0_drsub, ctF_drsub, GV0_dmul, ctF_dmul, GV0_drmul, ctF_drmul, GV0_ddiv, ctF_ddiv, GV0_drdiv, ctF_drdiv, GV0_dcmp, ctF_dcmp, GV0_drcmp, ctF_drcmp, GV0_dof, ctF_dof, GV0_drof, ctF_drof, GV0_dsign, ctF_dsign, GV0_drsign, ctF_drsign, g_cmp, cmp_le, h1, false_and]
  · cases h
def tr_rivmul : Tr (List SA) := (.call 75 [(.ob 0), (.ob 2)] 4 (.call 75 [(.ob 0), (.ob 3)] 5 (.call 75 [(.ob 1), (.ob 2)] 6 (.call 75 [(.ob 1), (.ob 3)] 7 (.call 52 [(.ob 5), (.ob 4)] 8 (.br (.lt (.var 8) (.lit 0)) (.call 52 [(.ob 6), (.ob 5)] 9 (.br (.lt (.var 9) (.lit 0)) (.call 52 [(.ob 7), (.ob 6)] 10 (.br (.lt (.var 10) (.lit 0)) (.call 52 [(.ob 5), (.ob 4)] 11 (.br (.lt (.lit 0) (.var 11)) (.call 52 [(.ob 6), (.ob 5)] 12 (.br (.lt (.lit 0) (.var 12)) (.call 52 [(.ob 7), (.ob 6)] 13 (.br (.lt (.lit 0) (.var 13)) (.leaf [(.ob 7), (.ob 7)]) (.leaf [(.ob 7), (.ob 6)]))) (.call 52 [(.ob 7), (.ob 5)] 13 (.br (.lt (.lit 0) (.var 13)) (.leaf [(.ob 7), (.ob 7)]) (.leaf [(.ob 7), (.ob 5)]))))) (.call 52 [(.ob 6), (.ob 4)] 12 (.br (.lt (.lit 0) (.var 12)) (.call 52 [(.ob 7), (.ob 6)] 13 (.br (.lt (.lit 0) (.var 13)) (.leaf [(.ob 7), (.ob 7)]) (.leaf [(.ob 7), (.ob 6)]))) (.call 52 [(.ob 7), (.ob 4)] 13 (.br (.lt (.lit 0) (.var 13)) (.leaf [(.ob 7), (.ob 7)]) (.leaf [(.ob 7), (.ob 4)]))))))) (.call 52 [(.ob 5), (.ob 4)] 11 (.br (.lt (.lit 0) (.var 11)) (.call 52 [(.ob 6), (.ob 5)] 12 (.br (.lt (.lit 0) (.var 12)) (.call 52 [(.ob 7), (.ob 6)] 13 (.br (.lt (.lit 0) (.var 13)) (.leaf [(.ob 6), (.ob 7)]) (.leaf [(.ob 6), (.ob 6)]))) (.call 52 [(.ob 7), (.ob 5)] 13 (.br (.lt (.lit 0) (.var 13)) (.leaf [(.ob 6), (.ob 7)]) (.leaf [(.ob 6), (.ob 5)]))))) (.call 52 [(.ob 6), (.ob 4)] 12 (.br (.lt (.lit 0) (.var 12)) (.call 52 [(.ob 7), (.ob 6)] 13 (.br (.lt (.lit 0) (.var 13)) (.leaf [(.ob 6), (.ob 7)]) (.leaf [(.ob 6), (.ob 6)]))) (.call 52 [(.ob 7), (.ob 4)] 13 (.br (.lt (.lit 0) (.var 13)) (.leaf [(.ob 6), (.ob 7)]) (.leaf [(.ob 6), (.ob 4)]))))))))) (.call 52 [(.ob 7), (.ob 5)] 10 (.br (.lt (.var 10) (.lit 0)) (.call 52 [(.ob 5), (.ob 4)] 11 (.br (.lt (.lit 0) (.var 11)) (.call 52 [(.ob 6), (.ob 5)] 12 (.br (.lt (.lit 0) (.var 12)) (.call 52 [(.ob 7), (.ob 6)] 13 (.br (.lt (.lit 0) (.var 13)) (.leaf [(.ob 7), (.ob 7)]) (.leaf [(.ob 7), (.ob 6)]))) (.call 52 [(.ob 7), (.ob 5)] 13 (.br (.lt (.lit 0) (.var 13)) (.leaf [(.ob 7), (.ob 7)]) (.leaf [(.ob 7), (.ob 5)]))))) (.call 52 [(.ob 6), (.ob 4)] 12 (.br (.lt (.lit 0) (.var 12)) (.call 52 [(.ob 7), (.ob 6)] 13 (.br (.lt (.lit 0) (.var 13)) (.leaf [(.ob 7), (.ob 7)]) (.leaf [(.ob 7), (.ob 6)]))) (.call 52 [(.ob 7), (.ob 4)] 13 (.br (.lt (.lit 0) (.var 13)) (.leaf [(.ob 7), (.ob 7)]) (.leaf [(.ob 7), (.ob 4)]))))))) (.call 52 [(.ob 5), (.ob 4)] 11 (.br (.lt (.lit 0) (.var 11)) (.call 52 [(.ob 6), (.ob 5)] 12 (.br (.lt (.lit 0) (.var 12)) (.call 52 [(.ob 7), (.ob 6)] 13 (.br (.lt (.lit 0) (.var 13)) (.leaf [(.ob 5), (.ob 7)]) (.leaf [(.ob 5), (.ob 6)]))) (.call 52 [(.ob 7), (.ob 5)] 13 (.br (.lt (.lit 0) (.var 13)) (.leaf [(.ob 5), (.ob 7)]) (.leaf [(.ob 5), (.ob 5)]))))) (.call 52 [(.ob 6), (.ob 4)] 12 (.br (.lt (.lit 0) (.var 12)) (.call 52 [(.ob 7), (.ob 6)] 13 (.br (.lt (.lit 0) (.var 13)) (.leaf [(.ob 5), (.ob 7)]) (.leaf [(.ob 5), (.ob 6)]))) (.call 52 [(.ob 7), (.ob 4)] 13 (.br (.lt (.lit 0) (.var 13)) (.leaf [(.ob 5), (.ob 7)]) (.leaf [(.ob 5), (.ob 4)]))))))))))) (.call 52 [(.ob 6), (.ob 4)] 9 (.br (.lt (.var 9) (.lit 0)) (.call 52 [(.ob 7), (.ob 6)] 10 (.br (.lt (.var 10) (.lit 0)) (.call 52 [(.ob 5), (.ob 4)] 11 (.br (.lt (.lit 0) (.var 11)) (.call 52 [(.ob 6), (.ob 5)] 12 (.br (.lt (.lit 0) (.var 12)) (.call 52 [(.ob 7), (.ob 6)] 13 (.br (.lt (.lit 0) (.var 13)) (.leaf [(.ob 7), (.ob 7)]) (.leaf [(.ob 7), (.ob 6)]))) (.call 52 [(.ob 7), (.ob 5)] 13 (.br (.lt (.lit 0) (.var 13)) (.leaf [(.ob 7), (.ob 7)]) (.leaf [(.ob 7), (.ob 5)]))))) (.call 52 [(.ob 6), (.ob 4)] 12 (.br (.lt (.lit 0) (.var 12)) (.call 52 [(.ob 7), (.ob 6)] 13 (.br (.lt (.lit 0) (.var 13)) (.leaf [(.ob 7), (.ob 7)]) (.leaf [(.ob 7), (.ob 6)]))) (.call 52 [(.ob 7), (.ob 4)] 13 (.br (.lt (.lit 0) (.var 13)) (.leaf [(.ob 7), (.ob 7)]) (.leaf [(.ob 7), (.ob 4)]))))))) (.call 52 [(.ob 5), (.ob 4)] 11 (.br (.lt (.lit 0) (.var 11)) (.call 52 [(.ob 6), (.ob 5)] 12 (.br (.lt (.lit 0) (.var 12)) (.call 52 [(.ob 7), (.ob 6)] 13 (.br (.lt (.lit 0) (.var 13)) (.leaf [(.ob 6), (.ob 7)]) (.leaf [(.ob 6), (.ob 6)]))) (.call 52 [(.ob 7), (.ob 5)] 13 (.br (.lt (.lit 0) (.var 13)) (.leaf [(.ob 6), (.ob 7)]) (.leaf [(.ob 6), (.ob 5)]))))) (.call 52 [(.ob 6), (.ob 4)] 12 (.br (.lt (.lit 0) (.var 12)) (.call 52 [(.ob 7), (.ob 6)] 13 (.br (.lt (.lit 0) (.var 13)) (.leaf [(.ob 6), (.ob 7)]) (.leaf [(.ob 6), (.ob 6)]))) (.call 52 [(.ob 7), (.ob 4)] 13 (.br (.lt (.lit 0) (.var 13)) (.leaf [(.ob 6), (.ob 7)]) (.leaf [(.ob 6), (.ob 4)]))))))))) (.call 52 [(.ob 7), (.ob 4)] 10 (.br (.lt (.var 10) (.lit 0)) (.call 52 [(.ob 5), (.ob 4)] 11 (.br (.lt (.lit 0) (.var 11)) (.call 52 [(.ob 6), (.ob 5)] 12 (.br (.lt (.lit 0) (.var 12)) (.call 52 [(.ob 7), (.ob 6)] 13 (.br (.lt (.lit 0) (.var 13)) (.leaf [(.ob 7), (.ob 7)]) (.leaf [(.ob 7), (.ob 6)]))) (.call 52 [(.ob 7), (.ob 5)] 13 (.br (.lt (.lit 0) (.var 13)) (.leaf [(.ob 7), (.ob 7)]) (.leaf [(.ob 7), (.ob 5)]))))) (.call 52 [(.ob 6), (.ob 4)] 12 (.br (.lt (.lit 0) (.var 12)) (.call 52 [(.ob 7), (.ob 6)] 13 (.br (.lt (.lit 0) (.var 13)) (.leaf [(.ob 7), (.ob 7)]) (.leaf [(.ob 7), (.ob 6)]))) (.call 52 [(.ob 7), (.ob 4)] 13 (.br (.lt (.lit 0) (.var 13)) (.leaf [(.ob 7), (.ob 7)]) (.leaf [(.ob 7), (.ob 4)]))))))) (.call 52 [(.ob 5), (.ob 4)] 11 (.br (.lt (.lit 0) (.var 11)) (.call 52 [(.ob 6), (.ob 5)] 12 (.br (.lt (.lit 0) (.var 12)) (.call 52 [(.ob 7), (.ob 6)] 13 (.br (.lt (.lit 0) (.var 13)) (.leaf [(.ob 4), (.ob 7)]) (.leaf [(.ob 4), (.ob 6)]))) (.call 52 [(.ob 7), (.ob 5)] 13 (.br (.lt (.lit 0) (.var 13)) (.leaf [(.ob 4), (.ob 7)]) (.leaf [(.ob 4), (.ob 5)]))))) (.call 52 [(.ob 6), (.ob 4)] 12 (.br (.lt (.lit 0) (.var 12)) (.call 52 [(.ob 7), (.ob 6)] 13 (.br (.lt (.lit 0) (.var 13)) (.leaf [(.ob 4), (.ob 7)]) (.leaf [(.ob 4), (.ob 6)]))) (.call 52 [(.ob 7), (.ob 4)] 13 (.br (.lt (.lit 0) (.var 13)) (.leaf [(.ob 4), (.ob 7)]) (.leaf [(.ob 4), (.ob 4)])))))))))))))))))
theorem ev_rivmul : Ct.ok Tryz.prog 30 { args := [[.r, .r], [.r, .r]], res := [[.r, .r]], F := fun als => tr_rivmul.den GV0 (env0 als), L := 1000000, A := 2, B := 20 } :=
  top_ok (by kernel_rfl) GV0_ok (plans := planF) (lf := 60) (k := 20) (by kernel_rfl)
set_option maxHeartbeats 4000000 in
theorem rivmul_den (l r : List QA) (h : g_ivmul l = some r) : tr_rivmul.den GV0 (env0 (l.map QA.at)) = some (r.map QA.at) := by
  unfold g_ivmul at h
  split at h
  · rename_i a b c d
    injection h with h; subst h
    simp only [tr_rivmul, Tr.den, evAll, SA.ev, BE.ev, IE.ev, SE.ev, LE.ev, env0, extE_eq, pickO, op1, op2, op3, Nat.reduceLeDiff, Nat.reduceSub, Nat.reduceEqDiff, if_true, if_false, ite_true, ite_false, decide_true, decide_false, Bool.not_true, Bool.not_false, Nat.zero_le, Nat.sub_zero, List.getElem?_cons_zero, List.getElem?_cons_succ, List.getElem?_nil, cq0, cq1, cq2, cq3, cq4, cq5, cq6, cq7, cq8, cq9, cq10, cq12, cq16, outQ1, outQ2, outQ3, outQ4, outQ5, evN_at, evB_at, evS_at, evLen_z1, evLen_z2, evBit_z, at_n, at_b, at_s, at_z, at_k, at_kb, kG, kQ, kQ1, List.map_cons, List.map_nil, List.cons_append, List.nil_append, decide_eq_true_eq, Bool.false_eq_true, GV0_dadd, ctF_dadd, GV0_dradd, ctF_dradd, GV0_dsub, ctF_dsub, GV0_drsub, ctF_drsub, GV0_dmul, ctF_dmul, GV0_drmul, ctF_drmul, GV0_ddiv, ctF_ddiv, GV0_drdiv, ctF_drdiv, GV0_dcmp, ctF_dcmp, GV0_drcmp, ctF_drcmp, GV0_dof, ctF_dof, GV0_drof, ctF_drof, GV0_dsign, ctF_dsign, GV0_drsign, ctF_drsign, g_mul, g_cmp, cmp_lt, cmp_gt, ivm1, ivm2, rmin, rmax]
    generalize a * c = w
    generalize a * d = x
    generalize b * c = y
    generalize b * d = z
    by_cases h0 : x < w
    · by_cases h1 : y < x
      · by_cases h2 : z < y
        · by_cases h3 : w < x
          · by_cases h4 : x < y
            · by_cases h5 : y < z
              · simp only [eq_true h0, eq_true h1, eq_true h2, eq_true h3, eq_true h4, eq_true h5, decide_true, decide_false, if_true, if_false]
              · simp only [eq_true h0, eq_true h1, eq_true h2, eq_true h3, eq_true h4, eq_false h5, decide_true, decide_false, if_true, if_false]
            · by_cases h5 : x < z
              · simp only [eq_true h0, eq_true h1, eq_true h2, eq_true h3, eq_false h4, eq_true h5, decide_true, decide_false, if_true, if_false]
              · simp only [eq_true h0, eq_true h1, eq_true h2, eq_true h3, eq_false h4, eq_false h5, decide_true, decide_false, if_true, if_false]
          · by_cases h4 : w < y
            · by_cases h5 : y < z
              · simp only [eq_true h0, eq_true h1, eq_true h2, eq_false h3, eq_true h4, eq_true h5, decide_true, decide_false, if_true, if_false]
              · simp only [eq_true h0, eq_true h1, eq_true h2, eq_false h3, eq_true h4, eq_false h5, decide_true, decide_false, if_true, if_false]
            · by_cases h5 : w < z
              · simp only [eq_true h0, eq_true h1, eq_true h2, eq_false h3, eq_false h4, eq_true h5, decide_true, decide_false, if_true, if_false]
              · simp only [eq_true h0, eq_true h1, eq_true h2, eq_false h3, eq_false h4, eq_false h5, decide_true, decide_false, if_true, if_false]
        · by_cases h3 : w < x
          · by_cases h4 : x < y
            · by_cases h5 : y < z
              · simp only [eq_true h0, eq_true h1, eq_false h2, eq_true h3, eq_true h4, eq_true h5, decide_true, decide_false, if_true, if_false]
              · simp only [eq_true h0, eq_true h1, eq_false h2, eq_true h3, eq_true h4, eq_false h5, decide_true, decide_false, if_true, if_false]
            · by_cases h5 : x < z
              · simp only [eq_true h0, eq_true h1, eq_false h2, eq_true h3, eq_false h4, eq_true h5, decide_true, decide_false, if_true, if_false]
              · simp only [eq_true h0, eq_true h1, eq_false h2, eq_true h3, eq_false h4, eq_false h5, decide_true, decide_false, if_true, if_false]
          · by_cases h4 : w < y
            · by_cases h5 : y < z
              · simp only [eq_true h0, eq_true h1, eq_false h2, eq_false h3, eq_true h4, eq_true h5, decide_true, decide_false, if_true, if_false]
              · simp only [eq_true h0, eq_true h1, eq_false h2, eq_false h3, eq_true h4, eq_false h5, decide_true, decide_false, if_true, if_false]
            · by_cases h5 : w < z
              · simp only [eq_true h0, eq_true h1, eq_false h2, eq_false h3, eq_false h4, eq_true h5, decide_true, decide_false, if_true, if_false]
              · simp only [eq_true h0, eq_true h1, eq_false h2, eq_false h3, eq_false h4, eq_false h5, decide_true, decide_false, if_true, if_false]
      · by_cases h2 : z < x
        · by_cases h3 : w < x
          · by_cases h4 : x < y
            · by_cases h5 : y < z
              · simp only [eq_true h0, eq_false h1, eq_true h2, eq_true h3, eq_true h4, eq_true h5, decide_true, decide_false, if_true, if_false]
              · simp only [eq_true h0, eq_false h1, eq_true h2, eq_true h3, eq_true h4, eq_false h5, decide_true, decide_false, if_true, if_false]
            · by_cases h5 : x < z
              · simp only [eq_true h0, eq_false h1, eq_true h2, eq_true h3, eq_false h4, eq_true h5, decide_true, decide_false, if_true, if_false]
              · simp only [eq_true h0, eq_false h1, eq_true h2, eq_true h3, eq_false h4, eq_false h5, decide_true, decide_false, if_true, if_false]
          · by_cases h4 : w < y
            · by_cases h5 : y < z
              · simp only [eq_true h0, eq_false h1, eq_true h2, eq_false h3, eq_true h4, eq_true h5, decide_true, decide_false, if_true, if_false]
              · simp only [eq_true h0, eq_false h1, eq_true h2, eq_false h3, eq_true h4, eq_false h5, decide_true, decide_false, if_true, if_false]
            · by_cases h5 : w < z
              · simp only [eq_true h0, eq_false h1, eq_true h2, eq_false h3, eq_false h4, eq_true h5, decide_true, decide_false, if_true, if_false]
              · simp only [eq_true h0, eq_false h1, eq_true h2, eq_false h3, eq_false h4, eq_false h5, decide_true, decide_false, if_true, if_false]
        · by_cases h3 : w < x
          · by_cases h4 : x < y
            · by_cases h5 : y < z
              · simp only [eq_true h0, eq_false h1, eq_false h2, eq_true h3, eq_true h4, eq_true h5, decide_true, decide_false, if_true, if_false]
              · simp only [eq_true h0, eq_false h1, eq_false h2, eq_true h3, eq_true h4, eq_false h5, decide_true, decide_false, if_true, if_false]
            · by_cases h5 : x < z
              · simp only [eq_true h0, eq_false h1, eq_false h2, eq_true h3, eq_false h4, eq_true h5, decide_true, decide_false, if_true, if_false]
              · simp only [eq_true h0, eq_false h1, eq_false h2, eq_true h3, eq_false h4, eq_false h5, decide_true, decide_false, if_true, if_false]
          · by_cases h4 : w < y
            · by_cases h5 : y < z
              · simp only [eq_true h0, eq_false h1, eq_false h2, eq_false h3, eq_true h4, eq_true h5, decide_true, decide_false, if_true, if_false]
              · simp only [eq_true h0, eq_false h1, eq_false h2, eq_false h3, eq_true h4, eq_false h5, decide_true, decide_false, if_true, if_false]
            · by_cases h5 : w < z
              · simp only [eq_true h0, eq_false h1, eq_false h2, eq_false h3, eq_false h4, eq_true h5, decide_true, decide_false, if_true, if_false]
              · simp only [eq_true h0, eq_false h1, eq_false h2, eq_false h3, eq_false h4, eq_false h5, decide_true, decide_false, if_true, if_false]
    · by_cases h1 : y < w
      · by_cases h2 : z < y
        · by_cases h3 : w < x
          · by_cases h4 : x < y
            · by_cases h5 : y < z
              · simp only [eq_false h0, eq_true h1, eq_true h2, eq_true h3, eq_true h4, eq_true h5, decide_true, decide_false, if_true, if_false]
              · simp only [eq_false h0, eq_true h1, eq_true h2, eq_true h3, eq_true h4, eq_false h5, decide_true, decide_false, if_true, if_false]
            · by_cases h5 : x < z
              · simp only [eq_false h0, eq_true h1, eq_true h2, eq_true h3, eq_false h4, eq_true h5, decide_true, decide_false, if_true, if_false]
              · simp only [eq_false h0, eq_true h1, eq_true h2, eq_true h3, eq_false h4, eq_false h5, decide_true, decide_false, if_true, if_false]
          · by_cases h4 : w < y
            · by_cases h5 : y < z
              · simp only [eq_false h0, eq_true h1, eq_true h2, eq_false h3, eq_true h4, eq_true h5, decide_true, decide_false, if_true, if_false]
              · simp only [eq_false h0, eq_true h1, eq_true h2, eq_false h3, eq_true h4, eq_false h5, decide_true, decide_false, if_true, if_false]
            · by_cases h5 : w < z
              · simp only [eq_false h0, eq_true h1, eq_true h2, eq_false h3, eq_false h4, eq_true h5, decide_true, decide_false, if_true, if_false]
              · simp only [eq_false h0, eq_true h1, eq_true h2, eq_false h3, eq_false h4, eq_false h5, decide_true, decide_false, if_true, if_false]
        · by_cases h3 : w < x
          · by_cases h4 : x < y
            · by_cases h5 : y < z
              · simp only [eq_false h0, eq_true h1, eq_false h2, eq_true h3, eq_true h4, eq_true h5, decide_true, decide_false, if_true, if_false]
              · simp only [eq_false h0, eq_true h1, eq_false h2, eq_true h3, eq_true h4, eq_false h5, decide_true, decide_false, if_true, if_false]
            · by_cases h5 : x < z
              · simp only [eq_false h0, eq_true h1, eq_false h2, eq_true h3, eq_false h4, eq_true h5, decide_true, decide_false, if_true, if_false]
              · simp only [eq_false h0, eq_true h1, eq_false h2, eq_true h3, eq_false h4, eq_false h5, decide_true, decide_false, if_true, if_false]
          · by_cases h4 : w < y
            · by_cases h5 : y < z
              · simp only [eq_false h0, eq_true h1, eq_false h2, eq_false h3, eq_true h4, eq_true h5, decide_true, decide_false, if_true, if_false]
              · simp only [eq_false h0, eq_true h1, eq_false h2, eq_false h3, eq_true h4, eq_false h5, decide_true, decide_false, if_true, if_false]
            · by_cases h5 : w < z
              · simp only [eq_false h0, eq_true h1, eq_false h2, eq_false h3, eq_false h4, eq_true h5, decide_true, decide_false, if_true, if_false]
              · simp only [eq_false h0, eq_true h1, eq_false h2, eq_false h3, eq_false h4, eq_false h5, decide_true, decide_false, if_true, if_false]
      · by_cases h2 : z < w
        · by_cases h3 : w < x
          · by_cases h4 : x < y
            · by_cases h5 : y < z
              · simp only [eq_false h0, eq_false h1, eq_true h2, eq_true h3, eq_true h4, eq_true h5, decide_true, decide_false, if_true, if_false]
              · simp only [eq_false h0, eq_false h1, eq_true h2, eq_true h3, eq_true h4, eq_false h5, decide_true, decide_false, if_true, if_false]
            · by_cases h5 : x < z
              · simp only [eq_false h0, eq_false h1, eq_true h2, eq_true h3, eq_false h4, eq_true h5, decide_true, decide_false, if_true, if_false]
              · simp only [eq_false h0, eq_false h1, eq_true h2, eq_true h3, eq_false h4, eq_false h5, decide_true, decide_false, if_true, if_false]
          · by_cases h4 : w < y
            · by_cases h5 : y < z
              · simp only [eq_false h0, eq_false h1, eq_true h2, eq_false h3, eq_true h4, eq_true h5, decide_true, decide_false, if_true, if_false]
              · simp only [eq_false h0, eq_false h1, eq_true h2, eq_false h3, eq_true h4, eq_false h5, decide_true, decide_false, if_true, if_false]
            · by_cases h5 : w < z
              · simp only [eq_false h0, eq_false h1, eq_true h2, eq_false h3, eq_false h4, eq_true h5, decide_true, decide_false, if_true, if_false]
              · simp only [eq_false h0, eq_false h1, eq_true h2, eq_false h3, eq_false h4, eq_false h5, decide_true, decide_false, if_true, if_false]
        · by_cases h3 : w < x
          · by_cases h4 : x < y
            · by_cases h5 : y < z
              · simp only [eq_false h0, eq_false h1, eq_false h2, eq_true h3, eq_true h4, eq_true h5, decide_true, decide_false, if_true, if_false]
              · simp only [eq_false h0, eq_false h1, eq_false h2, eq_true h3, eq_true h4, eq_false h5, decide_true, decide_false, if_true, if_false]
            · by_cases h5 : x < z
              · simp only [eq_false h0, eq_false h1, eq_false h2, eq_true h3, eq_false h4, eq_true h5, decide_true, decide_false, if_true, if_false]
              · simp only [eq_false h0, eq_false h1, eq_false h2, eq_true h3, eq_false h4, eq_false h5, decide_true, decide_false, if_true, if_false]
          · by_cases h4 : w < y
            · by_cases h5 : y < z
              · simp only [eq_false h0, eq_false h1, eq_false h2, eq_false h3, eq_true h4, eq_true h5, decide_true, decide_false, if_true, if_false]
              · simp only [eq_false h0, eq_false h1, eq_false h2, eq_false h3, eq_true h4, eq_false h5, decide_true, decide_false, if_true, if_false]
            · by_cases h5 : w < z
              · simp only [eq_false h0, eq_false h1, eq_false h2, eq_false h3, eq_false h4, eq_true h5, decide_true, decide_false, if_true, if_false]
              · simp only [eq_false h0, eq_false h1, eq_false h2, eq_false h3, eq_false h4, eq_false h5, decide_true, decide_false, if_true, if_false]
  · cases h
def ct_ivhas : Ct := { args := [[.r, .r], [.r]], res := [[.b]], F := cq g_ivhas, L := 10000000, A := 0, B := 0 }
theorem ctF_ivhas : ct_ivhas.F = cq g_ivhas := rfl
theorem ok_ivhas : ct_ivhas.ok Tryz.prog 19 := ev_ivhas.weaken (of_cq (g := g_ivhas) ivhas_den)
def ct_rivhas : Ct := { args := [[.r, .r], [.r]], res := [[.b]], F := cq g_ivhas, L := 10000000, A := 0, B := 0 }
theorem ctF_rivhas : ct_rivhas.F = cq g_ivhas := rfl
theorem ok_rivhas : ct_rivhas.ok Tryz.prog 20 := ev_rivhas.weaken (of_cq (g := g_ivhas) rivhas_den)
def ct_ivadd : Ct := { args := [[.r, .r], [.r, .r]], res := [[.r, .r]], F := cq g_ivadd, L := 1000000, A := 2, B := 6 }
theorem ctF_ivadd : ct_ivadd.F = cq g_ivadd := rfl
theorem ok_ivadd : ct_ivadd.ok Tryz.prog 25 := ev_ivadd.weaken (of_cq (g := g_ivadd) ivadd_den)
def ct_rivadd : Ct := { args := [[.r, .r], [.r, .r]], res := [[.r, .r]], F := cq g_ivadd, L := 1000000, A := 2, B := 20 }
theorem ctF_rivadd : ct_rivadd.F = cq g_ivadd := rfl
theorem ok_rivadd : ct_rivadd.ok Tryz.prog 26 := ev_rivadd.weaken (of_cq (g := g_ivadd) rivadd_den)
def ct_ivsub : Ct := { args := [[.r, .r], [.r, .r]], res := [[.r, .r]], F := cq g_ivsub, L := 1000000, A := 2, B := 6 }
theorem ctF_ivsub : ct_ivsub.F = cq g_ivsub := rfl
theorem ok_ivsub : ct_ivsub.ok Tryz.prog 27 := ev_ivsub.weaken (of_cq (g := g_ivsub) ivsub_den)
def ct_rivsub : Ct := { args := [[.r, .r], [.r, .r]], res := [[.r, .r]], F := cq g_ivsub, L := 1000000, A := 2, B := 40 }
theorem ctF_rivsub : ct_rivsub.F = cq g_ivsub := rfl
theorem ok_rivsub : ct_rivsub.ok Tryz.prog 28 := ev_rivsub.weaken (of_cq (g := g_ivsub) rivsub_den)
def ct_ivmul : Ct := { args := [[.r, .r], [.r, .r]], res := [[.r, .r]], F := cq g_ivmul, L := 1000000, A := 2, B := 4 }
theorem ctF_ivmul : ct_ivmul.F = cq g_ivmul := rfl
theorem ok_ivmul : ct_ivmul.ok Tryz.prog 29 := ev_ivmul.weaken (of_cq (g := g_ivmul) ivmul_den)
def ct_rivmul : Ct := { args := [[.r, .r], [.r, .r]], res := [[.r, .r]], F := cq g_ivmul, L := 1000000, A := 2, B := 20 }
theorem ctF_rivmul : ct_rivmul.F = cq g_ivmul := rfl
theorem ok_rivmul : ct_rivmul.ok Tryz.prog 30 := ev_rivmul.weaken (of_cq (g := g_ivmul) rivmul_den)
def GV1 : Gam := gamOf [(70, ct_dadd), (71, ct_dradd), (72, ct_dsub), (73, ct_drsub), (74, ct_dmul), (75, ct_drmul), (68, ct_ddiv), (69, ct_drdiv), (64, ct_dcmp), (52, ct_drcmp), (35, ct_dof), (38, ct_drof), (47, ct_dsign), (49, ct_drsign), (19, ct_ivhas), (20, ct_rivhas), (29, ct_ivmul), (30, ct_rivmul)]
theorem GV1_ok : GamOk Tryz.prog GV1 := gamOk_of ⟨ok_dadd, ok_dradd, ok_dsub, ok_drsub, ok_dmul, ok_drmul, ok_ddiv, ok_drdiv, ok_dcmp, ok_drcmp, ok_dof, ok_drof, ok_dsign, ok_drsign, ok_ivhas, ok_rivhas, ok_ivmul, ok_rivmul, trivial⟩
theorem GV1_dadd : GV1 70 = some ct_dadd := rfl
theorem GV1_dradd : GV1 71 = some ct_dradd := rfl
theorem GV1_dsub : GV1 72 = some ct_dsub := rfl
theorem GV1_drsub : GV1 73 = some ct_drsub := rfl
theorem GV1_dmul : GV1 74 = some ct_dmul := rfl
theorem GV1_drmul : GV1 75 = some ct_drmul := rfl
theorem GV1_ddiv : GV1 68 = some ct_ddiv := rfl
theorem GV1_drdiv : GV1 69 = some ct_drdiv := rfl
theorem GV1_dcmp : GV1 64 = some ct_dcmp := rfl
theorem GV1_drcmp : GV1 52 = some ct_drcmp := rfl
theorem GV1_dof : GV1 35 = some ct_dof := rfl
theorem GV1_drof : GV1 38 = some ct_drof := rfl
theorem GV1_dsign : GV1 47 = some ct_dsign := rfl
theorem GV1_drsign : GV1 49 = some ct_drsign := rfl
theorem GV1_ivhas : GV1 19 = some ct_ivhas := rfl
theorem GV1_rivhas : GV1 20 = some ct_rivhas := rfl
theorem GV1_ivmul : GV1 29 = some ct_ivmul := rfl
theorem GV1_rivmul : GV1 30 = some ct_rivmul := rfl
end Go.Proofs.YtifgdiejpglhfaaGreat
