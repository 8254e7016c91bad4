/- Intervals, in numbers. -/
import Derived.Test.YtifgdiejpglhfaaGreatIv1
namespace Go.Proofs.YtifgdiejpglhfaaGreat
open Go Go.RowKit Go.V
set_option linter.unusedSimpArgs false
set_option linter.unusedVariables false
set_option maxRecDepth 20000
theorem ifB {α : Type} (c : Prop) [Decidable c] (x y : α) : (match decide c with | true => x | false => y) = if c then x else y := by
  by_cases h : c <;> simp [h]
theorem ivadd_den (l r : List QA) (h : g_ivadd l = some r) : tr_ivadd.den GV0 (env0 (l.map QA.at)) = some (r.map QA.at) := by
  unfold g_ivadd at h
  split at h
  · injection h with h; subst h
    simp only [tr_ivadd, Tr.den, evAll, SA.ev, BE.ev, IE.ev, SE.ev, LE.ev, env0, extE_eq, pickO, op1, op2, op3, Nat.reduceLeDiff, Nat.reduceSub, Nat.reduceEqDiff, if_true, if_false, ite_true, ite_false, decide_true, decide_false, Bool.not_true, Bool.not_false, Nat.zero_le, Nat.sub_zero, List.getElem?_cons_zero, List.getElem?_cons_succ, List.getElem?_nil, cq0, cq1, cq2, cq3, cq4, cq5, cq6, cq7, cq8, cq9, cq10, cq12, cq16, outQ1, outQ2, outQ3, outQ4, outQ5, evN_at, evB_at, evS_at, evLen_z1, evLen_z2, evBit_z, at_n, at_b, at_s, at_z, at_k, at_kb, kG, kQ, kQ1, List.map_cons, List.map_nil, List.cons_append, List.nil_append, decide_eq_true_eq, Bool.false_eq_true, GV0_dadd, ctF_dadd, GV0_dradd, ctF_dradd, GV0_dsub, ctF_dsub, GV0_drsub, ctF_drsub, GV0_dmul, ctF_dmul, GV0_drmul, ctF_drmul, GV0_ddiv, ctF_ddiv, GV0_drdiv, ctF_drdiv, GV0_dcmp, ctF_dcmp, GV0_drcmp, ctF_drcmp, GV0_dof, ctF_dof, GV0_drof, ctF_drof, GV0_dsign, ctF_dsign, GV0_drsign, ctF_drsign, g_add]
  · cases h
theorem ivsub_den (l r : List QA) (h : g_ivsub l = some r) : tr_ivsub.den GV0 (env0 (l.map QA.at)) = some (r.map QA.at) := by
  unfold g_ivsub at h
  split at h
  · injection h with h; subst h
    simp only [tr_ivsub, Tr.den, evAll, SA.ev, BE.ev, IE.ev, SE.ev, LE.ev, env0, extE_eq, pickO, op1, op2, op3, Nat.reduceLeDiff, Nat.reduceSub, Nat.reduceEqDiff, if_true, if_false, ite_true, ite_false, decide_true, decide_false, Bool.not_true, Bool.not_false, Nat.zero_le, Nat.sub_zero, List.getElem?_cons_zero, List.getElem?_cons_succ, List.getElem?_nil, cq0, cq1, cq2, cq3, cq4, cq5, cq6, cq7, cq8, cq9, cq10, cq12, cq16, outQ1, outQ2, outQ3, outQ4, outQ5, evN_at, evB_at, evS_at, evLen_z1, evLen_z2, evBit_z, at_n, at_b, at_s, at_z, at_k, at_kb, kG, kQ, kQ1, List.map_cons, List.map_nil, List.cons_append, List.nil_append, decide_eq_true_eq, Bool.false_eq_true, GV0_dadd, ctF_dadd, GV0_dradd, ctF_dradd, GV0_dsub, ctF_dsub, GV0_drsub, ctF_drsub, GV0_dmul, ctF_dmul, GV0_drmul, ctF_drmul, GV0_ddiv, ctF_ddiv, GV0_drdiv, ctF_drdiv, GV0_dcmp, ctF_dcmp, GV0_drcmp, ctF_drcmp, GV0_dof, ctF_dof, GV0_drof, ctF_drof, GV0_dsign, ctF_dsign, GV0_drsign, ctF_drsign, g_sub]
  · cases h
theorem ivhas_den (l r : List QA) (h : g_ivhas l = some r) : tr_ivhas.den GV0 (env0 (l.map QA.at)) = some (r.map QA.at) := by
  unfold g_ivhas at h
  split at h
  · rename_i a b x
    injection h with h; subst h
    by_cases h1 : a ≤ x
    · by_cases h2 : x ≤ b
      · simp only [tr_ivhas, Tr.den, evAll, SA.ev, BE.ev, IE.ev, SE.ev, LE.ev, env0, extE_eq, pickO, op1, op2, op3, Nat.reduceLeDiff, Nat.reduceSub, Nat.reduceEqDiff, if_true, if_false, ite_true, ite_false, decide_true, decide_false, Bool.not_true, Bool.not_false, Nat.zero_le, Nat.sub_zero, List.getElem?_cons_zero, List.getElem?_cons_succ, List.getElem?_nil, cq0, cq1, cq2, cq3, cq4, cq5, cq6, cq7, cq8, cq9, cq10, cq12, cq16, outQ1, outQ2, outQ3, outQ4, outQ5, evN_at, evB_at, evS_at, evLen_z1, evLen_z2, evBit_z, at_n, at_b, at_s, at_z, at_k, at_kb, kG, kQ, kQ1, List.map_cons, List.map_nil, List.cons_append, List.nil_append, decide_eq_true_eq, Bool.false_eq_true, GV0_dadd, ctF_dadd, GV0_dradd, ctF_dradd, GV0_dsub, ctF_dsub, GV0_drsub, ctF_drsub, GV0_dmul, ctF_dmul, GV0_drmul, ctF_drmul, GV0_ddiv, ctF_ddiv, GV0_drdiv, ctF_drdiv, GV0_dcmp, ctF_dcmp, GV0_drcmp, ctF_drcmp, GV0_dof, ctF_dof, GV0_drof, ctF_drof, GV0_dsign, ctF_dsign, GV0_drsign, ctF_drsign, g_cmp, cmp_le, eq_true h1, eq_true h2, and_self]
      · simp only [tr_ivhas, Tr.den, evAll, SA.ev, BE.ev, IE.ev, SE.ev, LE.ev, env0, extE_eq, pickO, op1, op2, op3, Nat.reduceLeDiff, Nat.reduceSub, Nat.reduceEqDiff, if_true, if_false, ite_true, ite_false, decide_true, decide_false, Bool.not_true, Bool.not_false, Nat.zero_le, Nat.sub_zero, List.getElem?_cons_zero, List.getElem?_cons_succ, List.getElem?_nil, cq0, cq1, cq2, cq3, cq4, cq5, cq6, cq7, cq8, cq9, cq10, cq12, cq16, outQ1, outQ2, outQ3, outQ4, outQ5, evN_at, evB_at, evS_at, evLen_z1, evLen_z2, evBit_z, at_n, at_b, at_s, at_z, at_k, at_kb, kG, kQ, kQ1, List.map_cons, List.map_nil, List.cons_append, List.nil_append, decide_eq_true_eq, Bool.false_eq_true, GV0_dadd, ctF_dadd, GV0_dradd, ctF_dradd, GV0_dsub, ctF_dsub, GV0_drsub, ctF_drsub, GV0_dmul, ctF_dmul, GV0_drmul, ctF_drmul, GV0_ddiv, ctF_ddiv, GV0_drdiv, ctF_drdiv, GV0_dcmp, ctF_dcmp, GV0_drcmp, ctF_drcmp, GV0_dof, ctF_dof, GV0_drof, ctF_drof, GV0_dsign, ctF_dsign, GV0_drsign, ctF_drsign, g_cmp, cmp_le, eq_true h1, h2, and_false]
    · simp only [tr_ivhas, Tr.den, evAll, SA.ev, BE.ev, IE.ev, SE.ev, LE.ev, env0, extE_eq, pickO, op1, op2, op3, Nat.reduceLeDiff, Nat.reduceSub, Nat.reduceEqDiff, if_true, if_false, ite_true, ite_false, decide_true, decide_false, Bool.not_true, Bool.not_false, Nat.zero_le, Nat.sub_zero, List.getElem?_cons_zero, List.getElem?_cons_succ, List.getElem?_nil, cq0, cq1, cq2, cq3, cq4, cq5, cq6, cq7, cq8, cq9, cq10, cq12, cq16, outQ1, outQ2, outQ3, outQ4, outQ5, evN_at, evB_at, evS_at, evLen_z1, evLen_z2, evBit_z, at_n, at_b, at_s, at_z, at_k, at_kb, kG, kQ, kQ1, List.map_cons, List.map_nil, List.cons_append, List.nil_append, decide_eq_true_eq, Bool.false_eq_true, GV0_dadd, ctF_dadd, GV0_dradd, ctF_dradd, GV0_dsub, ctF_dsub, GV0_drsub, ctF_drsub, GV0_dmul, ctF_dmul, GV0_drmul, ctF_drmul, GV0_ddiv, ctF_ddiv, GV0_drdiv, ctF_drdiv, GV0_dcmp, ctF_dcmp, GV0_drcmp, ctF_drcmp, GV0_dof, ctF_dof, GV0_drof, ctF_drof, GV0_dsign, ctF_dsign, GV0_drsign, ctF_drsign, g_cmp, cmp_le, h1, false_and]
  · cases h
set_option maxHeartbeats 4000000 in
theorem ivmul_den (l r : List QA) (h : g_ivmul l = some r) : tr_ivmul.den GV0 (env0 (l.map QA.at)) = some (r.map QA.at) := by
  unfold g_ivmul at h
  split at h
  · rename_i a b c d
    injection h with h; subst h
    simp only [tr_ivmul, Tr.den, evAll, SA.ev, BE.ev, IE.ev, SE.ev, LE.ev, env0, extE_eq, pickO, op1, op2, op3, Nat.reduceLeDiff, Nat.reduceSub, Nat.reduceEqDiff, if_true, if_false, ite_true, ite_false, decide_true, decide_false, Bool.not_true, Bool.not_false, Nat.zero_le, Nat.sub_zero, List.getElem?_cons_zero, List.getElem?_cons_succ, List.getElem?_nil, cq0, cq1, cq2, cq3, cq4, cq5, cq6, cq7, cq8, cq9, cq10, cq12, cq16, outQ1, outQ2, outQ3, outQ4, outQ5, evN_at, evB_at, evS_at, evLen_z1, evLen_z2, evBit_z, at_n, at_b, at_s, at_z, at_k, at_kb, kG, kQ, kQ1, List.map_cons, List.map_nil, List.cons_append, List.nil_append, decide_eq_true_eq, Bool.false_eq_true, GV0_dadd, ctF_dadd, GV0_dradd, ctF_dradd, GV0_dsub, ctF_dsub, GV0_drsub, ctF_drsub, GV0_dmul, ctF_dmul, GV0_drmul, ctF_drmul, GV0_ddiv, ctF_ddiv, GV0_drdiv, ctF_drdiv, GV0_dcmp, ctF_dcmp, GV0_drcmp, ctF_drcmp, GV0_dof, ctF_dof, GV0_drof, ctF_drof, GV0_dsign, ctF_dsign, GV0_drsign, ctF_drsign, g_mul, g_cmp, cmp_lt, cmp_gt, ivm1, ivm2, rmin, rmax]
    generalize a * c = w
    generalize a * d = x
    generalize b * c = y
    generalize b * d = z
    by_cases h0 : x < w
    · by_cases h1 : y < x
      · by_cases h2 : z < y
        · by_cases h3 : w < x
          · by_cases h4 : x < y
            · by_cases h5 : y < z
              · simp only [eq_true h0, eq_true h1, eq_true h2, eq_true h3, eq_true h4, eq_true h5, decide_true, decide_false, if_true, if_false]
              · simp only [eq_true h0, eq_true h1, eq_true h2, eq_true h3, eq_true h4, eq_false h5, decide_true, decide_false, if_true, if_false]
            · by_cases h5 : x < z
              · simp only [eq_true h0, eq_true h1, eq_true h2, eq_true h3, eq_false h4, eq_true h5, decide_true, decide_false, if_true, if_false]
              · simp only [eq_true h0, eq_true h1, eq_true h2, eq_true h3, eq_false h4, eq_false h5, decide_true, decide_false, if_true, if_false]
          · by_cases h4 : w < y
            · by_cases h5 : y < z
              · simp only [eq_true h0, eq_true h1, eq_true h2, eq_false h3, eq_true h4, eq_true h5, decide_true, decide_false, if_true, if_false]
              · simp only [eq_true h0, eq_true h1, eq_true h2, eq_false h3, eq_true h4, eq_false h5, decide_true, decide_false, if_true, if_false]
            · by_cases h5 : w < z
              · simp only [eq_true h0, eq_true h1, eq_true h2, eq_false h3, eq_false h4, eq_true h5, decide_true, decide_false, if_true, if_false]
              · simp only [eq_true h0, eq_true h1, eq_true h2, eq_false h3, eq_false h4, eq_false h5, decide_true, decide_false, if_true, if_false]
        · by_cases h3 : w < x
          · by_cases h4 : x < y
            · by_cases h5 : y < z
              · simp only [eq_true h0, eq_true h1, eq_false h2, eq_true h3, eq_true h4, eq_true h5, decide_true, decide_false, if_true, if_false]
              · simp only [eq_true h0, eq_true h1, eq_false h2, eq_true h3, eq_true h4, eq_false h5, decide_true, decide_false, if_true, if_false]
            · by_cases h5 : x < z
              · simp only [eq_true h0, eq_true h1, eq_false h2, eq_true h3, eq_false h4, eq_true h5, decide_true, decide_false, if_true, if_false]
              · simp only [eq_true h0, eq_true h1, eq_false h2, eq_true h3, eq_false h4, eq_false h5, decide_true, decide_false, if_true, if_false]
          · by_cases h4 : w < y
            · by_cases h5 : y < z
              · simp only [eq_true h0, eq_true h1, eq_false h2, eq_false h3, eq_true h4, eq_true h5, decide_true, decide_false, if_true, if_false]
              · simp only [eq_true h0, eq_true h1, eq_false h2, eq_false h3, eq_true h4, eq_false h5, decide_true, decide_false, if_true, if_false]
            · by_cases h5 : w < z
              · simp only [eq_true h0, eq_true h1, eq_false h2, eq_false h3, eq_false h4, eq_true h5, decide_true, decide_false, if_true, if_false]
              · simp only [eq_true h0, eq_true h1, eq_false h2, eq_false h3, eq_false h4, eq_false h5, decide_true, decide_false, if_true, if_false]
      · by_cases h2 : z < x
        · by_cases h3 : w < x
          · by_cases h4 : x < y
            · by_cases h5 : y < z
              · simp only [eq_true h0, eq_false h1, eq_true h2, eq_true h3, eq_true h4, eq_true h5, decide_true, decide_false, if_true, if_false]
              · simp only [eq_true h0, eq_false h1, eq_true h2, eq_true h3, eq_true h4, eq_false h5, decide_true, decide_false, if_true, if_false]
            · by_cases h5 : x < z
              · simp only [eq_true h0, eq_false h1, eq_true h2, eq_true h3, eq_false h4, eq_true h5, decide_true, decide_false, if_true, if_false]
              · simp only [eq_true h0, eq_false h1, eq_true h2, eq_true h3, eq_false h4, eq_false h5, decide_true, decide_false, if_true, if_false]
          · by_cases h4 : w < y
            · by_cases h5 : y < z
              · simp only [eq_true h0, eq_false h1, eq_true h2, eq_false h3, eq_true h4, eq_true h5, decide_true, decide_false, if_true, if_false]
              · simp only [eq_true h0, eq_false h1, eq_true h2, eq_false h3, eq_true h4, eq_false h5, decide_true, decide_false, if_true, if_false]
            · by_cases h5 : w < z
              · simp only [eq_true h0, eq_false h1, eq_true h2, eq_false h3, eq_false h4, eq_true h5, decide_true, decide_false, if_true, if_false]
              · simp only [eq_true h0, eq_false h1, eq_true h2, eq_false h3, eq_false h4, eq_false h5, decide_true, decide_false, if_true, if_false]
        · by_cases h3 : w < x
          · by_cases h4 : x < y
            · by_cases h5 : y < z
              · simp only [eq_true h0, eq_false h1, eq_false h2, eq_true h3, eq_true h4, eq_true h5, decide_true, decide_false, if_true, if_false]
              · simp only [eq_true h0, eq_false h1, eq_false h2, eq_true h3, eq_true h4, eq_false h5, decide_true, decide_false, if_true, if_false]
            · by_cases h5 : x < z
              · simp only [eq_true h0, eq_false h1, eq_false h2, eq_true h3, eq_false h4, eq_true h5, decide_true, decide_false, if_true, if_false]
              · simp only [eq_true h0, eq_false h1, eq_false h2, eq_true h3, eq_false h4, eq_false h5, decide_true, decide_false, if_true, if_false]
          · by_cases h4 : w < y
            · by_cases h5 : y < z
              · simp only [eq_true h0, eq_false h1, eq_false h2, eq_false h3, eq_true h4, eq_true h5, decide_true, decide_false, if_true, if_false]
              · simp only [eq_true h0, eq_false h1, eq_false h2, eq_false h3, eq_true h4, eq_false h5, decide_true, decide_false, if_true, if_false]
            · by_cases h5 : w < z
              · simp only [eq_true h0, eq_false h1, eq_false h2, eq_false h3, eq_false h4, eq_true h5, decide_true, decide_false, if_true, if_false]
              · simp only [eq_true h0, eq_false h1, eq_false h2, eq_false h3, eq_false h4, eq_false h5, decide_true, decide_false, if_true, if_false]
    · by_cases h1 : y < w
      · by_cases h2 : z < y
        · by_cases h3 : w < x
          · by_cases h4 : x < y
            · by_cases h5 : y < z
              · simp only [eq_false h0, eq_true h1, eq_true h2, eq_true h3, eq_true h4, eq_true h5, decide_true, decide_false, if_true, if_false]
              · simp only [eq_false h0, eq_true h1, eq_true h2, eq_true h3, eq_true h4, eq_false h5, decide_true, decide_false, if_true, if_false]
            · by_cases h5 : x < z
              · simp only [eq_false h0, eq_true h1, eq_true h2, eq_true h3, eq_false h4, eq_true h5, decide_true, decide_false, if_true, if_false]
              · simp only [eq_false h0, eq_true h1, eq_true h2, eq_true h3, eq_false h4, eq_false h5, decide_true, decide_false, if_true, if_false]
          · by_cases h4 : w < y
            · by_cases h5 : y < z
              · simp only [eq_false h0, eq_true h1, eq_true h2, eq_false h3, eq_true h4, eq_true h5, decide_true, decide_false, if_true, if_false]
              · simp only [eq_false h0, eq_true h1, eq_true h2, eq_false h3, eq_true h4, eq_false h5, decide_true, decide_false, if_true, if_false]
            · by_cases h5 : w < z
              · simp only [eq_false h0, eq_true h1, eq_true h2, eq_false h3, eq_false h4, eq_true h5, decide_true, decide_false, if_true, if_false]
              · simp only [eq_false h0, eq_true h1, eq_true h2, eq_false h3, eq_false h4, eq_false h5, decide_true, decide_false, if_true, if_false]
        · by_cases h3 : w < x
          · by_cases h4 : x < y
            · by_cases h5 : y < z
              · simp only [eq_false h0, eq_true h1, eq_false h2, eq_true h3, eq_true h4, eq_true h5, decide_true, decide_false, if_true, if_false]
              · simp only [eq_false h0, eq_true h1, eq_false h2, eq_true h3, eq_true h4, eq_false h5, decide_true, decide_false, if_true, if_false]
            · by_cases h5 : x < z
              · simp only [eq_false h0, eq_true h1, eq_false h2, eq_true h3, eq_false h4, eq_true h5, decide_true, decide_false, if_true, if_false]
              · simp only [eq_false h0, eq_true h1, eq_false h2, eq_true h3, eq_false h4, eq_false h5, decide_true, decide_false, if_true, if_false]
          · by_cases h4 : w < y
            · by_cases h5 : y < z
              · simp only [eq_false h0, eq_true h1, eq_false h2, eq_false h3, eq_true h4, eq_true h5, decide_true, decide_false, if_true, if_false]
              · simp only [eq_false h0, eq_true h1, eq_false h2, eq_false h3, eq_true h4, eq_false h5, decide_true, decide_false, if_true, if_false]
            · by_cases h5 : w < z
              · simp only [eq_false h0, eq_true h1, eq_false h2, eq_false h3, eq_false h4, eq_true h5, decide_true, decide_false, if_true, if_false]
              · simp only [eq_false h0, eq_true h1, eq_false h2, eq_false h3, eq_false h4, eq_false h5, decide_true, decide_false, if_true, if_false]
      · by_cases h2 : z < w
        · by_cases h3 : w < x
          · by_cases h4 : x < y
            · by_cases h5 : y < z
              · simp only [eq_false h0, eq_false h1, eq_true h2, eq_true h3, eq_true h4, eq_true h5, decide_true, decide_false, if_true, if_false]
              · simp only [eq_false h0, eq_false h1, eq_true h2, eq_true h3, eq_true h4, eq_false h5, decide_true, decide_false, if_true, if_false]
            · by_cases h5 : x < z
              · simp only [eq_false h0, eq_false h1, eq_true h2, eq_true h3, eq_false h4, eq_true h5, decide_true, decide_false, if_true, if_false]
              · simp only [eq_false h0, eq_false h1, eq_true h2, eq_true h3, eq_false h4, eq_false h5, decide_true, decide_false, if_true, if_false]
          · by_cases h4 : w < y
            · by_cases h5 : y < z
              · simp only [eq_false h0, eq_false h1, eq_true h2, eq_false h3, eq_true h4, eq_true h5, decide_true, decide_false, if_true, if_false]
              · simp only [eq_false h0, eq_false h1, eq_true h2, eq_false h3, eq_true h4, eq_false h5, decide_true, decide_false, if_true, if_false]
            · by_cases h5 : w < z
              · simp only [eq_false h0, eq_false h1, eq_true h2, eq_false h3, eq_false h4, eq_true h5, decide_true, decide_false, if_true, if_false]
              · simp only [eq_false h0, eq_false h1, eq_true h2, eq_false h3, eq_false h4, eq_false h5, decide_true, decide_false, if_true, if_false]
        · by_cases h3 : w < x
          · by_cases h4 : x < y
            · by_cases h5 : y < z
              · simp only [eq_false h0, eq_false h1, eq_false h2, eq_true h3, eq_true h4, eq_true h5, decide_true, decide_false, if_true, if_false]
              · simp only [eq_false h0, eq_false h1, eq_false h2, eq_true h3, eq_true h4, eq_false h5, decide_true, decide_false, if_true, if_false]
            · by_cases h5 : x < z
              · simp only [eq_false h0, eq_false h1, eq_false h2, eq_true h3, eq_false h4, eq_true h5, decide_true, decide_false, if_true, if_false]
              · simp only [eq_false h0, eq_false h1, eq_false h2, eq_true h3, eq_false h4, eq_false h5, decide_true, decide_false, if_true, if_false]
          · by_cases h4 : w < y
            · by_cases h5 : y < z
              · simp only [eq_false h0, eq_false h1, eq_false h2, eq_false h3, eq_true h4, eq_true h5, decide_true, decide_false, if_true, if_false]
              · simp only [eq_false h0, eq_false h1, eq_false h2, eq_false h3, eq_true h4, eq_false h5, decide_true, decide_false, if_true, if_false]
            · by_cases h5 : w < z
              · simp only [eq_false h0, eq_false h1, eq_false h2, eq_false h3, eq_false h4, eq_true h5, decide_true, decide_false, if_true, if_false]
              · simp only [eq_false h0, eq_false h1, eq_false h2, eq_false h3, eq_false h4, eq_false h5, decide_true, decide_false, if_true, if_false]
  · cases h
end Go.Proofs.YtifgdiejpglhfaaGreat
