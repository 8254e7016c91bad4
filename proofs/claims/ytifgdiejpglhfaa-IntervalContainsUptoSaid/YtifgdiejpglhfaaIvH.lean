/- Intervals, in numbers: Hull, Meet. -/
import Derived.Test.YtifgdiejpglhfaaIv3
namespace Go.Proofs.Ytifgdiejpglhfaa
open Go Go.RowKit Go.V
set_option linter.unusedSimpArgs false
set_option linter.unusedVariables false
set_option maxRecDepth 20000
theorem rmin_cases (x y : Rat) : rmin x y = if y < x then y else x := rfl
theorem rmax_cases (x y : Rat) : rmax x y = if x < y then y else x := rfl
theorem ivhull_den (l r : List QA) (h : g_ivhull l = some r) : tr_ivhull.den GV0 (env0 (l.map QA.at)) = some (r.map QA.at) := by
  unfold g_ivhull at h
  split at h
  · rename_i a b c d
    split at h
    · injection h with h; subst h
      simp only [tr_ivhull, Tr.den, evAll, SA.ev, BE.ev, IE.ev, SE.ev, LE.ev, env0, extE_eq, pickO, op1, op2, op3, Nat.reduceLeDiff, Nat.reduceSub, Nat.reduceEqDiff, if_true, if_false, ite_true, ite_false, decide_true, decide_false, Bool.not_true, Bool.not_false, Nat.zero_le, Nat.sub_zero, List.getElem?_cons_zero, List.getElem?_cons_succ, List.getElem?_nil, cq0, cq1, cq2, cq3, cq4, cq5, cq6, cq7, cq8, cq9, cq10, cq12, cq16, outQ1, outQ2, outQ3, outQ4, outQ5, evN_at, evB_at, evS_at, evLen_z1, evLen_z2, evBit_z, at_n, at_b, at_s, at_z, at_k, at_kb, kG, kQ, kQ1, List.map_cons, List.map_nil, List.cons_append, List.nil_append, decide_eq_true_eq, Bool.false_eq_true, GV0_dadd, ctF_dadd, GV0_dsub, ctF_dsub, GV0_dmul, ctF_dmul, GV0_ddiv, ctF_ddiv, GV0_dcmp, ctF_dcmp, GV0_drcmp, ctF_drcmp, GV0_dof, ctF_dof, GV0_drof, ctF_drof, GV0_dsign, ctF_dsign, g_cmp, cmp_lt, cmp_gt, rmin, rmax, ifB]
      by_cases h1 : c < a <;> by_cases h2 : b < d <;> simp only [h1, h2, decide_true, decide_false, if_true, if_false]
    · cases h
  · cases h
def ct_ivhull : Ct := { args := [[.r, .r], [.r, .r]], res := [[.r, .r]], F := cq g_ivhull, L := 1000000, A := 1, B := 0 }
theorem ctF_ivhull : ct_ivhull.F = cq g_ivhull := rfl
theorem ok_ivhull : ct_ivhull.ok Try.prog 17 := ev_ivhull.weaken (of_cq (g := g_ivhull) ivhull_den)
end Go.Proofs.Ytifgdiejpglhfaa
