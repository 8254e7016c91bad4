/- Points: the inner functions. -/
import Derived.Test.YtkampmdekonjmaaGreatQa1
namespace Go.Proofs.YtkampmdekonjmaaGreat
open Go Go.RowKit Go.V
set_option linter.unusedSimpArgs false
set_option linter.unusedVariables false
set_option maxRecDepth 20000
def g_vec : List QA → Option (List QA)
  | [.q ax, .q ay, .q bx, .q by'] => some [.q (bx - ax), .q (by' - ay)]
  | _ => none
def g_vdot : List QA → Option (List QA)
  | [.q a, .q b, .q c, .q d] => some [.q (a * c + b * d)]
  | _ => none
def g_vcross : List QA → Option (List QA)
  | [.q a, .q b, .q c, .q d] => some [.q (a * d - b * c)]
  | _ => none
def g_vsq : List QA → Option (List QA)
  | [.q a, .q b] => some [.q (a * a + b * b)]
  | _ => none
def g_vturn : List QA → Option (List QA)
  | [.q a, .q b] => some [.q (-b), .q a]
  | _ => none
def g_vtimes : List QA → Option (List QA)
  | [.q a, .q b, .q s] => some [.q (s * a), .q (s * b)]
  | _ => none
def g_plus : List QA → Option (List QA)
  | [.q a, .q b, .q c, .q d] => some [.q (a + c), .q (b + d)]
  | _ => none
def g_along : List QA → Option (List QA)
  | [.q a, .q b, .q s, .q c, .q d] => some [.q (a + s * c), .q (b + s * d)]
  | _ => none
def g_over : List QA → Option (List QA)
  | [.q a, .q b] => some (if b = 0 then [.z] else [.q (a / b)])
  | _ => none
/-- the error of a root, or its value with a sign -/
def rootE (d : Rat) : Int := if qsg d < 0 then 13 else if isSq d = true then 0 else 12
def rootV (d : Rat) (plus : Bool) : Rat := if plus = true then qroot d else - qroot d
def g_root : List QA → Option (List QA)
  | [.q d] => some (if rootE d = 0 then [.q (qroot d), .n 0] else [.z, .n (rootE d)])
  | _ => none
def g_rroot : List QA → Option (List QA)
  | [.q d, .b plus] => some (if rootE d = 0 then [.q (rootV d plus), .n 0] else [.z, .n (rootE d)])
  | _ => none
def GQ : Gam := gamOf [(27, ct_dadd), (66, ct_dradd), (25, ct_dsub), (35, ct_drsub), (30, ct_dmul), (39, ct_drmul), (67, ct_drneg), (62, ct_dof), (68, ct_drof), (17, ct_dsign), (18, ct_drsign), (45, ct_drcmp), (16, ct_drequal), (15, ct_drright)]
theorem GQ_ok : GamOk Tryz.prog GQ := gamOk_of ⟨ok_dadd, ok_dradd, ok_dsub, ok_drsub, ok_dmul, ok_drmul, ok_drneg, ok_dof, ok_drof, ok_dsign, ok_drsign, ok_drcmp, ok_drequal, ok_drright, trivial⟩
theorem GQ_dadd : GQ 27 = some ct_dadd := rfl
theorem GQ_dradd : GQ 66 = some ct_dradd := rfl
theorem GQ_dsub : GQ 25 = some ct_dsub := rfl
theorem GQ_drsub : GQ 35 = some ct_drsub := rfl
theorem GQ_dmul : GQ 30 = some ct_dmul := rfl
theorem GQ_drmul : GQ 39 = some ct_drmul := rfl
theorem GQ_drneg : GQ 67 = some ct_drneg := rfl
theorem GQ_dof : GQ 62 = some ct_dof := rfl
theorem GQ_drof : GQ 68 = some ct_drof := rfl
theorem GQ_dsign : GQ 17 = some ct_dsign := rfl
theorem GQ_drsign : GQ 18 = some ct_drsign := rfl
theorem GQ_drcmp : GQ 45 = some ct_drcmp := rfl
theorem GQ_drequal : GQ 16 = some ct_drequal := rfl
theorem GQ_drright : GQ 15 = some ct_drright := rfl
def tr_vec : Tr (List SA) := (.call 25 [(.ob 2), (.ob 0)] 4 (.call 25 [(.ob 3), (.ob 1)] 5 (.leaf [(.ob 4), (.ob 5)])))
theorem ev_vec : Ct.ok Tryz.prog 53 { args := [[.r, .r], [.r, .r]], res := [[.r, .r]], F := fun als => tr_vec.den GQ (env0 als), L := 1000000, A := 2, B := 6 } :=
  top_ok (by kernel_rfl) GQ_ok (plans := planF) (lf := 60) (k := 20) (by kernel_rfl)
def tr_rvec : Tr (List SA) := (.call 35 [(.ob 2), (.ob 0)] 4 (.call 35 [(.ob 3), (.ob 1)] 5 (.leaf [(.ob 4), (.ob 5)])))
theorem ev_rvec : Ct.ok Tryz.prog 64 { args := [[.r, .r], [.r, .r]], res := [[.r, .r]], F := fun als => tr_rvec.den GQ (env0 als), L := 1000000, A := 2, B := 40 } :=
  top_ok (by kernel_rfl) GQ_ok (plans := planF) (lf := 60) (k := 20) (by kernel_rfl)
def tr_vdot : Tr (List SA) := (.call 30 [(.ob 0), (.ob 2)] 4 (.call 30 [(.ob 1), (.ob 3)] 5 (.call 27 [(.ob 4), (.ob 5)] 6 (.leaf [(.ob 6)]))))
theorem ev_vdot : Ct.ok Tryz.prog 55 { args := [[.r, .r], [.r, .r]], res := [[.r]], F := fun als => tr_vdot.den GQ (env0 als), L := 1000000, A := 4, B := 14 } :=
  top_ok (by kernel_rfl) GQ_ok (plans := planF) (lf := 60) (k := 20) (by kernel_rfl)
def tr_rvdot : Tr (List SA) := (.call 39 [(.ob 0), (.ob 2)] 4 (.call 39 [(.ob 1), (.ob 3)] 5 (.call 66 [(.ob 4), (.ob 5)] 6 (.leaf [(.ob 6)]))))
theorem ev_rvdot : Ct.ok Tryz.prog 65 { args := [[.r, .r], [.r, .r]], res := [[.r]], F := fun als => tr_rvdot.den GQ (env0 als), L := 1000000, A := 4, B := 60 } :=
  top_ok (by kernel_rfl) GQ_ok (plans := planF) (lf := 60) (k := 20) (by kernel_rfl)
def tr_vcross : Tr (List SA) := (.call 30 [(.ob 0), (.ob 3)] 4 (.call 30 [(.ob 1), (.ob 2)] 5 (.call 25 [(.ob 4), (.ob 5)] 6 (.leaf [(.ob 6)]))))
theorem ev_vcross : Ct.ok Tryz.prog 54 { args := [[.r, .r], [.r, .r]], res := [[.r]], F := fun als => tr_vcross.den GQ (env0 als), L := 1000000, A := 4, B := 14 } :=
  top_ok (by kernel_rfl) GQ_ok (plans := planF) (lf := 60) (k := 20) (by kernel_rfl)
def tr_rvcross : Tr (List SA) := (.call 39 [(.ob 0), (.ob 3)] 4 (.call 39 [(.ob 1), (.ob 2)] 5 (.call 35 [(.ob 4), (.ob 5)] 6 (.leaf [(.ob 6)]))))
theorem ev_rvcross : Ct.ok Tryz.prog 63 { args := [[.r, .r], [.r, .r]], res := [[.r]], F := fun als => tr_rvcross.den GQ (env0 als), L := 1000000, A := 4, B := 80 } :=
  top_ok (by kernel_rfl) GQ_ok (plans := planF) (lf := 60) (k := 20) (by kernel_rfl)
def tr_vsq : Tr (List SA) := (.call 30 [(.ob 0), (.ob 0)] 2 (.call 30 [(.ob 1), (.ob 1)] 3 (.call 27 [(.ob 2), (.ob 3)] 4 (.leaf [(.ob 4)]))))
theorem ev_vsq : Ct.ok Tryz.prog 56 { args := [[.r, .r]], res := [[.r]], F := fun als => tr_vsq.den GQ (env0 als), L := 1000000, A := 4, B := 14 } :=
  top_ok (by kernel_rfl) GQ_ok (plans := planF) (lf := 60) (k := 20) (by kernel_rfl)
theorem vec_den (l r : List QA) (h : g_vec l = some r) : tr_vec.den GQ (env0 (l.map QA.at)) = some (r.map QA.at) := by
  unfold g_vec at h
  split at h
  · injection h with h; subst h
    simp only [tr_vec, Tr.den, evAll, SA.ev, BE.ev, IE.ev, SE.ev, LE.ev, env0, extE_eq, pickO, op1, op2, op3, Nat.reduceLeDiff, Nat.reduceSub, Nat.reduceEqDiff, if_true, if_false, ite_true, ite_false, decide_true, decide_false, Bool.not_true, Bool.not_false, Nat.zero_le, Nat.sub_zero, List.getElem?_cons_zero, List.getElem?_cons_succ, List.getElem?_nil, cq0, cq1, cq2, cq3, cq4, cq5, cq6, cq7, cq8, cq9, cq10, cq12, cq16, outQ1, outQ2, outQ3, outQ4, outQ5, evN_at, evB_at, evS_at, evLen_z1, evLen_z2, evBit_z, at_n, at_b, at_s, at_z, at_k, at_kb, kG, kQ, kQ1, List.map_cons, List.map_nil, List.cons_append, List.nil_append, decide_eq_true_eq, Bool.false_eq_true, GQ_dadd, ctF_dadd, GQ_dradd, ctF_dradd, GQ_dsub, ctF_dsub, GQ_drsub, ctF_drsub, GQ_dmul, ctF_dmul, GQ_drmul, ctF_drmul, GQ_drneg, ctF_drneg, GQ_dof, ctF_dof, GQ_drof, ctF_drof, GQ_dsign, ctF_dsign, GQ_drsign, ctF_drsign, GQ_drcmp, ctF_drcmp, GQ_drequal, ctF_drequal, GQ_drright, ctF_drright, g_sub]
  · cases h
theorem rvec_den (l r : List QA) (h : g_vec l = some r) : tr_rvec.den GQ (env0 (l.map QA.at)) = some (r.map QA.at) := by
  unfold g_vec at h
  split at h
  · injection h with h; subst h
    simp only [tr_rvec, Tr.den, evAll, SA.ev, BE.ev, IE.ev, SE.ev, LE.ev, env0, extE_eq, pickO, op1, op2, op3, Nat.reduceLeDiff, Nat.reduceSub, Nat.reduceEqDiff, if_true, if_false, ite_true, ite_false, decide_true, decide_false, Bool.not_true, Bool.not_false, Nat.zero_le, Nat.sub_zero, List.getElem?_cons_zero, List.getElem?_cons_succ, List.getElem?_nil, cq0, cq1, cq2, cq3, cq4, cq5, cq6, cq7, cq8, cq9, cq10, cq12, cq16, outQ1, outQ2, outQ3, outQ4, outQ5, evN_at, evB_at, evS_at, evLen_z1, evLen_z2, evBit_z, at_n, at_b, at_s, at_z, at_k, at_kb, kG, kQ, kQ1, List.map_cons, List.map_nil, List.cons_append, List.nil_append, decide_eq_true_eq, Bool.false_eq_true, GQ_dadd, ctF_dadd, GQ_dradd, ctF_dradd, GQ_dsub, ctF_dsub, GQ_drsub, ctF_drsub, GQ_dmul, ctF_dmul, GQ_drmul, ctF_drmul, GQ_drneg, ctF_drneg, GQ_dof, ctF_dof, GQ_drof, ctF_drof, GQ_dsign, ctF_dsign, GQ_drsign, ctF_drsign, GQ_drcmp, ctF_drcmp, GQ_drequal, ctF_drequal, GQ_drright, ctF_drright, g_sub]
  · cases h
theorem vdot_den (l r : List QA) (h : g_vdot l = some r) : tr_vdot.den GQ (env0 (l.map QA.at)) = some (r.map QA.at) := by
  unfold g_vdot at h
  split at h
  · injection h with h; subst h
    simp only [tr_vdot, Tr.den, evAll, SA.ev, BE.ev, IE.ev, SE.ev, LE.ev, env0, extE_eq, pickO, op1, op2, op3, Nat.reduceLeDiff, Nat.reduceSub, Nat.reduceEqDiff, if_true, if_false, ite_true, ite_false, decide_true, decide_false, Bool.not_true, Bool.not_false, Nat.zero_le, Nat.sub_zero, List.getElem?_cons_zero, List.getElem?_cons_succ, List.getElem?_nil, cq0, cq1, cq2, cq3, cq4, cq5, cq6, cq7, cq8, cq9, cq10, cq12, cq16, outQ1, outQ2, outQ3, outQ4, outQ5, evN_at, evB_at, evS_at, evLen_z1, evLen_z2, evBit_z, at_n, at_b, at_s, at_z, at_k, at_kb, kG, kQ, kQ1, List.map_cons, List.map_nil, List.cons_append, List.nil_append, decide_eq_true_eq, Bool.false_eq_true, GQ_dadd, ctF_dadd, GQ_dradd, ctF_dradd, GQ_dsub, ctF_dsub, GQ_drsub, ctF_drsub, GQ_dmul, ctF_dmul, GQ_drmul, ctF_drmul, GQ_drneg, ctF_drneg, GQ_dof, ctF_dof, GQ_drof, ctF_drof, GQ_dsign, ctF_dsign, GQ_drsign, ctF_drsign, GQ_drcmp, ctF_drcmp, GQ_drequal, ctF_drequal, GQ_drright, ctF_drright, g_add, g_mul]
  · cases h
theorem rvdot_den (l r : List QA) (h : g_vdot l = some r) : tr_rvdot.den GQ (env0 (l.map QA.at)) = some (r.map QA.at) := by
  unfold g_vdot at h
  split at h
  · injection h with h; subst h
    simp only [tr_rvdot, Tr.den, evAll, SA.ev, BE.ev, IE.ev, SE.ev, LE.ev, env0, extE_eq, pickO, op1, op2, op3, Nat.reduceLeDiff, Nat.reduceSub, Nat.reduceEqDiff, if_true, if_false, ite_true, ite_false, decide_true, decide_false, Bool.not_true, Bool.not_false, Nat.zero_le, Nat.sub_zero, List.getElem?_cons_zero, List.getElem?_cons_succ, List.getElem?_nil, cq0, cq1, cq2, cq3, cq4, cq5, cq6, cq7, cq8, cq9, cq10, cq12, cq16, outQ1, outQ2, outQ3, outQ4, outQ5, evN_at, evB_at, evS_at, evLen_z1, evLen_z2, evBit_z, at_n, at_b, at_s, at_z, at_k, at_kb, kG, kQ, kQ1, List.map_cons, List.map_nil, List.cons_append, List.nil_append, decide_eq_true_eq, Bool.false_eq_true, GQ_dadd, ctF_dadd, GQ_dradd, ctF_dradd, GQ_dsub, ctF_dsub, GQ_drsub, ctF_drsub, GQ_dmul, ctF_dmul, GQ_drmul, ctF_drmul, GQ_drneg, ctF_drneg, GQ_dof, ctF_dof, GQ_drof, ctF_drof, GQ_dsign, ctF_dsign, GQ_drsign, ctF_drsign, GQ_drcmp, ctF_drcmp, GQ_drequal, ctF_drequal, GQ_drright, ctF_drright, g_add, g_mul]
  · cases h
theorem vcross_den (l r : List QA) (h : g_vcross l = some r) : tr_vcross.den GQ (env0 (l.map QA.at)) = some (r.map QA.at) := by
  unfold g_vcross at h
  split at h
  · injection h with h; subst h
    simp only [tr_vcross, Tr.den, evAll, SA.ev, BE.ev, IE.ev, SE.ev, LE.ev, env0, extE_eq, pickO, op1, op2, op3, Nat.reduceLeDiff, Nat.reduceSub, Nat.reduceEqDiff, if_true, if_false, ite_true, ite_false, decide_true, decide_false, Bool.not_true, Bool.not_false, Nat.zero_le, Nat.sub_zero, List.getElem?_cons_zero, List.getElem?_cons_succ, List.getElem?_nil, cq0, cq1, cq2, cq3, cq4, cq5, cq6, cq7, cq8, cq9, cq10, cq12, cq16, outQ1, outQ2, outQ3, outQ4, outQ5, evN_at, evB_at, evS_at, evLen_z1, evLen_z2, evBit_z, at_n, at_b, at_s, at_z, at_k, at_kb, kG, kQ, kQ1, List.map_cons, List.map_nil, List.cons_append, List.nil_append, decide_eq_true_eq, Bool.false_eq_true, GQ_dadd, ctF_dadd, GQ_dradd, ctF_dradd, GQ_dsub, ctF_dsub, GQ_drsub, ctF_drsub, GQ_dmul, ctF_dmul, GQ_drmul, ctF_drmul, GQ_drneg, ctF_drneg, GQ_dof, ctF_dof, GQ_drof, ctF_drof, GQ_dsign, ctF_dsign, GQ_drsign, ctF_drsign, GQ_drcmp, ctF_drcmp, GQ_drequal, ctF_drequal, GQ_drright, ctF_drright, g_sub, g_mul]
  · cases h
theorem rvcross_den (l r : List QA) (h : g_vcross l = some r) : tr_rvcross.den GQ (env0 (l.map QA.at)) = some (r.map QA.at) := by
  unfold g_vcross at h
  split at h
  · injection h with h; subst h
    simp only [tr_rvcross, Tr.den, evAll, SA.ev, BE.ev, IE.ev, SE.ev, LE.ev, env0, extE_eq, pickO, op1, op2, op3, Nat.reduceLeDiff, Nat.reduceSub, Nat.reduceEqDiff, if_true, if_false, ite_true, ite_false, decide_true, decide_false, Bool.not_true, Bool.not_false, Nat.zero_le, Nat.sub_zero, List.getElem?_cons_zero, List.getElem?_cons_succ, List.getElem?_nil, cq0, cq1, cq2, cq3, cq4, cq5, cq6, cq7, cq8, cq9, cq10, cq12, cq16, outQ1, outQ2, outQ3, outQ4, outQ5, evN_at, evB_at, evS_at, evLen_z1, evLen_z2, evBit_z, at_n, at_b, at_s, at_z, at_k, at_kb, kG, kQ, kQ1, List.map_cons, List.map_nil, List.cons_append, List.nil_append, decide_eq_true_eq, Bool.false_eq_true, GQ_dadd, ctF_dadd, GQ_dradd, ctF_dradd, GQ_dsub, ctF_dsub, GQ_drsub, ctF_drsub, GQ_dmul, ctF_dmul, GQ_drmul, ctF_drmul, GQ_drneg, ctF_drneg, GQ_dof, ctF_dof, GQ_drof, ctF_drof, GQ_dsign, ctF_dsign, GQ_drsign, ctF_drsign, GQ_drcmp, ctF_drcmp, GQ_drequal, ctF_drequal, GQ_drright, ctF_drright, g_sub, g_mul]
  · cases h
theorem vsq_den (l r : List QA) (h : g_vsq l = some r) : tr_vsq.den GQ (env0 (l.map QA.at)) = some (r.map QA.at) := by
  unfold g_vsq at h
  split at h
  · injection h with h; subst h
    simp only [tr_vsq, Tr.den, evAll, SA.ev, BE.ev, IE.ev, SE.ev, LE.ev, env0, extE_eq, pickO, op1, op2, op3, Nat.reduceLeDiff, Nat.reduceSub, Nat.reduceEqDiff, if_true, if_false, ite_true, ite_false, decide_true, decide_false, Bool.not_true, Bool.not_false, Nat.zero_le, Nat.sub_zero, List.getElem?_cons_zero, List.getElem?_cons_succ, List.getElem?_nil, cq0, cq1, cq2, cq3, cq4, cq5, cq6, cq7, cq8, cq9, cq10, cq12, cq16, outQ1, outQ2, outQ3, outQ4, outQ5, evN_at, evB_at, evS_at, evLen_z1, evLen_z2, evBit_z, at_n, at_b, at_s, at_z, at_k, at_kb, kG, kQ, kQ1, List.map_cons, List.map_nil, List.cons_append, List.nil_append, decide_eq_true_eq, Bool.false_eq_true, GQ_dadd, ctF_dadd, GQ_dradd, ctF_dradd, GQ_dsub, ctF_dsub, GQ_drsub, ctF_drsub, GQ_dmul, ctF_dmul, GQ_drmul, ctF_drmul, GQ_drneg, ctF_drneg, GQ_dof, ctF_dof, GQ_drof, ctF_drof, GQ_dsign, ctF_dsign, GQ_drsign, ctF_drsign, GQ_drcmp, ctF_drcmp, GQ_drequal, ctF_drequal, GQ_drright, ctF_drright, g_add, g_mul]
  · cases h
def ct_vec : Ct := { args := [[.r, .r], [.r, .r]], res := [[.r, .r]], F := cq g_vec, L := 1000000, A := 2, B := 6 }
theorem ctF_vec : ct_vec.F = cq g_vec := rfl
theorem ok_vec : ct_vec.ok Tryz.prog 53 := ev_vec.weaken (of_cq (g := g_vec) vec_den)
def ct_rvec : Ct := { args := [[.r, .r], [.r, .r]], res := [[.r, .r]], F := cq g_vec, L := 1000000, A := 2, B := 40 }
theorem ctF_rvec : ct_rvec.F = cq g_vec := rfl
theorem ok_rvec : ct_rvec.ok Tryz.prog 64 := ev_rvec.weaken (of_cq (g := g_vec) rvec_den)
def ct_vdot : Ct := { args := [[.r, .r], [.r, .r]], res := [[.r]], F := cq g_vdot, L := 1000000, A := 4, B := 14 }
theorem ctF_vdot : ct_vdot.F = cq g_vdot := rfl
theorem ok_vdot : ct_vdot.ok Tryz.prog 55 := ev_vdot.weaken (of_cq (g := g_vdot) vdot_den)
def ct_rvdot : Ct := { args := [[.r, .r], [.r, .r]], res := [[.r]], F := cq g_vdot, L := 1000000, A := 4, B := 60 }
theorem ctF_rvdot : ct_rvdot.F = cq g_vdot := rfl
theorem ok_rvdot : ct_rvdot.ok Tryz.prog 65 := ev_rvdot.weaken (of_cq (g := g_vdot) rvdot_den)
def ct_vcross : Ct := { args := [[.r, .r], [.r, .r]], res := [[.r]], F := cq g_vcross, L := 1000000, A := 4, B := 14 }
theorem ctF_vcross : ct_vcross.F = cq g_vcross := rfl
theorem ok_vcross : ct_vcross.ok Tryz.prog 54 := ev_vcross.weaken (of_cq (g := g_vcross) vcross_den)
def ct_rvcross : Ct := { args := [[.r, .r], [.r, .r]], res := [[.r]], F := cq g_vcross, L := 1000000, A := 4, B := 80 }
theorem ctF_rvcross : ct_rvcross.F = cq g_vcross := rfl
theorem ok_rvcross : ct_rvcross.ok Tryz.prog 63 := ev_rvcross.weaken (of_cq (g := g_vcross) rvcross_den)
def ct_vsq : Ct := { args := [[.r, .r]], res := [[.r]], F := cq g_vsq, L := 1000000, A := 4, B := 14 }
theorem ctF_vsq : ct_vsq.F = cq g_vsq := rfl
theorem ok_vsq : ct_vsq.ok Tryz.prog 56 := ev_vsq.weaken (of_cq (g := g_vsq) vsq_den)
end Go.Proofs.YtkampmdekonjmaaGreat
