/- Points: the inner functions. -/
import Derived.Test.YtkampmdekonjmaaQa1
namespace Go.Proofs.Ytkampmdekonjmaa
open Go Go.RowKit Go.V
set_option linter.unusedSimpArgs false
set_option linter.unusedVariables false
set_option maxRecDepth 20000
def g_vec : List QA → Option (List QA)
  | [.q ax, .q ay, .q bx, .q by'] => some [.q (bx - ax), .q (by' - ay)]
  | _ => none
def g_vdot : List QA → Option (List QA)
  | [.q a, .q b, .q c, .q d] => some [.q (a * c + b * d)]
  | _ => none
def g_vcross : List QA → Option (List QA)
  | [.q a, .q b, .q c, .q d] => some [.q (a * d - b * c)]
  | _ => none
def g_vsq : List QA → Option (List QA)
  | [.q a, .q b] => some [.q (a * a + b * b)]
  | _ => none
def g_vturn : List QA → Option (List QA)
  | [.q a, .q b] => some [.q (-b), .q a]
  | _ => none
def g_vtimes : List QA → Option (List QA)
  | [.q a, .q b, .q s] => some [.q (s * a), .q (s * b)]
  | _ => none
def g_plus : List QA → Option (List QA)
  | [.q a, .q b, .q c, .q d] => some [.q (a + c), .q (b + d)]
  | _ => none
def g_along : List QA → Option (List QA)
  | [.q a, .q b, .q s, .q c, .q d] => some [.q (a + s * c), .q (b + s * d)]
  | _ => none
def g_over : List QA → Option (List QA)
  | [.q a, .q b] => some (if b = 0 then [.z] else [.q (a / b)])
  | _ => none
/-- the error of a root, or its value with a sign -/
def rootE (d : Rat) : Int := if qsg d < 0 then 13 else if isSq d = true then 0 else 12
def rootV (d : Rat) (plus : Bool) : Rat := if plus = true then qroot d else - qroot d
def g_root : List QA → Option (List QA)
  | [.q d] => some (if rootE d = 0 then [.q (qroot d), .n 0] else [.z, .n (rootE d)])
  | _ => none
def g_rroot : List QA → Option (List QA)
  | [.q d, .b plus] => some (if rootE d = 0 then [.q (rootV d plus), .n 0] else [.z, .n (rootE d)])
  | _ => none
def GQ : Gam := gamOf [(83, ct_dadd), (77, ct_dradd), (55, ct_dsub), (80, ct_drsub), (51, ct_dmul), (78, ct_drmul), (79, ct_drneg), (92, ct_ddiv), (52, ct_dof), (39, ct_drof), (24, ct_drfrac), (44, ct_dsign), (16, ct_drsign), (135, ct_dcmp), (120, ct_dequal), (30, ct_drright)]
theorem GQ_ok : GamOk Try.prog GQ := gamOk_of ⟨ok_dadd, ok_dradd, ok_dsub, ok_drsub, ok_dmul, ok_drmul, ok_drneg, ok_ddiv, ok_dof, ok_drof, ok_drfrac, ok_dsign, ok_drsign, ok_dcmp, ok_dequal, ok_drright, trivial⟩
theorem GQ_dadd : GQ 83 = some ct_dadd := rfl
theorem GQ_dradd : GQ 77 = some ct_dradd := rfl
theorem GQ_dsub : GQ 55 = some ct_dsub := rfl
theorem GQ_drsub : GQ 80 = some ct_drsub := rfl
theorem GQ_dmul : GQ 51 = some ct_dmul := rfl
theorem GQ_drmul : GQ 78 = some ct_drmul := rfl
theorem GQ_drneg : GQ 79 = some ct_drneg := rfl
theorem GQ_ddiv : GQ 92 = some ct_ddiv := rfl
theorem GQ_dof : GQ 52 = some ct_dof := rfl
theorem GQ_drof : GQ 39 = some ct_drof := rfl
theorem GQ_drfrac : GQ 24 = some ct_drfrac := rfl
theorem GQ_dsign : GQ 44 = some ct_dsign := rfl
theorem GQ_drsign : GQ 16 = some ct_drsign := rfl
theorem GQ_dcmp : GQ 135 = some ct_dcmp := rfl
theorem GQ_dequal : GQ 120 = some ct_dequal := rfl
theorem GQ_drright : GQ 30 = some ct_drright := rfl
def tr_vec : Tr (List SA) := (.call 55 [(.ob 2), (.ob 0)] 4 (.call 55 [(.ob 3), (.ob 1)] 5 (.leaf [(.ob 4), (.ob 5)])))
theorem ev_vec : Ct.ok Try.prog 46 { args := [[.r, .r], [.r, .r]], res := [[.r, .r]], F := fun als => tr_vec.den GQ (env0 als), L := 1000000, A := 2, B := 6 } :=
  top_ok (by kernel_rfl) GQ_ok (plans := planF) (lf := 60) (k := 20) (by kernel_rfl)
def tr_rvec : Tr (List SA) := (.call 80 [(.ob 2), (.ob 0)] 4 (.call 80 [(.ob 3), (.ob 1)] 5 (.leaf [(.ob 4), (.ob 5)])))
theorem ev_rvec : Ct.ok Try.prog 42 { args := [[.r, .r], [.r, .r]], res := [[.r, .r]], F := fun als => tr_rvec.den GQ (env0 als), L := 1000000, A := 2, B := 40 } :=
  top_ok (by kernel_rfl) GQ_ok (plans := planF) (lf := 60) (k := 20) (by kernel_rfl)
def tr_vdot : Tr (List SA) := (.call 51 [(.ob 0), (.ob 2)] 4 (.call 51 [(.ob 1), (.ob 3)] 5 (.call 83 [(.ob 4), (.ob 5)] 6 (.leaf [(.ob 6)]))))
theorem ev_vdot : Ct.ok Try.prog 57 { args := [[.r, .r], [.r, .r]], res := [[.r]], F := fun als => tr_vdot.den GQ (env0 als), L := 1000000, A := 4, B := 14 } :=
  top_ok (by kernel_rfl) GQ_ok (plans := planF) (lf := 60) (k := 20) (by kernel_rfl)
def tr_vcross : Tr (List SA) := (.call 51 [(.ob 0), (.ob 3)] 4 (.call 51 [(.ob 1), (.ob 2)] 5 (.call 55 [(.ob 4), (.ob 5)] 6 (.leaf [(.ob 6)]))))
theorem ev_vcross : Ct.ok Try.prog 53 { args := [[.r, .r], [.r, .r]], res := [[.r]], F := fun als => tr_vcross.den GQ (env0 als), L := 1000000, A := 4, B := 14 } :=
  top_ok (by kernel_rfl) GQ_ok (plans := planF) (lf := 60) (k := 20) (by kernel_rfl)
def tr_vsq : Tr (List SA) := (.call 51 [(.ob 0), (.ob 0)] 2 (.call 51 [(.ob 1), (.ob 1)] 3 (.call 83 [(.ob 2), (.ob 3)] 4 (.leaf [(.ob 4)]))))
theorem ev_vsq : Ct.ok Try.prog 54 { args := [[.r, .r]], res := [[.r]], F := fun als => tr_vsq.den GQ (env0 als), L := 1000000, A := 4, B := 14 } :=
  top_ok (by kernel_rfl) GQ_ok (plans := planF) (lf := 60) (k := 20) (by kernel_rfl)
def tr_rvturn : Tr (List SA) := (.call 79 [(.ob 1)] 2 (.leaf [(.ob 2), (.ob 0)]))
theorem ev_rvturn : Ct.ok Try.prog 41 { args := [[.r, .r]], res := [[.r, .r]], F := fun als => tr_rvturn.den GQ (env0 als), L := 1000000, A := 1, B := 4 } :=
  top_ok (by kernel_rfl) GQ_ok (plans := planF) (lf := 60) (k := 20) (by kernel_rfl)
def tr_vtimes : Tr (List SA) := (.call 51 [(.ob 2), (.ob 0)] 3 (.call 51 [(.ob 2), (.ob 1)] 4 (.leaf [(.ob 3), (.ob 4)])))
theorem ev_vtimes : Ct.ok Try.prog 47 { args := [[.r, .r], [.r]], res := [[.r, .r]], F := fun als => tr_vtimes.den GQ (env0 als), L := 1000000, A := 2, B := 4 } :=
  top_ok (by kernel_rfl) GQ_ok (plans := planF) (lf := 60) (k := 20) (by kernel_rfl)
def tr_plus : Tr (List SA) := (.call 83 [(.ob 0), (.ob 2)] 4 (.call 83 [(.ob 1), (.ob 3)] 5 (.leaf [(.ob 4), (.ob 5)])))
theorem ev_plus : Ct.ok Try.prog 45 { args := [[.r, .r], [.r, .r]], res := [[.r, .r]], F := fun als => tr_plus.den GQ (env0 als), L := 1000000, A := 2, B := 6 } :=
  top_ok (by kernel_rfl) GQ_ok (plans := planF) (lf := 60) (k := 20) (by kernel_rfl)
def tr_along : Tr (List SA) := (.call 78 [(.ob 2), (.ob 3)] 5 (.call 77 [(.ob 0), (.ob 5)] 6 (.call 78 [(.ob 2), (.ob 4)] 7 (.call 77 [(.ob 1), (.ob 7)] 8 (.leaf [(.ob 6), (.ob 8)])))))
theorem ev_along : Ct.ok Try.prog 40 { args := [[.r, .r], [.r], [.r, .r]], res := [[.r, .r]], F := fun als => tr_along.den GQ (env0 als), L := 1000000, A := 4, B := 60 } :=
  top_ok (by kernel_rfl) GQ_ok (plans := planF) (lf := 60) (k := 20) (by kernel_rfl)
def tr_pover : Tr (List SA) := (.call 92 [(.ob 0), (.ob 1)] 2 (.leaf [(.ob 2)]))
theorem ev_pover : Ct.ok Try.prog 56 { args := [[.r], [.r]], res := [[.r]], F := fun als => tr_pover.den GQ (env0 als), L := 1000000, A := 2, B := 4 } :=
  top_ok (by kernel_rfl) GQ_ok (plans := planF) (lf := 60) (k := 20) (by kernel_rfl)
theorem vec_den (l r : List QA) (h : g_vec l = some r) : tr_vec.den GQ (env0 (l.map QA.at)) = some (r.map QA.at) := by
  unfold g_vec at h
  split at h
  · injection h with h; subst h
    simp only [tr_vec, Tr.den, evAll, SA.ev, BE.ev, IE.ev, SE.ev, LE.ev, env0, extE_eq, pickO, op1, op2, op3, Nat.reduceLeDiff, Nat.reduceSub, Nat.reduceEqDiff, if_true, if_false, ite_true, ite_false, decide_true, decide_false, Bool.not_true, Bool.not_false, Nat.zero_le, Nat.sub_zero, List.getElem?_cons_zero, List.getElem?_cons_succ, List.getElem?_nil, cq0, cq1, cq2, cq3, cq4, cq5, cq6, cq7, cq8, cq9, cq10, cq12, cq16, outQ1, outQ2, outQ3, outQ4, outQ5, evN_at, evB_at, evS_at, evLen_z1, evLen_z2, evBit_z, at_n, at_b, at_s, at_z, at_k, at_kb, kG, kQ, kQ1, List.map_cons, List.map_nil, List.cons_append, List.nil_append, decide_eq_true_eq, Bool.false_eq_true, GQ_dadd, ctF_dadd, GQ_dradd, ctF_dradd, GQ_dsub, ctF_dsub, GQ_drsub, ctF_drsub, GQ_dmul, ctF_dmul, GQ_drmul, ctF_drmul, GQ_drneg, ctF_drneg, GQ_ddiv, ctF_ddiv, GQ_dof, ctF_dof, GQ_drof, ctF_drof, GQ_drfrac, ctF_drfrac, GQ_dsign, ctF_dsign, GQ_drsign, ctF_drsign, GQ_dcmp, ctF_dcmp, GQ_dequal, ctF_dequal, GQ_drright, ctF_drright, g_sub]
  · cases h
theorem rvec_den (l r : List QA) (h : g_vec l = some r) : tr_rvec.den GQ (env0 (l.map QA.at)) = some (r.map QA.at) := by
  unfold g_vec at h
  split at h
  · injection h with h; subst h
    simp only [tr_rvec, Tr.den, evAll, SA.ev, BE.ev, IE.ev, SE.ev, LE.ev, env0, extE_eq, pickO, op1, op2, op3, Nat.reduceLeDiff, Nat.reduceSub, Nat.reduceEqDiff, if_true, if_false, ite_true, ite_false, decide_true, decide_false, Bool.not_true, Bool.not_false, Nat.zero_le, Nat.sub_zero, List.getElem?_cons_zero, List.getElem?_cons_succ, List.getElem?_nil, cq0, cq1, cq2, cq3, cq4, cq5, cq6, cq7, cq8, cq9, cq10, cq12, cq16, outQ1, outQ2, outQ3, outQ4, outQ5, evN_at, evB_at, evS_at, evLen_z1, evLen_z2, evBit_z, at_n, at_b, at_s, at_z, at_k, at_kb, kG, kQ, kQ1, List.map_cons, List.map_nil, List.cons_append, List.nil_append, decide_eq_true_eq, Bool.false_eq_true, GQ_dadd, ctF_dadd, GQ_dradd, ctF_dradd, GQ_dsub, ctF_dsub, GQ_drsub, ctF_drsub, GQ_dmul, ctF_dmul, GQ_drmul, ctF_drmul, GQ_drneg, ctF_drneg, GQ_ddiv, ctF_ddiv, GQ_dof, ctF_dof, GQ_drof, ctF_drof, GQ_drfrac, ctF_drfrac, GQ_dsign, ctF_dsign, GQ_drsign, ctF_drsign, GQ_dcmp, ctF_dcmp, GQ_dequal, ctF_dequal, GQ_drright, ctF_drright, g_sub]
  · cases h
theorem vdot_den (l r : List QA) (h : g_vdot l = some r) : tr_vdot.den GQ (env0 (l.map QA.at)) = some (r.map QA.at) := by
  unfold g_vdot at h
  split at h
  · injection h with h; subst h
    simp only [tr_vdot, Tr.den, evAll, SA.ev, BE.ev, IE.ev, SE.ev, LE.ev, env0, extE_eq, pickO, op1, op2, op3, Nat.reduceLeDiff, Nat.reduceSub, Nat.reduceEqDiff, if_true, if_false, ite_true, ite_false, decide_true, decide_false, Bool.not_true, Bool.not_false, Nat.zero_le, Nat.sub_zero, List.getElem?_cons_zero, List.getElem?_cons_succ, List.getElem?_nil, cq0, cq1, cq2, cq3, cq4, cq5, cq6, cq7, cq8, cq9, cq10, cq12, cq16, outQ1, outQ2, outQ3, outQ4, outQ5, evN_at, evB_at, evS_at, evLen_z1, evLen_z2, evBit_z, at_n, at_b, at_s, at_z, at_k, at_kb, kG, kQ, kQ1, List.map_cons, List.map_nil, List.cons_append, List.nil_append, decide_eq_true_eq, Bool.false_eq_true, GQ_dadd, ctF_dadd, GQ_dradd, ctF_dradd, GQ_dsub, ctF_dsub, GQ_drsub, ctF_drsub, GQ_dmul, ctF_dmul, GQ_drmul, ctF_drmul, GQ_drneg, ctF_drneg, GQ_ddiv, ctF_ddiv, GQ_dof, ctF_dof, GQ_drof, ctF_drof, GQ_drfrac, ctF_drfrac, GQ_dsign, ctF_dsign, GQ_drsign, ctF_drsign, GQ_dcmp, ctF_dcmp, GQ_dequal, ctF_dequal, GQ_drright, ctF_drright, g_add, g_mul]
  · cases h
theorem vcross_den (l r : List QA) (h : g_vcross l = some r) : tr_vcross.den GQ (env0 (l.map QA.at)) = some (r.map QA.at) := by
  unfold g_vcross at h
  split at h
  · injection h with h; subst h
    simp only [tr_vcross, Tr.den, evAll, SA.ev, BE.ev, IE.ev, SE.ev, LE.ev, env0, extE_eq, pickO, op1, op2, op3, Nat.reduceLeDiff, Nat.reduceSub, Nat.reduceEqDiff, if_true, if_false, ite_true, ite_false, decide_true, decide_false, Bool.not_true, Bool.not_false, Nat.zero_le, Nat.sub_zero, List.getElem?_cons_zero, List.getElem?_cons_succ, List.getElem?_nil, cq0, cq1, cq2, cq3, cq4, cq5, cq6, cq7, cq8, cq9, cq10, cq12, cq16, outQ1, outQ2, outQ3, outQ4, outQ5, evN_at, evB_at, evS_at, evLen_z1, evLen_z2, evBit_z, at_n, at_b, at_s, at_z, at_k, at_kb, kG, kQ, kQ1, List.map_cons, List.map_nil, List.cons_append, List.nil_append, decide_eq_true_eq, Bool.false_eq_true, GQ_dadd, ctF_dadd, GQ_dradd, ctF_dradd, GQ_dsub, ctF_dsub, GQ_drsub, ctF_drsub, GQ_dmul, ctF_dmul, GQ_drmul, ctF_drmul, GQ_drneg, ctF_drneg, GQ_ddiv, ctF_ddiv, GQ_dof, ctF_dof, GQ_drof, ctF_drof, GQ_drfrac, ctF_drfrac, GQ_dsign, ctF_dsign, GQ_drsign, ctF_drsign, GQ_dcmp, ctF_dcmp, GQ_dequal, ctF_dequal, GQ_drright, ctF_drright, g_sub, g_mul]
  · cases h
theorem vsq_den (l r : List QA) (h : g_vsq l = some r) : tr_vsq.den GQ (env0 (l.map QA.at)) = some (r.map QA.at) := by
  unfold g_vsq at h
  split at h
  · injection h with h; subst h
    simp only [tr_vsq, Tr.den, evAll, SA.ev, BE.ev, IE.ev, SE.ev, LE.ev, env0, extE_eq, pickO, op1, op2, op3, Nat.reduceLeDiff, Nat.reduceSub, Nat.reduceEqDiff, if_true, if_false, ite_true, ite_false, decide_true, decide_false, Bool.not_true, Bool.not_false, Nat.zero_le, Nat.sub_zero, List.getElem?_cons_zero, List.getElem?_cons_succ, List.getElem?_nil, cq0, cq1, cq2, cq3, cq4, cq5, cq6, cq7, cq8, cq9, cq10, cq12, cq16, outQ1, outQ2, outQ3, outQ4, outQ5, evN_at, evB_at, evS_at, evLen_z1, evLen_z2, evBit_z, at_n, at_b, at_s, at_z, at_k, at_kb, kG, kQ, kQ1, List.map_cons, List.map_nil, List.cons_append, List.nil_append, decide_eq_true_eq, Bool.false_eq_true, GQ_dadd, ctF_dadd, GQ_dradd, ctF_dradd, GQ_dsub, ctF_dsub, GQ_drsub, ctF_drsub, GQ_dmul, ctF_dmul, GQ_drmul, ctF_drmul, GQ_drneg, ctF_drneg, GQ_ddiv, ctF_ddiv, GQ_dof, ctF_dof, GQ_drof, ctF_drof, GQ_drfrac, ctF_drfrac, GQ_dsign, ctF_dsign, GQ_drsign, ctF_drsign, GQ_dcmp, ctF_dcmp, GQ_dequal, ctF_dequal, GQ_drright, ctF_drright, g_add, g_mul]
  · cases h
theorem rvturn_den (l r : List QA) (h : g_vturn l = some r) : tr_rvturn.den GQ (env0 (l.map QA.at)) = some (r.map QA.at) := by
  unfold g_vturn at h
  split at h
  · injection h with h; subst h
    simp only [tr_rvturn, Tr.den, evAll, SA.ev, BE.ev, IE.ev, SE.ev, LE.ev, env0, extE_eq, pickO, op1, op2, op3, Nat.reduceLeDiff, Nat.reduceSub, Nat.reduceEqDiff, if_true, if_false, ite_true, ite_false, decide_true, decide_false, Bool.not_true, Bool.not_false, Nat.zero_le, Nat.sub_zero, List.getElem?_cons_zero, List.getElem?_cons_succ, List.getElem?_nil, cq0, cq1, cq2, cq3, cq4, cq5, cq6, cq7, cq8, cq9, cq10, cq12, cq16, outQ1, outQ2, outQ3, outQ4, outQ5, evN_at, evB_at, evS_at, evLen_z1, evLen_z2, evBit_z, at_n, at_b, at_s, at_z, at_k, at_kb, kG, kQ, kQ1, List.map_cons, List.map_nil, List.cons_append, List.nil_append, decide_eq_true_eq, Bool.false_eq_true, GQ_dadd, ctF_dadd, GQ_dradd, ctF_dradd, GQ_dsub, ctF_dsub, GQ_drsub, ctF_drsub, GQ_dmul, ctF_dmul, GQ_drmul, ctF_drmul, GQ_drneg, ctF_drneg, GQ_ddiv, ctF_ddiv, GQ_dof, ctF_dof, GQ_drof, ctF_drof, GQ_drfrac, ctF_drfrac, GQ_dsign, ctF_dsign, GQ_drsign, ctF_drsign, GQ_dcmp, ctF_dcmp, GQ_dequal, ctF_dequal, GQ_drright, ctF_drright, g_neg]
  · cases h
theorem vtimes_den (l r : List QA) (h : g_vtimes l = some r) : tr_vtimes.den GQ (env0 (l.map QA.at)) = some (r.map QA.at) := by
  unfold g_vtimes at h
  split at h
  · injection h with h; subst h
    simp only [tr_vtimes, Tr.den, evAll, SA.ev, BE.ev, IE.ev, SE.ev, LE.ev, env0, extE_eq, pickO, op1, op2, op3, Nat.reduceLeDiff, Nat.reduceSub, Nat.reduceEqDiff, if_true, if_false, ite_true, ite_false, decide_true, decide_false, Bool.not_true, Bool.not_false, Nat.zero_le, Nat.sub_zero, List.getElem?_cons_zero, List.getElem?_cons_succ, List.getElem?_nil, cq0, cq1, cq2, cq3, cq4, cq5, cq6, cq7, cq8, cq9, cq10, cq12, cq16, outQ1, outQ2, outQ3, outQ4, outQ5, evN_at, evB_at, evS_at, evLen_z1, evLen_z2, evBit_z, at_n, at_b, at_s, at_z, at_k, at_kb, kG, kQ, kQ1, List.map_cons, List.map_nil, List.cons_append, List.nil_append, decide_eq_true_eq, Bool.false_eq_true, GQ_dadd, ctF_dadd, GQ_dradd, ctF_dradd, GQ_dsub, ctF_dsub, GQ_drsub, ctF_drsub, GQ_dmul, ctF_dmul, GQ_drmul, ctF_drmul, GQ_drneg, ctF_drneg, GQ_ddiv, ctF_ddiv, GQ_dof, ctF_dof, GQ_drof, ctF_drof, GQ_drfrac, ctF_drfrac, GQ_dsign, ctF_dsign, GQ_drsign, ctF_drsign, GQ_dcmp, ctF_dcmp, GQ_dequal, ctF_dequal, GQ_drright, ctF_drright, g_mul]
  · cases h
theorem plus_den (l r : List QA) (h : g_plus l = some r) : tr_plus.den GQ (env0 (l.map QA.at)) = some (r.map QA.at) := by
  unfold g_plus at h
  split at h
  · injection h with h; subst h
    simp only [tr_plus, Tr.den, evAll, SA.ev, BE.ev, IE.ev, SE.ev, LE.ev, env0, extE_eq, pickO, op1, op2, op3, Nat.reduceLeDiff, Nat.reduceSub, Nat.reduceEqDiff, if_true, if_false, ite_true, ite_false, decide_true, decide_false, Bool.not_true, Bool.not_false, Nat.zero_le, Nat.sub_zero, List.getElem?_cons_zero, List.getElem?_cons_succ, List.getElem?_nil, cq0, cq1, cq2, cq3, cq4, cq5, cq6, cq7, cq8, cq9, cq10, cq12, cq16, outQ1, outQ2, outQ3, outQ4, outQ5, evN_at, evB_at, evS_at, evLen_z1, evLen_z2, evBit_z, at_n, at_b, at_s, at_z, at_k, at_kb, kG, kQ, kQ1, List.map_cons, List.map_nil, List.cons_append, List.nil_append, decide_eq_true_eq, Bool.false_eq_true, GQ_dadd, ctF_dadd, GQ_dradd, ctF_dradd, GQ_dsub, ctF_dsub, GQ_drsub, ctF_drsub, GQ_dmul, ctF_dmul, GQ_drmul, ctF_drmul, GQ_drneg, ctF_drneg, GQ_ddiv, ctF_ddiv, GQ_dof, ctF_dof, GQ_drof, ctF_drof, GQ_drfrac, ctF_drfrac, GQ_dsign, ctF_dsign, GQ_drsign, ctF_drsign, GQ_dcmp, ctF_dcmp, GQ_dequal, ctF_dequal, GQ_drright, ctF_drright, g_add]
  · cases h
theorem along_den (l r : List QA) (h : g_along l = some r) : tr_along.den GQ (env0 (l.map QA.at)) = some (r.map QA.at) := by
  unfold g_along at h
  split at h
  · injection h with h; subst h
    simp only [tr_along, Tr.den, evAll, SA.ev, BE.ev, IE.ev, SE.ev, LE.ev, env0, extE_eq, pickO, op1, op2, op3, Nat.reduceLeDiff, Nat.reduceSub, Nat.reduceEqDiff, if_true, if_false, ite_true, ite_false, decide_true, decide_false, Bool.not_true, Bool.not_false, Nat.zero_le, Nat.sub_zero, List.getElem?_cons_zero, List.getElem?_cons_succ, List.getElem?_nil, cq0, cq1, cq2, cq3, cq4, cq5, cq6, cq7, cq8, cq9, cq10, cq12, cq16, outQ1, outQ2, outQ3, outQ4, outQ5, evN_at, evB_at, evS_at, evLen_z1, evLen_z2, evBit_z, at_n, at_b, at_s, at_z, at_k, at_kb, kG, kQ, kQ1, List.map_cons, List.map_nil, List.cons_append, List.nil_append, decide_eq_true_eq, Bool.false_eq_true, GQ_dadd, ctF_dadd, GQ_dradd, ctF_dradd, GQ_dsub, ctF_dsub, GQ_drsub, ctF_drsub, GQ_dmul, ctF_dmul, GQ_drmul, ctF_drmul, GQ_drneg, ctF_drneg, GQ_ddiv, ctF_ddiv, GQ_dof, ctF_dof, GQ_drof, ctF_drof, GQ_drfrac, ctF_drfrac, GQ_dsign, ctF_dsign, GQ_drsign, ctF_drsign, GQ_dcmp, ctF_dcmp, GQ_dequal, ctF_dequal, GQ_drright, ctF_drright, g_add, g_mul]
  · cases h
def ct_vec : Ct := { args := [[.r, .r], [.r, .r]], res := [[.r, .r]], F := cq g_vec, L := 1000000, A := 2, B := 6 }
theorem ctF_vec : ct_vec.F = cq g_vec := rfl
theorem ok_vec : ct_vec.ok Try.prog 46 := ev_vec.weaken (of_cq (g := g_vec) vec_den)
def ct_rvec : Ct := { args := [[.r, .r], [.r, .r]], res := [[.r, .r]], F := cq g_vec, L := 1000000, A := 2, B := 40 }
theorem ctF_rvec : ct_rvec.F = cq g_vec := rfl
theorem ok_rvec : ct_rvec.ok Try.prog 42 := ev_rvec.weaken (of_cq (g := g_vec) rvec_den)
def ct_vdot : Ct := { args := [[.r, .r], [.r, .r]], res := [[.r]], F := cq g_vdot, L := 1000000, A := 4, B := 14 }
theorem ctF_vdot : ct_vdot.F = cq g_vdot := rfl
theorem ok_vdot : ct_vdot.ok Try.prog 57 := ev_vdot.weaken (of_cq (g := g_vdot) vdot_den)
def ct_vcross : Ct := { args := [[.r, .r], [.r, .r]], res := [[.r]], F := cq g_vcross, L := 1000000, A := 4, B := 14 }
theorem ctF_vcross : ct_vcross.F = cq g_vcross := rfl
theorem ok_vcross : ct_vcross.ok Try.prog 53 := ev_vcross.weaken (of_cq (g := g_vcross) vcross_den)
def ct_vsq : Ct := { args := [[.r, .r]], res := [[.r]], F := cq g_vsq, L := 1000000, A := 4, B := 14 }
theorem ctF_vsq : ct_vsq.F = cq g_vsq := rfl
theorem ok_vsq : ct_vsq.ok Try.prog 54 := ev_vsq.weaken (of_cq (g := g_vsq) vsq_den)
def ct_rvturn : Ct := { args := [[.r, .r]], res := [[.r, .r]], F := cq g_vturn, L := 1000000, A := 1, B := 4 }
theorem ctF_rvturn : ct_rvturn.F = cq g_vturn := rfl
theorem ok_rvturn : ct_rvturn.ok Try.prog 41 := ev_rvturn.weaken (of_cq (g := g_vturn) rvturn_den)
def ct_vtimes : Ct := { args := [[.r, .r], [.r]], res := [[.r, .r]], F := cq g_vtimes, L := 1000000, A := 2, B := 4 }
theorem ctF_vtimes : ct_vtimes.F = cq g_vtimes := rfl
theorem ok_vtimes : ct_vtimes.ok Try.prog 47 := ev_vtimes.weaken (of_cq (g := g_vtimes) vtimes_den)
def ct_plus : Ct := { args := [[.r, .r], [.r, .r]], res := [[.r, .r]], F := cq g_plus, L := 1000000, A := 2, B := 6 }
theorem ctF_plus : ct_plus.F = cq g_plus := rfl
theorem ok_plus : ct_plus.ok Try.prog 45 := ev_plus.weaken (of_cq (g := g_plus) plus_den)
def ct_along : Ct := { args := [[.r, .r], [.r], [.r, .r]], res := [[.r, .r]], F := cq g_along, L := 1000000, A := 4, B := 60 }
theorem ctF_along : ct_along.F = cq g_along := rfl
theorem ok_along : ct_along.ok Try.prog 40 := ev_along.weaken (of_cq (g := g_along) along_den)
theorem pover_den (l r : List QA) (h : g_over l = some r) : tr_pover.den GQ (env0 (l.map QA.at)) = some (r.map QA.at) := by
  unfold g_over at h
  split at h
  · rename_i a b
    injection h with h; subst h
    by_cases h0 : b = 0
    · simp only [tr_pover, Tr.den, evAll, SA.ev, BE.ev, IE.ev, SE.ev, LE.ev, env0, extE_eq, pickO, op1, op2, op3, Nat.reduceLeDiff, Nat.reduceSub, Nat.reduceEqDiff, if_true, if_false, ite_true, ite_false, decide_true, decide_false, Bool.not_true, Bool.not_false, Nat.zero_le, Nat.sub_zero, List.getElem?_cons_zero, List.getElem?_cons_succ, List.getElem?_nil, cq0, cq1, cq2, cq3, cq4, cq5, cq6, cq7, cq8, cq9, cq10, cq12, cq16, outQ1, outQ2, outQ3, outQ4, outQ5, evN_at, evB_at, evS_at, evLen_z1, evLen_z2, evBit_z, at_n, at_b, at_s, at_z, at_k, at_kb, kG, kQ, kQ1, List.map_cons, List.map_nil, List.cons_append, List.nil_append, decide_eq_true_eq, Bool.false_eq_true, GQ_dadd, ctF_dadd, GQ_dradd, ctF_dradd, GQ_dsub, ctF_dsub, GQ_drsub, ctF_drsub, GQ_dmul, ctF_dmul, GQ_drmul, ctF_drmul, GQ_drneg, ctF_drneg, GQ_ddiv, ctF_ddiv, GQ_dof, ctF_dof, GQ_drof, ctF_drof, GQ_drfrac, ctF_drfrac, GQ_dsign, ctF_dsign, GQ_drsign, ctF_drsign, GQ_dcmp, ctF_dcmp, GQ_dequal, ctF_dequal, GQ_drright, ctF_drright, g_div, eq_true h0]
    · simp only [tr_pover, Tr.den, evAll, SA.ev, BE.ev, IE.ev, SE.ev, LE.ev, env0, extE_eq, pickO, op1, op2, op3, Nat.reduceLeDiff, Nat.reduceSub, Nat.reduceEqDiff, if_true, if_false, ite_true, ite_false, decide_true, decide_false, Bool.not_true, Bool.not_false, Nat.zero_le, Nat.sub_zero, List.getElem?_cons_zero, List.getElem?_cons_succ, List.getElem?_nil, cq0, cq1, cq2, cq3, cq4, cq5, cq6, cq7, cq8, cq9, cq10, cq12, cq16, outQ1, outQ2, outQ3, outQ4, outQ5, evN_at, evB_at, evS_at, evLen_z1, evLen_z2, evBit_z, at_n, at_b, at_s, at_z, at_k, at_kb, kG, kQ, kQ1, List.map_cons, List.map_nil, List.cons_append, List.nil_append, decide_eq_true_eq, Bool.false_eq_true, GQ_dadd, ctF_dadd, GQ_dradd, ctF_dradd, GQ_dsub, ctF_dsub, GQ_drsub, ctF_drsub, GQ_dmul, ctF_dmul, GQ_drmul, ctF_drmul, GQ_drneg, ctF_drneg, GQ_ddiv, ctF_ddiv, GQ_dof, ctF_dof, GQ_drof, ctF_drof, GQ_drfrac, ctF_drfrac, GQ_dsign, ctF_dsign, GQ_drsign, ctF_drsign, GQ_dcmp, ctF_dcmp, GQ_dequal, ctF_dequal, GQ_drright, ctF_drright, g_div, h0]
  · cases h
def ct_pover : Ct := { args := [[.r], [.r]], res := [[.r]], F := cq g_over, L := 1000000, A := 2, B := 4 }
theorem ctF_pover : ct_pover.F = cq g_over := rfl
theorem ok_pover : ct_pover.ok Try.prog 56 := ev_pover.weaken (of_cq (g := g_over) pover_den)
end Go.Proofs.Ytkampmdekonjmaa
