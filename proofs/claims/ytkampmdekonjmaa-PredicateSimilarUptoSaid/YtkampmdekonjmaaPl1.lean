/- Points: what the functions of plane and of the reference compute. -/
import Derived.Test.YtkampmdekonjmaaPl0
namespace Go.Proofs.Ytkampmdekonjmaa
open Go Go.RowKit Go.V
set_option linter.unusedSimpArgs false
set_option linter.unusedVariables false
set_option maxRecDepth 20000
def pdot (ax ay bx by' cx cy dx dy : Rat) : Rat := (bx - ax) * (dx - cx) + (by' - ay) * (dy - cy)
def pcross (ax ay bx by' cx cy dx dy : Rat) : Rat := (bx - ax) * (dy - cy) - (by' - ay) * (dx - cx)
def pnorm (ax ay bx by' : Rat) : Rat := (bx - ax) * (bx - ax) + (by' - ay) * (by' - ay)
def g_pequal : List QA → Option (List QA)
  | [.q ax, .q ay, .q bx, .q by'] => some [.b (decide (ax = bx ∧ ay = by'))]
  | _ => none
def g_pdot : List QA → Option (List QA)
  | [.q ax, .q ay, .q bx, .q by', .q cx, .q cy, .q dx, .q dy] => some [.q (pdot ax ay bx by' cx cy dx dy)]
  | _ => none
def g_pcross : List QA → Option (List QA)
  | [.q ax, .q ay, .q bx, .q by', .q cx, .q cy, .q dx, .q dy] => some [.q (pcross ax ay bx by' cx cy dx dy)]
  | _ => none
def g_pnorm : List QA → Option (List QA)
  | [.q ax, .q ay, .q bx, .q by'] => some [.q (pnorm ax ay bx by')]
  | _ => none
def g_divide : List QA → Option (List QA)
  | [.q ax, .q ay, .q bx, .q by', .q r] => some [.q (ax + r * (bx - ax)), .q (ay + r * (by' - ay))]
  | _ => none
def g_shiftp : List QA → Option (List QA)
  | [.q px, .q py, .q ax, .q ay, .q bx, .q by'] => some [.q (px + (bx - ax)), .q (py + (by' - ay))]
  | _ => none
def g_turn : List QA → Option (List QA)
  | [.q px, .q py, .q ax, .q ay, .q bx, .q by'] => some [.q (px + -(by' - ay)), .q (py + (bx - ax))]
  | _ => none
def ocS (ox oy ax ay t : Rat) : Rat := 2 * ((ox - ax) * 1 + (oy - ay) * t) / (1 * 1 + t * t)
def g_oncircle : List QA → Option (List QA)
  | [.q ox, .q oy, .q ax, .q ay, .q t] => some [.q (ax + ocS ox oy ax ay t * 1), .q (ay + ocS ox oy ax ay t * t)]
  | _ => none
def footT (px py ax ay bx by' : Rat) : Rat := pdot ax ay bx by' ax ay px py / pnorm ax ay bx by'
def footX (px py ax ay bx by' : Rat) : Rat := ax + footT px py ax ay bx by' * (bx - ax)
def footY (px py ax ay bx by' : Rat) : Rat := ay + footT px py ax ay bx by' * (by' - ay)
def g_foot : List QA → Option (List QA)
  | [.q px, .q py, .q ax, .q ay, .q bx, .q by'] => some (if ax = bx ∧ ay = by' then [.z, .z, .n 11] else [.q (footX px py ax ay bx by'), .q (footY px py ax ay bx by'), .n 0])
  | _ => none
def g_mirror : List QA → Option (List QA)
  | [.q px, .q py, .q ax, .q ay, .q bx, .q by'] => some (if ax = bx ∧ ay = by' then [.z, .z, .n 11] else
      [.q (footX px py ax ay bx by' + (footX px py ax ay bx by' - px)), .q (footY px py ax ay bx by' + (footY px py ax ay bx by' - py)), .n 0])
  | _ => none
def meetT (ax ay bx by' cx cy dx dy : Rat) : Rat := pcross ax ay cx cy cx cy dx dy / pcross ax ay bx by' cx cy dx dy
def g_meet : List QA → Option (List QA)
  | [.q ax, .q ay, .q bx, .q by', .q cx, .q cy, .q dx, .q dy] => some (if pcross ax ay bx by' cx cy dx dy = 0 then [.z, .z, .n 11] else
      [.q (ax + meetT ax ay bx by' cx cy dx dy * (bx - ax)), .q (ay + meetT ax ay bx by' cx cy dx dy * (by' - ay)), .n 0])
  | _ => none
def otherT (px py qx qy ox oy : Rat) : Rat := 2 * pdot px py ox oy px py qx qy / pnorm px py qx qy
def g_other : List QA → Option (List QA)
  | [.q px, .q py, .q qx, .q qy, .q ox, .q oy] => some (if px = qx ∧ py = qy then [.z, .z, .n 11] else
      [.q (px + otherT px py qx qy ox oy * (qx - px)), .q (py + otherT px py qx qy ox oy * (qy - py)), .n 0])
  | _ => none
def cenX (ax ay bx by' cx cy : Rat) : Rat := (pnorm ax ay bx by' * (cy - ay) - pnorm ax ay cx cy * (by' - ay)) / (2 * pcross ax ay bx by' ax ay cx cy)
def cenY (ax ay bx by' cx cy : Rat) : Rat := (pnorm ax ay cx cy * (bx - ax) - pnorm ax ay bx by' * (cx - ax)) / (2 * pcross ax ay bx by' ax ay cx cy)
def g_center : List QA → Option (List QA)
  | [.q ax, .q ay, .q bx, .q by', .q cx, .q cy] => some (if pcross ax ay bx by' ax ay cx cy = 0 then [.z, .z, .n 11] else
      [.q (ax + cenX ax ay bx by' cx cy), .q (ay + cenY ax ay bx by' cx cy), .n 0])
  | _ => none
def cutM (ax ay bx by' ox oy : Rat) : Rat := pdot ax ay bx by' ax ay ox oy / pnorm ax ay bx by'
def cutD (ax ay bx by' ox oy px py : Rat) : Rat := cutM ax ay bx by' ox oy * cutM ax ay bx by' ox oy - (pnorm ax ay ox oy - pnorm ox oy px py) / pnorm ax ay bx by'
def g_cut : List QA → Option (List QA)
  | [.q ax, .q ay, .q bx, .q by', .q ox, .q oy, .q px, .q py, .b far] => some (if ax = bx ∧ ay = by' then [.z, .z, .n 11] else
      if rootE (cutD ax ay bx by' ox oy px py) = 0 then
        [.q (ax + (cutM ax ay bx by' ox oy + rootV (cutD ax ay bx by' ox oy px py) far) * (bx - ax)), .q (ay + (cutM ax ay bx by' ox oy + rootV (cutD ax ay bx by' ox oy px py) far) * (by' - ay)), .n 0]
      else [.z, .z, .n (rootE (cutD ax ay bx by' ox oy px py))])
  | _ => none
def intM (ox oy px py qx qy rx ry : Rat) : Rat := (pnorm ox oy qx qy + pnorm ox oy px py - pnorm qx qy rx ry) / (2 * pnorm ox oy qx qy)
def intD (ox oy px py qx qy rx ry : Rat) : Rat := pnorm ox oy px py / pnorm ox oy qx qy - intM ox oy px py qx qy rx ry * intM ox oy px py qx qy rx ry
def g_intersect : List QA → Option (List QA)
  | [.q ox, .q oy, .q px, .q py, .q qx, .q qy, .q rx, .q ry, .b left] => some (if ox = qx ∧ oy = qy then [.z, .z, .n 11] else
      if rootE (intD ox oy px py qx qy rx ry) = 0 then
        [.q (ox + intM ox oy px py qx qy rx ry * (qx - ox) + rootV (intD ox oy px py qx qy rx ry) left * -(qy - oy)), .q (oy + intM ox oy px py qx qy rx ry * (qy - oy) + rootV (intD ox oy px py qx qy rx ry) left * (qx - ox)), .n 0]
      else [.z, .z, .n (rootE (intD ox oy px py qx qy rx ry))])
  | _ => none
def g_apex : List QA → Option (List QA)
  | [.q ax, .q ay, .q bx, .q by', .b l] => some (if ax = bx ∧ ay = by' then [.z, .z, .n 11] else [.z, .z, .n 12])
  | _ => none
def GP : Gam := gamOf [(83, ct_dadd), (77, ct_dradd), (55, ct_dsub), (80, ct_drsub), (51, ct_dmul), (78, ct_drmul), (79, ct_drneg), (52, ct_dof), (39, ct_drof), (24, ct_drfrac), (44, ct_dsign), (16, ct_drsign), (135, ct_dcmp), (120, ct_dequal), (30, ct_drright), (46, ct_vec), (42, ct_rvec), (57, ct_vdot), (53, ct_vcross), (54, ct_vsq), (41, ct_rvturn), (47, ct_vtimes), (45, ct_plus), (40, ct_along), (56, ct_pover)]
theorem GP_ok : GamOk Try.prog GP := gamOk_of ⟨ok_dadd, ok_dradd, ok_dsub, ok_drsub, ok_dmul, ok_drmul, ok_drneg, ok_dof, ok_drof, ok_drfrac, ok_dsign, ok_drsign, ok_dcmp, ok_dequal, ok_drright, ok_vec, ok_rvec, ok_vdot, ok_vcross, ok_vsq, ok_rvturn, ok_vtimes, ok_plus, ok_along, ok_pover, trivial⟩
theorem GP_dadd : GP 83 = some ct_dadd := rfl
theorem GP_dradd : GP 77 = some ct_dradd := rfl
theorem GP_dsub : GP 55 = some ct_dsub := rfl
theorem GP_drsub : GP 80 = some ct_drsub := rfl
theorem GP_dmul : GP 51 = some ct_dmul := rfl
theorem GP_drmul : GP 78 = some ct_drmul := rfl
theorem GP_drneg : GP 79 = some ct_drneg := rfl
theorem GP_dof : GP 52 = some ct_dof := rfl
theorem GP_drof : GP 39 = some ct_drof := rfl
theorem GP_drfrac : GP 24 = some ct_drfrac := rfl
theorem GP_dsign : GP 44 = some ct_dsign := rfl
theorem GP_drsign : GP 16 = some ct_drsign := rfl
theorem GP_dcmp : GP 135 = some ct_dcmp := rfl
theorem GP_dequal : GP 120 = some ct_dequal := rfl
theorem GP_drright : GP 30 = some ct_drright := rfl
theorem GP_vec : GP 46 = some ct_vec := rfl
theorem GP_rvec : GP 42 = some ct_rvec := rfl
theorem GP_vdot : GP 57 = some ct_vdot := rfl
theorem GP_vcross : GP 53 = some ct_vcross := rfl
theorem GP_vsq : GP 54 = some ct_vsq := rfl
theorem GP_rvturn : GP 41 = some ct_rvturn := rfl
theorem GP_vtimes : GP 47 = some ct_vtimes := rfl
theorem GP_plus : GP 45 = some ct_plus := rfl
theorem GP_along : GP 40 = some ct_along := rfl
theorem GP_pover : GP 56 = some ct_pover := rfl
def tr_pequal : Tr (List SA) := (.call 120 [(.ob 0), (.ob 2)] 4 (.br (.var 4) (.call 120 [(.ob 1), (.ob 3)] 5 (.leaf [(.b (.var 5))])) (.leaf [(.b (.lit false))])))
theorem ev_pequal : Ct.ok Try.prog 87 { args := [[.r, .r], [.r, .r]], res := [[.b]], F := fun als => tr_pequal.den GP (env0 als), L := 10000000, A := 0, B := 0 } :=
  top_ok (by kernel_rfl) GP_ok (plans := planF) (lf := 60) (k := 20) (by kernel_rfl)
def tr_ppdot : Tr (List SA) := (.call 46 [(.ob 0), (.ob 1), (.ob 2), (.ob 3)] 8 (.call 46 [(.ob 4), (.ob 5), (.ob 6), (.ob 7)] 10 (.call 57 [(.ob 8), (.ob 9), (.ob 10), (.ob 11)] 12 (.leaf [(.ob 12)]))))
theorem ev_ppdot : Ct.ok Try.prog 113 { args := [[.r, .r], [.r, .r], [.r, .r], [.r, .r]], res := [[.r]], F := fun als => tr_ppdot.den GP (env0 als), L := 100000, A := 8, B := 38 } :=
  top_ok (by kernel_rfl) GP_ok (plans := planF) (lf := 60) (k := 20) (by kernel_rfl)
def tr_ppcross : Tr (List SA) := (.call 46 [(.ob 0), (.ob 1), (.ob 2), (.ob 3)] 8 (.call 46 [(.ob 4), (.ob 5), (.ob 6), (.ob 7)] 10 (.call 53 [(.ob 8), (.ob 9), (.ob 10), (.ob 11)] 12 (.leaf [(.ob 12)]))))
theorem ev_ppcross : Ct.ok Try.prog 112 { args := [[.r, .r], [.r, .r], [.r, .r], [.r, .r]], res := [[.r]], F := fun als => tr_ppcross.den GP (env0 als), L := 100000, A := 8, B := 38 } :=
  top_ok (by kernel_rfl) GP_ok (plans := planF) (lf := 60) (k := 20) (by kernel_rfl)
def tr_ppnorm : Tr (List SA) := (.call 46 [(.ob 0), (.ob 1), (.ob 2), (.ob 3)] 4 (.call 54 [(.ob 4), (.ob 5)] 6 (.leaf [(.ob 6)])))
theorem ev_ppnorm : Ct.ok Try.prog 114 { args := [[.r, .r], [.r, .r]], res := [[.r]], F := fun als => tr_ppnorm.den GP (env0 als), L := 100000, A := 8, B := 38 } :=
  top_ok (by kernel_rfl) GP_ok (plans := planF) (lf := 60) (k := 20) (by kernel_rfl)
theorem pequal_den (l r : List QA) (h : g_pequal l = some r) : tr_pequal.den GP (env0 (l.map QA.at)) = some (r.map QA.at) := by
  unfold g_pequal at h
  split at h
  · rename_i ax ay bx by'
    injection h with h; subst h
    by_cases h1 : ax = bx
    · by_cases h2 : ay = by'
      · simp only [tr_pequal, Tr.den, evAll, SA.ev, BE.ev, IE.ev, SE.ev, LE.ev, env0, extE_eq, pickO, op1, op2, op3, Nat.reduceLeDiff, Nat.reduceSub, Nat.reduceEqDiff, if_true, if_false, ite_true, ite_false, decide_true, decide_false, Bool.not_true, Bool.not_false, Nat.zero_le, Nat.sub_zero, List.getElem?_cons_zero, List.getElem?_cons_succ, List.getElem?_nil, cq0, cq1, cq2, cq3, cq4, cq5, cq6, cq7, cq8, cq9, cq10, cq12, cq16, outQ1, outQ2, outQ3, outQ4, outQ5, evN_at, evB_at, evS_at, evLen_z1, evLen_z2, evBit_z, at_n, at_b, at_s, at_z, at_k, at_kb, kG, kQ, kQ1, List.map_cons, List.map_nil, List.cons_append, List.nil_append, decide_eq_true_eq, Bool.false_eq_true, GP_dadd, ctF_dadd, GP_dradd, ctF_dradd, GP_dsub, ctF_dsub, GP_drsub, ctF_drsub, GP_dmul, ctF_dmul, GP_drmul, ctF_drmul, GP_drneg, ctF_drneg, GP_dof, ctF_dof, GP_drof, ctF_drof, GP_drfrac, ctF_drfrac, GP_dsign, ctF_dsign, GP_drsign, ctF_drsign, GP_dcmp, ctF_dcmp, GP_dequal, ctF_dequal, GP_drright, ctF_drright, GP_vec, ctF_vec, GP_rvec, ctF_rvec, GP_vdot, ctF_vdot, GP_vcross, ctF_vcross, GP_vsq, ctF_vsq, GP_rvturn, ctF_rvturn, GP_vtimes, ctF_vtimes, GP_plus, ctF_plus, GP_along, ctF_along, GP_pover, ctF_pover, g_equal, eq_true h1, eq_true h2, and_self]
      · simp only [tr_pequal, Tr.den, evAll, SA.ev, BE.ev, IE.ev, SE.ev, LE.ev, env0, extE_eq, pickO, op1, op2, op3, Nat.reduceLeDiff, Nat.reduceSub, Nat.reduceEqDiff, if_true, if_false, ite_true, ite_false, decide_true, decide_false, Bool.not_true, Bool.not_false, Nat.zero_le, Nat.sub_zero, List.getElem?_cons_zero, List.getElem?_cons_succ, List.getElem?_nil, cq0, cq1, cq2, cq3, cq4, cq5, cq6, cq7, cq8, cq9, cq10, cq12, cq16, outQ1, outQ2, outQ3, outQ4, outQ5, evN_at, evB_at, evS_at, evLen_z1, evLen_z2, evBit_z, at_n, at_b, at_s, at_z, at_k, at_kb, kG, kQ, kQ1, List.map_cons, List.map_nil, List.cons_append, List.nil_append, decide_eq_true_eq, Bool.false_eq_true, GP_dadd, ctF_dadd, GP_dradd, ctF_dradd, GP_dsub, ctF_dsub, GP_drsub, ctF_drsub, GP_dmul, ctF_dmul, GP_drmul, ctF_drmul, GP_drneg, ctF_drneg, GP_dof, ctF_dof, GP_drof, ctF_drof, GP_drfrac, ctF_drfrac, GP_dsign, ctF_dsign, GP_drsign, ctF_drsign, GP_dcmp, ctF_dcmp, GP_dequal, ctF_dequal, GP_drright, ctF_drright, GP_vec, ctF_vec, GP_rvec, ctF_rvec, GP_vdot, ctF_vdot, GP_vcross, ctF_vcross, GP_vsq, ctF_vsq, GP_rvturn, ctF_rvturn, GP_vtimes, ctF_vtimes, GP_plus, ctF_plus, GP_along, ctF_along, GP_pover, ctF_pover, g_equal, eq_true h1, h2, and_false]
    · simp only [tr_pequal, Tr.den, evAll, SA.ev, BE.ev, IE.ev, SE.ev, LE.ev, env0, extE_eq, pickO, op1, op2, op3, Nat.reduceLeDiff, Nat.reduceSub, Nat.reduceEqDiff, if_true, if_false, ite_true, ite_false, decide_true, decide_false, Bool.not_true, Bool.not_false, Nat.zero_le, Nat.sub_zero, List.getElem?_cons_zero, List.getElem?_cons_succ, List.getElem?_nil, cq0, cq1, cq2, cq3, cq4, cq5, cq6, cq7, cq8, cq9, cq10, cq12, cq16, outQ1, outQ2, outQ3, outQ4, outQ5, evN_at, evB_at, evS_at, evLen_z1, evLen_z2, evBit_z, at_n, at_b, at_s, at_z, at_k, at_kb, kG, kQ, kQ1, List.map_cons, List.map_nil, List.cons_append, List.nil_append, decide_eq_true_eq, Bool.false_eq_true, GP_dadd, ctF_dadd, GP_dradd, ctF_dradd, GP_dsub, ctF_dsub, GP_drsub, ctF_drsub, GP_dmul, ctF_dmul, GP_drmul, ctF_drmul, GP_drneg, ctF_drneg, GP_dof, ctF_dof, GP_drof, ctF_drof, GP_drfrac, ctF_drfrac, GP_dsign, ctF_dsign, GP_drsign, ctF_drsign, GP_dcmp, ctF_dcmp, GP_dequal, ctF_dequal, GP_drright, ctF_drright, GP_vec, ctF_vec, GP_rvec, ctF_rvec, GP_vdot, ctF_vdot, GP_vcross, ctF_vcross, GP_vsq, ctF_vsq, GP_rvturn, ctF_rvturn, GP_vtimes, ctF_vtimes, GP_plus, ctF_plus, GP_along, ctF_along, GP_pover, ctF_pover, g_equal, h1, false_and]
  · cases h
theorem ppdot_den (l r : List QA) (h : g_pdot l = some r) : tr_ppdot.den GP (env0 (l.map QA.at)) = some (r.map QA.at) := by
  unfold g_pdot at h
  split at h
  · injection h with h; subst h
    simp only [tr_ppdot, Tr.den, evAll, SA.ev, BE.ev, IE.ev, SE.ev, LE.ev, env0, extE_eq, pickO, op1, op2, op3, Nat.reduceLeDiff, Nat.reduceSub, Nat.reduceEqDiff, if_true, if_false, ite_true, ite_false, decide_true, decide_false, Bool.not_true, Bool.not_false, Nat.zero_le, Nat.sub_zero, List.getElem?_cons_zero, List.getElem?_cons_succ, List.getElem?_nil, cq0, cq1, cq2, cq3, cq4, cq5, cq6, cq7, cq8, cq9, cq10, cq12, cq16, outQ1, outQ2, outQ3, outQ4, outQ5, evN_at, evB_at, evS_at, evLen_z1, evLen_z2, evBit_z, at_n, at_b, at_s, at_z, at_k, at_kb, kG, kQ, kQ1, List.map_cons, List.map_nil, List.cons_append, List.nil_append, decide_eq_true_eq, Bool.false_eq_true, GP_dadd, ctF_dadd, GP_dradd, ctF_dradd, GP_dsub, ctF_dsub, GP_drsub, ctF_drsub, GP_dmul, ctF_dmul, GP_drmul, ctF_drmul, GP_drneg, ctF_drneg, GP_dof, ctF_dof, GP_drof, ctF_drof, GP_drfrac, ctF_drfrac, GP_dsign, ctF_dsign, GP_drsign, ctF_drsign, GP_dcmp, ctF_dcmp, GP_dequal, ctF_dequal, GP_drright, ctF_drright, GP_vec, ctF_vec, GP_rvec, ctF_rvec, GP_vdot, ctF_vdot, GP_vcross, ctF_vcross, GP_vsq, ctF_vsq, GP_rvturn, ctF_rvturn, GP_vtimes, ctF_vtimes, GP_plus, ctF_plus, GP_along, ctF_along, GP_pover, ctF_pover, g_vec, g_vdot, pdot]
  · cases h
theorem ppcross_den (l r : List QA) (h : g_pcross l = some r) : tr_ppcross.den GP (env0 (l.map QA.at)) = some (r.map QA.at) := by
  unfold g_pcross at h
  split at h
  · injection h with h; subst h
    simp only [tr_ppcross, Tr.den, evAll, SA.ev, BE.ev, IE.ev, SE.ev, LE.ev, env0, extE_eq, pickO, op1, op2, op3, Nat.reduceLeDiff, Nat.reduceSub, Nat.reduceEqDiff, if_true, if_false, ite_true, ite_false, decide_true, decide_false, Bool.not_true, Bool.not_false, Nat.zero_le, Nat.sub_zero, List.getElem?_cons_zero, List.getElem?_cons_succ, List.getElem?_nil, cq0, cq1, cq2, cq3, cq4, cq5, cq6, cq7, cq8, cq9, cq10, cq12, cq16, outQ1, outQ2, outQ3, outQ4, outQ5, evN_at, evB_at, evS_at, evLen_z1, evLen_z2, evBit_z, at_n, at_b, at_s, at_z, at_k, at_kb, kG, kQ, kQ1, List.map_cons, List.map_nil, List.cons_append, List.nil_append, decide_eq_true_eq, Bool.false_eq_true, GP_dadd, ctF_dadd, GP_dradd, ctF_dradd, GP_dsub, ctF_dsub, GP_drsub, ctF_drsub, GP_dmul, ctF_dmul, GP_drmul, ctF_drmul, GP_drneg, ctF_drneg, GP_dof, ctF_dof, GP_drof, ctF_drof, GP_drfrac, ctF_drfrac, GP_dsign, ctF_dsign, GP_drsign, ctF_drsign, GP_dcmp, ctF_dcmp, GP_dequal, ctF_dequal, GP_drright, ctF_drright, GP_vec, ctF_vec, GP_rvec, ctF_rvec, GP_vdot, ctF_vdot, GP_vcross, ctF_vcross, GP_vsq, ctF_vsq, GP_rvturn, ctF_rvturn, GP_vtimes, ctF_vtimes, GP_plus, ctF_plus, GP_along, ctF_along, GP_pover, ctF_pover, g_vec, g_vcross, pcross]
  · cases h
theorem ppnorm_den (l r : List QA) (h : g_pnorm l = some r) : tr_ppnorm.den GP (env0 (l.map QA.at)) = some (r.map QA.at) := by
  unfold g_pnorm at h
  split at h
  · injection h with h; subst h
    simp only [tr_ppnorm, Tr.den, evAll, SA.ev, BE.ev, IE.ev, SE.ev, LE.ev, env0, extE_eq, pickO, op1, op2, op3, Nat.reduceLeDiff, Nat.reduceSub, Nat.reduceEqDiff, if_true, if_false, ite_true, ite_false, decide_true, decide_false, Bool.not_true, Bool.not_false, Nat.zero_le, Nat.sub_zero, List.getElem?_cons_zero, List.getElem?_cons_succ, List.getElem?_nil, cq0, cq1, cq2, cq3, cq4, cq5, cq6, cq7, cq8, cq9, cq10, cq12, cq16, outQ1, outQ2, outQ3, outQ4, outQ5, evN_at, evB_at, evS_at, evLen_z1, evLen_z2, evBit_z, at_n, at_b, at_s, at_z, at_k, at_kb, kG, kQ, kQ1, List.map_cons, List.map_nil, List.cons_append, List.nil_append, decide_eq_true_eq, Bool.false_eq_true, GP_dadd, ctF_dadd, GP_dradd, ctF_dradd, GP_dsub, ctF_dsub, GP_drsub, ctF_drsub, GP_dmul, ctF_dmul, GP_drmul, ctF_drmul, GP_drneg, ctF_drneg, GP_dof, ctF_dof, GP_drof, ctF_drof, GP_drfrac, ctF_drfrac, GP_dsign, ctF_dsign, GP_drsign, ctF_drsign, GP_dcmp, ctF_dcmp, GP_dequal, ctF_dequal, GP_drright, ctF_drright, GP_vec, ctF_vec, GP_rvec, ctF_rvec, GP_vdot, ctF_vdot, GP_vcross, ctF_vcross, GP_vsq, ctF_vsq, GP_rvturn, ctF_rvturn, GP_vtimes, ctF_vtimes, GP_plus, ctF_plus, GP_along, ctF_along, GP_pover, ctF_pover, g_vec, g_vsq, pnorm]
  · cases h
def ct_pequal : Ct := { args := [[.r, .r], [.r, .r]], res := [[.b]], F := cq g_pequal, L := 10000000, A := 0, B := 0 }
theorem ctF_pequal : ct_pequal.F = cq g_pequal := rfl
theorem ok_pequal : ct_pequal.ok Try.prog 87 := ev_pequal.weaken (of_cq (g := g_pequal) pequal_den)
def ct_ppdot : Ct := { args := [[.r, .r], [.r, .r], [.r, .r], [.r, .r]], res := [[.r]], F := cq g_pdot, L := 100000, A := 8, B := 38 }
theorem ctF_ppdot : ct_ppdot.F = cq g_pdot := rfl
theorem ok_ppdot : ct_ppdot.ok Try.prog 113 := ev_ppdot.weaken (of_cq (g := g_pdot) ppdot_den)
def ct_ppcross : Ct := { args := [[.r, .r], [.r, .r], [.r, .r], [.r, .r]], res := [[.r]], F := cq g_pcross, L := 100000, A := 8, B := 38 }
theorem ctF_ppcross : ct_ppcross.F = cq g_pcross := rfl
theorem ok_ppcross : ct_ppcross.ok Try.prog 112 := ev_ppcross.weaken (of_cq (g := g_pcross) ppcross_den)
def ct_ppnorm : Ct := { args := [[.r, .r], [.r, .r]], res := [[.r]], F := cq g_pnorm, L := 100000, A := 8, B := 38 }
theorem ctF_ppnorm : ct_ppnorm.F = cq g_pnorm := rfl
theorem ok_ppnorm : ct_ppnorm.ok Try.prog 114 := ev_ppnorm.weaken (of_cq (g := g_pnorm) ppnorm_den)
end Go.Proofs.Ytkampmdekonjmaa
