/- Intervals, in numbers: rounding. -/
import Derived.Test.YtifgdiejpglhfaaGreatIv5
namespace Go.Proofs.YtifgdiejpglhfaaGreat
open Go Go.RowKit Go.V
set_option linter.unusedSimpArgs false
set_option linter.unusedVariables false
set_option maxRecDepth 20000
theorem tw_ne (k : Int) : ((tw k : Int) = 0) = False := eq_false (by have := tw_pos k; omega)
theorem rscaled_den (l r : List QA) (h : g_rscaled l = some r) : tr_rscaled.den GW1 (env0 (l.map QA.at)) = some (r.map QA.at) := by
  unfold g_rscaled at h
  split at h
  · split at h
    · rename_i x k h0
      injection h with h; subst h
      simp only [tr_rscaled, Tr.den, evAll, SA.ev, BE.ev, IE.ev, SE.ev, LE.ev, env0, extE_eq, pickO, op1, op2, op3, Nat.reduceLeDiff, Nat.reduceSub, Nat.reduceEqDiff, if_true, if_false, ite_true, ite_false, decide_true, decide_false, Bool.not_true, Bool.not_false, Nat.zero_le, Nat.sub_zero, List.getElem?_cons_zero, List.getElem?_cons_succ, List.getElem?_nil, cq0, cq1, cq2, cq3, cq4, cq5, cq6, cq7, cq8, cq9, cq10, cq12, cq16, outQ1, outQ2, outQ3, outQ4, outQ5, evN_at, evB_at, evS_at, evLen_z1, evLen_z2, evBit_z, at_n, at_b, at_s, at_z, at_k, at_kb, kG, kQ, kQ1, List.map_cons, List.map_nil, List.cons_append, List.nil_append, decide_eq_true_eq, Bool.false_eq_true, GW1_power, ctF_power, GW1_unitb, ctF_unitb, GW1_dimul, ctF_dimul, GW1_didivm, ctF_didivm, GW1_disign, ctF_disign, GW1_diadd, ctF_diadd, GW1_diof, ctF_diof, GW1_dmake, ctF_dmake, GW1_dnsqrt, ctF_dnsqrt, GW1_rnof, ctF_rnof, GW1_drmul, ctF_drmul, GW1_drmake, ctF_drmake, GW1_drsqrt1, ctF_drsqrt1, GW1_drfloor, ctF_drfloor, GW1_drneg, ctF_drneg, GW1_drineg, ctF_drineg, GW1_drimul, ctF_drimul, GW1_driadd, ctF_driadd, GW1_driof, ctF_driof, GW1_dsign, ctF_dsign, GW1_drsign, ctF_drsign, GW1_dcmp, ctF_dcmp, GW1_drcmp, ctF_drcmp, GW1_drof, ctF_drof, g_pow, eq_true h0, evBit_y, evLst_y1, evLst_u0, f_nof1, at_r1, g_mul, scq]
    · cases h
  · cases h
theorem next_den (l r : List QA) (h : g_next l = some r) : tr_next.den GW1 (env0 (l.map QA.at)) = some (r.map QA.at) := by
  unfold g_next at h
  split at h
  · rename_i n u
    injection h with h; subst h
    cases u
    · simp only [tr_next, Tr.den, evAll, SA.ev, BE.ev, IE.ev, SE.ev, LE.ev, env0, extE_eq, pickO, op1, op2, op3, Nat.reduceLeDiff, Nat.reduceSub, Nat.reduceEqDiff, if_true, if_false, ite_true, ite_false, decide_true, decide_false, Bool.not_true, Bool.not_false, Nat.zero_le, Nat.sub_zero, List.getElem?_cons_zero, List.getElem?_cons_succ, List.getElem?_nil, cq0, cq1, cq2, cq3, cq4, cq5, cq6, cq7, cq8, cq9, cq10, cq12, cq16, outQ1, outQ2, outQ3, outQ4, outQ5, evN_at, evB_at, evS_at, evLen_z1, evLen_z2, evBit_z, at_n, at_b, at_s, at_z, at_k, at_kb, kG, kQ, kQ1, List.map_cons, List.map_nil, List.cons_append, List.nil_append, decide_eq_true_eq, Bool.false_eq_true, GW1_power, ctF_power, GW1_unitb, ctF_unitb, GW1_dimul, ctF_dimul, GW1_didivm, ctF_didivm, GW1_disign, ctF_disign, GW1_diadd, ctF_diadd, GW1_diof, ctF_diof, GW1_dmake, ctF_dmake, GW1_dnsqrt, ctF_dnsqrt, GW1_rnof, ctF_rnof, GW1_drmul, ctF_drmul, GW1_drmake, ctF_drmake, GW1_drsqrt1, ctF_drsqrt1, GW1_drfloor, ctF_drfloor, GW1_drneg, ctF_drneg, GW1_drineg, ctF_drineg, GW1_drimul, ctF_drimul, GW1_driadd, ctF_driadd, GW1_driof, ctF_driof, GW1_dsign, ctF_dsign, GW1_drsign, ctF_drsign, GW1_dcmp, ctF_dcmp, GW1_drcmp, ctF_drcmp, GW1_drof, ctF_drof, g_iof, g_iadd, i11]
    · simp only [tr_next, Tr.den, evAll, SA.ev, BE.ev, IE.ev, SE.ev, LE.ev, env0, extE_eq, pickO, op1, op2, op3, Nat.reduceLeDiff, Nat.reduceSub, Nat.reduceEqDiff, if_true, if_false, ite_true, ite_false, decide_true, decide_false, Bool.not_true, Bool.not_false, Nat.zero_le, Nat.sub_zero, List.getElem?_cons_zero, List.getElem?_cons_succ, List.getElem?_nil, cq0, cq1, cq2, cq3, cq4, cq5, cq6, cq7, cq8, cq9, cq10, cq12, cq16, outQ1, outQ2, outQ3, outQ4, outQ5, evN_at, evB_at, evS_at, evLen_z1, evLen_z2, evBit_z, at_n, at_b, at_s, at_z, at_k, at_kb, kG, kQ, kQ1, List.map_cons, List.map_nil, List.cons_append, List.nil_append, decide_eq_true_eq, Bool.false_eq_true, GW1_power, ctF_power, GW1_unitb, ctF_unitb, GW1_dimul, ctF_dimul, GW1_didivm, ctF_didivm, GW1_disign, ctF_disign, GW1_diadd, ctF_diadd, GW1_diof, ctF_diof, GW1_dmake, ctF_dmake, GW1_dnsqrt, ctF_dnsqrt, GW1_rnof, ctF_rnof, GW1_drmul, ctF_drmul, GW1_drmake, ctF_drmake, GW1_drsqrt1, ctF_drsqrt1, GW1_drfloor, ctF_drfloor, GW1_drneg, ctF_drneg, GW1_drineg, ctF_drineg, GW1_drimul, ctF_drimul, GW1_driadd, ctF_driadd, GW1_driof, ctF_driof, GW1_dsign, ctF_dsign, GW1_drsign, ctF_drsign, GW1_dcmp, ctF_dcmp, GW1_drcmp, ctF_drcmp, GW1_drof, ctF_drof, g_iof, g_iadd, i11]
  · cases h
theorem grid_den (l r : List QA) (h : g_grid l = some r) : tr_grid.den GW1 (env0 (l.map QA.at)) = some (r.map QA.at) := by
  unfold g_grid at h
  split at h
  · split at h
    · rename_i n k h0
      injection h with h; subst h
      simp only [tr_grid, Tr.den, evAll, SA.ev, BE.ev, IE.ev, SE.ev, LE.ev, env0, extE_eq, pickO, op1, op2, op3, Nat.reduceLeDiff, Nat.reduceSub, Nat.reduceEqDiff, if_true, if_false, ite_true, ite_false, decide_true, decide_false, Bool.not_true, Bool.not_false, Nat.zero_le, Nat.sub_zero, List.getElem?_cons_zero, List.getElem?_cons_succ, List.getElem?_nil, cq0, cq1, cq2, cq3, cq4, cq5, cq6, cq7, cq8, cq9, cq10, cq12, cq16, outQ1, outQ2, outQ3, outQ4, outQ5, evN_at, evB_at, evS_at, evLen_z1, evLen_z2, evBit_z, at_n, at_b, at_s, at_z, at_k, at_kb, kG, kQ, kQ1, List.map_cons, List.map_nil, List.cons_append, List.nil_append, decide_eq_true_eq, Bool.false_eq_true, GW1_power, ctF_power, GW1_unitb, ctF_unitb, GW1_dimul, ctF_dimul, GW1_didivm, ctF_didivm, GW1_disign, ctF_disign, GW1_diadd, ctF_diadd, GW1_diof, ctF_diof, GW1_dmake, ctF_dmake, GW1_dnsqrt, ctF_dnsqrt, GW1_rnof, ctF_rnof, GW1_drmul, ctF_drmul, GW1_drmake, ctF_drmake, GW1_drsqrt1, ctF_drsqrt1, GW1_drfloor, ctF_drfloor, GW1_drneg, ctF_drneg, GW1_drineg, ctF_drineg, GW1_drimul, ctF_drimul, GW1_driadd, ctF_driadd, GW1_driof, ctF_driof, GW1_dsign, ctF_dsign, GW1_drsign, ctF_drsign, GW1_dcmp, ctF_dcmp, GW1_drcmp, ctF_drcmp, GW1_drof, ctF_drof, g_pow, eq_true h0, g_make, tw_ne]
    · cases h
  · cases h
theorem rgrid_den (l r : List QA) (h : g_grid l = some r) : tr_rgrid.den GW1 (env0 (l.map QA.at)) = some (r.map QA.at) := by
  unfold g_grid at h
  split at h
  · split at h
    · rename_i n k h0
      injection h with h; subst h
      simp only [tr_rgrid, Tr.den, evAll, SA.ev, BE.ev, IE.ev, SE.ev, LE.ev, env0, extE_eq, pickO, op1, op2, op3, Nat.reduceLeDiff, Nat.reduceSub, Nat.reduceEqDiff, if_true, if_false, ite_true, ite_false, decide_true, decide_false, Bool.not_true, Bool.not_false, Nat.zero_le, Nat.sub_zero, List.getElem?_cons_zero, List.getElem?_cons_succ, List.getElem?_nil, cq0, cq1, cq2, cq3, cq4, cq5, cq6, cq7, cq8, cq9, cq10, cq12, cq16, outQ1, outQ2, outQ3, outQ4, outQ5, evN_at, evB_at, evS_at, evLen_z1, evLen_z2, evBit_z, at_n, at_b, at_s, at_z, at_k, at_kb, kG, kQ, kQ1, List.map_cons, List.map_nil, List.cons_append, List.nil_append, decide_eq_true_eq, Bool.false_eq_true, GW1_power, ctF_power, GW1_unitb, ctF_unitb, GW1_dimul, ctF_dimul, GW1_didivm, ctF_didivm, GW1_disign, ctF_disign, GW1_diadd, ctF_diadd, GW1_diof, ctF_diof, GW1_dmake, ctF_dmake, GW1_dnsqrt, ctF_dnsqrt, GW1_rnof, ctF_rnof, GW1_drmul, ctF_drmul, GW1_drmake, ctF_drmake, GW1_drsqrt1, ctF_drsqrt1, GW1_drfloor, ctF_drfloor, GW1_drneg, ctF_drneg, GW1_drineg, ctF_drineg, GW1_drimul, ctF_drimul, GW1_driadd, ctF_driadd, GW1_driof, ctF_driof, GW1_dsign, ctF_dsign, GW1_drsign, ctF_drsign, GW1_dcmp, ctF_dcmp, GW1_drcmp, ctF_drcmp, GW1_drof, ctF_drof, g_pow, eq_true h0, g_make, tw_ne]
    · cases h
  · cases h
theorem rceil_den (l r : List QA) (h : g_ceil l = some r) : tr_rceil.den GW1 (env0 (l.map QA.at)) = some (r.map QA.at) := by
  unfold g_ceil at h
  split at h
  · injection h with h; subst h
    simp only [tr_rceil, Tr.den, evAll, SA.ev, BE.ev, IE.ev, SE.ev, LE.ev, env0, extE_eq, pickO, op1, op2, op3, Nat.reduceLeDiff, Nat.reduceSub, Nat.reduceEqDiff, if_true, if_false, ite_true, ite_false, decide_true, decide_false, Bool.not_true, Bool.not_false, Nat.zero_le, Nat.sub_zero, List.getElem?_cons_zero, List.getElem?_cons_succ, List.getElem?_nil, cq0, cq1, cq2, cq3, cq4, cq5, cq6, cq7, cq8, cq9, cq10, cq12, cq16, outQ1, outQ2, outQ3, outQ4, outQ5, evN_at, evB_at, evS_at, evLen_z1, evLen_z2, evBit_z, at_n, at_b, at_s, at_z, at_k, at_kb, kG, kQ, kQ1, List.map_cons, List.map_nil, List.cons_append, List.nil_append, decide_eq_true_eq, Bool.false_eq_true, GW1_power, ctF_power, GW1_unitb, ctF_unitb, GW1_dimul, ctF_dimul, GW1_didivm, ctF_didivm, GW1_disign, ctF_disign, GW1_diadd, ctF_diadd, GW1_diof, ctF_diof, GW1_dmake, ctF_dmake, GW1_dnsqrt, ctF_dnsqrt, GW1_rnof, ctF_rnof, GW1_drmul, ctF_drmul, GW1_drmake, ctF_drmake, GW1_drsqrt1, ctF_drsqrt1, GW1_drfloor, ctF_drfloor, GW1_drneg, ctF_drneg, GW1_drineg, ctF_drineg, GW1_drimul, ctF_drimul, GW1_driadd, ctF_driadd, GW1_driof, ctF_driof, GW1_dsign, ctF_dsign, GW1_drsign, ctF_drsign, GW1_dcmp, ctF_dcmp, GW1_drcmp, ctF_drcmp, GW1_drof, ctF_drof, g_neg, g_floor, g_ineg, ceilq]
  · cases h
theorem rroot4_den (l r : List QA) (h : g_rroot l = some r) : tr_rroot4.den GW1 (env0 (l.map QA.at)) = some (r.map QA.at) := by
  unfold g_rroot at h
  split at h
  · injection h with h; subst h
    simp only [tr_rroot4, Tr.den, evAll, SA.ev, BE.ev, IE.ev, SE.ev, LE.ev, env0, extE_eq, pickO, op1, op2, op3, Nat.reduceLeDiff, Nat.reduceSub, Nat.reduceEqDiff, if_true, if_false, ite_true, ite_false, decide_true, decide_false, Bool.not_true, Bool.not_false, Nat.zero_le, Nat.sub_zero, List.getElem?_cons_zero, List.getElem?_cons_succ, List.getElem?_nil, cq0, cq1, cq2, cq3, cq4, cq5, cq6, cq7, cq8, cq9, cq10, cq12, cq16, outQ1, outQ2, outQ3, outQ4, outQ5, evN_at, evB_at, evS_at, evLen_z1, evLen_z2, evBit_z, at_n, at_b, at_s, at_z, at_k, at_kb, kG, kQ, kQ1, List.map_cons, List.map_nil, List.cons_append, List.nil_append, decide_eq_true_eq, Bool.false_eq_true, GW1_power, ctF_power, GW1_unitb, ctF_unitb, GW1_dimul, ctF_dimul, GW1_didivm, ctF_didivm, GW1_disign, ctF_disign, GW1_diadd, ctF_diadd, GW1_diof, ctF_diof, GW1_dmake, ctF_dmake, GW1_dnsqrt, ctF_dnsqrt, GW1_rnof, ctF_rnof, GW1_drmul, ctF_drmul, GW1_drmake, ctF_drmake, GW1_drsqrt1, ctF_drsqrt1, GW1_drfloor, ctF_drfloor, GW1_drneg, ctF_drneg, GW1_drineg, ctF_drineg, GW1_drimul, ctF_drimul, GW1_driadd, ctF_driadd, GW1_driof, ctF_driof, GW1_dsign, ctF_dsign, GW1_drsign, ctF_drsign, GW1_dcmp, ctF_dcmp, GW1_drcmp, ctF_drcmp, GW1_drof, ctF_drof, g_floor, evLst_y1, at_u, g_nsqrt, evLst_u0, at_yF]
  · cases h
def ct_rscaled : Ct := { args := [[.r], [.n]], res := [[.r]], F := cq g_rscaled, L := 1000, A := 2, B := 80 }
theorem ctF_rscaled : ct_rscaled.F = cq g_rscaled := rfl
theorem ok_rscaled : ct_rscaled.ok Tryz.prog 45 := ev_rscaled.weaken (of_cq (g := g_rscaled) rscaled_den)
def ct_next : Ct := { args := [[.y], [.b]], res := [[.y]], F := cq g_next, L := 20000, A := 1, B := 5 }
theorem ctF_next : ct_next.F = cq g_next := rfl
theorem ok_next : ct_next.ok Tryz.prog 42 := ev_next.weaken (of_cq (g := g_next) next_den)
def ct_grid : Ct := { args := [[.y], [.n]], res := [[.r]], F := cq g_grid, L := 20000, A := 1, B := 31 }
theorem ctF_grid : ct_grid.F = cq g_grid := rfl
theorem ok_grid : ct_grid.ok Tryz.prog 41 := ev_grid.weaken (of_cq (g := g_grid) grid_den)
def ct_rgrid : Ct := { args := [[.y], [.n]], res := [[.r]], F := cq g_grid, L := 20000, A := 1, B := 34 }
theorem ctF_rgrid : ct_rgrid.F = cq g_grid := rfl
theorem ok_rgrid : ct_rgrid.ok Tryz.prog 43 := ev_rgrid.weaken (of_cq (g := g_grid) rgrid_den)
def ct_rceil : Ct := { args := [[.r]], res := [[.y]], F := cq g_ceil, L := 20000, A := 1, B := 12 }
theorem ctF_rceil : ct_rceil.F = cq g_ceil := rfl
theorem ok_rceil : ct_rceil.ok Tryz.prog 46 := ev_rceil.weaken (of_cq (g := g_ceil) rceil_den)
def ct_rroot4 : Ct := { args := [[.r]], res := [[.y]], F := cq g_rroot, L := 20000, A := 1, B := 8 }
theorem ctF_rroot4 : ct_rroot4.F = cq g_rroot := rfl
theorem ok_rroot4 : ct_rroot4.ok Tryz.prog 51 := ev_rroot4.weaken (of_cq (g := g_rroot) rroot4_den)
def GW2 : Gam := gamOf [(40, ct_scaled), (42, ct_next), (41, ct_grid), (47, ct_dsign), (94, ct_dnsqrt)]
theorem GW2_ok : GamOk Tryz.prog GW2 := gamOk_of ⟨ok_scaled, ok_next, ok_grid, ok_dsign, ok_dnsqrt, trivial⟩
theorem GW2_scaled : GW2 40 = some ct_scaled := rfl
theorem GW2_next : GW2 42 = some ct_next := rfl
theorem GW2_grid : GW2 41 = some ct_grid := rfl
theorem GW2_dsign : GW2 47 = some ct_dsign := rfl
theorem GW2_dnsqrt : GW2 94 = some ct_dnsqrt := rfl
def tr_root4 : Tr (List SA) := (.call 47 [(.ob 0)] 2 (.br (.le (.var 2) (.lit 0)) (.leaf [(.y (.lit false) .nil), (.b (.lit false))]) (.call 40 [(.ob 0), (.n (.mul (.lit 2) (.var 1)))] 3 (.call 94 [(.u (.var 3 1))] 5 (.br (.var 4) (.leaf [(.y (.lit false) (.var 5 0)), (.b (.lit true))]) (.leaf [(.y (.lit false) (.var 5 0)), (.b (.lt (.lit 0) (.len 6 0)))]))))))
theorem ev_root4 : Ct.ok Tryz.prog 48 { args := [[.r], [.n]], res := [[.y], [.b]], F := fun als => tr_root4.den GW2 (env0 als), L := 1000, A := 2, B := 55 } :=
  top_ok (by kernel_rfl) GW2_ok (plans := planF) (lf := 60) (k := 20) (by kernel_rfl)
theorem qsg_le (x : Rat) : (qsg x ≤ 0) = (x ≤ 0) := by
  apply propext
  unfold qsg
  rcases qtri x 0 with h | rfl | h
  · rw [qsg_neg h]; exact ⟨fun _ => Rat.le_of_lt h, fun _ => by decide⟩
  · exact ⟨fun _ => Rat.le_refl, fun _ => by decide⟩
  · rw [qsg_pos h]; exact ⟨fun h' => absurd h' (by decide), fun h' => absurd h (Rat.not_lt.2 h')⟩
theorem qsg_lt (x : Rat) : (qsg x < 0) = (x < 0) := by
  apply propext
  unfold qsg
  rcases qtri x 0 with h | rfl | h
  · rw [qsg_neg h]; exact ⟨fun _ => h, fun _ => by decide⟩
  · exact ⟨fun h => absurd h (by decide), fun h => absurd h Rat.lt_irrefl⟩
  · rw [qsg_pos h]; exact ⟨fun h' => absurd h' (by decide), fun h' => absurd h (Rat.not_lt.2 (Rat.le_of_lt h'))⟩
theorem lim_posI (m : Nat) : ((0 : Int) < (lim m).length) = (0 < m) := by
  apply propext
  constructor
  · intro h
    rcases Nat.eq_zero_or_pos m with e | e
    · subst e; rw [lim_zero] at h; simp at h
    · exact e
  · intro h
    have : 0 < (lim m).length := lim_ne (by omega)
    omega
theorem root4_den (l r : List QA) (h : g_root4 l = some r) : tr_root4.den GW2 (env0 (l.map QA.at)) = some (r.map QA.at) := by
  unfold g_root4 at h
  split at h
  · split at h
    · rename_i x k h0
      injection h with h; subst h
      by_cases hx : x ≤ 0
      · simp only [tr_root4, Tr.den, evAll, SA.ev, BE.ev, IE.ev, SE.ev, LE.ev, env0, extE_eq, pickO, op1, op2, op3, Nat.reduceLeDiff, Nat.reduceSub, Nat.reduceEqDiff, if_true, if_false, ite_true, ite_false, decide_true, decide_false, Bool.not_true, Bool.not_false, Nat.zero_le, Nat.sub_zero, List.getElem?_cons_zero, List.getElem?_cons_succ, List.getElem?_nil, cq0, cq1, cq2, cq3, cq4, cq5, cq6, cq7, cq8, cq9, cq10, cq12, cq16, outQ1, outQ2, outQ3, outQ4, outQ5, evN_at, evB_at, evS_at, evLen_z1, evLen_z2, evBit_z, at_n, at_b, at_s, at_z, at_k, at_kb, kG, kQ, kQ1, List.map_cons, List.map_nil, List.cons_append, List.nil_append, decide_eq_true_eq, Bool.false_eq_true, GW2_scaled, ctF_scaled, GW2_next, ctF_next, GW2_grid, ctF_grid, GW2_dsign, ctF_dsign, GW2_dnsqrt, ctF_dnsqrt, g_sign, qsg_le, eq_true hx, at_y0, rtl, rtu]
      · have h2 : (0 ≤ 2 * k ∧ 2 * k ≤ 400) = True := eq_true (by omega)
        by_cases h1 : ((scq x (2 * k)).floor : Rat) = scq x (2 * k)
        · simp only [tr_root4, Tr.den, evAll, SA.ev, BE.ev, IE.ev, SE.ev, LE.ev, env0, extE_eq, pickO, op1, op2, op3, Nat.reduceLeDiff, Nat.reduceSub, Nat.reduceEqDiff, if_true, if_false, ite_true, ite_false, decide_true, decide_false, Bool.not_true, Bool.not_false, Nat.zero_le, Nat.sub_zero, List.getElem?_cons_zero, List.getElem?_cons_succ, List.getElem?_nil, cq0, cq1, cq2, cq3, cq4, cq5, cq6, cq7, cq8, cq9, cq10, cq12, cq16, outQ1, outQ2, outQ3, outQ4, outQ5, evN_at, evB_at, evS_at, evLen_z1, evLen_z2, evBit_z, at_n, at_b, at_s, at_z, at_k, at_kb, kG, kQ, kQ1, List.map_cons, List.map_nil, List.cons_append, List.nil_append, decide_eq_true_eq, Bool.false_eq_true, GW2_scaled, ctF_scaled, GW2_next, ctF_next, GW2_grid, ctF_grid, GW2_dsign, ctF_dsign, GW2_dnsqrt, ctF_dnsqrt, g_sign, qsg_le, hx, wrap2 h0, g_scaled, h2, evLst_y1, at_u, g_nsqrt, evLst_u0, evLen_u0, at_yF, rtl, rtu, lim_posI, eq_true h1, Bool.false_or]
        · simp only [tr_root4, Tr.den, evAll, SA.ev, BE.ev, IE.ev, SE.ev, LE.ev, env0, extE_eq, pickO, op1, op2, op3, Nat.reduceLeDiff, Nat.reduceSub, Nat.reduceEqDiff, if_true, if_false, ite_true, ite_false, decide_true, decide_false, Bool.not_true, Bool.not_false, Nat.zero_le, Nat.sub_zero, List.getElem?_cons_zero, List.getElem?_cons_succ, List.getElem?_nil, cq0, cq1, cq2, cq3, cq4, cq5, cq6, cq7, cq8, cq9, cq10, cq12, cq16, outQ1, outQ2, outQ3, outQ4, outQ5, evN_at, evB_at, evS_at, evLen_z1, evLen_z2, evBit_z, at_n, at_b, at_s, at_z, at_k, at_kb, kG, kQ, kQ1, List.map_cons, List.map_nil, List.cons_append, List.nil_append, decide_eq_true_eq, Bool.false_eq_true, GW2_scaled, ctF_scaled, GW2_next, ctF_next, GW2_grid, ctF_grid, GW2_dsign, ctF_dsign, GW2_dnsqrt, ctF_dnsqrt, g_sign, qsg_le, hx, wrap2 h0, g_scaled, h2, evLst_y1, at_u, g_nsqrt, evLst_u0, evLen_u0, at_yF, rtl, rtu, lim_posI, h1, Bool.true_or]
    · cases h
  · cases h
def ct_root4 : Ct := { args := [[.r], [.n]], res := [[.y], [.b]], F := cq g_root4, L := 1000, A := 2, B := 55 }
theorem ctF_root4 : ct_root4.F = cq g_root4 := rfl
theorem ok_root4 : ct_root4.ok Tryz.prog 48 := ev_root4.weaken (of_cq (g := g_root4) root4_den)
def GW3 : Gam := gamOf [(40, ct_scaled), (42, ct_next), (41, ct_grid), (48, ct_root4), (45, ct_rscaled), (43, ct_rgrid), (46, ct_rceil), (51, ct_rroot4), (47, ct_dsign), (49, ct_drsign), (52, ct_drcmp), (38, ct_drof), (53, ct_drimul), (55, ct_driadd), (56, ct_driof), (54, ct_rnof), (44, ct_drfloor)]
theorem GW3_ok : GamOk Tryz.prog GW3 := gamOk_of ⟨ok_scaled, ok_next, ok_grid, ok_root4, ok_rscaled, ok_rgrid, ok_rceil, ok_rroot4, ok_dsign, ok_drsign, ok_drcmp, ok_drof, ok_drimul, ok_driadd, ok_driof, ok_rnof, ok_drfloor, trivial⟩
theorem GW3_scaled : GW3 40 = some ct_scaled := rfl
theorem GW3_next : GW3 42 = some ct_next := rfl
theorem GW3_grid : GW3 41 = some ct_grid := rfl
theorem GW3_root4 : GW3 48 = some ct_root4 := rfl
theorem GW3_rscaled : GW3 45 = some ct_rscaled := rfl
theorem GW3_rgrid : GW3 43 = some ct_rgrid := rfl
theorem GW3_rceil : GW3 46 = some ct_rceil := rfl
theorem GW3_rroot4 : GW3 51 = some ct_rroot4 := rfl
theorem GW3_dsign : GW3 47 = some ct_dsign := rfl
theorem GW3_drsign : GW3 49 = some ct_drsign := rfl
theorem GW3_drcmp : GW3 52 = some ct_drcmp := rfl
theorem GW3_drof : GW3 38 = some ct_drof := rfl
theorem GW3_drimul : GW3 53 = some ct_drimul := rfl
theorem GW3_driadd : GW3 55 = some ct_driadd := rfl
theorem GW3_driof : GW3 56 = some ct_driof := rfl
theorem GW3_rnof : GW3 54 = some ct_rnof := rfl
theorem GW3_drfloor : GW3 44 = some ct_drfloor := rfl
def tr_ivround : Tr (List SA) := (.br (.lt (.var 2) (.lit 0)) (.leaf [(.r (.lit false) .nil .nil), (.r (.lit false) .nil .nil), (.n (.lit 2))]) (.br (.lt (.lit 200) (.var 2)) (.leaf [(.r (.lit false) .nil .nil), (.r (.lit false) .nil .nil), (.n (.lit 2))]) (.call 40 [(.ob 0), (.n (.var 2))] 3 (.call 40 [(.ob 1), (.n (.var 2))] 5 (.call 41 [(.ob 3), (.n (.var 2))] 7 (.call 42 [(.ob 5), (.b (.var 6))] 8 (.call 41 [(.ob 8), (.n (.var 2))] 9 (.leaf [(.ob 7), (.ob 9), (.n (.lit 0))]))))))))
theorem ev_ivround : Ct.ok Tryz.prog 8 { args := [[.r, .r], [.n]], res := [[.r, .r], [.n]], F := fun als => tr_ivround.den GW3 (env0 als), L := 1000, A := 2, B := 91 } :=
  top_ok (by kernel_rfl) GW3_ok (plans := planF) (lf := 60) (k := 20) (by kernel_rfl)
def tr_rivround : Tr (List SA) := (.br (.lt (.var 2) (.lit 0)) (.leaf [(.r (.lit false) .nil .nil), (.r (.lit false) .nil .nil), (.n (.lit 2))]) (.br (.lt (.lit 200) (.var 2)) (.leaf [(.r (.lit false) .nil .nil), (.r (.lit false) .nil .nil), (.n (.lit 2))]) (.call 45 [(.ob 0), (.n (.var 2))] 3 (.call 44 [(.ob 3)] 4 (.call 43 [(.ob 4), (.n (.var 2))] 5 (.call 45 [(.ob 1), (.n (.var 2))] 6 (.call 46 [(.ob 6)] 7 (.call 43 [(.ob 7), (.n (.var 2))] 8 (.leaf [(.ob 5), (.ob 8), (.n (.lit 0))])))))))))
theorem ev_rivround : Ct.ok Tryz.prog 9 { args := [[.r, .r], [.n]], res := [[.r, .r], [.n]], F := fun als => tr_rivround.den GW3 (env0 als), L := 100, A := 2, B := 126 } :=
  top_ok (by kernel_rfl) GW3_ok (plans := planF) (lf := 60) (k := 20) (by kernel_rfl)
def tr_ivsqrt : Tr (List SA) := (.call 47 [(.ob 1)] 3 (.br (.lt (.var 3) (.lit 0)) (.leaf [(.r (.lit false) .nil .nil), (.r (.lit false) .nil .nil), (.n (.lit 2))]) (.br (.lt (.var 2) (.lit 0)) (.leaf [(.r (.lit false) .nil .nil), (.r (.lit false) .nil .nil), (.n (.lit 2))]) (.br (.lt (.lit 200) (.var 2)) (.leaf [(.r (.lit false) .nil .nil), (.r (.lit false) .nil .nil), (.n (.lit 2))]) (.call 48 [(.ob 0), (.n (.var 2))] 4 (.call 48 [(.ob 1), (.n (.var 2))] 6 (.call 41 [(.ob 4), (.n (.var 2))] 8 (.call 42 [(.ob 6), (.b (.var 7))] 9 (.call 41 [(.ob 9), (.n (.var 2))] 10 (.leaf [(.ob 8), (.ob 10), (.n (.lit 0))]))))))))))
theorem ev_ivsqrt : Ct.ok Tryz.prog 10 { args := [[.r, .r], [.n]], res := [[.r, .r], [.n]], F := fun als => tr_ivsqrt.den GW3 (env0 als), L := 1000, A := 2, B := 91 } :=
  top_ok (by kernel_rfl) GW3_ok (plans := planF) (lf := 60) (k := 20) (by kernel_rfl)
def tr_rivsqrt : Tr (List SA) := (.call 49 [(.ob 1)] 3 (.br (.lt (.var 3) (.lit 0)) (.leaf [(.r (.lit false) .nil .nil), (.r (.lit false) .nil .nil), (.n (.lit 2))]) (.br (.lt (.var 2) (.lit 0)) (.leaf [(.r (.lit false) .nil .nil), (.r (.lit false) .nil .nil), (.n (.lit 2))]) (.br (.lt (.lit 200) (.var 2)) (.leaf [(.r (.lit false) .nil .nil), (.r (.lit false) .nil .nil), (.n (.lit 2))]) (.call 38 [(.n (.lit 0))] 11 (.call 52 [(.ob 11), (.ob 0)] 12 (.br (.lt (.lit 0) (.var 12)) (.call 45 [(.ob 1), (.n (.mul (.lit 2) (.var 2)))] 13 (.call 51 [(.ob 13)] 14 (.call 53 [(.ob 14), (.ob 14)] 15 (.call 54 [(.w 1)] 16 (.call 52 [(.r (.bit 15) (.var 15 1) (.var 16 0)), (.ob 13)] 17 (.br (.lt (.var 17) (.lit 0)) (.call 56 [(.n (.lit 1))] 18 (.call 55 [(.ob 14), (.ob 18)] 19 (.call 45 [(.ob 11), (.n (.mul (.lit 2) (.var 2)))] 20 (.call 51 [(.ob 20)] 21 (.call 43 [(.ob 21), (.n (.var 2))] 22 (.call 43 [(.ob 19), (.n (.var 2))] 23 (.leaf [(.ob 22), (.ob 23), (.n (.lit 0))]))))))) (.call 45 [(.ob 11), (.n (.mul (.lit 2) (.var 2)))] 18 (.call 51 [(.ob 18)] 19 (.call 43 [(.ob 19), (.n (.var 2))] 20 (.call 43 [(.ob 14), (.n (.var 2))] 21 (.leaf [(.ob 20), (.ob 21), (.n (.lit 0))]))))))))))) (.call 45 [(.ob 1), (.n (.mul (.lit 2) (.var 2)))] 13 (.call 51 [(.ob 13)] 14 (.call 53 [(.ob 14), (.ob 14)] 15 (.call 54 [(.w 1)] 16 (.call 52 [(.r (.bit 15) (.var 15 1) (.var 16 0)), (.ob 13)] 17 (.br (.lt (.var 17) (.lit 0)) (.call 56 [(.n (.lit 1))] 18 (.call 55 [(.ob 14), (.ob 18)] 19 (.call 45 [(.ob 0), (.n (.mul (.lit 2) (.var 2)))] 20 (.call 51 [(.ob 20)] 21 (.call 43 [(.ob 21), (.n (.var 2))] 22 (.call 43 [(.ob 19), (.n (.var 2))] 23 (.leaf [(.ob 22), (.ob 23), (.n (.lit 0))]))))))) (.call 45 [(.ob 0), (.n (.mul (.lit 2) (.var 2)))] 18 (.call 51 [(.ob 18)] 19 (.call 43 [(.ob 19), (.n (.var 2))] 20 (.call 43 [(.ob 14), (.n (.var 2))] 21 (.leaf [(.ob 20), (.ob 21), (.n (.lit 0))]))))))))))))))))))
theorem ev_rivsqrt : Ct.ok Tryz.prog 11 { args := [[.r, .r], [.n]], res := [[.r, .r], [.n]], F := fun als => tr_rivsqrt.den GW3 (env0 als), L := 100, A := 2, B := 138 } :=
  top_ok (by kernel_rfl) GW3_ok (plans := planF) (lf := 60) (k := 20) (by kernel_rfl)
def g_ivround : List QA → Option (List QA)
  | [.q a, .q b, .n k] => some (if k < 0 ∨ 200 < k then [.z, .z, .n 2] else [.q (flq a ((tw k : Int) : Rat)), .q (clq b ((tw k : Int) : Rat)), .n 0])
  | _ => none
def g_ivsqrt : List QA → Option (List QA)
  | [.q a, .q b, .n k] => some (if b < 0 ∨ k < 0 ∨ 200 < k then [.z, .z, .n 2] else [.q ((rtl a k : Rat) / ((tw k : Int) : Rat)), .q (((if rtu b k = true then rtl b k + 1 else rtl b k : Int) : Rat) / ((tw k : Int) : Rat)), .n 0])
  | _ => none
theorem clq_up (x : Rat) (k : Int) : clq x ((tw k : Int) : Rat) = ((if (!decide (((scq x k).floor : Rat) = scq x k)) = true then (scq x k).floor + 1 else (scq x k).floor : Int) : Rat) / ((tw k : Int) : Rat) := by
  unfold clq ceilq
  rw [ceil_up]; rfl
theorem clq_ceil (x : Rat) (k : Int) : clq x ((tw k : Int) : Rat) = ((ceilq (scq x k) : Int) : Rat) / ((tw k : Int) : Rat) := rfl
theorem flq_sc (x : Rat) (k : Int) : flq x ((tw k : Int) : Rat) = (((scq x k).floor : Int) : Rat) / ((tw k : Int) : Rat) := rfl
theorem ivround_den (l r : List QA) (h : g_ivround l = some r) : tr_ivround.den GW3 (env0 (l.map QA.at)) = some (r.map QA.at) := by
  unfold g_ivround at h
  split at h
  · rename_i a b k
    injection h with h; subst h
    by_cases h1 : k < 0
    · simp only [tr_ivround, Tr.den, evAll, SA.ev, BE.ev, IE.ev, SE.ev, LE.ev, env0, extE_eq, pickO, op1, op2, op3, Nat.reduceLeDiff, Nat.reduceSub, Nat.reduceEqDiff, if_true, if_false, ite_true, ite_false, decide_true, decide_false, Bool.not_true, Bool.not_false, Nat.zero_le, Nat.sub_zero, List.getElem?_cons_zero, List.getElem?_cons_succ, List.getElem?_nil, cq0, cq1, cq2, cq3, cq4, cq5, cq6, cq7, cq8, cq9, cq10, cq12, cq16, outQ1, outQ2, outQ3, outQ4, outQ5, evN_at, evB_at, evS_at, evLen_z1, evLen_z2, evBit_z, at_n, at_b, at_s, at_z, at_k, at_kb, kG, kQ, kQ1, List.map_cons, List.map_nil, List.cons_append, List.nil_append, decide_eq_true_eq, Bool.false_eq_true, GW3_scaled, ctF_scaled, GW3_next, ctF_next, GW3_grid, ctF_grid, GW3_root4, ctF_root4, GW3_rscaled, ctF_rscaled, GW3_rgrid, ctF_rgrid, GW3_rceil, ctF_rceil, GW3_rroot4, ctF_rroot4, GW3_dsign, ctF_dsign, GW3_drsign, ctF_drsign, GW3_drcmp, ctF_drcmp, GW3_drof, ctF_drof, GW3_drimul, ctF_drimul, GW3_driadd, ctF_driadd, GW3_driof, ctF_driof, GW3_rnof, ctF_rnof, GW3_drfloor, ctF_drfloor, eq_true h1, true_or]
    · by_cases h2 : 200 < k
      · simp only [tr_ivround, Tr.den, evAll, SA.ev, BE.ev, IE.ev, SE.ev, LE.ev, env0, extE_eq, pickO, op1, op2, op3, Nat.reduceLeDiff, Nat.reduceSub, Nat.reduceEqDiff, if_true, if_false, ite_true, ite_false, decide_true, decide_false, Bool.not_true, Bool.not_false, Nat.zero_le, Nat.sub_zero, List.getElem?_cons_zero, List.getElem?_cons_succ, List.getElem?_nil, cq0, cq1, cq2, cq3, cq4, cq5, cq6, cq7, cq8, cq9, cq10, cq12, cq16, outQ1, outQ2, outQ3, outQ4, outQ5, evN_at, evB_at, evS_at, evLen_z1, evLen_z2, evBit_z, at_n, at_b, at_s, at_z, at_k, at_kb, kG, kQ, kQ1, List.map_cons, List.map_nil, List.cons_append, List.nil_append, decide_eq_true_eq, Bool.false_eq_true, GW3_scaled, ctF_scaled, GW3_next, ctF_next, GW3_grid, ctF_grid, GW3_root4, ctF_root4, GW3_rscaled, ctF_rscaled, GW3_rgrid, ctF_rgrid, GW3_rceil, ctF_rceil, GW3_rroot4, ctF_rroot4, GW3_dsign, ctF_dsign, GW3_drsign, ctF_drsign, GW3_drcmp, ctF_drcmp, GW3_drof, ctF_drof, GW3_drimul, ctF_drimul, GW3_driadd, ctF_driadd, GW3_driof, ctF_driof, GW3_rnof, ctF_rnof, GW3_drfloor, ctF_drfloor, h1, eq_true h2, false_or]
      · have h3 : (0 ≤ k ∧ k ≤ 400) = True := eq_true (by omega)
        simp only [tr_ivround, Tr.den, evAll, SA.ev, BE.ev, IE.ev, SE.ev, LE.ev, env0, extE_eq, pickO, op1, op2, op3, Nat.reduceLeDiff, Nat.reduceSub, Nat.reduceEqDiff, if_true, if_false, ite_true, ite_false, decide_true, decide_false, Bool.not_true, Bool.not_false, Nat.zero_le, Nat.sub_zero, List.getElem?_cons_zero, List.getElem?_cons_succ, List.getElem?_nil, cq0, cq1, cq2, cq3, cq4, cq5, cq6, cq7, cq8, cq9, cq10, cq12, cq16, outQ1, outQ2, outQ3, outQ4, outQ5, evN_at, evB_at, evS_at, evLen_z1, evLen_z2, evBit_z, at_n, at_b, at_s, at_z, at_k, at_kb, kG, kQ, kQ1, List.map_cons, List.map_nil, List.cons_append, List.nil_append, decide_eq_true_eq, Bool.false_eq_true, GW3_scaled, ctF_scaled, GW3_next, ctF_next, GW3_grid, ctF_grid, GW3_root4, ctF_root4, GW3_rscaled, ctF_rscaled, GW3_rgrid, ctF_rgrid, GW3_rceil, ctF_rceil, GW3_rroot4, ctF_rroot4, GW3_dsign, ctF_dsign, GW3_drsign, ctF_drsign, GW3_drcmp, ctF_drcmp, GW3_drof, ctF_drof, GW3_drimul, ctF_drimul, GW3_driadd, ctF_driadd, GW3_driof, ctF_driof, GW3_rnof, ctF_rnof, GW3_drfloor, ctF_drfloor, h1, h2, false_or, g_scaled, g_next, g_grid, h3, clq_up, flq_sc]
  · cases h
theorem rivround_den (l r : List QA) (h : g_ivround l = some r) : tr_rivround.den GW3 (env0 (l.map QA.at)) = some (r.map QA.at) := by
  unfold g_ivround at h
  split at h
  · rename_i a b k
    injection h with h; subst h
    by_cases h1 : k < 0
    · simp only [tr_rivround, Tr.den, evAll, SA.ev, BE.ev, IE.ev, SE.ev, LE.ev, env0, extE_eq, pickO, op1, op2, op3, Nat.reduceLeDiff, Nat.reduceSub, Nat.reduceEqDiff, if_true, if_false, ite_true, ite_false, decide_true, decide_false, Bool.not_true, Bool.not_false, Nat.zero_le, Nat.sub_zero, List.getElem?_cons_zero, List.getElem?_cons_succ, List.getElem?_nil, cq0, cq1, cq2, cq3, cq4, cq5, cq6, cq7, cq8, cq9, cq10, cq12, cq16, outQ1, outQ2, outQ3, outQ4, outQ5, evN_at, evB_at, evS_at, evLen_z1, evLen_z2, evBit_z, at_n, at_b, at_s, at_z, at_k, at_kb, kG, kQ, kQ1, List.map_cons, List.map_nil, List.cons_append, List.nil_append, decide_eq_true_eq, Bool.false_eq_true, GW3_scaled, ctF_scaled, GW3_next, ctF_next, GW3_grid, ctF_grid, GW3_root4, ctF_root4, GW3_rscaled, ctF_rscaled, GW3_rgrid, ctF_rgrid, GW3_rceil, ctF_rceil, GW3_rroot4, ctF_rroot4, GW3_dsign, ctF_dsign, GW3_drsign, ctF_drsign, GW3_drcmp, ctF_drcmp, GW3_drof, ctF_drof, GW3_drimul, ctF_drimul, GW3_driadd, ctF_driadd, GW3_driof, ctF_driof, GW3_rnof, ctF_rnof, GW3_drfloor, ctF_drfloor, eq_true h1, true_or]
    · by_cases h2 : 200 < k
      · simp only [tr_rivround, Tr.den, evAll, SA.ev, BE.ev, IE.ev, SE.ev, LE.ev, env0, extE_eq, pickO, op1, op2, op3, Nat.reduceLeDiff, Nat.reduceSub, Nat.reduceEqDiff, if_true, if_false, ite_true, ite_false, decide_true, decide_false, Bool.not_true, Bool.not_false, Nat.zero_le, Nat.sub_zero, List.getElem?_cons_zero, List.getElem?_cons_succ, List.getElem?_nil, cq0, cq1, cq2, cq3, cq4, cq5, cq6, cq7, cq8, cq9, cq10, cq12, cq16, outQ1, outQ2, outQ3, outQ4, outQ5, evN_at, evB_at, evS_at, evLen_z1, evLen_z2, evBit_z, at_n, at_b, at_s, at_z, at_k, at_kb, kG, kQ, kQ1, List.map_cons, List.map_nil, List.cons_append, List.nil_append, decide_eq_true_eq, Bool.false_eq_true, GW3_scaled, ctF_scaled, GW3_next, ctF_next, GW3_grid, ctF_grid, GW3_root4, ctF_root4, GW3_rscaled, ctF_rscaled, GW3_rgrid, ctF_rgrid, GW3_rceil, ctF_rceil, GW3_rroot4, ctF_rroot4, GW3_dsign, ctF_dsign, GW3_drsign, ctF_drsign, GW3_drcmp, ctF_drcmp, GW3_drof, ctF_drof, GW3_drimul, ctF_drimul, GW3_driadd, ctF_driadd, GW3_driof, ctF_driof, GW3_rnof, ctF_rnof, GW3_drfloor, ctF_drfloor, h1, eq_true h2, false_or]
      · have h3 : (0 ≤ k ∧ k ≤ 400) = True := eq_true (by omega)
        simp only [tr_rivround, Tr.den, evAll, SA.ev, BE.ev, IE.ev, SE.ev, LE.ev, env0, extE_eq, pickO, op1, op2, op3, Nat.reduceLeDiff, Nat.reduceSub, Nat.reduceEqDiff, if_true, if_false, ite_true, ite_false, decide_true, decide_false, Bool.not_true, Bool.not_false, Nat.zero_le, Nat.sub_zero, List.getElem?_cons_zero, List.getElem?_cons_succ, List.getElem?_nil, cq0, cq1, cq2, cq3, cq4, cq5, cq6, cq7, cq8, cq9, cq10, cq12, cq16, outQ1, outQ2, outQ3, outQ4, outQ5, evN_at, evB_at, evS_at, evLen_z1, evLen_z2, evBit_z, at_n, at_b, at_s, at_z, at_k, at_kb, kG, kQ, kQ1, List.map_cons, List.map_nil, List.cons_append, List.nil_append, decide_eq_true_eq, Bool.false_eq_true, GW3_scaled, ctF_scaled, GW3_next, ctF_next, GW3_grid, ctF_grid, GW3_root4, ctF_root4, GW3_rscaled, ctF_rscaled, GW3_rgrid, ctF_rgrid, GW3_rceil, ctF_rceil, GW3_rroot4, ctF_rroot4, GW3_dsign, ctF_dsign, GW3_drsign, ctF_drsign, GW3_drcmp, ctF_drcmp, GW3_drof, ctF_drof, GW3_drimul, ctF_drimul, GW3_driadd, ctF_driadd, GW3_driof, ctF_driof, GW3_rnof, ctF_rnof, GW3_drfloor, ctF_drfloor, h1, h2, false_or, g_rscaled, g_floor, g_ceil, g_grid, h3, clq_ceil, flq_sc]
  · cases h
theorem ivsqrt_den (l r : List QA) (h : g_ivsqrt l = some r) : tr_ivsqrt.den GW3 (env0 (l.map QA.at)) = some (r.map QA.at) := by
  unfold g_ivsqrt at h
  split at h
  · rename_i a b k
    injection h with h; subst h
    by_cases h0 : b < 0
    · simp only [tr_ivsqrt, Tr.den, evAll, SA.ev, BE.ev, IE.ev, SE.ev, LE.ev, env0, extE_eq, pickO, op1, op2, op3, Nat.reduceLeDiff, Nat.reduceSub, Nat.reduceEqDiff, if_true, if_false, ite_true, ite_false, decide_true, decide_false, Bool.not_true, Bool.not_false, Nat.zero_le, Nat.sub_zero, List.getElem?_cons_zero, List.getElem?_cons_succ, List.getElem?_nil, cq0, cq1, cq2, cq3, cq4, cq5, cq6, cq7, cq8, cq9, cq10, cq12, cq16, outQ1, outQ2, outQ3, outQ4, outQ5, evN_at, evB_at, evS_at, evLen_z1, evLen_z2, evBit_z, at_n, at_b, at_s, at_z, at_k, at_kb, kG, kQ, kQ1, List.map_cons, List.map_nil, List.cons_append, List.nil_append, decide_eq_true_eq, Bool.false_eq_true, GW3_scaled, ctF_scaled, GW3_next, ctF_next, GW3_grid, ctF_grid, GW3_root4, ctF_root4, GW3_rscaled, ctF_rscaled, GW3_rgrid, ctF_rgrid, GW3_rceil, ctF_rceil, GW3_rroot4, ctF_rroot4, GW3_dsign, ctF_dsign, GW3_drsign, ctF_drsign, GW3_drcmp, ctF_drcmp, GW3_drof, ctF_drof, GW3_drimul, ctF_drimul, GW3_driadd, ctF_driadd, GW3_driof, ctF_driof, GW3_rnof, ctF_rnof, GW3_drfloor, ctF_drfloor, g_sign, qsg_lt, eq_true h0, true_or]
    · by_cases h1 : k < 0
      · simp only [tr_ivsqrt, Tr.den, evAll, SA.ev, BE.ev, IE.ev, SE.ev, LE.ev, env0, extE_eq, pickO, op1, op2, op3, Nat.reduceLeDiff, Nat.reduceSub, Nat.reduceEqDiff, if_true, if_false, ite_true, ite_false, decide_true, decide_false, Bool.not_true, Bool.not_false, Nat.zero_le, Nat.sub_zero, List.getElem?_cons_zero, List.getElem?_cons_succ, List.getElem?_nil, cq0, cq1, cq2, cq3, cq4, cq5, cq6, cq7, cq8, cq9, cq10, cq12, cq16, outQ1, outQ2, outQ3, outQ4, outQ5, evN_at, evB_at, evS_at, evLen_z1, evLen_z2, evBit_z, at_n, at_b, at_s, at_z, at_k, at_kb, kG, kQ, kQ1, List.map_cons, List.map_nil, List.cons_append, List.nil_append, decide_eq_true_eq, Bool.false_eq_true, GW3_scaled, ctF_scaled, GW3_next, ctF_next, GW3_grid, ctF_grid, GW3_root4, ctF_root4, GW3_rscaled, ctF_rscaled, GW3_rgrid, ctF_rgrid, GW3_rceil, ctF_rceil, GW3_rroot4, ctF_rroot4, GW3_dsign, ctF_dsign, GW3_drsign, ctF_drsign, GW3_drcmp, ctF_drcmp, GW3_drof, ctF_drof, GW3_drimul, ctF_drimul, GW3_driadd, ctF_driadd, GW3_driof, ctF_driof, GW3_rnof, ctF_rnof, GW3_drfloor, ctF_drfloor, g_sign, qsg_lt, h0, eq_true h1, true_or, false_or]
      · by_cases h2 : 200 < k
        · simp only [tr_ivsqrt, Tr.den, evAll, SA.ev, BE.ev, IE.ev, SE.ev, LE.ev, env0, extE_eq, pickO, op1, op2, op3, Nat.reduceLeDiff, Nat.reduceSub, Nat.reduceEqDiff, if_true, if_false, ite_true, ite_false, decide_true, decide_false, Bool.not_true, Bool.not_false, Nat.zero_le, Nat.sub_zero, List.getElem?_cons_zero, List.getElem?_cons_succ, List.getElem?_nil, cq0, cq1, cq2, cq3, cq4, cq5, cq6, cq7, cq8, cq9, cq10, cq12, cq16, outQ1, outQ2, outQ3, outQ4, outQ5, evN_at, evB_at, evS_at, evLen_z1, evLen_z2, evBit_z, at_n, at_b, at_s, at_z, at_k, at_kb, kG, kQ, kQ1, List.map_cons, List.map_nil, List.cons_append, List.nil_append, decide_eq_true_eq, Bool.false_eq_true, GW3_scaled, ctF_scaled, GW3_next, ctF_next, GW3_grid, ctF_grid, GW3_root4, ctF_root4, GW3_rscaled, ctF_rscaled, GW3_rgrid, ctF_rgrid, GW3_rceil, ctF_rceil, GW3_rroot4, ctF_rroot4, GW3_dsign, ctF_dsign, GW3_drsign, ctF_drsign, GW3_drcmp, ctF_drcmp, GW3_drof, ctF_drof, GW3_drimul, ctF_drimul, GW3_driadd, ctF_driadd, GW3_driof, ctF_driof, GW3_rnof, ctF_rnof, GW3_drfloor, ctF_drfloor, g_sign, qsg_lt, h0, h1, eq_true h2, false_or]
        · have h3 : (0 ≤ k ∧ k ≤ 400) = True := eq_true (by omega)
          have h4 : (0 ≤ k ∧ k ≤ 200) = True := eq_true (by omega)
          simp only [tr_ivsqrt, Tr.den, evAll, SA.ev, BE.ev, IE.ev, SE.ev, LE.ev, env0, extE_eq, pickO, op1, op2, op3, Nat.reduceLeDiff, Nat.reduceSub, Nat.reduceEqDiff, if_true, if_false, ite_true, ite_false, decide_true, decide_false, Bool.not_true, Bool.not_false, Nat.zero_le, Nat.sub_zero, List.getElem?_cons_zero, List.getElem?_cons_succ, List.getElem?_nil, cq0, cq1, cq2, cq3, cq4, cq5, cq6, cq7, cq8, cq9, cq10, cq12, cq16, outQ1, outQ2, outQ3, outQ4, outQ5, evN_at, evB_at, evS_at, evLen_z1, evLen_z2, evBit_z, at_n, at_b, at_s, at_z, at_k, at_kb, kG, kQ, kQ1, List.map_cons, List.map_nil, List.cons_append, List.nil_append, decide_eq_true_eq, Bool.false_eq_true, GW3_scaled, ctF_scaled, GW3_next, ctF_next, GW3_grid, ctF_grid, GW3_root4, ctF_root4, GW3_rscaled, ctF_rscaled, GW3_rgrid, ctF_rgrid, GW3_rceil, ctF_rceil, GW3_rroot4, ctF_rroot4, GW3_dsign, ctF_dsign, GW3_drsign, ctF_drsign, GW3_drcmp, ctF_drcmp, GW3_drof, ctF_drof, GW3_drimul, ctF_drimul, GW3_driadd, ctF_driadd, GW3_driof, ctF_driof, GW3_rnof, ctF_rnof, GW3_drfloor, ctF_drfloor, g_sign, qsg_lt, h0, h1, h2, false_or, g_root4, g_next, g_grid, h3, h4]
  · cases h
theorem scq_zero (k : Int) : scq 0 k = 0 := Rat.zero_mul _
theorem floor_zero : (0 : Rat).floor = 0 := by decide +kernel
theorem isq_zero : isq 0 = 0 := by
  have := (isq_spec 0).1
  rcases Nat.eq_zero_or_pos (isq 0) with h | h
  · exact h
  · exact absurd this (by have := Nat.mul_pos h h; omega)
/-- the upper end, as the specification finds it -/
theorem rtu_ref {b : Rat} (k : Int) (hb : ¬ b < 0) : rtl b k = (isq (scq b (2 * k)).floor.natAbs : Nat) ∧ rtu b k = decide ((((isq (scq b (2 * k)).floor.natAbs : Int) * (isq (scq b (2 * k)).floor.natAbs : Int) : Int) : Rat) < scq b (2 * k)) := by
  by_cases h : b ≤ 0
  · have h0 : b = 0 := Rat.le_antisymm h (Rat.not_lt.1 hb)
    subst h0
    unfold rtl rtu
    rw [if_pos h, if_pos h, scq_zero, floor_zero, Int.natAbs_zero, isq_zero]
    exact ⟨rfl, rfl⟩
  · unfold rtl rtu
    rw [if_neg h, if_neg h, up_eq (scq_nonneg (Rat.not_lt.1 hb) _)]
    exact ⟨rfl, rfl⟩
theorem rtl_ref (a : Rat) (k : Int) : rtl a k = (isq (scq (if a < 0 then 0 else a) (2 * k)).floor.natAbs : Nat) := by
  by_cases h : a < 0
  · unfold rtl
    rw [if_pos h, if_pos (Rat.le_of_lt h), scq_zero, floor_zero, Int.natAbs_zero, isq_zero]; rfl
  · rw [if_neg h]; exact (rtu_ref k h).1
theorem rivsqrt_den (l r : List QA) (h : g_ivsqrt l = some r) : tr_rivsqrt.den GW3 (env0 (l.map QA.at)) = some (r.map QA.at) := by
  unfold g_ivsqrt at h
  split at h
  · rename_i a b k
    injection h with h; subst h
    by_cases h0 : b < 0
    · simp only [tr_rivsqrt, Tr.den, evAll, SA.ev, BE.ev, IE.ev, SE.ev, LE.ev, env0, extE_eq, pickO, op1, op2, op3, Nat.reduceLeDiff, Nat.reduceSub, Nat.reduceEqDiff, if_true, if_false, ite_true, ite_false, decide_true, decide_false, Bool.not_true, Bool.not_false, Nat.zero_le, Nat.sub_zero, List.getElem?_cons_zero, List.getElem?_cons_succ, List.getElem?_nil, cq0, cq1, cq2, cq3, cq4, cq5, cq6, cq7, cq8, cq9, cq10, cq12, cq16, outQ1, outQ2, outQ3, outQ4, outQ5, evN_at, evB_at, evS_at, evLen_z1, evLen_z2, evBit_z, at_n, at_b, at_s, at_z, at_k, at_kb, kG, kQ, kQ1, List.map_cons, List.map_nil, List.cons_append, List.nil_append, decide_eq_true_eq, Bool.false_eq_true, GW3_scaled, ctF_scaled, GW3_next, ctF_next, GW3_grid, ctF_grid, GW3_root4, ctF_root4, GW3_rscaled, ctF_rscaled, GW3_rgrid, ctF_rgrid, GW3_rceil, ctF_rceil, GW3_rroot4, ctF_rroot4, GW3_dsign, ctF_dsign, GW3_drsign, ctF_drsign, GW3_drcmp, ctF_drcmp, GW3_drof, ctF_drof, GW3_drimul, ctF_drimul, GW3_driadd, ctF_driadd, GW3_driof, ctF_driof, GW3_rnof, ctF_rnof, GW3_drfloor, ctF_drfloor, g_sign, qsg_lt, eq_true h0, true_or]
    · by_cases h1 : k < 0
      · simp only [tr_rivsqrt, Tr.den, evAll, SA.ev, BE.ev, IE.ev, SE.ev, LE.ev, env0, extE_eq, pickO, op1, op2, op3, Nat.reduceLeDiff, Nat.reduceSub, Nat.reduceEqDiff, if_true, if_false, ite_true, ite_false, decide_true, decide_false, Bool.not_true, Bool.not_false, Nat.zero_le, Nat.sub_zero, List.getElem?_cons_zero, List.getElem?_cons_succ, List.getElem?_nil, cq0, cq1, cq2, cq3, cq4, cq5, cq6, cq7, cq8, cq9, cq10, cq12, cq16, outQ1, outQ2, outQ3, outQ4, outQ5, evN_at, evB_at, evS_at, evLen_z1, evLen_z2, evBit_z, at_n, at_b, at_s, at_z, at_k, at_kb, kG, kQ, kQ1, List.map_cons, List.map_nil, List.cons_append, List.nil_append, decide_eq_true_eq, Bool.false_eq_true, GW3_scaled, ctF_scaled, GW3_next, ctF_next, GW3_grid, ctF_grid, GW3_root4, ctF_root4, GW3_rscaled, ctF_rscaled, GW3_rgrid, ctF_rgrid, GW3_rceil, ctF_rceil, GW3_rroot4, ctF_rroot4, GW3_dsign, ctF_dsign, GW3_drsign, ctF_drsign, GW3_drcmp, ctF_drcmp, GW3_drof, ctF_drof, GW3_drimul, ctF_drimul, GW3_driadd, ctF_driadd, GW3_driof, ctF_driof, GW3_rnof, ctF_rnof, GW3_drfloor, ctF_drfloor, g_sign, qsg_lt, h0, eq_true h1, true_or, false_or]
      · by_cases h2 : 200 < k
        · simp only [tr_rivsqrt, Tr.den, evAll, SA.ev, BE.ev, IE.ev, SE.ev, LE.ev, env0, extE_eq, pickO, op1, op2, op3, Nat.reduceLeDiff, Nat.reduceSub, Nat.reduceEqDiff, if_true, if_false, ite_true, ite_false, decide_true, decide_false, Bool.not_true, Bool.not_false, Nat.zero_le, Nat.sub_zero, List.getElem?_cons_zero, List.getElem?_cons_succ, List.getElem?_nil, cq0, cq1, cq2, cq3, cq4, cq5, cq6, cq7, cq8, cq9, cq10, cq12, cq16, outQ1, outQ2, outQ3, outQ4, outQ5, evN_at, evB_at, evS_at, evLen_z1, evLen_z2, evBit_z, at_n, at_b, at_s, at_z, at_k, at_kb, kG, kQ, kQ1, List.map_cons, List.map_nil, List.cons_append, List.nil_append, decide_eq_true_eq, Bool.false_eq_true, GW3_scaled, ctF_scaled, GW3_next, ctF_next, GW3_grid, ctF_grid, GW3_root4, ctF_root4, GW3_rscaled, ctF_rscaled, GW3_rgrid, ctF_rgrid, GW3_rceil, ctF_rceil, GW3_rroot4, ctF_rroot4, GW3_dsign, ctF_dsign, GW3_drsign, ctF_drsign, GW3_drcmp, ctF_drcmp, GW3_drof, ctF_drof, GW3_drimul, ctF_drimul, GW3_driadd, ctF_driadd, GW3_driof, ctF_driof, GW3_rnof, ctF_rnof, GW3_drfloor, ctF_drfloor, g_sign, qsg_lt, h0, h1, eq_true h2, false_or]
        · have h3 : (0 ≤ k ∧ k ≤ 400) = True := eq_true (by omega)
          have h4 : (0 ≤ 2 * k ∧ 2 * k ≤ 400) = True := eq_true (by omega)
          have hw := wrap2 (k := k) (by omega)
          obtain ⟨e1, e2⟩ := rtu_ref k h0
          have e3 := rtl_ref a k
          rw [e1, e2, e3]
          clear e1 e2 e3
          by_cases h5 : a < 0
          · by_cases h6 : (((isq (scq b (2 * k)).floor.natAbs : Int) * (isq (scq b (2 * k)).floor.natAbs : Int) : Int) : Rat) < scq b (2 * k)
            · simp only [tr_rivsqrt, Tr.den, evAll, SA.ev, BE.ev, IE.ev, SE.ev, LE.ev, env0, extE_eq, pickO, op1, op2, op3, Nat.reduceLeDiff, Nat.reduceSub, Nat.reduceEqDiff, if_true, if_false, ite_true, ite_false, decide_true, decide_false, Bool.not_true, Bool.not_false, Nat.zero_le, Nat.sub_zero, List.getElem?_cons_zero, List.getElem?_cons_succ, List.getElem?_nil, cq0, cq1, cq2, cq3, cq4, cq5, cq6, cq7, cq8, cq9, cq10, cq12, cq16, outQ1, outQ2, outQ3, outQ4, outQ5, evN_at, evB_at, evS_at, evLen_z1, evLen_z2, evBit_z, at_n, at_b, at_s, at_z, at_k, at_kb, kG, kQ, kQ1, List.map_cons, List.map_nil, List.cons_append, List.nil_append, decide_eq_true_eq, Bool.false_eq_true, GW3_scaled, ctF_scaled, GW3_next, ctF_next, GW3_grid, ctF_grid, GW3_root4, ctF_root4, GW3_rscaled, ctF_rscaled, GW3_rgrid, ctF_rgrid, GW3_rceil, ctF_rceil, GW3_rroot4, ctF_rroot4, GW3_dsign, ctF_dsign, GW3_drsign, ctF_drsign, GW3_drcmp, ctF_drcmp, GW3_drof, ctF_drof, GW3_drimul, ctF_drimul, GW3_driadd, ctF_driadd, GW3_driof, ctF_driof, GW3_rnof, ctF_rnof, GW3_drfloor, ctF_drfloor, g_sign, qsg_lt, h0, h1, h2, false_or, g_of, i01, z0, g_cmp, cmp_lt, cmp_gt, eq_true h5, hw, g_rscaled, h4, g_rroot, g_imul, evBit_y, evLst_y1, evLst_u0, f_nof1, at_r1, g_iof, i11, g_iadd, g_grid, h3, eq_true h6]
            · simp only [tr_rivsqrt, Tr.den, evAll, SA.ev, BE.ev, IE.ev, SE.ev, LE.ev, env0, extE_eq, pickO, op1, op2, op3, Nat.reduceLeDiff, Nat.reduceSub, Nat.reduceEqDiff, if_true, if_false, ite_true, ite_false, decide_true, decide_false, Bool.not_true, Bool.not_false, Nat.zero_le, Nat.sub_zero, List.getElem?_cons_zero, List.getElem?_cons_succ, List.getElem?_nil, cq0, cq1, cq2, cq3, cq4, cq5, cq6, cq7, cq8, cq9, cq10, cq12, cq16, outQ1, outQ2, outQ3, outQ4, outQ5, evN_at, evB_at, evS_at, evLen_z1, evLen_z2, evBit_z, at_n, at_b, at_s, at_z, at_k, at_kb, kG, kQ, kQ1, List.map_cons, List.map_nil, List.cons_append, List.nil_append, decide_eq_true_eq, Bool.false_eq_true, GW3_scaled, ctF_scaled, GW3_next, ctF_next, GW3_grid, ctF_grid, GW3_root4, ctF_root4, GW3_rscaled, ctF_rscaled, GW3_rgrid, ctF_rgrid, GW3_rceil, ctF_rceil, GW3_rroot4, ctF_rroot4, GW3_dsign, ctF_dsign, GW3_drsign, ctF_drsign, GW3_drcmp, ctF_drcmp, GW3_drof, ctF_drof, GW3_drimul, ctF_drimul, GW3_driadd, ctF_driadd, GW3_driof, ctF_driof, GW3_rnof, ctF_rnof, GW3_drfloor, ctF_drfloor, g_sign, qsg_lt, h0, h1, h2, false_or, g_of, i01, z0, g_cmp, cmp_lt, cmp_gt, eq_true h5, hw, g_rscaled, h4, g_rroot, g_imul, evBit_y, evLst_y1, evLst_u0, f_nof1, at_r1, g_iof, i11, g_iadd, g_grid, h3, h6]
          · by_cases h6 : (((isq (scq b (2 * k)).floor.natAbs : Int) * (isq (scq b (2 * k)).floor.natAbs : Int) : Int) : Rat) < scq b (2 * k)
            · simp only [tr_rivsqrt, Tr.den, evAll, SA.ev, BE.ev, IE.ev, SE.ev, LE.ev, env0, extE_eq, pickO, op1, op2, op3, Nat.reduceLeDiff, Nat.reduceSub, Nat.reduceEqDiff, if_true, if_false, ite_true, ite_false, decide_true, decide_false, Bool.not_true, Bool.not_false, Nat.zero_le, Nat.sub_zero, List.getElem?_cons_zero, List.getElem?_cons_succ, List.getElem?_nil, cq0, cq1, cq2, cq3, cq4, cq5, cq6, cq7, cq8, cq9, cq10, cq12, cq16, outQ1, outQ2, outQ3, outQ4, outQ5, evN_at, evB_at, evS_at, evLen_z1, evLen_z2, evBit_z, at_n, at_b, at_s, at_z, at_k, at_kb, kG, kQ, kQ1, List.map_cons, List.map_nil, List.cons_append, List.nil_append, decide_eq_true_eq, Bool.false_eq_true, GW3_scaled, ctF_scaled, GW3_next, ctF_next, GW3_grid, ctF_grid, GW3_root4, ctF_root4, GW3_rscaled, ctF_rscaled, GW3_rgrid, ctF_rgrid, GW3_rceil, ctF_rceil, GW3_rroot4, ctF_rroot4, GW3_dsign, ctF_dsign, GW3_drsign, ctF_drsign, GW3_drcmp, ctF_drcmp, GW3_drof, ctF_drof, GW3_drimul, ctF_drimul, GW3_driadd, ctF_driadd, GW3_driof, ctF_driof, GW3_rnof, ctF_rnof, GW3_drfloor, ctF_drfloor, g_sign, qsg_lt, h0, h1, h2, false_or, g_of, i01, z0, g_cmp, cmp_lt, cmp_gt, h5, hw, g_rscaled, h4, g_rroot, g_imul, evBit_y, evLst_y1, evLst_u0, f_nof1, at_r1, g_iof, i11, g_iadd, g_grid, h3, eq_true h6]
            · simp only [tr_rivsqrt, Tr.den, evAll, SA.ev, BE.ev, IE.ev, SE.ev, LE.ev, env0, extE_eq, pickO, op1, op2, op3, Nat.reduceLeDiff, Nat.reduceSub, Nat.reduceEqDiff, if_true, if_false, ite_true, ite_false, decide_true, decide_false, Bool.not_true, Bool.not_false, Nat.zero_le, Nat.sub_zero, List.getElem?_cons_zero, List.getElem?_cons_succ, List.getElem?_nil, cq0, cq1, cq2, cq3, cq4, cq5, cq6, cq7, cq8, cq9, cq10, cq12, cq16, outQ1, outQ2, outQ3, outQ4, outQ5, evN_at, evB_at, evS_at, evLen_z1, evLen_z2, evBit_z, at_n, at_b, at_s, at_z, at_k, at_kb, kG, kQ, kQ1, List.map_cons, List.map_nil, List.cons_append, List.nil_append, decide_eq_true_eq, Bool.false_eq_true, GW3_scaled, ctF_scaled, GW3_next, ctF_next, GW3_grid, ctF_grid, GW3_root4, ctF_root4, GW3_rscaled, ctF_rscaled, GW3_rgrid, ctF_rgrid, GW3_rceil, ctF_rceil, GW3_rroot4, ctF_rroot4, GW3_dsign, ctF_dsign, GW3_drsign, ctF_drsign, GW3_drcmp, ctF_drcmp, GW3_drof, ctF_drof, GW3_drimul, ctF_drimul, GW3_driadd, ctF_driadd, GW3_driof, ctF_driof, GW3_rnof, ctF_rnof, GW3_drfloor, ctF_drfloor, g_sign, qsg_lt, h0, h1, h2, false_or, g_of, i01, z0, g_cmp, cmp_lt, cmp_gt, h5, hw, g_rscaled, h4, g_rroot, g_imul, evBit_y, evLst_y1, evLst_u0, f_nof1, at_r1, g_iof, i11, g_iadd, g_grid, h3, h6]
  · cases h
def ct_ivround : Ct := { args := [[.r, .r], [.n]], res := [[.r, .r], [.n]], F := cq g_ivround, L := 1000, A := 2, B := 91 }
theorem ctF_ivround : ct_ivround.F = cq g_ivround := rfl
theorem ok_ivround : ct_ivround.ok Tryz.prog 8 := ev_ivround.weaken (of_cq (g := g_ivround) ivround_den)
def ct_rivround : Ct := { args := [[.r, .r], [.n]], res := [[.r, .r], [.n]], F := cq g_ivround, L := 100, A := 2, B := 126 }
theorem ctF_rivround : ct_rivround.F = cq g_ivround := rfl
theorem ok_rivround : ct_rivround.ok Tryz.prog 9 := ev_rivround.weaken (of_cq (g := g_ivround) rivround_den)
def ct_ivsqrt : Ct := { args := [[.r, .r], [.n]], res := [[.r, .r], [.n]], F := cq g_ivsqrt, L := 1000, A := 2, B := 91 }
theorem ctF_ivsqrt : ct_ivsqrt.F = cq g_ivsqrt := rfl
theorem ok_ivsqrt : ct_ivsqrt.ok Tryz.prog 10 := ev_ivsqrt.weaken (of_cq (g := g_ivsqrt) ivsqrt_den)
def ct_rivsqrt : Ct := { args := [[.r, .r], [.n]], res := [[.r, .r], [.n]], F := cq g_ivsqrt, L := 100, A := 2, B := 138 }
theorem ctF_rivsqrt : ct_rivsqrt.F = cq g_ivsqrt := rfl
theorem ok_rivsqrt : ct_rivsqrt.ok Tryz.prog 11 := ev_rivsqrt.weaken (of_cq (g := g_ivsqrt) rivsqrt_den)
end Go.Proofs.YtifgdiejpglhfaaGreat
