/- Intervals, in numbers: the rest. -/
import Derived.Test.YtifgdiejpglhfaaIv4
namespace Go.Proofs.Ytifgdiejpglhfaa
open Go Go.RowKit Go.V
set_option linter.unusedSimpArgs false
set_option linter.unusedVariables false
set_option maxRecDepth 20000
def tr_ivdiv : Tr (List SA) := (.call 33 [(.n (.lit 1))] 14 (.call 30 [(.ob 14), (.ob 3)] 15 (.call 33 [(.n (.lit 1))] 27 (.call 30 [(.ob 27), (.ob 2)] 28 (.call 33 [(.n (.lit 0))] 30 (.call 25 [(.ob 2), (.ob 3), (.ob 30)] 31 (.br (.var 31) (.leaf [(.r (.lit false) .nil .nil), (.r (.lit false) .nil .nil), (.n (.lit 3))]) (.br (.not (.eq (.var 16) (.lit 0))) (.leaf [(.r (.lit false) .nil .nil), (.r (.lit false) .nil .nil), (.n (.lit 3))]) (.br (.not (.eq (.var 29) (.lit 0))) (.leaf [(.r (.lit false) .nil .nil), (.r (.lit false) .nil .nil), (.n (.lit 3))]) (.call 21 [(.ob 0), (.ob 1), (.ob 15), (.ob 28)] 32 (.leaf [(.ob 32), (.ob 33), (.n (.lit 0))])))))))))))
theorem ev_ivdiv : Ct.ok Try.prog 29 { args := [[.r, .r], [.r, .r]], res := [[.r, .r], [.n]], F := fun als => tr_ivdiv.den GV1 (env0 als), L := 10000, A := 4, B := 28 } :=
  top_ok (by kernel_rfl) GV1_ok (plans := planF) (lf := 60) (k := 20) (by kernel_rfl)
def tr_ivsquare : Tr (List SA) := (.call 28 [(.ob 0), (.ob 0)] 16 (.call 28 [(.ob 1), (.ob 1)] 17 (.call 33 [(.n (.lit 0))] 18 (.call 25 [(.ob 0), (.ob 1), (.ob 18)] 19 (.br (.var 19) (.call 33 [(.n (.lit 0))] 27 (.call 38 [(.ob 17), (.ob 16)] 28 (.br (.lt (.lit 0) (.var 28)) (.leaf [(.ob 27), (.ob 17)]) (.leaf [(.ob 27), (.ob 16)])))) (.call 38 [(.ob 17), (.ob 16)] 30 (.br (.lt (.var 30) (.lit 0)) (.call 38 [(.ob 17), (.ob 16)] 31 (.br (.lt (.lit 0) (.var 31)) (.leaf [(.ob 17), (.ob 17)]) (.leaf [(.ob 17), (.ob 16)]))) (.call 38 [(.ob 17), (.ob 16)] 31 (.br (.lt (.lit 0) (.var 31)) (.leaf [(.ob 16), (.ob 17)]) (.leaf [(.ob 16), (.ob 16)]))))))))))
theorem ev_ivsquare : Ct.ok Try.prog 22 { args := [[.r, .r]], res := [[.r, .r]], F := fun als => tr_ivsquare.den GV1 (env0 als), L := 10000, A := 2, B := 4 } :=
  top_ok (by kernel_rfl) GV1_ok (plans := planF) (lf := 60) (k := 20) (by kernel_rfl)
theorem i01 : inI 0 = True := eq_true (by decide)
theorem i11 : inI 1 = True := eq_true (by decide)
theorem z0 : ((0 : Int) : Rat) = 0 := rfl
theorem z1 : ((1 : Int) : Rat) = 1 := rfl
theorem n30 : ((3 : Int) = 0) = False := eq_false (by decide)
theorem ivdiv_den (l r : List QA) (h : g_ivdiv l = some r) : tr_ivdiv.den GV1 (env0 (l.map QA.at)) = some (r.map QA.at) := by
  unfold g_ivdiv at h
  split at h
  · rename_i a b c d
    split at h
    · rename_i hcd
      injection h with h; subst h
      by_cases h1 : c ≤ 0 ∧ 0 ≤ d
      · by_cases hd : d = 0
        · by_cases hc : c = 0
          · simp only [tr_ivdiv, Tr.den, evAll, SA.ev, BE.ev, IE.ev, SE.ev, LE.ev, env0, extE_eq, pickO, op1, op2, op3, Nat.reduceLeDiff, Nat.reduceSub, Nat.reduceEqDiff, if_true, if_false, ite_true, ite_false, decide_true, decide_false, Bool.not_true, Bool.not_false, Nat.zero_le, Nat.sub_zero, List.getElem?_cons_zero, List.getElem?_cons_succ, List.getElem?_nil, cq0, cq1, cq2, cq3, cq4, cq5, cq6, cq7, cq8, cq9, cq10, cq12, cq16, outQ1, outQ2, outQ3, outQ4, outQ5, evN_at, evB_at, evS_at, evLen_z1, evLen_z2, evBit_z, at_n, at_b, at_s, at_z, at_k, at_kb, kG, kQ, kQ1, List.map_cons, List.map_nil, List.cons_append, List.nil_append, decide_eq_true_eq, Bool.false_eq_true, GV1_dadd, ctF_dadd, GV1_dsub, ctF_dsub, GV1_dmul, ctF_dmul, GV1_ddiv, ctF_ddiv, GV1_dcmp, ctF_dcmp, GV1_drcmp, ctF_drcmp, GV1_dof, ctF_dof, GV1_drof, ctF_drof, GV1_dsign, ctF_dsign, GV1_ivhas, ctF_ivhas, GV1_ivmul, ctF_ivmul, g_of, g_div, g_ivhas, i01, i11, z0, z1, n30, hd, hc, eq_true h1, and_self, Rat.le_refl, eq_self]
          · simp only [tr_ivdiv, Tr.den, evAll, SA.ev, BE.ev, IE.ev, SE.ev, LE.ev, env0, extE_eq, pickO, op1, op2, op3, Nat.reduceLeDiff, Nat.reduceSub, Nat.reduceEqDiff, if_true, if_false, ite_true, ite_false, decide_true, decide_false, Bool.not_true, Bool.not_false, Nat.zero_le, Nat.sub_zero, List.getElem?_cons_zero, List.getElem?_cons_succ, List.getElem?_nil, cq0, cq1, cq2, cq3, cq4, cq5, cq6, cq7, cq8, cq9, cq10, cq12, cq16, outQ1, outQ2, outQ3, outQ4, outQ5, evN_at, evB_at, evS_at, evLen_z1, evLen_z2, evBit_z, at_n, at_b, at_s, at_z, at_k, at_kb, kG, kQ, kQ1, List.map_cons, List.map_nil, List.cons_append, List.nil_append, decide_eq_true_eq, Bool.false_eq_true, GV1_dadd, ctF_dadd, GV1_dsub, ctF_dsub, GV1_dmul, ctF_dmul, GV1_ddiv, ctF_ddiv, GV1_dcmp, ctF_dcmp, GV1_drcmp, ctF_drcmp, GV1_dof, ctF_dof, GV1_drof, ctF_drof, GV1_dsign, ctF_dsign, GV1_ivhas, ctF_ivhas, GV1_ivmul, ctF_ivmul, g_of, g_div, g_ivhas, i01, i11, z0, z1, n30, hd, hc, eq_true h1, eq_true h1.1, Rat.le_refl, and_self]
        · by_cases hc : c = 0
          · simp only [tr_ivdiv, Tr.den, evAll, SA.ev, BE.ev, IE.ev, SE.ev, LE.ev, env0, extE_eq, pickO, op1, op2, op3, Nat.reduceLeDiff, Nat.reduceSub, Nat.reduceEqDiff, if_true, if_false, ite_true, ite_false, decide_true, decide_false, Bool.not_true, Bool.not_false, Nat.zero_le, Nat.sub_zero, List.getElem?_cons_zero, List.getElem?_cons_succ, List.getElem?_nil, cq0, cq1, cq2, cq3, cq4, cq5, cq6, cq7, cq8, cq9, cq10, cq12, cq16, outQ1, outQ2, outQ3, outQ4, outQ5, evN_at, evB_at, evS_at, evLen_z1, evLen_z2, evBit_z, at_n, at_b, at_s, at_z, at_k, at_kb, kG, kQ, kQ1, List.map_cons, List.map_nil, List.cons_append, List.nil_append, decide_eq_true_eq, Bool.false_eq_true, GV1_dadd, ctF_dadd, GV1_dsub, ctF_dsub, GV1_dmul, ctF_dmul, GV1_ddiv, ctF_ddiv, GV1_dcmp, ctF_dcmp, GV1_drcmp, ctF_drcmp, GV1_dof, ctF_dof, GV1_drof, ctF_drof, GV1_dsign, ctF_dsign, GV1_ivhas, ctF_ivhas, GV1_ivmul, ctF_ivmul, g_of, g_div, g_ivhas, i01, i11, z0, z1, n30, hd, hc, eq_true h1, eq_true h1.2, Rat.le_refl, and_self]
          · simp only [tr_ivdiv, Tr.den, evAll, SA.ev, BE.ev, IE.ev, SE.ev, LE.ev, env0, extE_eq, pickO, op1, op2, op3, Nat.reduceLeDiff, Nat.reduceSub, Nat.reduceEqDiff, if_true, if_false, ite_true, ite_false, decide_true, decide_false, Bool.not_true, Bool.not_false, Nat.zero_le, Nat.sub_zero, List.getElem?_cons_zero, List.getElem?_cons_succ, List.getElem?_nil, cq0, cq1, cq2, cq3, cq4, cq5, cq6, cq7, cq8, cq9, cq10, cq12, cq16, outQ1, outQ2, outQ3, outQ4, outQ5, evN_at, evB_at, evS_at, evLen_z1, evLen_z2, evBit_z, at_n, at_b, at_s, at_z, at_k, at_kb, kG, kQ, kQ1, List.map_cons, List.map_nil, List.cons_append, List.nil_append, decide_eq_true_eq, Bool.false_eq_true, GV1_dadd, ctF_dadd, GV1_dsub, ctF_dsub, GV1_dmul, ctF_dmul, GV1_ddiv, ctF_ddiv, GV1_dcmp, ctF_dcmp, GV1_drcmp, ctF_drcmp, GV1_dof, ctF_dof, GV1_drof, ctF_drof, GV1_dsign, ctF_dsign, GV1_ivhas, ctF_ivhas, GV1_ivmul, ctF_ivmul, g_of, g_div, g_ivhas, i01, i11, z0, z1, n30, hd, hc, eq_true h1]
      · have hc : ¬ c = 0 := by grind
        have hd : ¬ d = 0 := by grind
        simp only [tr_ivdiv, Tr.den, evAll, SA.ev, BE.ev, IE.ev, SE.ev, LE.ev, env0, extE_eq, pickO, op1, op2, op3, Nat.reduceLeDiff, Nat.reduceSub, Nat.reduceEqDiff, if_true, if_false, ite_true, ite_false, decide_true, decide_false, Bool.not_true, Bool.not_false, Nat.zero_le, Nat.sub_zero, List.getElem?_cons_zero, List.getElem?_cons_succ, List.getElem?_nil, cq0, cq1, cq2, cq3, cq4, cq5, cq6, cq7, cq8, cq9, cq10, cq12, cq16, outQ1, outQ2, outQ3, outQ4, outQ5, evN_at, evB_at, evS_at, evLen_z1, evLen_z2, evBit_z, at_n, at_b, at_s, at_z, at_k, at_kb, kG, kQ, kQ1, List.map_cons, List.map_nil, List.cons_append, List.nil_append, decide_eq_true_eq, Bool.false_eq_true, GV1_dadd, ctF_dadd, GV1_dsub, ctF_dsub, GV1_dmul, ctF_dmul, GV1_ddiv, ctF_ddiv, GV1_dcmp, ctF_dcmp, GV1_drcmp, ctF_drcmp, GV1_dof, ctF_dof, GV1_drof, ctF_drof, GV1_dsign, ctF_dsign, GV1_ivhas, ctF_ivhas, GV1_ivmul, ctF_ivmul, g_of, g_div, g_ivhas, g_ivmul, i01, i11, z0, z1, n30, hd, hc, h1, eq_self]
    · cases h
  · cases h
def ct_ivdiv : Ct := { args := [[.r, .r], [.r, .r]], res := [[.r, .r], [.n]], F := cq g_ivdiv, L := 10000, A := 4, B := 28 }
theorem ctF_ivdiv : ct_ivdiv.F = cq g_ivdiv := rfl
theorem ok_ivdiv : ct_ivdiv.ok Try.prog 29 := ev_ivdiv.weaken (of_cq (g := g_ivdiv) ivdiv_den)
def g_ivsq : List QA → Option (List QA)
  | [.q a, .q b] => some [.q (sq1 a b), .q (sq2 a b)]
  | _ => none
theorem ivsquare_den (l r : List QA) (h : g_ivsq l = some r) : tr_ivsquare.den GV1 (env0 (l.map QA.at)) = some (r.map QA.at) := by
  unfold g_ivsq at h
  split at h
  · rename_i a b
    injection h with h; subst h
    by_cases h1 : a ≤ 0 ∧ 0 ≤ b
    · by_cases h2 : a * a < b * b <;> by_cases h3 : b * b < a * a <;> simp only [tr_ivsquare, Tr.den, evAll, SA.ev, BE.ev, IE.ev, SE.ev, LE.ev, env0, extE_eq, pickO, op1, op2, op3, Nat.reduceLeDiff, Nat.reduceSub, Nat.reduceEqDiff, if_true, if_false, ite_true, ite_false, decide_true, decide_false, Bool.not_true, Bool.not_false, Nat.zero_le, Nat.sub_zero, List.getElem?_cons_zero, List.getElem?_cons_succ, List.getElem?_nil, cq0, cq1, cq2, cq3, cq4, cq5, cq6, cq7, cq8, cq9, cq10, cq12, cq16, outQ1, outQ2, outQ3, outQ4, outQ5, evN_at, evB_at, evS_at, evLen_z1, evLen_z2, evBit_z, at_n, at_b, at_s, at_z, at_k, at_kb, kG, kQ, kQ1, List.map_cons, List.map_nil, List.cons_append, List.nil_append, decide_eq_true_eq, Bool.false_eq_true, GV1_dadd, ctF_dadd, GV1_dsub, ctF_dsub, GV1_dmul, ctF_dmul, GV1_ddiv, ctF_ddiv, GV1_dcmp, ctF_dcmp, GV1_drcmp, ctF_drcmp, GV1_dof, ctF_dof, GV1_drof, ctF_drof, GV1_dsign, ctF_dsign, GV1_ivhas, ctF_ivhas, GV1_ivmul, ctF_ivmul, g_of, g_mul, g_ivhas, g_cmp, cmp_lt, cmp_gt, i01, z0, sq1, sq2, rmin, rmax, eq_true h1, h2, h3]
    · by_cases h2 : a * a < b * b <;> by_cases h3 : b * b < a * a <;> simp only [tr_ivsquare, Tr.den, evAll, SA.ev, BE.ev, IE.ev, SE.ev, LE.ev, env0, extE_eq, pickO, op1, op2, op3, Nat.reduceLeDiff, Nat.reduceSub, Nat.reduceEqDiff, if_true, if_false, ite_true, ite_false, decide_true, decide_false, Bool.not_true, Bool.not_false, Nat.zero_le, Nat.sub_zero, List.getElem?_cons_zero, List.getElem?_cons_succ, List.getElem?_nil, cq0, cq1, cq2, cq3, cq4, cq5, cq6, cq7, cq8, cq9, cq10, cq12, cq16, outQ1, outQ2, outQ3, outQ4, outQ5, evN_at, evB_at, evS_at, evLen_z1, evLen_z2, evBit_z, at_n, at_b, at_s, at_z, at_k, at_kb, kG, kQ, kQ1, List.map_cons, List.map_nil, List.cons_append, List.nil_append, decide_eq_true_eq, Bool.false_eq_true, GV1_dadd, ctF_dadd, GV1_dsub, ctF_dsub, GV1_dmul, ctF_dmul, GV1_ddiv, ctF_ddiv, GV1_dcmp, ctF_dcmp, GV1_drcmp, ctF_drcmp, GV1_dof, ctF_dof, GV1_drof, ctF_drof, GV1_dsign, ctF_dsign, GV1_ivhas, ctF_ivhas, GV1_ivmul, ctF_ivmul, g_of, g_mul, g_ivhas, g_cmp, cmp_lt, cmp_gt, i01, z0, sq1, sq2, rmin, rmax, h1, h2, h3]
  · cases h
def ct_ivsquare : Ct := { args := [[.r, .r]], res := [[.r, .r]], F := cq g_ivsq, L := 10000, A := 2, B := 4 }
theorem ctF_ivsquare : ct_ivsquare.F = cq g_ivsq := rfl
theorem ok_ivsquare : ct_ivsquare.ok Try.prog 22 := ev_ivsquare.weaken (of_cq (g := g_ivsq) ivsquare_den)
theorem scaled_den (l r : List QA) (h : g_scaled l = some r) : tr_scaled.den GW1 (env0 (l.map QA.at)) = some (r.map QA.at) := by
  unfold g_scaled at h
  split at h
  · split at h
    · rename_i x k h0
      injection h with h; subst h
      have hd : ¬ (x.den : Int) = 0 := by have := x.den_nz; omega
      have e1 := qq_floor x (tw k)
      have e2 := rr_floor x (tw k)
      rw [← scq] at e1 e2
      by_cases h1 : ((scq x k).floor : Rat) = scq x k
      · have h2 := e2.mpr h1
        simp only [tr_scaled, Tr.den, evAll, SA.ev, BE.ev, IE.ev, SE.ev, LE.ev, env0, extE_eq, pickO, op1, op2, op3, Nat.reduceLeDiff, Nat.reduceSub, Nat.reduceEqDiff, if_true, if_false, ite_true, ite_false, decide_true, decide_false, Bool.not_true, Bool.not_false, Nat.zero_le, Nat.sub_zero, List.getElem?_cons_zero, List.getElem?_cons_succ, List.getElem?_nil, cq0, cq1, cq2, cq3, cq4, cq5, cq6, cq7, cq8, cq9, cq10, cq12, cq16, outQ1, outQ2, outQ3, outQ4, outQ5, evN_at, evB_at, evS_at, evLen_z1, evLen_z2, evBit_z, at_n, at_b, at_s, at_z, at_k, at_kb, kG, kQ, kQ1, List.map_cons, List.map_nil, List.cons_append, List.nil_append, decide_eq_true_eq, Bool.false_eq_true, GW1_power, ctF_power, GW1_dimul, ctF_dimul, GW1_didivm, ctF_didivm, GW1_disign, ctF_disign, GW1_diadd, ctF_diadd, GW1_diof, ctF_diof, GW1_dmake, ctF_dmake, GW1_dnsqrt, ctF_dnsqrt, GW1_rnof, ctF_rnof, GW1_drmake, ctF_drmake, GW1_drineg, ctF_drineg, GW1_drimul, ctF_drimul, GW1_driof, ctF_driof, GW1_dsign, ctF_dsign, GW1_dcmp, ctF_dcmp, GW1_drcmp, ctF_drcmp, GW1_drof, ctF_drof, evBit_q, evLst_q1, evLst_q2, at_y, at_yF, g_pow, g_imul, g_idivm, g_isign, ee, hd, eq_true h0, e1, h2, sg, eq_true h1, eq_self]
      · have h2 : ¬ rr (x.num * (tw k : Int)) (x.den : Int) = 0 := fun h => h1 (e2.mp h)
        simp only [tr_scaled, Tr.den, evAll, SA.ev, BE.ev, IE.ev, SE.ev, LE.ev, env0, extE_eq, pickO, op1, op2, op3, Nat.reduceLeDiff, Nat.reduceSub, Nat.reduceEqDiff, if_true, if_false, ite_true, ite_false, decide_true, decide_false, Bool.not_true, Bool.not_false, Nat.zero_le, Nat.sub_zero, List.getElem?_cons_zero, List.getElem?_cons_succ, List.getElem?_nil, cq0, cq1, cq2, cq3, cq4, cq5, cq6, cq7, cq8, cq9, cq10, cq12, cq16, outQ1, outQ2, outQ3, outQ4, outQ5, evN_at, evB_at, evS_at, evLen_z1, evLen_z2, evBit_z, at_n, at_b, at_s, at_z, at_k, at_kb, kG, kQ, kQ1, List.map_cons, List.map_nil, List.cons_append, List.nil_append, decide_eq_true_eq, Bool.false_eq_true, GW1_power, ctF_power, GW1_dimul, ctF_dimul, GW1_didivm, ctF_didivm, GW1_disign, ctF_disign, GW1_diadd, ctF_diadd, GW1_diof, ctF_diof, GW1_dmake, ctF_dmake, GW1_dnsqrt, ctF_dnsqrt, GW1_rnof, ctF_rnof, GW1_drmake, ctF_drmake, GW1_drineg, ctF_drineg, GW1_drimul, ctF_drimul, GW1_driof, ctF_driof, GW1_dsign, ctF_dsign, GW1_dcmp, ctF_dcmp, GW1_drcmp, ctF_drcmp, GW1_drof, ctF_drof, evBit_q, evLst_q1, evLst_q2, at_y, at_yF, g_pow, g_imul, g_idivm, g_isign, ee, hd, eq_true h0, e1, sg_0i, h2, h1, eq_self]
    · cases h
  · cases h
def ct_scaled : Ct := { args := [[.r], [.n]], res := [[.y], [.b]], F := cq g_scaled, L := 1000, A := 2, B := 55 }
theorem ctF_scaled : ct_scaled.F = cq g_scaled := rfl
theorem ok_scaled : ct_scaled.ok Try.prog 48 := ev_scaled.weaken (of_cq (g := g_scaled) scaled_den)
end Go.Proofs.Ytifgdiejpglhfaa
