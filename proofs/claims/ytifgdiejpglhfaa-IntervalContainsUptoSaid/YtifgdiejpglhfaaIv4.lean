/- Intervals, in numbers: rounding. -/
import Derived.Test.YtifgdiejpglhfaaIvH
import Derived.Test.YtifgdiejpglhfaaQb1
import Derived.Test.YtifgdiejpglhfaaIvP
namespace Go.Proofs.Ytifgdiejpglhfaa
open Go Go.RowKit Go.V
set_option linter.unusedSimpArgs false
set_option linter.unusedVariables false
set_option maxRecDepth 20000
def g_pow : List QA → Option (List QA)
  | [.n k] => if 0 ≤ k ∧ k ≤ 400 then some [.y (tw k)] else none
  | _ => none
def g_scaled : List QA → Option (List QA)
  | [.q x, .n k] => if 0 ≤ k ∧ k ≤ 400 then some [.y (scq x k).floor, .b (!decide (((scq x k).floor : Rat) = scq x k))] else none
  | _ => none
def g_rscaled : List QA → Option (List QA)
  | [.q x, .n k] => if 0 ≤ k ∧ k ≤ 400 then some [.q (scq x k)] else none
  | _ => none
def g_next : List QA → Option (List QA)
  | [.y n, .b u] => some [.y (if u then n + 1 else n)]
  | _ => none
def g_grid : List QA → Option (List QA)
  | [.y n, .n k] => if 0 ≤ k ∧ k ≤ 400 then some [.q ((n : Rat) / ((tw k : Int) : Rat))] else none
  | _ => none
def g_ceil : List QA → Option (List QA)
  | [.q x] => some [.y (ceilq x)]
  | _ => none
def g_rroot : List QA → Option (List QA)
  | [.q x] => some [.y (isq x.floor.natAbs)]
  | _ => none
def g_root4 : List QA → Option (List QA)
  | [.q x, .n k] => if 0 ≤ k ∧ k ≤ 200 then some [.y (rtl x k), .b (rtu x k)] else none
  | _ => none
def GW0 : Gam := gamOf [(56, ct_dimul), (78, ct_didivm), (61, ct_disign), (79, ct_diadd), (62, ct_diof), (59, ct_dmake), (101, ct_dshift), (86, ct_dnsqrt), (45, ct_rnof), (66, ct_drmake), (92, ct_drineg), (72, ct_drimul), (65, ct_driof), (32, ct_dsign), (38, ct_dcmp), (39, ct_drcmp), (35, ct_drof)]
theorem GW0_ok : GamOk Try.prog GW0 := gamOk_of ⟨ok_dimul, ok_didivm, ok_disign, ok_diadd, ok_diof, ok_dmake, ok_dshift, ok_dnsqrt, ok_rnof, ok_drmake, ok_drineg, ok_drimul, ok_driof, ok_dsign, ok_dcmp, ok_drcmp, ok_drof, trivial⟩
theorem GW0_dimul : GW0 56 = some ct_dimul := rfl
theorem GW0_didivm : GW0 78 = some ct_didivm := rfl
theorem GW0_disign : GW0 61 = some ct_disign := rfl
theorem GW0_diadd : GW0 79 = some ct_diadd := rfl
theorem GW0_diof : GW0 62 = some ct_diof := rfl
theorem GW0_dmake : GW0 59 = some ct_dmake := rfl
theorem GW0_dshift : GW0 101 = some ct_dshift := rfl
theorem GW0_dnsqrt : GW0 86 = some ct_dnsqrt := rfl
theorem GW0_rnof : GW0 45 = some ct_rnof := rfl
theorem GW0_drmake : GW0 66 = some ct_drmake := rfl
theorem GW0_drineg : GW0 92 = some ct_drineg := rfl
theorem GW0_drimul : GW0 72 = some ct_drimul := rfl
theorem GW0_driof : GW0 65 = some ct_driof := rfl
theorem GW0_dsign : GW0 32 = some ct_dsign := rfl
theorem GW0_dcmp : GW0 38 = some ct_dcmp := rfl
theorem GW0_drcmp : GW0 39 = some ct_drcmp := rfl
theorem GW0_drof : GW0 35 = some ct_drof := rfl
def tr_power : Tr (List SA) := (.obj [1] 1 (.call 101 [(.u (.var 1 0)), (.n (.var 0))] 2 (.leaf [(.y (.lit false) (.var 2 0))])))
theorem ev_power : Ct.ok Try.prog 77 { args := [[.n]], res := [[.y]], F := fun als => tr_power.den GW0 (env0 als), L := 1000, A := 0, B := 27 } :=
  top_ok (by kernel_rfl) GW0_ok (plans := planF) (lf := 60) (k := 20) (by kernel_rfl)
theorem wrap2 {k : Int} (h : 0 ≤ k ∧ k ≤ 200) : IntKind.i64.wrap (2 * k) = 2 * k := IntWalk.i64_in _ (by omega)
theorem power_den (l r : List QA) (h : g_pow l = some r) : tr_power.den GW0 (env0 (l.map QA.at)) = some (r.map QA.at) := by
  unfold g_pow at h
  split at h
  · split at h
    · rename_i k h0
      injection h with h; subst h
      simp only [tr_power, Tr.den, evAll, SA.ev, BE.ev, IE.ev, SE.ev, LE.ev, env0, extE_eq, pickO, op1, op2, op3, Nat.reduceLeDiff, Nat.reduceSub, Nat.reduceEqDiff, if_true, if_false, ite_true, ite_false, decide_true, decide_false, Bool.not_true, Bool.not_false, Nat.zero_le, Nat.sub_zero, List.getElem?_cons_zero, List.getElem?_cons_succ, List.getElem?_nil, cq0, cq1, cq2, cq3, cq4, cq5, cq6, cq7, cq8, cq9, cq10, cq12, cq16, outQ1, outQ2, outQ3, outQ4, outQ5, evN_at, evB_at, evS_at, evLen_z1, evLen_z2, evBit_z, at_n, at_b, at_s, at_z, at_k, at_kb, kG, kQ, kQ1, List.map_cons, List.map_nil, List.cons_append, List.nil_append, decide_eq_true_eq, Bool.false_eq_true, GW0_dimul, ctF_dimul, GW0_didivm, ctF_didivm, GW0_disign, ctF_disign, GW0_diadd, ctF_diadd, GW0_diof, ctF_diof, GW0_dmake, ctF_dmake, GW0_dshift, ctF_dshift, GW0_dnsqrt, ctF_dnsqrt, GW0_rnof, ctF_rnof, GW0_drmake, ctF_drmake, GW0_drineg, ctF_drineg, GW0_drimul, ctF_drimul, GW0_driof, ctF_driof, GW0_dsign, ctF_dsign, GW0_dcmp, ctF_dcmp, GW0_drcmp, ctF_drcmp, GW0_drof, ctF_drof, at_u1, at_u, g_shift, eq_true h0.1, eq_true h0.2, and_self, evLst_u0, at_yF, Nat.one_mul, tw]
    · cases h
  · cases h
def ct_power : Ct := { args := [[.n]], res := [[.y]], F := cq g_pow, L := 1000, A := 0, B := 27 }
theorem ctF_power : ct_power.F = cq g_pow := rfl
theorem ok_power : ct_power.ok Try.prog 77 := ev_power.weaken (of_cq (g := g_pow) power_den)
def GW1 : Gam := gamOf [(77, ct_power), (56, ct_dimul), (78, ct_didivm), (61, ct_disign), (79, ct_diadd), (62, ct_diof), (59, ct_dmake), (86, ct_dnsqrt), (45, ct_rnof), (66, ct_drmake), (92, ct_drineg), (72, ct_drimul), (65, ct_driof), (32, ct_dsign), (38, ct_dcmp), (39, ct_drcmp), (35, ct_drof)]
theorem GW1_ok : GamOk Try.prog GW1 := gamOk_of ⟨ok_power, ok_dimul, ok_didivm, ok_disign, ok_diadd, ok_diof, ok_dmake, ok_dnsqrt, ok_rnof, ok_drmake, ok_drineg, ok_drimul, ok_driof, ok_dsign, ok_dcmp, ok_drcmp, ok_drof, trivial⟩
theorem GW1_power : GW1 77 = some ct_power := rfl
theorem GW1_dimul : GW1 56 = some ct_dimul := rfl
theorem GW1_didivm : GW1 78 = some ct_didivm := rfl
theorem GW1_disign : GW1 61 = some ct_disign := rfl
theorem GW1_diadd : GW1 79 = some ct_diadd := rfl
theorem GW1_diof : GW1 62 = some ct_diof := rfl
theorem GW1_dmake : GW1 59 = some ct_dmake := rfl
theorem GW1_dnsqrt : GW1 86 = some ct_dnsqrt := rfl
theorem GW1_rnof : GW1 45 = some ct_rnof := rfl
theorem GW1_drmake : GW1 66 = some ct_drmake := rfl
theorem GW1_drineg : GW1 92 = some ct_drineg := rfl
theorem GW1_drimul : GW1 72 = some ct_drimul := rfl
theorem GW1_driof : GW1 65 = some ct_driof := rfl
theorem GW1_dsign : GW1 32 = some ct_dsign := rfl
theorem GW1_dcmp : GW1 38 = some ct_dcmp := rfl
theorem GW1_drcmp : GW1 39 = some ct_drcmp := rfl
theorem GW1_drof : GW1 35 = some ct_drof := rfl
def tr_scaled : Tr (List SA) := (.call 77 [(.n (.var 1))] 9 (.call 56 [(.y (.bit 0) (.var 0 1)), (.ob 9)] 10 (.call 78 [(.ob 10), (.y (.lit false) (.var 0 2))] 11 (.br (.eq (.var 13) (.lit 0)) (.call 61 [(.ob 12)] 14 (.leaf [(.ob 11), (.b (.not (.eq (.var 14) (.lit 0))))])) (.leaf [(.ob 11), (.b (.lit false))])))))
theorem ev_scaled : Ct.ok Try.prog 48 { args := [[.r], [.n]], res := [[.y], [.b]], F := fun als => tr_scaled.den GW1 (env0 als), L := 1000, A := 2, B := 55 } :=
  top_ok (by kernel_rfl) GW1_ok (plans := planF) (lf := 60) (k := 20) (by kernel_rfl)
def tr_next : Tr (List SA) := (.br (.var 1) (.call 62 [(.n (.lit 1))] 2 (.call 79 [(.ob 0), (.ob 2)] 3 (.leaf [(.ob 3)]))) (.leaf [(.ob 0)]))
theorem ev_next : Ct.ok Try.prog 50 { args := [[.y], [.b]], res := [[.y]], F := fun als => tr_next.den GW1 (env0 als), L := 20000, A := 1, B := 5 } :=
  top_ok (by kernel_rfl) GW1_ok (plans := planF) (lf := 60) (k := 20) (by kernel_rfl)
def tr_grid : Tr (List SA) := (.call 77 [(.n (.var 1))] 12 (.call 59 [(.ob 0), (.ob 12)] 13 (.leaf [(.ob 13)])))
theorem ev_grid : Ct.ok Try.prog 49 { args := [[.y], [.n]], res := [[.r]], F := fun als => tr_grid.den GW1 (env0 als), L := 20000, A := 1, B := 31 } :=
  top_ok (by kernel_rfl) GW1_ok (plans := planF) (lf := 60) (k := 20) (by kernel_rfl)
end Go.Proofs.Ytifgdiejpglhfaa
