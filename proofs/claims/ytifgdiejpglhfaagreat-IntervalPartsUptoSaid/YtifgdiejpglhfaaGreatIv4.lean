/- Intervals, in numbers: rounding. -/
import Derived.Test.YtifgdiejpglhfaaGreatIvH
import Derived.Test.YtifgdiejpglhfaaGreatQb1
import Derived.Test.YtifgdiejpglhfaaGreatIvP
namespace Go.Proofs.YtifgdiejpglhfaaGreat
open Go Go.RowKit Go.V
set_option linter.unusedSimpArgs false
set_option linter.unusedVariables false
set_option maxRecDepth 20000
def g_pow : List QA → Option (List QA)
  | [.n k] => if 0 ≤ k ∧ k ≤ 400 then some [.y (tw k)] else none
  | _ => none
def g_scaled : List QA → Option (List QA)
  | [.q x, .n k] => if 0 ≤ k ∧ k ≤ 400 then some [.y (scq x k).floor, .b (!decide (((scq x k).floor : Rat) = scq x k))] else none
  | _ => none
def g_rscaled : List QA → Option (List QA)
  | [.q x, .n k] => if 0 ≤ k ∧ k ≤ 400 then some [.q (scq x k)] else none
  | _ => none
def g_next : List QA → Option (List QA)
  | [.y n, .b u] => some [.y (if u then n + 1 else n)]
  | _ => none
def g_grid : List QA → Option (List QA)
  | [.y n, .n k] => if 0 ≤ k ∧ k ≤ 400 then some [.q ((n : Rat) / ((tw k : Int) : Rat))] else none
  | _ => none
def g_ceil : List QA → Option (List QA)
  | [.q x] => some [.y (ceilq x)]
  | _ => none
def g_rroot : List QA → Option (List QA)
  | [.q x] => some [.y (isq x.floor.natAbs)]
  | _ => none
def g_root4 : List QA → Option (List QA)
  | [.q x, .n k] => if 0 ≤ k ∧ k ≤ 200 then some [.y (rtl x k), .b (rtu x k)] else none
  | _ => none
def GW0 : Gam := gamOf [(81, ct_dimul), (83, ct_didivm), (84, ct_disign), (86, ct_diadd), (77, ct_diof), (85, ct_dmake), (116, ct_dshift), (94, ct_dnsqrt), (122, ct_drshift), (54, ct_rnof), (75, ct_drmul), (80, ct_drmake), (96, ct_drsqrt1), (44, ct_drfloor), (92, ct_drneg), (91, ct_drineg), (53, ct_drimul), (55, ct_driadd), (56, ct_driof), (47, ct_dsign), (49, ct_drsign), (64, ct_dcmp), (52, ct_drcmp), (38, ct_drof)]
theorem GW0_ok : GamOk Tryz.prog GW0 := gamOk_of ⟨ok_dimul, ok_didivm, ok_disign, ok_diadd, ok_diof, ok_dmake, ok_dshift, ok_dnsqrt, ok_drshift, ok_rnof, ok_drmul, ok_drmake, ok_drsqrt1, ok_drfloor, ok_drneg, ok_drineg, ok_drimul, ok_driadd, ok_driof, ok_dsign, ok_drsign, ok_dcmp, ok_drcmp, ok_drof, trivial⟩
theorem GW0_dimul : GW0 81 = some ct_dimul := rfl
theorem GW0_didivm : GW0 83 = some ct_didivm := rfl
theorem GW0_disign : GW0 84 = some ct_disign := rfl
theorem GW0_diadd : GW0 86 = some ct_diadd := rfl
theorem GW0_diof : GW0 77 = some ct_diof := rfl
theorem GW0_dmake : GW0 85 = some ct_dmake := rfl
theorem GW0_dshift : GW0 116 = some ct_dshift := rfl
theorem GW0_dnsqrt : GW0 94 = some ct_dnsqrt := rfl
theorem GW0_drshift : GW0 122 = some ct_drshift := rfl
theorem GW0_rnof : GW0 54 = some ct_rnof := rfl
theorem GW0_drmul : GW0 75 = some ct_drmul := rfl
theorem GW0_drmake : GW0 80 = some ct_drmake := rfl
theorem GW0_drsqrt1 : GW0 96 = some ct_drsqrt1 := rfl
theorem GW0_drfloor : GW0 44 = some ct_drfloor := rfl
theorem GW0_drneg : GW0 92 = some ct_drneg := rfl
theorem GW0_drineg : GW0 91 = some ct_drineg := rfl
theorem GW0_drimul : GW0 53 = some ct_drimul := rfl
theorem GW0_driadd : GW0 55 = some ct_driadd := rfl
theorem GW0_driof : GW0 56 = some ct_driof := rfl
theorem GW0_dsign : GW0 47 = some ct_dsign := rfl
theorem GW0_drsign : GW0 49 = some ct_drsign := rfl
theorem GW0_dcmp : GW0 64 = some ct_dcmp := rfl
theorem GW0_drcmp : GW0 52 = some ct_drcmp := rfl
theorem GW0_drof : GW0 38 = some ct_drof := rfl
def tr_power : Tr (List SA) := (.obj [1] 1 (.call 116 [(.u (.var 1 0)), (.n (.var 0))] 2 (.leaf [(.y (.lit false) (.var 2 0))])))
theorem ev_power : Ct.ok Tryz.prog 82 { args := [[.n]], res := [[.y]], F := fun als => tr_power.den GW0 (env0 als), L := 1000, A := 0, B := 27 } :=
  top_ok (by kernel_rfl) GW0_ok (plans := planF) (lf := 60) (k := 20) (by kernel_rfl)
def tr_unitb : Tr (List SA) := (.call 54 [(.w 1)] 1 (.call 122 [(.u (.var 1 0)), (.n (.var 0))] 2 (.leaf [(.y (.lit false) (.var 2 0))])))
theorem ev_unitb : Ct.ok Tryz.prog 87 { args := [[.n]], res := [[.y]], F := fun als => tr_unitb.den GW0 (env0 als), L := 1000, A := 0, B := 30 } :=
  top_ok (by kernel_rfl) GW0_ok (plans := planF) (lf := 60) (k := 20) (by kernel_rfl)
theorem wrap2 {k : Int} (h : 0 ≤ k ∧ k ≤ 200) : IntKind.i64.wrap (2 * k) = 2 * k := IntWalk.i64_in _ (by omega)
theorem power_den (l r : List QA) (h : g_pow l = some r) : tr_power.den GW0 (env0 (l.map QA.at)) = some (r.map QA.at) := by
  unfold g_pow at h
  split at h
  · split at h
    · rename_i k h0
      injection h with h; subst h
      simp only [tr_power, Tr.den, evAll, SA.ev, BE.ev, IE.ev, SE.ev, LE.ev, env0, extE_eq, pickO, op1, op2, op3, Nat.reduceLeDiff, Nat.reduceSub, Nat.reduceEqDiff, if_true, if_false, ite_true, ite_false, decide_true, decide_false, Bool.not_true, Bool.not_false, Nat.zero_le, Nat.sub_zero, List.getElem?_cons_zero, List.getElem?_cons_succ, List.getElem?_nil, cq0, cq1, cq2, cq3, cq4, cq5, cq6, cq7, cq8, cq9, cq10, cq12, cq16, outQ1, outQ2, outQ3, outQ4, outQ5, evN_at, evB_at, evS_at, evLen_z1, evLen_z2, evBit_z, at_n, at_b, at_s, at_z, at_k, at_kb, kG, kQ, kQ1, List.map_cons, List.map_nil, List.cons_append, List.nil_append, decide_eq_true_eq, Bool.false_eq_true, GW0_dimul, ctF_dimul, GW0_didivm, ctF_didivm, GW0_disign, ctF_disign, GW0_diadd, ctF_diadd, GW0_diof, ctF_diof, GW0_dmake, ctF_dmake, GW0_dshift, ctF_dshift, GW0_dnsqrt, ctF_dnsqrt, GW0_drshift, ctF_drshift, GW0_rnof, ctF_rnof, GW0_drmul, ctF_drmul, GW0_drmake, ctF_drmake, GW0_drsqrt1, ctF_drsqrt1, GW0_drfloor, ctF_drfloor, GW0_drneg, ctF_drneg, GW0_drineg, ctF_drineg, GW0_drimul, ctF_drimul, GW0_driadd, ctF_driadd, GW0_driof, ctF_driof, GW0_dsign, ctF_dsign, GW0_drsign, ctF_drsign, GW0_dcmp, ctF_dcmp, GW0_drcmp, ctF_drcmp, GW0_drof, ctF_drof, at_u1, at_u, g_shift, eq_true h0.1, eq_true h0.2, and_self, evLst_u0, at_yF, Nat.one_mul, tw]
    · cases h
  · cases h
theorem unitb_den (l r : List QA) (h : g_pow l = some r) : tr_unitb.den GW0 (env0 (l.map QA.at)) = some (r.map QA.at) := by
  unfold g_pow at h
  split at h
  · split at h
    · rename_i k h0
      injection h with h; subst h
      simp only [tr_unitb, Tr.den, evAll, SA.ev, BE.ev, IE.ev, SE.ev, LE.ev, env0, extE_eq, pickO, op1, op2, op3, Nat.reduceLeDiff, Nat.reduceSub, Nat.reduceEqDiff, if_true, if_false, ite_true, ite_false, decide_true, decide_false, Bool.not_true, Bool.not_false, Nat.zero_le, Nat.sub_zero, List.getElem?_cons_zero, List.getElem?_cons_succ, List.getElem?_nil, cq0, cq1, cq2, cq3, cq4, cq5, cq6, cq7, cq8, cq9, cq10, cq12, cq16, outQ1, outQ2, outQ3, outQ4, outQ5, evN_at, evB_at, evS_at, evLen_z1, evLen_z2, evBit_z, at_n, at_b, at_s, at_z, at_k, at_kb, kG, kQ, kQ1, List.map_cons, List.map_nil, List.cons_append, List.nil_append, decide_eq_true_eq, Bool.false_eq_true, GW0_dimul, ctF_dimul, GW0_didivm, ctF_didivm, GW0_disign, ctF_disign, GW0_diadd, ctF_diadd, GW0_diof, ctF_diof, GW0_dmake, ctF_dmake, GW0_dshift, ctF_dshift, GW0_dnsqrt, ctF_dnsqrt, GW0_drshift, ctF_drshift, GW0_rnof, ctF_rnof, GW0_drmul, ctF_drmul, GW0_drmake, ctF_drmake, GW0_drsqrt1, ctF_drsqrt1, GW0_drfloor, ctF_drfloor, GW0_drneg, ctF_drneg, GW0_drineg, ctF_drineg, GW0_drimul, ctF_drimul, GW0_driadd, ctF_driadd, GW0_driof, ctF_driof, GW0_dsign, ctF_dsign, GW0_drsign, ctF_drsign, GW0_dcmp, ctF_dcmp, GW0_drcmp, ctF_drcmp, GW0_drof, ctF_drof, f_nof1, at_u, g_shift, eq_true h0.1, eq_true h0.2, and_self, evLst_u0, at_yF, Nat.one_mul, tw]
    · cases h
  · cases h
def ct_power : Ct := { args := [[.n]], res := [[.y]], F := cq g_pow, L := 1000, A := 0, B := 27 }
theorem ctF_power : ct_power.F = cq g_pow := rfl
theorem ok_power : ct_power.ok Tryz.prog 82 := ev_power.weaken (of_cq (g := g_pow) power_den)
def ct_unitb : Ct := { args := [[.n]], res := [[.y]], F := cq g_pow, L := 1000, A := 0, B := 30 }
theorem ctF_unitb : ct_unitb.F = cq g_pow := rfl
theorem ok_unitb : ct_unitb.ok Tryz.prog 87 := ev_unitb.weaken (of_cq (g := g_pow) unitb_den)
def GW1 : Gam := gamOf [(82, ct_power), (87, ct_unitb), (81, ct_dimul), (83, ct_didivm), (84, ct_disign), (86, ct_diadd), (77, ct_diof), (85, ct_dmake), (94, ct_dnsqrt), (54, ct_rnof), (75, ct_drmul), (80, ct_drmake), (96, ct_drsqrt1), (44, ct_drfloor), (92, ct_drneg), (91, ct_drineg), (53, ct_drimul), (55, ct_driadd), (56, ct_driof), (47, ct_dsign), (49, ct_drsign), (64, ct_dcmp), (52, ct_drcmp), (38, ct_drof)]
theorem GW1_ok : GamOk Tryz.prog GW1 := gamOk_of ⟨ok_power, ok_unitb, ok_dimul, ok_didivm, ok_disign, ok_diadd, ok_diof, ok_dmake, ok_dnsqrt, ok_rnof, ok_drmul, ok_drmake, ok_drsqrt1, ok_drfloor, ok_drneg, ok_drineg, ok_drimul, ok_driadd, ok_driof, ok_dsign, ok_drsign, ok_dcmp, ok_drcmp, ok_drof, trivial⟩
theorem GW1_power : GW1 82 = some ct_power := rfl
theorem GW1_unitb : GW1 87 = some ct_unitb := rfl
theorem GW1_dimul : GW1 81 = some ct_dimul := rfl
theorem GW1_didivm : GW1 83 = some ct_didivm := rfl
theorem GW1_disign : GW1 84 = some ct_disign := rfl
theorem GW1_diadd : GW1 86 = some ct_diadd := rfl
theorem GW1_diof : GW1 77 = some ct_diof := rfl
theorem GW1_dmake : GW1 85 = some ct_dmake := rfl
theorem GW1_dnsqrt : GW1 94 = some ct_dnsqrt := rfl
theorem GW1_rnof : GW1 54 = some ct_rnof := rfl
theorem GW1_drmul : GW1 75 = some ct_drmul := rfl
theorem GW1_drmake : GW1 80 = some ct_drmake := rfl
theorem GW1_drsqrt1 : GW1 96 = some ct_drsqrt1 := rfl
theorem GW1_drfloor : GW1 44 = some ct_drfloor := rfl
theorem GW1_drneg : GW1 92 = some ct_drneg := rfl
theorem GW1_drineg : GW1 91 = some ct_drineg := rfl
theorem GW1_drimul : GW1 53 = some ct_drimul := rfl
theorem GW1_driadd : GW1 55 = some ct_driadd := rfl
theorem GW1_driof : GW1 56 = some ct_driof := rfl
theorem GW1_dsign : GW1 47 = some ct_dsign := rfl
theorem GW1_drsign : GW1 49 = some ct_drsign := rfl
theorem GW1_dcmp : GW1 64 = some ct_dcmp := rfl
theorem GW1_drcmp : GW1 52 = some ct_drcmp := rfl
theorem GW1_drof : GW1 38 = some ct_drof := rfl
def tr_scaled : Tr (List SA) := (.call 82 [(.n (.var 1))] 9 (.call 81 [(.y (.bit 0) (.var 0 1)), (.ob 9)] 10 (.call 83 [(.ob 10), (.y (.lit false) (.var 0 2))] 11 (.br (.eq (.var 13) (.lit 0)) (.call 84 [(.ob 12)] 14 (.leaf [(.ob 11), (.b (.not (.eq (.var 14) (.lit 0))))])) (.leaf [(.ob 11), (.b (.lit false))])))))
theorem ev_scaled : Ct.ok Tryz.prog 40 { args := [[.r], [.n]], res := [[.y], [.b]], F := fun als => tr_scaled.den GW1 (env0 als), L := 1000, A := 2, B := 55 } :=
  top_ok (by kernel_rfl) GW1_ok (plans := planF) (lf := 60) (k := 20) (by kernel_rfl)
def tr_rscaled : Tr (List SA) := (.call 87 [(.n (.var 1))] 2 (.call 54 [(.w 1)] 3 (.call 75 [(.ob 0), (.r (.bit 2) (.var 2 1) (.var 3 0))] 4 (.leaf [(.ob 4)]))))
theorem ev_rscaled : Ct.ok Tryz.prog 45 { args := [[.r], [.n]], res := [[.r]], F := fun als => tr_rscaled.den GW1 (env0 als), L := 1000, A := 2, B := 80 } :=
  top_ok (by kernel_rfl) GW1_ok (plans := planF) (lf := 60) (k := 20) (by kernel_rfl)
def tr_next : Tr (List SA) := (.br (.var 1) (.call 77 [(.n (.lit 1))] 2 (.call 86 [(.ob 0), (.ob 2)] 3 (.leaf [(.ob 3)]))) (.leaf [(.ob 0)]))
theorem ev_next : Ct.ok Tryz.prog 42 { args := [[.y], [.b]], res := [[.y]], F := fun als => tr_next.den GW1 (env0 als), L := 20000, A := 1, B := 5 } :=
  top_ok (by kernel_rfl) GW1_ok (plans := planF) (lf := 60) (k := 20) (by kernel_rfl)
def tr_grid : Tr (List SA) := (.call 82 [(.n (.var 1))] 12 (.call 85 [(.ob 0), (.ob 12)] 13 (.leaf [(.ob 13)])))
theorem ev_grid : Ct.ok Tryz.prog 41 { args := [[.y], [.n]], res := [[.r]], F := fun als => tr_grid.den GW1 (env0 als), L := 20000, A := 1, B := 31 } :=
  top_ok (by kernel_rfl) GW1_ok (plans := planF) (lf := 60) (k := 20) (by kernel_rfl)
def tr_rgrid : Tr (List SA) := (.call 87 [(.n (.var 1))] 12 (.call 80 [(.ob 0), (.ob 12)] 13 (.leaf [(.ob 13)])))
theorem ev_rgrid : Ct.ok Tryz.prog 43 { args := [[.y], [.n]], res := [[.r]], F := fun als => tr_rgrid.den GW1 (env0 als), L := 20000, A := 1, B := 34 } :=
  top_ok (by kernel_rfl) GW1_ok (plans := planF) (lf := 60) (k := 20) (by kernel_rfl)
def tr_rceil : Tr (List SA) := (.call 92 [(.ob 0)] 1 (.call 44 [(.ob 1)] 2 (.call 91 [(.ob 2)] 3 (.leaf [(.ob 3)]))))
theorem ev_rceil : Ct.ok Tryz.prog 46 { args := [[.r]], res := [[.y]], F := fun als => tr_rceil.den GW1 (env0 als), L := 20000, A := 1, B := 12 } :=
  top_ok (by kernel_rfl) GW1_ok (plans := planF) (lf := 60) (k := 20) (by kernel_rfl)
def tr_rroot4 : Tr (List SA) := (.call 44 [(.ob 0)] 1 (.call 96 [(.u (.var 1 1))] 2 (.leaf [(.y (.lit false) (.var 2 0))])))
theorem ev_rroot4 : Ct.ok Tryz.prog 51 { args := [[.r]], res := [[.y]], F := fun als => tr_rroot4.den GW1 (env0 als), L := 20000, A := 1, B := 8 } :=
  top_ok (by kernel_rfl) GW1_ok (plans := planF) (lf := 60) (k := 20) (by kernel_rfl)
end Go.Proofs.YtifgdiejpglhfaaGreat
