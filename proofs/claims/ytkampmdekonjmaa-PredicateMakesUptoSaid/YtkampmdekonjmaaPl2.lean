/- Points: constructions. -/
import Derived.Test.YtkampmdekonjmaaPl1
namespace Go.Proofs.Ytkampmdekonjmaa
open Go Go.RowKit Go.V
set_option linter.unusedSimpArgs false
set_option linter.unusedVariables false
set_option maxRecDepth 20000
theorem sq_sum {x y : Rat} (h : x * x + y * y = 0) : x = 0 ∧ y = 0 := by
  have hs : ∀ z : Rat, 0 ≤ z * z := fun z => by
    rcases qtri z 0 with h | rfl | h
    · have h1 : 0 < -z := by grind
      have := Rat.mul_pos h1 h1
      grind
    · rw [Rat.zero_mul]; exact Rat.le_refl
    · exact Rat.le_of_lt (Rat.mul_pos h h)
  have h1 := hs x
  have h2 := hs y
  have hx : x * x = 0 := Rat.le_antisymm (by grind) h1
  have hy : y * y = 0 := Rat.le_antisymm (by grind) h2
  exact ⟨(Rat.mul_eq_zero.1 hx).elim id id, (Rat.mul_eq_zero.1 hy).elim id id⟩
theorem norm_ne {ax ay bx by' : Rat} (h : ¬ (ax = bx ∧ ay = by')) : ¬ (bx - ax) * (bx - ax) + (by' - ay) * (by' - ay) = 0 := fun e => by
  obtain ⟨h1, h2⟩ := sq_sum e
  exact h ⟨by grind, by grind⟩
theorem pnorm_ne {ax ay bx by' : Rat} (h : ¬ (ax = bx ∧ ay = by')) : ¬ pnorm ax ay bx by' = 0 := norm_ne h
theorem one_sq_ne (t : Rat) : ¬ 1 * 1 + t * t = 0 := fun e => by
  have := (sq_sum e).1
  exact absurd this (by decide)
theorem cast1 : ((1 : Int) : Rat) = 1 := rfl
theorem cast2 : ((2 : Int) : Rat) = 2 := rfl
theorem inI1 : inI 1 = True := eq_true (by decide)
theorem inI2 : inI 2 = True := eq_true (by decide)
def GP2 : Gam := gamOf [(83, ct_dadd), (77, ct_dradd), (55, ct_dsub), (80, ct_drsub), (51, ct_dmul), (78, ct_drmul), (79, ct_drneg), (52, ct_dof), (39, ct_drof), (24, ct_drfrac), (44, ct_dsign), (16, ct_drsign), (135, ct_dcmp), (120, ct_dequal), (30, ct_drright), (46, ct_vec), (42, ct_rvec), (57, ct_vdot), (53, ct_vcross), (54, ct_vsq), (41, ct_rvturn), (47, ct_vtimes), (45, ct_plus), (40, ct_along), (56, ct_pover), (87, ct_pequal), (113, ct_ppdot), (112, ct_ppcross), (114, ct_ppnorm)]
theorem GP2_ok : GamOk Try.prog GP2 := gamOk_of ⟨ok_dadd, ok_dradd, ok_dsub, ok_drsub, ok_dmul, ok_drmul, ok_drneg, ok_dof, ok_drof, ok_drfrac, ok_dsign, ok_drsign, ok_dcmp, ok_dequal, ok_drright, ok_vec, ok_rvec, ok_vdot, ok_vcross, ok_vsq, ok_rvturn, ok_vtimes, ok_plus, ok_along, ok_pover, ok_pequal, ok_ppdot, ok_ppcross, ok_ppnorm, trivial⟩
theorem GP2_dadd : GP2 83 = some ct_dadd := rfl
theorem GP2_dradd : GP2 77 = some ct_dradd := rfl
theorem GP2_dsub : GP2 55 = some ct_dsub := rfl
theorem GP2_drsub : GP2 80 = some ct_drsub := rfl
theorem GP2_dmul : GP2 51 = some ct_dmul := rfl
theorem GP2_drmul : GP2 78 = some ct_drmul := rfl
theorem GP2_drneg : GP2 79 = some ct_drneg := rfl
theorem GP2_dof : GP2 52 = some ct_dof := rfl
theorem GP2_drof : GP2 39 = some ct_drof := rfl
theorem GP2_drfrac : GP2 24 = some ct_drfrac := rfl
theorem GP2_dsign : GP2 44 = some ct_dsign := rfl
theorem GP2_drsign : GP2 16 = some ct_drsign := rfl
theorem GP2_dcmp : GP2 135 = some ct_dcmp := rfl
theorem GP2_dequal : GP2 120 = some ct_dequal := rfl
theorem GP2_drright : GP2 30 = some ct_drright := rfl
theorem GP2_vec : GP2 46 = some ct_vec := rfl
theorem GP2_rvec : GP2 42 = some ct_rvec := rfl
theorem GP2_vdot : GP2 57 = some ct_vdot := rfl
theorem GP2_vcross : GP2 53 = some ct_vcross := rfl
theorem GP2_vsq : GP2 54 = some ct_vsq := rfl
theorem GP2_rvturn : GP2 41 = some ct_rvturn := rfl
theorem GP2_vtimes : GP2 47 = some ct_vtimes := rfl
theorem GP2_plus : GP2 45 = some ct_plus := rfl
theorem GP2_along : GP2 40 = some ct_along := rfl
theorem GP2_pover : GP2 56 = some ct_pover := rfl
theorem GP2_pequal : GP2 87 = some ct_pequal := rfl
theorem GP2_ppdot : GP2 113 = some ct_ppdot := rfl
theorem GP2_ppcross : GP2 112 = some ct_ppcross := rfl
theorem GP2_ppnorm : GP2 114 = some ct_ppnorm := rfl
def tr_divide : Tr (List SA) := (.call 46 [(.ob 0), (.ob 1), (.ob 2), (.ob 3)] 5 (.call 47 [(.ob 5), (.ob 6), (.ob 4)] 7 (.call 45 [(.ob 0), (.ob 1), (.ob 7), (.ob 8)] 9 (.leaf [(.ob 9), (.ob 10)]))))
theorem ev_divide : Ct.ok Try.prog 23 { args := [[.r, .r], [.r, .r], [.r]], res := [[.r, .r]], F := fun als => tr_divide.den GP2 (env0 als), L := 100000, A := 8, B := 38 } :=
  top_ok (by kernel_rfl) GP2_ok (plans := planF) (lf := 60) (k := 20) (by kernel_rfl)
def tr_rdivide : Tr (List SA) := (.call 42 [(.ob 0), (.ob 1), (.ob 2), (.ob 3)] 5 (.call 40 [(.ob 0), (.ob 1), (.ob 4), (.ob 5), (.ob 6)] 7 (.leaf [(.ob 7), (.ob 8)])))
theorem ev_rdivide : Ct.ok Try.prog 19 { args := [[.r, .r], [.r, .r], [.r]], res := [[.r, .r]], F := fun als => tr_rdivide.den GP2 (env0 als), L := 100000, A := 8, B := 220 } :=
  top_ok (by kernel_rfl) GP2_ok (plans := planF) (lf := 60) (k := 20) (by kernel_rfl)
def tr_rturn : Tr (List SA) := (.call 39 [(.n (.lit 1))] 6 (.call 42 [(.ob 2), (.ob 3), (.ob 4), (.ob 5)] 7 (.call 41 [(.ob 7), (.ob 8)] 9 (.call 40 [(.ob 0), (.ob 1), (.ob 6), (.ob 9), (.ob 10)] 11 (.leaf [(.ob 11), (.ob 12)])))))
theorem ev_rturn : Ct.ok Try.prog 18 { args := [[.r, .r], [.r, .r], [.r, .r]], res := [[.r, .r]], F := fun als => tr_rturn.den GP2 (env0 als), L := 100000, A := 8, B := 236 } :=
  top_ok (by kernel_rfl) GP2_ok (plans := planF) (lf := 60) (k := 20) (by kernel_rfl)
def tr_oncircle : Tr (List SA) := (.call 52 [(.n (.lit 1))] 10 (.call 52 [(.n (.lit 2))] 23 (.call 46 [(.ob 2), (.ob 3), (.ob 0), (.ob 1)] 24 (.call 57 [(.ob 24), (.ob 25), (.ob 10), (.ob 4)] 26 (.call 51 [(.ob 23), (.ob 26)] 27 (.call 54 [(.ob 10), (.ob 4)] 28 (.call 56 [(.ob 27), (.ob 28)] 29 (.call 47 [(.ob 10), (.ob 4), (.ob 29)] 30 (.call 45 [(.ob 2), (.ob 3), (.ob 30), (.ob 31)] 32 (.leaf [(.ob 32), (.ob 33)]))))))))))
theorem ev_oncircle : Ct.ok Try.prog 27 { args := [[.r, .r], [.r, .r], [.r]], res := [[.r, .r]], F := fun als => tr_oncircle.den GP2 (env0 als), L := 10000, A := 128, B := 670 } :=
  top_ok (by kernel_rfl) GP2_ok (plans := planF) (lf := 60) (k := 20) (by kernel_rfl)
def tr_foot : Tr (List SA) := (.call 87 [(.ob 2), (.ob 3), (.ob 4), (.ob 5)] 6 (.br (.var 6) (.leaf [(.r (.lit false) .nil .nil), (.r (.lit false) .nil .nil), (.n (.lit 11))]) (.call 46 [(.ob 2), (.ob 3), (.ob 4), (.ob 5)] 7 (.call 46 [(.ob 2), (.ob 3), (.ob 0), (.ob 1)] 9 (.call 57 [(.ob 7), (.ob 8), (.ob 9), (.ob 10)] 11 (.call 54 [(.ob 7), (.ob 8)] 12 (.call 56 [(.ob 11), (.ob 12)] 13 (.call 47 [(.ob 7), (.ob 8), (.ob 13)] 14 (.call 45 [(.ob 2), (.ob 3), (.ob 14), (.ob 15)] 16 (.leaf [(.ob 16), (.ob 17), (.n (.lit 0))]))))))))))
theorem ev_foot : Ct.ok Try.prog 50 { args := [[.r, .r], [.r, .r], [.r, .r]], res := [[.r, .r], [.n]], F := fun als => tr_foot.den GP2 (env0 als), L := 10000, A := 64, B := 334 } :=
  top_ok (by kernel_rfl) GP2_ok (plans := planF) (lf := 60) (k := 20) (by kernel_rfl)
def tr_mirror : Tr (List SA) := (.call 87 [(.ob 2), (.ob 3), (.ob 4), (.ob 5)] 6 (.br (.var 6) (.leaf [(.r (.lit false) .nil .nil), (.r (.lit false) .nil .nil), (.n (.lit 11))]) (.call 46 [(.ob 2), (.ob 3), (.ob 4), (.ob 5)] 7 (.call 46 [(.ob 2), (.ob 3), (.ob 0), (.ob 1)] 9 (.call 57 [(.ob 7), (.ob 8), (.ob 9), (.ob 10)] 11 (.call 54 [(.ob 7), (.ob 8)] 12 (.call 56 [(.ob 11), (.ob 12)] 13 (.call 47 [(.ob 7), (.ob 8), (.ob 13)] 14 (.call 45 [(.ob 2), (.ob 3), (.ob 14), (.ob 15)] 16 (.call 46 [(.ob 0), (.ob 1), (.ob 16), (.ob 17)] 18 (.call 45 [(.ob 16), (.ob 17), (.ob 18), (.ob 19)] 20 (.leaf [(.ob 20), (.ob 21), (.n (.lit 0))]))))))))))))
theorem ev_mirror : Ct.ok Try.prog 25 { args := [[.r, .r], [.r, .r], [.r, .r]], res := [[.r, .r], [.n]], F := fun als => tr_mirror.den GP2 (env0 als), L := 7700, A := 256, B := 1354 } :=
  top_ok (by kernel_rfl) GP2_ok (plans := planF) (lf := 60) (k := 20) (by kernel_rfl)
def tr_center : Tr (List SA) := (.call 46 [(.ob 0), (.ob 1), (.ob 2), (.ob 3)] 16 (.call 46 [(.ob 0), (.ob 1), (.ob 4), (.ob 5)] 18 (.call 52 [(.n (.lit 2))] 27 (.call 53 [(.ob 16), (.ob 17), (.ob 18), (.ob 19)] 28 (.call 51 [(.ob 27), (.ob 28)] 29 (.call 44 [(.ob 29)] 30 (.br (.eq (.var 30) (.lit 0)) (.leaf [(.r (.lit false) .nil .nil), (.r (.lit false) .nil .nil), (.n (.lit 11))]) (.call 54 [(.ob 16), (.ob 17)] 39 (.call 54 [(.ob 18), (.ob 19)] 40 (.call 51 [(.ob 39), (.ob 19)] 52 (.call 51 [(.ob 40), (.ob 17)] 53 (.call 55 [(.ob 52), (.ob 53)] 54 (.call 51 [(.ob 40), (.ob 16)] 66 (.call 51 [(.ob 39), (.ob 18)] 67 (.call 55 [(.ob 66), (.ob 67)] 68 (.call 56 [(.ob 54), (.ob 29)] 69 (.call 56 [(.ob 68), (.ob 29)] 70 (.call 45 [(.ob 0), (.ob 1), (.ob 69), (.ob 70)] 71 (.leaf [(.ob 71), (.ob 72), (.n (.lit 0))])))))))))))))))))))
theorem ev_center : Ct.ok Try.prog 26 { args := [[.r, .r], [.r, .r], [.r, .r]], res := [[.r, .r], [.n]], F := fun als => tr_center.den GP2 (env0 als), L := 10000, A := 128, B := 678 } :=
  top_ok (by kernel_rfl) GP2_ok (plans := planF) (lf := 60) (k := 20) (by kernel_rfl)
end Go.Proofs.Ytkampmdekonjmaa
