/- Points: constructions. -/
import Derived.Test.YtnfchljiicniiaaPl1
namespace Go.Proofs.Ytnfchljiicniiaa
open Go Go.RowKit Go.V
set_option linter.unusedSimpArgs false
set_option linter.unusedVariables false
set_option maxRecDepth 20000
theorem sq_sum {x y : Rat} (h : x * x + y * y = 0) : x = 0 ∧ y = 0 := by
  have hs : ∀ z : Rat, 0 ≤ z * z := fun z => by
    rcases qtri z 0 with h | rfl | h
    · have h1 : 0 < -z := by grind
      have := Rat.mul_pos h1 h1
      grind
    · rw [Rat.zero_mul]; exact Rat.le_refl
    · exact Rat.le_of_lt (Rat.mul_pos h h)
  have h1 := hs x
  have h2 := hs y
  have hx : x * x = 0 := Rat.le_antisymm (by grind) h1
  have hy : y * y = 0 := Rat.le_antisymm (by grind) h2
  exact ⟨(Rat.mul_eq_zero.1 hx).elim id id, (Rat.mul_eq_zero.1 hy).elim id id⟩
theorem norm_ne {ax ay bx by' : Rat} (h : ¬ (ax = bx ∧ ay = by')) : ¬ (bx - ax) * (bx - ax) + (by' - ay) * (by' - ay) = 0 := fun e => by
  obtain ⟨h1, h2⟩ := sq_sum e
  exact h ⟨by grind, by grind⟩
theorem pnorm_ne {ax ay bx by' : Rat} (h : ¬ (ax = bx ∧ ay = by')) : ¬ pnorm ax ay bx by' = 0 := norm_ne h
theorem one_sq_ne (t : Rat) : ¬ 1 * 1 + t * t = 0 := fun e => by
  have := (sq_sum e).1
  exact absurd this (by decide)
theorem cast1 : ((1 : Int) : Rat) = 1 := rfl
theorem cast2 : ((2 : Int) : Rat) = 2 := rfl
theorem inI1 : inI 1 = True := eq_true (by decide)
theorem inI2 : inI 2 = True := eq_true (by decide)
def GP2 : Gam := gamOf [(74, ct_dadd), (83, ct_dradd), (71, ct_dsub), (84, ct_drsub), (65, ct_dmul), (67, ct_drmul), (73, ct_dneg), (86, ct_drneg), (63, ct_dof), (60, ct_drof), (32, ct_drfrac), (70, ct_dsign), (37, ct_drsign), (77, ct_dcmp), (52, ct_drcmp), (42, ct_dequal), (15, ct_drequal), (14, ct_drright), (43, ct_vec), (54, ct_rvec), (44, ct_vdot), (53, ct_rvdot), (45, ct_vcross), (55, ct_rvcross), (46, ct_vsq), (61, ct_vturn), (62, ct_rvturn), (58, ct_vtimes), (57, ct_plus), (59, ct_along), (64, ct_pover), (66, ct_rover), (72, ct_root), (9, ct_pequal), (10, ct_rpequal), (11, ct_ppdot), (16, ct_rpdot), (12, ct_ppcross), (17, ct_rpcross), (13, ct_ppnorm), (18, ct_rpnorm)]
theorem GP2_ok : GamOk Try.prog GP2 := gamOk_of ⟨ok_dadd, ok_dradd, ok_dsub, ok_drsub, ok_dmul, ok_drmul, ok_dneg, ok_drneg, ok_dof, ok_drof, ok_drfrac, ok_dsign, ok_drsign, ok_dcmp, ok_drcmp, ok_dequal, ok_drequal, ok_drright, ok_vec, ok_rvec, ok_vdot, ok_rvdot, ok_vcross, ok_rvcross, ok_vsq, ok_vturn, ok_rvturn, ok_vtimes, ok_plus, ok_along, ok_pover, ok_rover, ok_root, ok_pequal, ok_rpequal, ok_ppdot, ok_rpdot, ok_ppcross, ok_rpcross, ok_ppnorm, ok_rpnorm, trivial⟩
theorem GP2_dadd : GP2 74 = some ct_dadd := rfl
theorem GP2_dradd : GP2 83 = some ct_dradd := rfl
theorem GP2_dsub : GP2 71 = some ct_dsub := rfl
theorem GP2_drsub : GP2 84 = some ct_drsub := rfl
theorem GP2_dmul : GP2 65 = some ct_dmul := rfl
theorem GP2_drmul : GP2 67 = some ct_drmul := rfl
theorem GP2_dneg : GP2 73 = some ct_dneg := rfl
theorem GP2_drneg : GP2 86 = some ct_drneg := rfl
theorem GP2_dof : GP2 63 = some ct_dof := rfl
theorem GP2_drof : GP2 60 = some ct_drof := rfl
theorem GP2_drfrac : GP2 32 = some ct_drfrac := rfl
theorem GP2_dsign : GP2 70 = some ct_dsign := rfl
theorem GP2_drsign : GP2 37 = some ct_drsign := rfl
theorem GP2_dcmp : GP2 77 = some ct_dcmp := rfl
theorem GP2_drcmp : GP2 52 = some ct_drcmp := rfl
theorem GP2_dequal : GP2 42 = some ct_dequal := rfl
theorem GP2_drequal : GP2 15 = some ct_drequal := rfl
theorem GP2_drright : GP2 14 = some ct_drright := rfl
theorem GP2_vec : GP2 43 = some ct_vec := rfl
theorem GP2_rvec : GP2 54 = some ct_rvec := rfl
theorem GP2_vdot : GP2 44 = some ct_vdot := rfl
theorem GP2_rvdot : GP2 53 = some ct_rvdot := rfl
theorem GP2_vcross : GP2 45 = some ct_vcross := rfl
theorem GP2_rvcross : GP2 55 = some ct_rvcross := rfl
theorem GP2_vsq : GP2 46 = some ct_vsq := rfl
theorem GP2_vturn : GP2 61 = some ct_vturn := rfl
theorem GP2_rvturn : GP2 62 = some ct_rvturn := rfl
theorem GP2_vtimes : GP2 58 = some ct_vtimes := rfl
theorem GP2_plus : GP2 57 = some ct_plus := rfl
theorem GP2_along : GP2 59 = some ct_along := rfl
theorem GP2_pover : GP2 64 = some ct_pover := rfl
theorem GP2_rover : GP2 66 = some ct_rover := rfl
theorem GP2_root : GP2 72 = some ct_root := rfl
theorem GP2_pequal : GP2 9 = some ct_pequal := rfl
theorem GP2_rpequal : GP2 10 = some ct_rpequal := rfl
theorem GP2_ppdot : GP2 11 = some ct_ppdot := rfl
theorem GP2_rpdot : GP2 16 = some ct_rpdot := rfl
theorem GP2_ppcross : GP2 12 = some ct_ppcross := rfl
theorem GP2_rpcross : GP2 17 = some ct_rpcross := rfl
theorem GP2_ppnorm : GP2 13 = some ct_ppnorm := rfl
theorem GP2_rpnorm : GP2 18 = some ct_rpnorm := rfl
def tr_divide : Tr (List SA) := (.call 43 [(.ob 0), (.ob 1), (.ob 2), (.ob 3)] 5 (.call 58 [(.ob 5), (.ob 6), (.ob 4)] 7 (.call 57 [(.ob 0), (.ob 1), (.ob 7), (.ob 8)] 9 (.leaf [(.ob 9), (.ob 10)]))))
theorem ev_divide : Ct.ok Try.prog 20 { args := [[.r, .r], [.r, .r], [.r]], res := [[.r, .r]], F := fun als => tr_divide.den GP2 (env0 als), L := 100000, A := 8, B := 38 } :=
  top_ok (by kernel_rfl) GP2_ok (plans := planF) (lf := 60) (k := 20) (by kernel_rfl)
def tr_rdivide : Tr (List SA) := (.call 54 [(.ob 0), (.ob 1), (.ob 2), (.ob 3)] 5 (.call 59 [(.ob 0), (.ob 1), (.ob 4), (.ob 5), (.ob 6)] 7 (.leaf [(.ob 7), (.ob 8)])))
theorem ev_rdivide : Ct.ok Try.prog 21 { args := [[.r, .r], [.r, .r], [.r]], res := [[.r, .r]], F := fun als => tr_rdivide.den GP2 (env0 als), L := 100000, A := 8, B := 220 } :=
  top_ok (by kernel_rfl) GP2_ok (plans := planF) (lf := 60) (k := 20) (by kernel_rfl)
def tr_shiftp : Tr (List SA) := (.call 43 [(.ob 2), (.ob 3), (.ob 4), (.ob 5)] 6 (.call 57 [(.ob 0), (.ob 1), (.ob 6), (.ob 7)] 8 (.leaf [(.ob 8), (.ob 9)])))
theorem ev_shiftp : Ct.ok Try.prog 22 { args := [[.r, .r], [.r, .r], [.r, .r]], res := [[.r, .r]], F := fun als => tr_shiftp.den GP2 (env0 als), L := 100000, A := 4, B := 18 } :=
  top_ok (by kernel_rfl) GP2_ok (plans := planF) (lf := 60) (k := 20) (by kernel_rfl)
def tr_rshiftp : Tr (List SA) := (.call 60 [(.n (.lit 1))] 6 (.call 54 [(.ob 2), (.ob 3), (.ob 4), (.ob 5)] 7 (.call 59 [(.ob 0), (.ob 1), (.ob 6), (.ob 7), (.ob 8)] 9 (.leaf [(.ob 9), (.ob 10)]))))
theorem ev_rshiftp : Ct.ok Try.prog 23 { args := [[.r, .r], [.r, .r], [.r, .r]], res := [[.r, .r]], F := fun als => tr_rshiftp.den GP2 (env0 als), L := 100000, A := 8, B := 220 } :=
  top_ok (by kernel_rfl) GP2_ok (plans := planF) (lf := 60) (k := 20) (by kernel_rfl)
def tr_turn : Tr (List SA) := (.call 43 [(.ob 2), (.ob 3), (.ob 4), (.ob 5)] 6 (.call 61 [(.ob 6), (.ob 7)] 8 (.call 57 [(.ob 0), (.ob 1), (.ob 8), (.ob 9)] 10 (.leaf [(.ob 10), (.ob 11)]))))
theorem ev_turn : Ct.ok Try.prog 24 { args := [[.r, .r], [.r, .r], [.r, .r]], res := [[.r, .r]], F := fun als => tr_turn.den GP2 (env0 als), L := 200000, A := 4, B := 26 } :=
  top_ok (by kernel_rfl) GP2_ok (plans := planF) (lf := 60) (k := 20) (by kernel_rfl)
def tr_rturn : Tr (List SA) := (.call 60 [(.n (.lit 1))] 6 (.call 54 [(.ob 2), (.ob 3), (.ob 4), (.ob 5)] 7 (.call 62 [(.ob 7), (.ob 8)] 9 (.call 59 [(.ob 0), (.ob 1), (.ob 6), (.ob 9), (.ob 10)] 11 (.leaf [(.ob 11), (.ob 12)])))))
theorem ev_rturn : Ct.ok Try.prog 25 { args := [[.r, .r], [.r, .r], [.r, .r]], res := [[.r, .r]], F := fun als => tr_rturn.den GP2 (env0 als), L := 100000, A := 8, B := 236 } :=
  top_ok (by kernel_rfl) GP2_ok (plans := planF) (lf := 60) (k := 20) (by kernel_rfl)
def tr_oncircle : Tr (List SA) := (.call 63 [(.n (.lit 1))] 10 (.call 63 [(.n (.lit 2))] 23 (.call 43 [(.ob 2), (.ob 3), (.ob 0), (.ob 1)] 24 (.call 44 [(.ob 24), (.ob 25), (.ob 10), (.ob 4)] 26 (.call 65 [(.ob 23), (.ob 26)] 27 (.call 46 [(.ob 10), (.ob 4)] 28 (.call 64 [(.ob 27), (.ob 28)] 29 (.call 58 [(.ob 10), (.ob 4), (.ob 29)] 30 (.call 57 [(.ob 2), (.ob 3), (.ob 30), (.ob 31)] 32 (.leaf [(.ob 32), (.ob 33)]))))))))))
theorem ev_oncircle : Ct.ok Try.prog 26 { args := [[.r, .r], [.r, .r], [.r]], res := [[.r, .r]], F := fun als => tr_oncircle.den GP2 (env0 als), L := 10000, A := 128, B := 670 } :=
  top_ok (by kernel_rfl) GP2_ok (plans := planF) (lf := 60) (k := 20) (by kernel_rfl)
def tr_roncircle : Tr (List SA) := (.call 60 [(.n (.lit 1))] 10 (.call 60 [(.n (.lit 2))] 24 (.call 54 [(.ob 2), (.ob 3), (.ob 0), (.ob 1)] 25 (.call 53 [(.ob 25), (.ob 26), (.ob 10), (.ob 4)] 27 (.call 67 [(.ob 24), (.ob 27)] 28 (.call 53 [(.ob 10), (.ob 4), (.ob 10), (.ob 4)] 29 (.call 66 [(.ob 28), (.ob 29)] 30 (.call 59 [(.ob 2), (.ob 3), (.ob 30), (.ob 10), (.ob 4)] 31 (.leaf [(.ob 31), (.ob 32)])))))))))
theorem ev_roncircle : Ct.ok Try.prog 27 { args := [[.r, .r], [.r, .r], [.r]], res := [[.r, .r]], F := fun als => tr_roncircle.den GP2 (env0 als), L := 10000, A := 128, B := 3820 } :=
  top_ok (by kernel_rfl) GP2_ok (plans := planF) (lf := 60) (k := 20) (by kernel_rfl)
def tr_foot : Tr (List SA) := (.call 9 [(.ob 2), (.ob 3), (.ob 4), (.ob 5)] 6 (.br (.var 6) (.leaf [(.r (.lit false) .nil .nil), (.r (.lit false) .nil .nil), (.n (.lit 11))]) (.call 43 [(.ob 2), (.ob 3), (.ob 4), (.ob 5)] 7 (.call 43 [(.ob 2), (.ob 3), (.ob 0), (.ob 1)] 9 (.call 44 [(.ob 7), (.ob 8), (.ob 9), (.ob 10)] 11 (.call 46 [(.ob 7), (.ob 8)] 12 (.call 64 [(.ob 11), (.ob 12)] 13 (.call 58 [(.ob 7), (.ob 8), (.ob 13)] 14 (.call 57 [(.ob 2), (.ob 3), (.ob 14), (.ob 15)] 16 (.leaf [(.ob 16), (.ob 17), (.n (.lit 0))]))))))))))
theorem ev_foot : Ct.ok Try.prog 28 { args := [[.r, .r], [.r, .r], [.r, .r]], res := [[.r, .r], [.n]], F := fun als => tr_foot.den GP2 (env0 als), L := 10000, A := 64, B := 334 } :=
  top_ok (by kernel_rfl) GP2_ok (plans := planF) (lf := 60) (k := 20) (by kernel_rfl)
def tr_mirror : Tr (List SA) := (.call 9 [(.ob 2), (.ob 3), (.ob 4), (.ob 5)] 6 (.br (.var 6) (.leaf [(.r (.lit false) .nil .nil), (.r (.lit false) .nil .nil), (.n (.lit 11))]) (.call 43 [(.ob 2), (.ob 3), (.ob 4), (.ob 5)] 7 (.call 43 [(.ob 2), (.ob 3), (.ob 0), (.ob 1)] 9 (.call 44 [(.ob 7), (.ob 8), (.ob 9), (.ob 10)] 11 (.call 46 [(.ob 7), (.ob 8)] 12 (.call 64 [(.ob 11), (.ob 12)] 13 (.call 58 [(.ob 7), (.ob 8), (.ob 13)] 14 (.call 57 [(.ob 2), (.ob 3), (.ob 14), (.ob 15)] 16 (.call 43 [(.ob 0), (.ob 1), (.ob 16), (.ob 17)] 18 (.call 57 [(.ob 16), (.ob 17), (.ob 18), (.ob 19)] 20 (.leaf [(.ob 20), (.ob 21), (.n (.lit 0))]))))))))))))
theorem ev_mirror : Ct.ok Try.prog 31 { args := [[.r, .r], [.r, .r], [.r, .r]], res := [[.r, .r], [.n]], F := fun als => tr_mirror.den GP2 (env0 als), L := 7700, A := 256, B := 1354 } :=
  top_ok (by kernel_rfl) GP2_ok (plans := planF) (lf := 60) (k := 20) (by kernel_rfl)
def tr_meet : Tr (List SA) := (.call 43 [(.ob 0), (.ob 1), (.ob 2), (.ob 3)] 18 (.call 43 [(.ob 4), (.ob 5), (.ob 6), (.ob 7)] 20 (.call 45 [(.ob 18), (.ob 19), (.ob 20), (.ob 21)] 22 (.call 70 [(.ob 22)] 23 (.br (.eq (.var 23) (.lit 0)) (.leaf [(.r (.lit false) .nil .nil), (.r (.lit false) .nil .nil), (.n (.lit 11))]) (.call 43 [(.ob 0), (.ob 1), (.ob 4), (.ob 5)] 24 (.call 45 [(.ob 24), (.ob 25), (.ob 20), (.ob 21)] 26 (.call 64 [(.ob 26), (.ob 22)] 27 (.call 58 [(.ob 18), (.ob 19), (.ob 27)] 28 (.call 57 [(.ob 0), (.ob 1), (.ob 28), (.ob 29)] 30 (.leaf [(.ob 30), (.ob 31), (.n (.lit 0))])))))))))))
theorem ev_meet : Ct.ok Try.prog 33 { args := [[.r, .r], [.r, .r], [.r, .r], [.r, .r]], res := [[.r, .r], [.n]], F := fun als => tr_meet.den GP2 (env0 als), L := 10000, A := 64, B := 334 } :=
  top_ok (by kernel_rfl) GP2_ok (plans := planF) (lf := 60) (k := 20) (by kernel_rfl)
def tr_other : Tr (List SA) := (.call 9 [(.ob 0), (.ob 1), (.ob 2), (.ob 3)] 6 (.br (.var 6) (.leaf [(.r (.lit false) .nil .nil), (.r (.lit false) .nil .nil), (.n (.lit 11))]) (.call 43 [(.ob 0), (.ob 1), (.ob 2), (.ob 3)] 7 (.call 63 [(.n (.lit 2))] 9 (.call 43 [(.ob 0), (.ob 1), (.ob 4), (.ob 5)] 10 (.call 44 [(.ob 10), (.ob 11), (.ob 7), (.ob 8)] 12 (.call 65 [(.ob 9), (.ob 12)] 13 (.call 46 [(.ob 7), (.ob 8)] 14 (.call 64 [(.ob 13), (.ob 14)] 15 (.call 58 [(.ob 7), (.ob 8), (.ob 15)] 16 (.call 57 [(.ob 0), (.ob 1), (.ob 16), (.ob 17)] 18 (.leaf [(.ob 18), (.ob 19), (.n (.lit 0))]))))))))))))
theorem ev_other : Ct.ok Try.prog 34 { args := [[.r, .r], [.r, .r], [.r, .r]], res := [[.r, .r], [.n]], F := fun als => tr_other.den GP2 (env0 als), L := 10000, A := 128, B := 670 } :=
  top_ok (by kernel_rfl) GP2_ok (plans := planF) (lf := 60) (k := 20) (by kernel_rfl)
def tr_center : Tr (List SA) := (.call 43 [(.ob 0), (.ob 1), (.ob 2), (.ob 3)] 16 (.call 43 [(.ob 0), (.ob 1), (.ob 4), (.ob 5)] 18 (.call 63 [(.n (.lit 2))] 27 (.call 45 [(.ob 16), (.ob 17), (.ob 18), (.ob 19)] 28 (.call 65 [(.ob 27), (.ob 28)] 29 (.call 70 [(.ob 29)] 30 (.br (.eq (.var 30) (.lit 0)) (.leaf [(.r (.lit false) .nil .nil), (.r (.lit false) .nil .nil), (.n (.lit 11))]) (.call 46 [(.ob 16), (.ob 17)] 39 (.call 46 [(.ob 18), (.ob 19)] 40 (.call 65 [(.ob 39), (.ob 19)] 52 (.call 65 [(.ob 40), (.ob 17)] 53 (.call 71 [(.ob 52), (.ob 53)] 54 (.call 65 [(.ob 40), (.ob 16)] 66 (.call 65 [(.ob 39), (.ob 18)] 67 (.call 71 [(.ob 66), (.ob 67)] 68 (.call 64 [(.ob 54), (.ob 29)] 69 (.call 64 [(.ob 68), (.ob 29)] 70 (.call 57 [(.ob 0), (.ob 1), (.ob 69), (.ob 70)] 71 (.leaf [(.ob 71), (.ob 72), (.n (.lit 0))])))))))))))))))))))
theorem ev_center : Ct.ok Try.prog 35 { args := [[.r, .r], [.r, .r], [.r, .r]], res := [[.r, .r], [.n]], F := fun als => tr_center.den GP2 (env0 als), L := 10000, A := 128, B := 678 } :=
  top_ok (by kernel_rfl) GP2_ok (plans := planF) (lf := 60) (k := 20) (by kernel_rfl)
def tr_cut : Tr (List SA) := (.call 9 [(.ob 0), (.ob 1), (.ob 2), (.ob 3)] 9 (.br (.var 9) (.leaf [(.r (.lit false) .nil .nil), (.r (.lit false) .nil .nil), (.n (.lit 11))]) (.call 43 [(.ob 0), (.ob 1), (.ob 2), (.ob 3)] 20 (.call 43 [(.ob 0), (.ob 1), (.ob 4), (.ob 5)] 22 (.call 46 [(.ob 20), (.ob 21)] 24 (.call 44 [(.ob 20), (.ob 21), (.ob 22), (.ob 23)] 32 (.call 64 [(.ob 32), (.ob 24)] 33 (.call 65 [(.ob 33), (.ob 33)] 53 (.call 46 [(.ob 22), (.ob 23)] 54 (.call 13 [(.ob 4), (.ob 5), (.ob 6), (.ob 7)] 55 (.call 71 [(.ob 54), (.ob 55)] 56 (.call 64 [(.ob 56), (.ob 24)] 57 (.call 71 [(.ob 53), (.ob 57)] 58 (.call 72 [(.ob 58)] 59 (.br (.not (.eq (.var 60) (.lit 0))) (.leaf [(.r (.lit false) .nil .nil), (.r (.lit false) .nil .nil), (.n (.var 60))]) (.br (.not (.var 8)) (.call 73 [(.ob 59)] 61 (.call 74 [(.ob 33), (.ob 61)] 62 (.call 58 [(.ob 20), (.ob 21), (.ob 62)] 63 (.call 57 [(.ob 0), (.ob 1), (.ob 63), (.ob 64)] 65 (.leaf [(.ob 65), (.ob 66), (.n (.lit 0))]))))) (.call 74 [(.ob 33), (.ob 59)] 61 (.call 58 [(.ob 20), (.ob 21), (.ob 61)] 62 (.call 57 [(.ob 0), (.ob 1), (.ob 62), (.ob 63)] 64 (.leaf [(.ob 64), (.ob 65), (.n (.lit 0))]))))))))))))))))))))
theorem ev_cut : Ct.ok Try.prog 36 { args := [[.r, .r], [.r, .r], [.r, .r], [.r, .r], [.b]], res := [[.r, .r], [.n]], F := fun als => tr_cut.den GP2 (env0 als), L := 100, A := 512, B := 2838 } :=
  top_ok (by kernel_rfl) GP2_ok (plans := planF) (lf := 60) (k := 20) (by kernel_rfl)
def tr_intersect : Tr (List SA) := (.call 9 [(.ob 0), (.ob 1), (.ob 4), (.ob 5)] 9 (.br (.var 9) (.leaf [(.r (.lit false) .nil .nil), (.r (.lit false) .nil .nil), (.n (.lit 11))]) (.call 43 [(.ob 0), (.ob 1), (.ob 4), (.ob 5)] 10 (.call 46 [(.ob 10), (.ob 11)] 21 (.call 13 [(.ob 0), (.ob 1), (.ob 2), (.ob 3)] 22 (.call 74 [(.ob 21), (.ob 22)] 36 (.call 13 [(.ob 4), (.ob 5), (.ob 6), (.ob 7)] 37 (.call 71 [(.ob 36), (.ob 37)] 38 (.call 63 [(.n (.lit 2))] 39 (.call 65 [(.ob 39), (.ob 21)] 40 (.call 64 [(.ob 38), (.ob 40)] 41 (.call 64 [(.ob 22), (.ob 21)] 56 (.call 65 [(.ob 41), (.ob 41)] 57 (.call 71 [(.ob 56), (.ob 57)] 58 (.call 72 [(.ob 58)] 59 (.br (.not (.eq (.var 60) (.lit 0))) (.leaf [(.r (.lit false) .nil .nil), (.r (.lit false) .nil .nil), (.n (.var 60))]) (.br (.not (.var 8)) (.call 73 [(.ob 59)] 61 (.call 58 [(.ob 10), (.ob 11), (.ob 41)] 62 (.call 57 [(.ob 0), (.ob 1), (.ob 62), (.ob 63)] 64 (.call 61 [(.ob 10), (.ob 11)] 66 (.call 58 [(.ob 66), (.ob 67), (.ob 61)] 68 (.call 57 [(.ob 64), (.ob 65), (.ob 68), (.ob 69)] 70 (.leaf [(.ob 70), (.ob 71), (.n (.lit 0))]))))))) (.call 58 [(.ob 10), (.ob 11), (.ob 41)] 61 (.call 57 [(.ob 0), (.ob 1), (.ob 61), (.ob 62)] 63 (.call 61 [(.ob 10), (.ob 11)] 65 (.call 58 [(.ob 65), (.ob 66), (.ob 59)] 67 (.call 57 [(.ob 63), (.ob 64), (.ob 67), (.ob 68)] 69 (.leaf [(.ob 69), (.ob 70), (.n (.lit 0))])))))))))))))))))))))))
theorem ev_intersect : Ct.ok Try.prog 38 { args := [[.r, .r], [.r, .r], [.r, .r], [.r, .r], [.b]], res := [[.r, .r], [.n]], F := fun als => tr_intersect.den GP2 (env0 als), L := 100, A := 1024, B := 5606 } :=
  top_ok (by kernel_rfl) GP2_ok (plans := planF) (lf := 60) (k := 20) (by kernel_rfl)
end Go.Proofs.Ytnfchljiicniiaa
