/- Points: constructions. -/
import Derived.Test.YtnfchljiicniiaaGreatPl1
namespace Go.Proofs.YtnfchljiicniiaaGreat
open Go Go.RowKit Go.V
set_option linter.unusedSimpArgs false
set_option linter.unusedVariables false
set_option maxRecDepth 20000
theorem sq_sum {x y : Rat} (h : x * x + y * y = 0) : x = 0 ∧ y = 0 := by
  have hs : ∀ z : Rat, 0 ≤ z * z := fun z => by
    rcases qtri z 0 with h | rfl | h
    · have h1 : 0 < -z := by grind
      have := Rat.mul_pos h1 h1
      grind
    · rw [Rat.zero_mul]; exact Rat.le_refl
    · exact Rat.le_of_lt (Rat.mul_pos h h)
  have h1 := hs x
  have h2 := hs y
  have hx : x * x = 0 := Rat.le_antisymm (by grind) h1
  have hy : y * y = 0 := Rat.le_antisymm (by grind) h2
  exact ⟨(Rat.mul_eq_zero.1 hx).elim id id, (Rat.mul_eq_zero.1 hy).elim id id⟩
theorem norm_ne {ax ay bx by' : Rat} (h : ¬ (ax = bx ∧ ay = by')) : ¬ (bx - ax) * (bx - ax) + (by' - ay) * (by' - ay) = 0 := fun e => by
  obtain ⟨h1, h2⟩ := sq_sum e
  exact h ⟨by grind, by grind⟩
theorem pnorm_ne {ax ay bx by' : Rat} (h : ¬ (ax = bx ∧ ay = by')) : ¬ pnorm ax ay bx by' = 0 := norm_ne h
theorem one_sq_ne (t : Rat) : ¬ 1 * 1 + t * t = 0 := fun e => by
  have := (sq_sum e).1
  exact absurd this (by decide)
theorem cast1 : ((1 : Int) : Rat) = 1 := rfl
theorem cast2 : ((2 : Int) : Rat) = 2 := rfl
theorem inI1 : inI 1 = True := eq_true (by decide)
theorem inI2 : inI 2 = True := eq_true (by decide)
def GP2 : Gam := gamOf [(52, ct_dadd), (55, ct_dradd), (46, ct_dsub), (48, ct_drsub), (43, ct_dmul), (45, ct_drmul), (51, ct_dneg), (77, ct_drneg), (44, ct_dof), (38, ct_drof), (40, ct_dsign), (42, ct_drsign), (89, ct_dcmp), (91, ct_drcmp), (59, ct_dequal), (61, ct_drequal), (58, ct_drright), (26, ct_vec), (33, ct_rvec), (30, ct_vdot), (36, ct_rvdot), (39, ct_vcross), (47, ct_rvcross), (31, ct_vsq), (56, ct_vturn), (57, ct_rvturn), (28, ct_vtimes), (27, ct_plus), (34, ct_along), (29, ct_pover), (35, ct_rover), (49, ct_root), (54, ct_rroot), (25, ct_pequal), (32, ct_rpequal), (41, ct_rpcross), (50, ct_ppnorm), (53, ct_rpnorm)]
theorem GP2_ok : GamOk Tryz.prog GP2 := gamOk_of ⟨ok_dadd, ok_dradd, ok_dsub, ok_drsub, ok_dmul, ok_drmul, ok_dneg, ok_drneg, ok_dof, ok_drof, ok_dsign, ok_drsign, ok_dcmp, ok_drcmp, ok_dequal, ok_drequal, ok_drright, ok_vec, ok_rvec, ok_vdot, ok_rvdot, ok_vcross, ok_rvcross, ok_vsq, ok_vturn, ok_rvturn, ok_vtimes, ok_plus, ok_along, ok_pover, ok_rover, ok_root, ok_rroot, ok_pequal, ok_rpequal, ok_rpcross, ok_ppnorm, ok_rpnorm, trivial⟩
theorem GP2_dadd : GP2 52 = some ct_dadd := rfl
theorem GP2_dradd : GP2 55 = some ct_dradd := rfl
theorem GP2_dsub : GP2 46 = some ct_dsub := rfl
theorem GP2_drsub : GP2 48 = some ct_drsub := rfl
theorem GP2_dmul : GP2 43 = some ct_dmul := rfl
theorem GP2_drmul : GP2 45 = some ct_drmul := rfl
theorem GP2_dneg : GP2 51 = some ct_dneg := rfl
theorem GP2_drneg : GP2 77 = some ct_drneg := rfl
theorem GP2_dof : GP2 44 = some ct_dof := rfl
theorem GP2_drof : GP2 38 = some ct_drof := rfl
theorem GP2_dsign : GP2 40 = some ct_dsign := rfl
theorem GP2_drsign : GP2 42 = some ct_drsign := rfl
theorem GP2_dcmp : GP2 89 = some ct_dcmp := rfl
theorem GP2_drcmp : GP2 91 = some ct_drcmp := rfl
theorem GP2_dequal : GP2 59 = some ct_dequal := rfl
theorem GP2_drequal : GP2 61 = some ct_drequal := rfl
theorem GP2_drright : GP2 58 = some ct_drright := rfl
theorem GP2_vec : GP2 26 = some ct_vec := rfl
theorem GP2_rvec : GP2 33 = some ct_rvec := rfl
theorem GP2_vdot : GP2 30 = some ct_vdot := rfl
theorem GP2_rvdot : GP2 36 = some ct_rvdot := rfl
theorem GP2_vcross : GP2 39 = some ct_vcross := rfl
theorem GP2_rvcross : GP2 47 = some ct_rvcross := rfl
theorem GP2_vsq : GP2 31 = some ct_vsq := rfl
theorem GP2_vturn : GP2 56 = some ct_vturn := rfl
theorem GP2_rvturn : GP2 57 = some ct_rvturn := rfl
theorem GP2_vtimes : GP2 28 = some ct_vtimes := rfl
theorem GP2_plus : GP2 27 = some ct_plus := rfl
theorem GP2_along : GP2 34 = some ct_along := rfl
theorem GP2_pover : GP2 29 = some ct_pover := rfl
theorem GP2_rover : GP2 35 = some ct_rover := rfl
theorem GP2_root : GP2 49 = some ct_root := rfl
theorem GP2_rroot : GP2 54 = some ct_rroot := rfl
theorem GP2_pequal : GP2 25 = some ct_pequal := rfl
theorem GP2_rpequal : GP2 32 = some ct_rpequal := rfl
theorem GP2_rpcross : GP2 41 = some ct_rpcross := rfl
theorem GP2_ppnorm : GP2 50 = some ct_ppnorm := rfl
theorem GP2_rpnorm : GP2 53 = some ct_rpnorm := rfl
def tr_foot : Tr (List SA) := (.call 25 [(.ob 2), (.ob 3), (.ob 4), (.ob 5)] 6 (.br (.var 6) (.leaf [(.r (.lit false) .nil .nil), (.r (.lit false) .nil .nil), (.n (.lit 11))]) (.call 26 [(.ob 2), (.ob 3), (.ob 4), (.ob 5)] 7 (.call 26 [(.ob 2), (.ob 3), (.ob 0), (.ob 1)] 9 (.call 30 [(.ob 7), (.ob 8), (.ob 9), (.ob 10)] 11 (.call 31 [(.ob 7), (.ob 8)] 12 (.call 29 [(.ob 11), (.ob 12)] 13 (.call 28 [(.ob 7), (.ob 8), (.ob 13)] 14 (.call 27 [(.ob 2), (.ob 3), (.ob 14), (.ob 15)] 16 (.leaf [(.ob 16), (.ob 17), (.n (.lit 0))]))))))))))
theorem ev_foot : Ct.ok Tryz.prog 7 { args := [[.r, .r], [.r, .r], [.r, .r]], res := [[.r, .r], [.n]], F := fun als => tr_foot.den GP2 (env0 als), L := 10000, A := 64, B := 334 } :=
  top_ok (by kernel_rfl) GP2_ok (plans := planF) (lf := 60) (k := 20) (by kernel_rfl)
def tr_rfoot : Tr (List SA) := (.call 32 [(.ob 2), (.ob 3), (.ob 4), (.ob 5)] 6 (.br (.var 6) (.leaf [(.r (.lit false) .nil .nil), (.r (.lit false) .nil .nil), (.n (.lit 11))]) (.call 33 [(.ob 2), (.ob 3), (.ob 4), (.ob 5)] 7 (.call 33 [(.ob 2), (.ob 3), (.ob 0), (.ob 1)] 9 (.call 36 [(.ob 7), (.ob 8), (.ob 9), (.ob 10)] 11 (.call 36 [(.ob 7), (.ob 8), (.ob 7), (.ob 8)] 12 (.call 35 [(.ob 11), (.ob 12)] 13 (.call 34 [(.ob 2), (.ob 3), (.ob 13), (.ob 7), (.ob 8)] 14 (.leaf [(.ob 14), (.ob 15), (.n (.lit 0))])))))))))
theorem ev_rfoot : Ct.ok Tryz.prog 8 { args := [[.r, .r], [.r, .r], [.r, .r]], res := [[.r, .r], [.n]], F := fun als => tr_rfoot.den GP2 (env0 als), L := 10000, A := 64, B := 1900 } :=
  top_ok (by kernel_rfl) GP2_ok (plans := planF) (lf := 60) (k := 20) (by kernel_rfl)
def tr_mirror : Tr (List SA) := (.call 25 [(.ob 2), (.ob 3), (.ob 4), (.ob 5)] 6 (.br (.var 6) (.leaf [(.r (.lit false) .nil .nil), (.r (.lit false) .nil .nil), (.n (.lit 11))]) (.call 26 [(.ob 2), (.ob 3), (.ob 4), (.ob 5)] 7 (.call 26 [(.ob 2), (.ob 3), (.ob 0), (.ob 1)] 9 (.call 30 [(.ob 7), (.ob 8), (.ob 9), (.ob 10)] 11 (.call 31 [(.ob 7), (.ob 8)] 12 (.call 29 [(.ob 11), (.ob 12)] 13 (.call 28 [(.ob 7), (.ob 8), (.ob 13)] 14 (.call 27 [(.ob 2), (.ob 3), (.ob 14), (.ob 15)] 16 (.call 26 [(.ob 0), (.ob 1), (.ob 16), (.ob 17)] 18 (.call 27 [(.ob 16), (.ob 17), (.ob 18), (.ob 19)] 20 (.leaf [(.ob 20), (.ob 21), (.n (.lit 0))]))))))))))))
theorem ev_mirror : Ct.ok Tryz.prog 10 { args := [[.r, .r], [.r, .r], [.r, .r]], res := [[.r, .r], [.n]], F := fun als => tr_mirror.den GP2 (env0 als), L := 7700, A := 256, B := 1354 } :=
  top_ok (by kernel_rfl) GP2_ok (plans := planF) (lf := 60) (k := 20) (by kernel_rfl)
def tr_rmirror : Tr (List SA) := (.call 32 [(.ob 2), (.ob 3), (.ob 4), (.ob 5)] 6 (.br (.var 6) (.leaf [(.r (.lit false) .nil .nil), (.r (.lit false) .nil .nil), (.n (.lit 11))]) (.call 33 [(.ob 2), (.ob 3), (.ob 4), (.ob 5)] 7 (.call 33 [(.ob 2), (.ob 3), (.ob 0), (.ob 1)] 9 (.call 36 [(.ob 7), (.ob 8), (.ob 9), (.ob 10)] 11 (.call 36 [(.ob 7), (.ob 8), (.ob 7), (.ob 8)] 12 (.call 35 [(.ob 11), (.ob 12)] 13 (.call 34 [(.ob 2), (.ob 3), (.ob 13), (.ob 7), (.ob 8)] 14 (.call 38 [(.n (.lit 1))] 16 (.call 33 [(.ob 0), (.ob 1), (.ob 14), (.ob 15)] 17 (.call 34 [(.ob 14), (.ob 15), (.ob 16), (.ob 17), (.ob 18)] 19 (.leaf [(.ob 19), (.ob 20), (.n (.lit 0))]))))))))))))
theorem ev_rmirror : Ct.ok Tryz.prog 11 { args := [[.r, .r], [.r, .r], [.r, .r]], res := [[.r, .r], [.n]], F := fun als => tr_rmirror.den GP2 (env0 als), L := 1000, A := 512, B := 15420 } :=
  top_ok (by kernel_rfl) GP2_ok (plans := planF) (lf := 60) (k := 20) (by kernel_rfl)
def tr_meet : Tr (List SA) := (.call 26 [(.ob 0), (.ob 1), (.ob 2), (.ob 3)] 18 (.call 26 [(.ob 4), (.ob 5), (.ob 6), (.ob 7)] 20 (.call 39 [(.ob 18), (.ob 19), (.ob 20), (.ob 21)] 22 (.call 40 [(.ob 22)] 23 (.br (.eq (.var 23) (.lit 0)) (.leaf [(.r (.lit false) .nil .nil), (.r (.lit false) .nil .nil), (.n (.lit 11))]) (.call 26 [(.ob 0), (.ob 1), (.ob 4), (.ob 5)] 24 (.call 39 [(.ob 24), (.ob 25), (.ob 20), (.ob 21)] 26 (.call 29 [(.ob 26), (.ob 22)] 27 (.call 28 [(.ob 18), (.ob 19), (.ob 27)] 28 (.call 27 [(.ob 0), (.ob 1), (.ob 28), (.ob 29)] 30 (.leaf [(.ob 30), (.ob 31), (.n (.lit 0))])))))))))))
theorem ev_meet : Ct.ok Tryz.prog 12 { args := [[.r, .r], [.r, .r], [.r, .r], [.r, .r]], res := [[.r, .r], [.n]], F := fun als => tr_meet.den GP2 (env0 als), L := 10000, A := 64, B := 334 } :=
  top_ok (by kernel_rfl) GP2_ok (plans := planF) (lf := 60) (k := 20) (by kernel_rfl)
def tr_rmeet : Tr (List SA) := (.call 41 [(.ob 0), (.ob 1), (.ob 2), (.ob 3), (.ob 4), (.ob 5), (.ob 6), (.ob 7)] 8 (.call 42 [(.ob 8)] 9 (.br (.eq (.var 9) (.lit 0)) (.leaf [(.r (.lit false) .nil .nil), (.r (.lit false) .nil .nil), (.n (.lit 11))]) (.call 41 [(.ob 0), (.ob 1), (.ob 4), (.ob 5), (.ob 4), (.ob 5), (.ob 6), (.ob 7)] 10 (.call 35 [(.ob 10), (.ob 8)] 11 (.call 33 [(.ob 0), (.ob 1), (.ob 2), (.ob 3)] 12 (.call 34 [(.ob 0), (.ob 1), (.ob 11), (.ob 12), (.ob 13)] 14 (.leaf [(.ob 14), (.ob 15), (.n (.lit 0))]))))))))
theorem ev_rmeet : Ct.ok Tryz.prog 13 { args := [[.r, .r], [.r, .r], [.r, .r], [.r, .r]], res := [[.r, .r], [.n]], F := fun als => tr_rmeet.den GP2 (env0 als), L := 10000, A := 64, B := 2060 } :=
  top_ok (by kernel_rfl) GP2_ok (plans := planF) (lf := 60) (k := 20) (by kernel_rfl)
def tr_other : Tr (List SA) := (.call 25 [(.ob 0), (.ob 1), (.ob 2), (.ob 3)] 6 (.br (.var 6) (.leaf [(.r (.lit false) .nil .nil), (.r (.lit false) .nil .nil), (.n (.lit 11))]) (.call 26 [(.ob 0), (.ob 1), (.ob 2), (.ob 3)] 7 (.call 44 [(.n (.lit 2))] 9 (.call 26 [(.ob 0), (.ob 1), (.ob 4), (.ob 5)] 10 (.call 30 [(.ob 10), (.ob 11), (.ob 7), (.ob 8)] 12 (.call 43 [(.ob 9), (.ob 12)] 13 (.call 31 [(.ob 7), (.ob 8)] 14 (.call 29 [(.ob 13), (.ob 14)] 15 (.call 28 [(.ob 7), (.ob 8), (.ob 15)] 16 (.call 27 [(.ob 0), (.ob 1), (.ob 16), (.ob 17)] 18 (.leaf [(.ob 18), (.ob 19), (.n (.lit 0))]))))))))))))
theorem ev_other : Ct.ok Tryz.prog 14 { args := [[.r, .r], [.r, .r], [.r, .r]], res := [[.r, .r], [.n]], F := fun als => tr_other.den GP2 (env0 als), L := 10000, A := 128, B := 670 } :=
  top_ok (by kernel_rfl) GP2_ok (plans := planF) (lf := 60) (k := 20) (by kernel_rfl)
def tr_rother : Tr (List SA) := (.call 32 [(.ob 0), (.ob 1), (.ob 2), (.ob 3)] 6 (.br (.var 6) (.leaf [(.r (.lit false) .nil .nil), (.r (.lit false) .nil .nil), (.n (.lit 11))]) (.call 33 [(.ob 0), (.ob 1), (.ob 2), (.ob 3)] 7 (.call 38 [(.n (.lit 2))] 22 (.call 33 [(.ob 0), (.ob 1), (.ob 4), (.ob 5)] 23 (.call 36 [(.ob 23), (.ob 24), (.ob 7), (.ob 8)] 25 (.call 45 [(.ob 22), (.ob 25)] 26 (.call 36 [(.ob 7), (.ob 8), (.ob 7), (.ob 8)] 27 (.call 35 [(.ob 26), (.ob 27)] 28 (.call 34 [(.ob 0), (.ob 1), (.ob 28), (.ob 7), (.ob 8)] 29 (.leaf [(.ob 29), (.ob 30), (.n (.lit 0))])))))))))))
theorem ev_rother : Ct.ok Tryz.prog 15 { args := [[.r, .r], [.r, .r], [.r, .r]], res := [[.r, .r], [.n]], F := fun als => tr_rother.den GP2 (env0 als), L := 10000, A := 128, B := 3820 } :=
  top_ok (by kernel_rfl) GP2_ok (plans := planF) (lf := 60) (k := 20) (by kernel_rfl)
def tr_center : Tr (List SA) := (.call 26 [(.ob 0), (.ob 1), (.ob 2), (.ob 3)] 16 (.call 26 [(.ob 0), (.ob 1), (.ob 4), (.ob 5)] 18 (.call 44 [(.n (.lit 2))] 27 (.call 39 [(.ob 16), (.ob 17), (.ob 18), (.ob 19)] 28 (.call 43 [(.ob 27), (.ob 28)] 29 (.call 40 [(.ob 29)] 30 (.br (.eq (.var 30) (.lit 0)) (.leaf [(.r (.lit false) .nil .nil), (.r (.lit false) .nil .nil), (.n (.lit 11))]) (.call 31 [(.ob 16), (.ob 17)] 39 (.call 31 [(.ob 18), (.ob 19)] 40 (.call 43 [(.ob 39), (.ob 19)] 52 (.call 43 [(.ob 40), (.ob 17)] 53 (.call 46 [(.ob 52), (.ob 53)] 54 (.call 43 [(.ob 40), (.ob 16)] 66 (.call 43 [(.ob 39), (.ob 18)] 67 (.call 46 [(.ob 66), (.ob 67)] 68 (.call 29 [(.ob 54), (.ob 29)] 69 (.call 29 [(.ob 68), (.ob 29)] 70 (.call 27 [(.ob 0), (.ob 1), (.ob 69), (.ob 70)] 71 (.leaf [(.ob 71), (.ob 72), (.n (.lit 0))])))))))))))))))))))
theorem ev_center : Ct.ok Tryz.prog 16 { args := [[.r, .r], [.r, .r], [.r, .r]], res := [[.r, .r], [.n]], F := fun als => tr_center.den GP2 (env0 als), L := 10000, A := 128, B := 678 } :=
  top_ok (by kernel_rfl) GP2_ok (plans := planF) (lf := 60) (k := 20) (by kernel_rfl)
def tr_rcenter : Tr (List SA) := (.call 33 [(.ob 0), (.ob 1), (.ob 2), (.ob 3)] 6 (.call 33 [(.ob 0), (.ob 1), (.ob 4), (.ob 5)] 8 (.call 47 [(.ob 6), (.ob 7), (.ob 8), (.ob 9)] 10 (.call 42 [(.ob 10)] 11 (.br (.eq (.var 11) (.lit 0)) (.leaf [(.r (.lit false) .nil .nil), (.r (.lit false) .nil .nil), (.n (.lit 11))]) (.call 38 [(.n (.lit 2))] 19 (.call 47 [(.ob 6), (.ob 7), (.ob 8), (.ob 9)] 20 (.call 45 [(.ob 19), (.ob 20)] 21 (.call 36 [(.ob 6), (.ob 7), (.ob 6), (.ob 7)] 22 (.call 36 [(.ob 8), (.ob 9), (.ob 8), (.ob 9)] 23 (.call 45 [(.ob 22), (.ob 9)] 35 (.call 45 [(.ob 23), (.ob 7)] 36 (.call 48 [(.ob 35), (.ob 36)] 37 (.call 45 [(.ob 23), (.ob 6)] 49 (.call 45 [(.ob 22), (.ob 8)] 50 (.call 48 [(.ob 49), (.ob 50)] 51 (.call 38 [(.n (.lit 1))] 62 (.call 35 [(.ob 62), (.ob 21)] 63 (.call 34 [(.ob 0), (.ob 1), (.ob 63), (.ob 37), (.ob 51)] 64 (.leaf [(.ob 64), (.ob 65), (.n (.lit 0))]))))))))))))))))))))
theorem ev_rcenter : Ct.ok Tryz.prog 17 { args := [[.r, .r], [.r, .r], [.r, .r]], res := [[.r, .r], [.n]], F := fun als => tr_rcenter.den GP2 (env0 als), L := 10000, A := 128, B := 4140 } :=
  top_ok (by kernel_rfl) GP2_ok (plans := planF) (lf := 60) (k := 20) (by kernel_rfl)
def tr_cut : Tr (List SA) := (.call 25 [(.ob 0), (.ob 1), (.ob 2), (.ob 3)] 9 (.br (.var 9) (.leaf [(.r (.lit false) .nil .nil), (.r (.lit false) .nil .nil), (.n (.lit 11))]) (.call 26 [(.ob 0), (.ob 1), (.ob 2), (.ob 3)] 20 (.call 26 [(.ob 0), (.ob 1), (.ob 4), (.ob 5)] 22 (.call 31 [(.ob 20), (.ob 21)] 24 (.call 30 [(.ob 20), (.ob 21), (.ob 22), (.ob 23)] 32 (.call 29 [(.ob 32), (.ob 24)] 33 (.call 43 [(.ob 33), (.ob 33)] 53 (.call 31 [(.ob 22), (.ob 23)] 54 (.call 50 [(.ob 4), (.ob 5), (.ob 6), (.ob 7)] 55 (.call 46 [(.ob 54), (.ob 55)] 56 (.call 29 [(.ob 56), (.ob 24)] 57 (.call 46 [(.ob 53), (.ob 57)] 58 (.call 49 [(.ob 58)] 59 (.br (.not (.eq (.var 60) (.lit 0))) (.leaf [(.r (.lit false) .nil .nil), (.r (.lit false) .nil .nil), (.n (.var 60))]) (.br (.not (.var 8)) (.call 51 [(.ob 59)] 61 (.call 52 [(.ob 33), (.ob 61)] 62 (.call 28 [(.ob 20), (.ob 21), (.ob 62)] 63 (.call 27 [(.ob 0), (.ob 1), (.ob 63), (.ob 64)] 65 (.leaf [(.ob 65), (.ob 66), (.n (.lit 0))]))))) (.call 52 [(.ob 33), (.ob 59)] 61 (.call 28 [(.ob 20), (.ob 21), (.ob 61)] 62 (.call 27 [(.ob 0), (.ob 1), (.ob 62), (.ob 63)] 64 (.leaf [(.ob 64), (.ob 65), (.n (.lit 0))]))))))))))))))))))))
theorem ev_cut : Ct.ok Tryz.prog 18 { args := [[.r, .r], [.r, .r], [.r, .r], [.r, .r], [.b]], res := [[.r, .r], [.n]], F := fun als => tr_cut.den GP2 (env0 als), L := 100, A := 512, B := 2838 } :=
  top_ok (by kernel_rfl) GP2_ok (plans := planF) (lf := 60) (k := 20) (by kernel_rfl)
def tr_rcut : Tr (List SA) := (.call 32 [(.ob 0), (.ob 1), (.ob 2), (.ob 3)] 9 (.br (.var 9) (.leaf [(.r (.lit false) .nil .nil), (.r (.lit false) .nil .nil), (.n (.lit 11))]) (.call 33 [(.ob 0), (.ob 1), (.ob 2), (.ob 3)] 10 (.call 33 [(.ob 0), (.ob 1), (.ob 4), (.ob 5)] 23 (.call 36 [(.ob 10), (.ob 11), (.ob 23), (.ob 24)] 25 (.call 36 [(.ob 10), (.ob 11), (.ob 10), (.ob 11)] 26 (.call 35 [(.ob 25), (.ob 26)] 27 (.call 45 [(.ob 27), (.ob 27)] 45 (.call 53 [(.ob 0), (.ob 1), (.ob 4), (.ob 5)] 46 (.call 53 [(.ob 4), (.ob 5), (.ob 6), (.ob 7)] 47 (.call 48 [(.ob 46), (.ob 47)] 48 (.call 36 [(.ob 10), (.ob 11), (.ob 10), (.ob 11)] 49 (.call 35 [(.ob 48), (.ob 49)] 50 (.call 48 [(.ob 45), (.ob 50)] 51 (.call 54 [(.ob 51), (.b (.var 8))] 52 (.br (.not (.eq (.var 53) (.lit 0))) (.leaf [(.r (.lit false) .nil .nil), (.r (.lit false) .nil .nil), (.n (.var 53))]) (.call 55 [(.ob 27), (.ob 52)] 54 (.call 34 [(.ob 0), (.ob 1), (.ob 54), (.ob 10), (.ob 11)] 55 (.leaf [(.ob 55), (.ob 56), (.n (.lit 0))])))))))))))))))))))
theorem ev_rcut : Ct.ok Tryz.prog 19 { args := [[.r, .r], [.r, .r], [.r, .r], [.r, .r], [.b]], res := [[.r, .r], [.n]], F := fun als => tr_rcut.den GP2 (env0 als), L := 100, A := 512, B := 16236 } :=
  top_ok (by kernel_rfl) GP2_ok (plans := planF) (lf := 60) (k := 20) (by kernel_rfl)
def tr_intersect : Tr (List SA) := (.call 25 [(.ob 0), (.ob 1), (.ob 4), (.ob 5)] 9 (.br (.var 9) (.leaf [(.r (.lit false) .nil .nil), (.r (.lit false) .nil .nil), (.n (.lit 11))]) (.call 26 [(.ob 0), (.ob 1), (.ob 4), (.ob 5)] 10 (.call 31 [(.ob 10), (.ob 11)] 21 (.call 50 [(.ob 0), (.ob 1), (.ob 2), (.ob 3)] 22 (.call 52 [(.ob 21), (.ob 22)] 36 (.call 50 [(.ob 4), (.ob 5), (.ob 6), (.ob 7)] 37 (.call 46 [(.ob 36), (.ob 37)] 38 (.call 44 [(.n (.lit 2))] 39 (.call 43 [(.ob 39), (.ob 21)] 40 (.call 29 [(.ob 38), (.ob 40)] 41 (.call 29 [(.ob 22), (.ob 21)] 56 (.call 43 [(.ob 41), (.ob 41)] 57 (.call 46 [(.ob 56), (.ob 57)] 58 (.call 49 [(.ob 58)] 59 (.br (.not (.eq (.var 60) (.lit 0))) (.leaf [(.r (.lit false) .nil .nil), (.r (.lit false) .nil .nil), (.n (.var 60))]) (.br (.not (.var 8)) (.call 51 [(.ob 59)] 61 (.call 28 [(.ob 10), (.ob 11), (.ob 41)] 62 (.call 27 [(.ob 0), (.ob 1), (.ob 62), (.ob 63)] 64 (.call 56 [(.ob 10), (.ob 11)] 66 (.call 28 [(.ob 66), (.ob 67), (.ob 61)] 68 (.call 27 [(.ob 64), (.ob 65), (.ob 68), (.ob 69)] 70 (.leaf [(.ob 70), (.ob 71), (.n (.lit 0))]))))))) (.call 28 [(.ob 10), (.ob 11), (.ob 41)] 61 (.call 27 [(.ob 0), (.ob 1), (.ob 61), (.ob 62)] 63 (.call 56 [(.ob 10), (.ob 11)] 65 (.call 28 [(.ob 65), (.ob 66), (.ob 59)] 67 (.call 27 [(.ob 63), (.ob 64), (.ob 67), (.ob 68)] 69 (.leaf [(.ob 69), (.ob 70), (.n (.lit 0))])))))))))))))))))))))))
theorem ev_intersect : Ct.ok Tryz.prog 20 { args := [[.r, .r], [.r, .r], [.r, .r], [.r, .r], [.b]], res := [[.r, .r], [.n]], F := fun als => tr_intersect.den GP2 (env0 als), L := 100, A := 1024, B := 5606 } :=
  top_ok (by kernel_rfl) GP2_ok (plans := planF) (lf := 60) (k := 20) (by kernel_rfl)
def tr_rintersect : Tr (List SA) := (.call 32 [(.ob 0), (.ob 1), (.ob 4), (.ob 5)] 9 (.br (.var 9) (.leaf [(.r (.lit false) .nil .nil), (.r (.lit false) .nil .nil), (.n (.lit 11))]) (.call 33 [(.ob 0), (.ob 1), (.ob 4), (.ob 5)] 10 (.call 36 [(.ob 10), (.ob 11), (.ob 10), (.ob 11)] 12 (.call 53 [(.ob 0), (.ob 1), (.ob 2), (.ob 3)] 28 (.call 55 [(.ob 12), (.ob 28)] 29 (.call 53 [(.ob 4), (.ob 5), (.ob 6), (.ob 7)] 30 (.call 48 [(.ob 29), (.ob 30)] 31 (.call 38 [(.n (.lit 2))] 32 (.call 45 [(.ob 32), (.ob 12)] 33 (.call 35 [(.ob 31), (.ob 33)] 34 (.call 53 [(.ob 0), (.ob 1), (.ob 2), (.ob 3)] 46 (.call 35 [(.ob 46), (.ob 12)] 47 (.call 45 [(.ob 34), (.ob 34)] 48 (.call 48 [(.ob 47), (.ob 48)] 49 (.call 54 [(.ob 49), (.b (.var 8))] 50 (.br (.not (.eq (.var 51) (.lit 0))) (.leaf [(.r (.lit false) .nil .nil), (.r (.lit false) .nil .nil), (.n (.var 51))]) (.call 34 [(.ob 0), (.ob 1), (.ob 34), (.ob 10), (.ob 11)] 52 (.call 57 [(.ob 10), (.ob 11)] 54 (.call 34 [(.ob 52), (.ob 53), (.ob 50), (.ob 54), (.ob 55)] 56 (.leaf [(.ob 56), (.ob 57), (.n (.lit 0))])))))))))))))))))))))
theorem ev_rintersect : Ct.ok Tryz.prog 21 { args := [[.r, .r], [.r, .r], [.r, .r], [.r, .r], [.b]], res := [[.r, .r], [.n]], F := fun als => tr_rintersect.den GP2 (env0 als), L := 100, A := 1024, B := 31468 } :=
  top_ok (by kernel_rfl) GP2_ok (plans := planF) (lf := 60) (k := 20) (by kernel_rfl)
def tr_apex : Tr (List SA) := (.call 25 [(.ob 0), (.ob 1), (.ob 2), (.ob 3)] 5 (.br (.var 5) (.leaf [(.r (.lit false) .nil .nil), (.r (.lit false) .nil .nil), (.n (.lit 11))]) (.leaf [(.r (.lit false) .nil .nil), (.r (.lit false) .nil .nil), (.n (.lit 12))])))
theorem ev_apex : Ct.ok Tryz.prog 22 { args := [[.r, .r], [.r, .r], [.b]], res := [[.r, .r], [.n]], F := fun als => tr_apex.den GP2 (env0 als), L := 10000, A := 0, B := 0 } :=
  top_ok (by kernel_rfl) GP2_ok (plans := planF) (lf := 60) (k := 20) (by kernel_rfl)
def tr_rapex : Tr (List SA) := (.call 32 [(.ob 0), (.ob 1), (.ob 2), (.ob 3)] 5 (.br (.var 5) (.leaf [(.r (.lit false) .nil .nil), (.r (.lit false) .nil .nil), (.n (.lit 11))]) (.leaf [(.r (.lit false) .nil .nil), (.r (.lit false) .nil .nil), (.n (.lit 12))])))
theorem ev_rapex : Ct.ok Tryz.prog 23 { args := [[.r, .r], [.r, .r], [.b]], res := [[.r, .r], [.n]], F := fun als => tr_rapex.den GP2 (env0 als), L := 10000, A := 0, B := 0 } :=
  top_ok (by kernel_rfl) GP2_ok (plans := planF) (lf := 60) (k := 20) (by kernel_rfl)
end Go.Proofs.YtnfchljiicniiaaGreat
