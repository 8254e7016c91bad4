/- Points: constructions. -/
import Derived.Test.YtkampmdekonjmaaPl1
namespace Go.Proofs.Ytkampmdekonjmaa
open Go Go.RowKit Go.V
set_option linter.unusedSimpArgs false
set_option linter.unusedVariables false
set_option maxRecDepth 20000
theorem cast1 : ((1 : Int) : Rat) = 1 := rfl
theorem cast2 : ((2 : Int) : Rat) = 2 := rfl
theorem inI1 : inI 1 = True := eq_true (by decide)
theorem inI2 : inI 2 = True := eq_true (by decide)
def GP2 : Gam := gamOf [(83, ct_dadd), (77, ct_dradd), (55, ct_dsub), (80, ct_drsub), (51, ct_dmul), (78, ct_drmul), (79, ct_drneg), (52, ct_dof), (39, ct_drof), (24, ct_drfrac), (44, ct_dsign), (16, ct_drsign), (135, ct_dcmp), (120, ct_dequal), (30, ct_drright), (46, ct_vec), (42, ct_rvec), (57, ct_vdot), (53, ct_vcross), (54, ct_vsq), (41, ct_rvturn), (47, ct_vtimes), (45, ct_plus), (40, ct_along), (56, ct_pover), (87, ct_pequal), (113, ct_ppdot), (112, ct_ppcross), (114, ct_ppnorm)]
theorem GP2_ok : GamOk Try.prog GP2 := gamOk_of ⟨ok_dadd, ok_dradd, ok_dsub, ok_drsub, ok_dmul, ok_drmul, ok_drneg, ok_dof, ok_drof, ok_drfrac, ok_dsign, ok_drsign, ok_dcmp, ok_dequal, ok_drright, ok_vec, ok_rvec, ok_vdot, ok_vcross, ok_vsq, ok_rvturn, ok_vtimes, ok_plus, ok_along, ok_pover, ok_pequal, ok_ppdot, ok_ppcross, ok_ppnorm, trivial⟩
theorem GP2_dadd : GP2 83 = some ct_dadd := rfl
theorem GP2_dradd : GP2 77 = some ct_dradd := rfl
theorem GP2_dsub : GP2 55 = some ct_dsub := rfl
theorem GP2_drsub : GP2 80 = some ct_drsub := rfl
theorem GP2_dmul : GP2 51 = some ct_dmul := rfl
theorem GP2_drmul : GP2 78 = some ct_drmul := rfl
theorem GP2_drneg : GP2 79 = some ct_drneg := rfl
theorem GP2_dof : GP2 52 = some ct_dof := rfl
theorem GP2_drof : GP2 39 = some ct_drof := rfl
theorem GP2_drfrac : GP2 24 = some ct_drfrac := rfl
theorem GP2_dsign : GP2 44 = some ct_dsign := rfl
theorem GP2_drsign : GP2 16 = some ct_drsign := rfl
theorem GP2_dcmp : GP2 135 = some ct_dcmp := rfl
theorem GP2_dequal : GP2 120 = some ct_dequal := rfl
theorem GP2_drright : GP2 30 = some ct_drright := rfl
theorem GP2_vec : GP2 46 = some ct_vec := rfl
theorem GP2_rvec : GP2 42 = some ct_rvec := rfl
theorem GP2_vdot : GP2 57 = some ct_vdot := rfl
theorem GP2_vcross : GP2 53 = some ct_vcross := rfl
theorem GP2_vsq : GP2 54 = some ct_vsq := rfl
theorem GP2_rvturn : GP2 41 = some ct_rvturn := rfl
theorem GP2_vtimes : GP2 47 = some ct_vtimes := rfl
theorem GP2_plus : GP2 45 = some ct_plus := rfl
theorem GP2_along : GP2 40 = some ct_along := rfl
theorem GP2_pover : GP2 56 = some ct_pover := rfl
theorem GP2_pequal : GP2 87 = some ct_pequal := rfl
theorem GP2_ppdot : GP2 113 = some ct_ppdot := rfl
theorem GP2_ppcross : GP2 112 = some ct_ppcross := rfl
theorem GP2_ppnorm : GP2 114 = some ct_ppnorm := rfl
def tr_rdivide : Tr (List SA) := (.call 42 [(.ob 0), (.ob 1), (.ob 2), (.ob 3)] 5 (.call 40 [(.ob 0), (.ob 1), (.ob 4), (.ob 5), (.ob 6)] 7 (.leaf [(.ob 7), (.ob 8)])))
theorem ev_rdivide : Ct.ok Try.prog 19 { args := [[.r, .r], [.r, .r], [.r]], res := [[.r, .r]], F := fun als => tr_rdivide.den GP2 (env0 als), L := 100000, A := 8, B := 220 } :=
  top_ok (by kernel_rfl) GP2_ok (plans := planF) (lf := 60) (k := 20) (by kernel_rfl)
def tr_rturn : Tr (List SA) := (.call 39 [(.n (.lit 1))] 6 (.call 42 [(.ob 2), (.ob 3), (.ob 4), (.ob 5)] 7 (.call 41 [(.ob 7), (.ob 8)] 9 (.call 40 [(.ob 0), (.ob 1), (.ob 6), (.ob 9), (.ob 10)] 11 (.leaf [(.ob 11), (.ob 12)])))))
theorem ev_rturn : Ct.ok Try.prog 18 { args := [[.r, .r], [.r, .r], [.r, .r]], res := [[.r, .r]], F := fun als => tr_rturn.den GP2 (env0 als), L := 100000, A := 8, B := 236 } :=
  top_ok (by kernel_rfl) GP2_ok (plans := planF) (lf := 60) (k := 20) (by kernel_rfl)
end Go.Proofs.Ytkampmdekonjmaa
