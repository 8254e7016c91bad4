/- Points: constructions. -/
import Derived.Test.YtkampmdekonjmaaGreatPl1
namespace Go.Proofs.YtkampmdekonjmaaGreat
open Go Go.RowKit Go.V
set_option linter.unusedSimpArgs false
set_option linter.unusedVariables false
set_option maxRecDepth 20000
theorem sq_sum {x y : Rat} (h : x * x + y * y = 0) : x = 0 ∧ y = 0 := by
  have hs : ∀ z : Rat, 0 ≤ z * z := fun z => by
    rcases qtri z 0 with h | rfl | h
    · have h1 : 0 < -z := by grind
      have := Rat.mul_pos h1 h1
      grind
    · rw [Rat.zero_mul]; exact Rat.le_refl
    · exact Rat.le_of_lt (Rat.mul_pos h h)
  have h1 := hs x
  have h2 := hs y
  have hx : x * x = 0 := Rat.le_antisymm (by grind) h1
  have hy : y * y = 0 := Rat.le_antisymm (by grind) h2
  exact ⟨(Rat.mul_eq_zero.1 hx).elim id id, (Rat.mul_eq_zero.1 hy).elim id id⟩
theorem norm_ne {ax ay bx by' : Rat} (h : ¬ (ax = bx ∧ ay = by')) : ¬ (bx - ax) * (bx - ax) + (by' - ay) * (by' - ay) = 0 := fun e => by
  obtain ⟨h1, h2⟩ := sq_sum e
  exact h ⟨by grind, by grind⟩
theorem pnorm_ne {ax ay bx by' : Rat} (h : ¬ (ax = bx ∧ ay = by')) : ¬ pnorm ax ay bx by' = 0 := norm_ne h
theorem one_sq_ne (t : Rat) : ¬ 1 * 1 + t * t = 0 := fun e => by
  have := (sq_sum e).1
  exact absurd this (by decide)
theorem cast1 : ((1 : Int) : Rat) = 1 := rfl
theorem cast2 : ((2 : Int) : Rat) = 2 := rfl
theorem inI1 : inI 1 = True := eq_true (by decide)
theorem inI2 : inI 2 = True := eq_true (by decide)
def GP2 : Gam := gamOf [(27, ct_dadd), (66, ct_dradd), (25, ct_dsub), (35, ct_drsub), (30, ct_dmul), (39, ct_drmul), (67, ct_drneg), (62, ct_dof), (68, ct_drof), (17, ct_dsign), (18, ct_drsign), (45, ct_drcmp), (16, ct_drequal), (15, ct_drright), (53, ct_vec), (64, ct_rvec), (55, ct_vdot), (65, ct_rvdot), (54, ct_vcross), (63, ct_rvcross), (56, ct_vsq), (24, ct_ppdot), (34, ct_rpdot), (23, ct_ppcross), (33, ct_rpcross), (26, ct_ppnorm), (36, ct_rpnorm)]
theorem GP2_ok : GamOk Tryz.prog GP2 := gamOk_of ⟨ok_dadd, ok_dradd, ok_dsub, ok_drsub, ok_dmul, ok_drmul, ok_drneg, ok_dof, ok_drof, ok_dsign, ok_drsign, ok_drcmp, ok_drequal, ok_drright, ok_vec, ok_rvec, ok_vdot, ok_rvdot, ok_vcross, ok_rvcross, ok_vsq, ok_ppdot, ok_rpdot, ok_ppcross, ok_rpcross, ok_ppnorm, ok_rpnorm, trivial⟩
theorem GP2_dadd : GP2 27 = some ct_dadd := rfl
theorem GP2_dradd : GP2 66 = some ct_dradd := rfl
theorem GP2_dsub : GP2 25 = some ct_dsub := rfl
theorem GP2_drsub : GP2 35 = some ct_drsub := rfl
theorem GP2_dmul : GP2 30 = some ct_dmul := rfl
theorem GP2_drmul : GP2 39 = some ct_drmul := rfl
theorem GP2_drneg : GP2 67 = some ct_drneg := rfl
theorem GP2_dof : GP2 62 = some ct_dof := rfl
theorem GP2_drof : GP2 68 = some ct_drof := rfl
theorem GP2_dsign : GP2 17 = some ct_dsign := rfl
theorem GP2_drsign : GP2 18 = some ct_drsign := rfl
theorem GP2_drcmp : GP2 45 = some ct_drcmp := rfl
theorem GP2_drequal : GP2 16 = some ct_drequal := rfl
theorem GP2_drright : GP2 15 = some ct_drright := rfl
theorem GP2_vec : GP2 53 = some ct_vec := rfl
theorem GP2_rvec : GP2 64 = some ct_rvec := rfl
theorem GP2_vdot : GP2 55 = some ct_vdot := rfl
theorem GP2_rvdot : GP2 65 = some ct_rvdot := rfl
theorem GP2_vcross : GP2 54 = some ct_vcross := rfl
theorem GP2_rvcross : GP2 63 = some ct_rvcross := rfl
theorem GP2_vsq : GP2 56 = some ct_vsq := rfl
theorem GP2_ppdot : GP2 24 = some ct_ppdot := rfl
theorem GP2_rpdot : GP2 34 = some ct_rpdot := rfl
theorem GP2_ppcross : GP2 23 = some ct_ppcross := rfl
theorem GP2_rpcross : GP2 33 = some ct_rpcross := rfl
theorem GP2_ppnorm : GP2 26 = some ct_ppnorm := rfl
theorem GP2_rpnorm : GP2 36 = some ct_rpnorm := rfl
end Go.Proofs.YtkampmdekonjmaaGreat
