/- Intervals, in numbers: the specification's functions; Hull, Meet, Div, Square, Sign. -/
import Derived.Test.YtifgdiejpglhfaaIv2
namespace Go.Proofs.Ytifgdiejpglhfaa
open Go Go.RowKit Go.V
set_option linter.unusedSimpArgs false
set_option linter.unusedVariables false
set_option maxRecDepth 20000
def ct_ivhas : Ct := { args := [[.r, .r], [.r]], res := [[.b]], F := cq g_ivhas, L := 10000000, A := 0, B := 0 }
theorem ctF_ivhas : ct_ivhas.F = cq g_ivhas := rfl
theorem ok_ivhas : ct_ivhas.ok Try.prog 25 := ev_ivhas.weaken (of_cq (g := g_ivhas) ivhas_den)
def ct_ivadd : Ct := { args := [[.r, .r], [.r, .r]], res := [[.r, .r]], F := cq g_ivadd, L := 1000000, A := 2, B := 6 }
theorem ctF_ivadd : ct_ivadd.F = cq g_ivadd := rfl
theorem ok_ivadd : ct_ivadd.ok Try.prog 19 := ev_ivadd.weaken (of_cq (g := g_ivadd) ivadd_den)
def ct_ivsub : Ct := { args := [[.r, .r], [.r, .r]], res := [[.r, .r]], F := cq g_ivsub, L := 1000000, A := 2, B := 6 }
theorem ctF_ivsub : ct_ivsub.F = cq g_ivsub := rfl
theorem ok_ivsub : ct_ivsub.ok Try.prog 20 := ev_ivsub.weaken (of_cq (g := g_ivsub) ivsub_den)
def ct_ivmul : Ct := { args := [[.r, .r], [.r, .r]], res := [[.r, .r]], F := cq g_ivmul, L := 1000000, A := 2, B := 4 }
theorem ctF_ivmul : ct_ivmul.F = cq g_ivmul := rfl
theorem ok_ivmul : ct_ivmul.ok Try.prog 21 := ev_ivmul.weaken (of_cq (g := g_ivmul) ivmul_den)
def GV1 : Gam := gamOf [(26, ct_dadd), (27, ct_dsub), (28, ct_dmul), (30, ct_ddiv), (38, ct_dcmp), (39, ct_drcmp), (33, ct_dof), (35, ct_drof), (32, ct_dsign), (25, ct_ivhas), (21, ct_ivmul)]
theorem GV1_ok : GamOk Try.prog GV1 := gamOk_of ⟨ok_dadd, ok_dsub, ok_dmul, ok_ddiv, ok_dcmp, ok_drcmp, ok_dof, ok_drof, ok_dsign, ok_ivhas, ok_ivmul, trivial⟩
theorem GV1_dadd : GV1 26 = some ct_dadd := rfl
theorem GV1_dsub : GV1 27 = some ct_dsub := rfl
theorem GV1_dmul : GV1 28 = some ct_dmul := rfl
theorem GV1_ddiv : GV1 30 = some ct_ddiv := rfl
theorem GV1_dcmp : GV1 38 = some ct_dcmp := rfl
theorem GV1_drcmp : GV1 39 = some ct_drcmp := rfl
theorem GV1_dof : GV1 33 = some ct_dof := rfl
theorem GV1_drof : GV1 35 = some ct_drof := rfl
theorem GV1_dsign : GV1 32 = some ct_dsign := rfl
theorem GV1_ivhas : GV1 25 = some ct_ivhas := rfl
theorem GV1_ivmul : GV1 21 = some ct_ivmul := rfl
end Go.Proofs.Ytifgdiejpglhfaa
