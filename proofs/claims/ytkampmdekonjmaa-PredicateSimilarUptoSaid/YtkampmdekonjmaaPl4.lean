/- Points: roots, in numbers. -/
import Derived.Test.YtkampmdekonjmaaPl3
namespace Go.Proofs.Ytkampmdekonjmaa
open Go Go.RowKit Go.V
set_option linter.unusedSimpArgs false
set_option linter.unusedVariables false
set_option maxRecDepth 20000
def ct_rdivide : Ct := { args := [[.r, .r], [.r, .r], [.r]], res := [[.r, .r]], F := cq g_divide, L := 100000, A := 8, B := 220 }
theorem ok_rdivide : ct_rdivide.ok Try.prog 19 := ev_rdivide.weaken (of_cq (g := g_divide) rdivide_den)
def ct_rturn : Ct := { args := [[.r, .r], [.r, .r], [.r, .r]], res := [[.r, .r]], F := cq g_turn, L := 100000, A := 8, B := 236 }
theorem ok_rturn : ct_rturn.ok Try.prog 18 := ev_rturn.weaken (of_cq (g := g_turn) rturn_den)
end Go.Proofs.Ytkampmdekonjmaa
