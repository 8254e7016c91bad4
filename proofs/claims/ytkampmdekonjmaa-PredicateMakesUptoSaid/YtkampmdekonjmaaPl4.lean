/- Points: roots, in numbers. -/
import Derived.Test.YtkampmdekonjmaaPl3
namespace Go.Proofs.Ytkampmdekonjmaa
open Go Go.RowKit Go.V
set_option linter.unusedSimpArgs false
set_option linter.unusedVariables false
set_option maxRecDepth 20000
def ct_divide : Ct := { args := [[.r, .r], [.r, .r], [.r]], res := [[.r, .r]], F := cq g_divide, L := 100000, A := 8, B := 38 }
theorem ctF_divide : ct_divide.F = cq g_divide := rfl
theorem ok_divide : ct_divide.ok Try.prog 23 := ev_divide.weaken (of_cq (g := g_divide) divide_den)
def ct_oncircle : Ct := { args := [[.r, .r], [.r, .r], [.r]], res := [[.r, .r]], F := cq g_oncircle, L := 10000, A := 128, B := 670 }
theorem ctF_oncircle : ct_oncircle.F = cq g_oncircle := rfl
theorem ok_oncircle : ct_oncircle.ok Try.prog 27 := ev_oncircle.weaken (of_cq (g := g_oncircle) oncircle_den)
def ct_mirror : Ct := { args := [[.r, .r], [.r, .r], [.r, .r]], res := [[.r, .r], [.n]], F := cq g_mirror, L := 7700, A := 256, B := 1354 }
theorem ctF_mirror : ct_mirror.F = cq g_mirror := rfl
theorem ok_mirror : ct_mirror.ok Try.prog 25 := ev_mirror.weaken (of_cq (g := g_mirror) mirror_den)
def ct_center : Ct := { args := [[.r, .r], [.r, .r], [.r, .r]], res := [[.r, .r], [.n]], F := cq g_center, L := 10000, A := 128, B := 678 }
theorem ctF_center : ct_center.F = cq g_center := rfl
theorem ok_center : ct_center.ok Try.prog 26 := ev_center.weaken (of_cq (g := g_center) center_den)
end Go.Proofs.Ytkampmdekonjmaa
