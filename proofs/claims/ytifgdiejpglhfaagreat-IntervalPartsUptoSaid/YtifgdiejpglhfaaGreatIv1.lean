/- Intervals, in numbers: the functions without rounding. -/
import Derived.Test.YtifgdiejpglhfaaGreatQa1
import Derived.Test.YtifgdiejpglhfaaGreatNc2
namespace Go.Proofs.YtifgdiejpglhfaaGreat
open Go Go.RowKit Go.V
set_option linter.unusedSimpArgs false
set_option linter.unusedVariables false
set_option maxRecDepth 20000
/-- the lesser one, as the code picks it: the second only if it is less than the first -/
def rmin (x y : Rat) : Rat := if y < x then y else x
def rmax (x y : Rat) : Rat := if x < y then y else x
theorem cmp_lt (x y : Rat) : (qcmpv x y < 0) = (x < y) := by
  apply propext
  rcases qtri x y with h | rfl | h
  · rw [qcmpv_lt h]; simp [h]
  · rw [qcmpv_eq]; simp [Rat.lt_irrefl]
  · rw [qcmpv_gt h]
    constructor
    · intro h'; exact absurd h' (by decide)
    · intro h'; exact absurd (Std.lt_trans h h') Rat.lt_irrefl
theorem cmp_gt (x y : Rat) : (0 < qcmpv x y) = (y < x) := by
  apply propext
  rcases qtri x y with h | rfl | h
  · rw [qcmpv_lt h]
    constructor
    · intro h'; exact absurd h' (by decide)
    · intro h'; exact absurd (Std.lt_trans h h') Rat.lt_irrefl
  · rw [qcmpv_eq]; simp [Rat.lt_irrefl]
  · rw [qcmpv_gt h]; simp [h]
theorem cmp_le (x y : Rat) : (qcmpv x y ≤ 0) = (x ≤ y) := by
  apply propext
  have := cmp_gt x y
  rw [← Int.not_lt, this, Rat.not_lt]
def ivm1 (a b c d : Rat) : Rat := rmin (rmin (rmin (a * c) (a * d)) (b * c)) (b * d)
def ivm2 (a b c d : Rat) : Rat := rmax (rmax (rmax (a * c) (a * d)) (b * c)) (b * d)
def g_ivhas : List QA → Option (List QA)
  | [.q a, .q b, .q x] => some [.b (decide (a ≤ x ∧ x ≤ b))]
  | _ => none
def g_ivadd : List QA → Option (List QA)
  | [.q a, .q b, .q c, .q d] => some [.q (a + c), .q (b + d)]
  | _ => none
def g_ivsub : List QA → Option (List QA)
  | [.q a, .q b, .q c, .q d] => some [.q (a - d), .q (b - c)]
  | _ => none
def g_ivmul : List QA → Option (List QA)
  | [.q a, .q b, .q c, .q d] => some [.q (ivm1 a b c d), .q (ivm2 a b c d)]
  | _ => none
def g_ivhull : List QA → Option (List QA)
  | [.q a, .q b, .q c, .q d] => if a ≤ b ∧ c ≤ d then some [.q (rmin a c), .q (rmax b d)] else none
  | _ => none
def g_ivmeet : List QA → Option (List QA)
  | [.q a, .q b, .q c, .q d] => some (if rmin b d < rmax a c then [.z, .z, .b false] else [.q (rmax a c), .q (rmin b d), .b true])
  | _ => none
def g_ivdiv : List QA → Option (List QA)
  | [.q a, .q b, .q c, .q d] => if c ≤ d then some (if c ≤ 0 ∧ 0 ≤ d then [.z, .z, .n 3] else [.q (ivm1 a b (1 / d) (1 / c)), .q (ivm2 a b (1 / d) (1 / c)), .n 0]) else none
  | _ => none
def GV0 : Gam := gamOf [(70, ct_dadd), (71, ct_dradd), (72, ct_dsub), (73, ct_drsub), (74, ct_dmul), (75, ct_drmul), (68, ct_ddiv), (69, ct_drdiv), (64, ct_dcmp), (52, ct_drcmp), (35, ct_dof), (38, ct_drof), (47, ct_dsign), (49, ct_drsign)]
theorem GV0_ok : GamOk Tryz.prog GV0 := gamOk_of ⟨ok_dadd, ok_dradd, ok_dsub, ok_drsub, ok_dmul, ok_drmul, ok_ddiv, ok_drdiv, ok_dcmp, ok_drcmp, ok_dof, ok_drof, ok_dsign, ok_drsign, trivial⟩
theorem GV0_dadd : GV0 70 = some ct_dadd := rfl
theorem GV0_dradd : GV0 71 = some ct_dradd := rfl
theorem GV0_dsub : GV0 72 = some ct_dsub := rfl
theorem GV0_drsub : GV0 73 = some ct_drsub := rfl
theorem GV0_dmul : GV0 74 = some ct_dmul := rfl
theorem GV0_drmul : GV0 75 = some ct_drmul := rfl
theorem GV0_ddiv : GV0 68 = some ct_ddiv := rfl
theorem GV0_drdiv : GV0 69 = some ct_drdiv := rfl
theorem GV0_dcmp : GV0 64 = some ct_dcmp := rfl
theorem GV0_drcmp : GV0 52 = some ct_drcmp := rfl
theorem GV0_dof : GV0 35 = some ct_dof := rfl
theorem GV0_drof : GV0 38 = some ct_drof := rfl
theorem GV0_dsign : GV0 47 = some ct_dsign := rfl
theorem GV0_drsign : GV0 49 = some ct_drsign := rfl
def tr_ivhas : Tr (List SA) := (.call 64 [(.ob 0), (.ob 2)] 3 (.br (.le (.var 3) (.lit 0)) (.call 64 [(.ob 2), (.ob 1)] 4 (.leaf [(.b (.le (.var 4) (.lit 0)))])) (.leaf [(.b (.lit false))])))
theorem ev_ivhas : Ct.ok Tryz.prog 19 { args := [[.r, .r], [.r]], res := [[.b]], F := fun als => tr_ivhas.den GV0 (env0 als), L := 10000000, A := 0, B := 0 } :=
  top_ok (by kernel_rfl) GV0_ok (plans := planF) (lf := 60) (k := 20) (by kernel_rfl)
def tr_rivhas : Tr (List SA) := (.call 52 [(.ob 0), (.ob 2)] 3 (.br (.le (.var 3) (.lit 0)) (.call 52 [(.ob 2), (.ob 1)] 4 (.leaf [(.b (.le (.var 4) (.lit 0)))])) (.leaf [(.b (.lit false))])))
theorem ev_rivhas : Ct.ok Tryz.prog 20 { args := [[.r, .r], [.r]], res := [[.b]], F := fun als => tr_rivhas.den GV0 (env0 als), L := 10000000, A := 0, B := 0 } :=
  top_ok (by kernel_rfl) GV0_ok (plans := planF) (lf := 60) (k := 20) (by kernel_rfl)
def tr_ivadd : Tr (List SA) := (.call 70 [(.ob 0), (.ob 2)] 4 (.call 70 [(.ob 1), (.ob 3)] 5 (.leaf [(.ob 4), (.ob 5)])))
theorem ev_ivadd : Ct.ok Tryz.prog 25 { args := [[.r, .r], [.r, .r]], res := [[.r, .r]], F := fun als => tr_ivadd.den GV0 (env0 als), L := 1000000, A := 2, B := 6 } :=
  top_ok (by kernel_rfl) GV0_ok (plans := planF) (lf := 60) (k := 20) (by kernel_rfl)
def tr_rivadd : Tr (List SA) := (.call 71 [(.ob 0), (.ob 2)] 4 (.call 71 [(.ob 1), (.ob 3)] 5 (.leaf [(.ob 4), (.ob 5)])))
theorem ev_rivadd : Ct.ok Tryz.prog 26 { args := [[.r, .r], [.r, .r]], res := [[.r, .r]], F := fun als => tr_rivadd.den GV0 (env0 als), L := 1000000, A := 2, B := 20 } :=
  top_ok (by kernel_rfl) GV0_ok (plans := planF) (lf := 60) (k := 20) (by kernel_rfl)
def tr_ivsub : Tr (List SA) := (.call 72 [(.ob 0), (.ob 3)] 4 (.call 72 [(.ob 1), (.ob 2)] 5 (.leaf [(.ob 4), (.ob 5)])))
theorem ev_ivsub : Ct.ok Tryz.prog 27 { args := [[.r, .r], [.r, .r]], res := [[.r, .r]], F := fun als => tr_ivsub.den GV0 (env0 als), L := 1000000, A := 2, B := 6 } :=
  top_ok (by kernel_rfl) GV0_ok (plans := planF) (lf := 60) (k := 20) (by kernel_rfl)
def tr_rivsub : Tr (List SA) := (.call 73 [(.ob 0), (.ob 3)] 4 (.call 73 [(.ob 1), (.ob 2)] 5 (.leaf [(.ob 4), (.ob 5)])))
theorem ev_rivsub : Ct.ok Tryz.prog 28 { args := [[.r, .r], [.r, .r]], res := [[.r, .r]], F := fun als => tr_rivsub.den GV0 (env0 als), L := 1000000, A := 2, B := 40 } :=
  top_ok (by kernel_rfl) GV0_ok (plans := planF) (lf := 60) (k := 20) (by kernel_rfl)
def tr_ivhull : Tr (List SA) := (.call 64 [(.ob 2), (.ob 0)] 18 (.br (.lt (.var 18) (.lit 0)) (.call 64 [(.ob 3), (.ob 1)] 19 (.br (.lt (.lit 0) (.var 19)) (.leaf [(.ob 2), (.ob 3)]) (.leaf [(.ob 2), (.ob 1)]))) (.call 64 [(.ob 3), (.ob 1)] 19 (.br (.lt (.lit 0) (.var 19)) (.leaf [(.ob 0), (.ob 3)]) (.leaf [(.ob 0), (.ob 1)])))))
theorem ev_ivhull : Ct.ok Tryz.prog 21 { args := [[.r, .r], [.r, .r]], res := [[.r, .r]], F := fun als => tr_ivhull.den GV0 (env0 als), L := 1000000, A := 1, B := 0 } :=
  top_ok (by kernel_rfl) GV0_ok (plans := planF) (lf := 60) (k := 20) (by kernel_rfl)
def tr_ivmul : Tr (List SA) := (.call 74 [(.ob 0), (.ob 2)] 18 (.call 74 [(.ob 0), (.ob 3)] 19 (.call 74 [(.ob 1), (.ob 2)] 34 (.call 74 [(.ob 1), (.ob 3)] 35 (.call 64 [(.ob 19), (.ob 18)] 50 (.br (.lt (.var 50) (.lit 0)) (.call 64 [(.ob 34), (.ob 19)] 51 (.br (.lt (.var 51) (.lit 0)) (.call 64 [(.ob 35), (.ob 34)] 52 (.br (.lt (.var 52) (.lit 0)) (.call 64 [(.ob 19), (.ob 18)] 53 (.br (.lt (.lit 0) (.var 53)) (.call 64 [(.ob 34), (.ob 19)] 54 (.br (.lt (.lit 0) (.var 54)) (.call 64 [(.ob 35), (.ob 34)] 55 (.br (.lt (.lit 0) (.var 55)) (.leaf [(.ob 35), (.ob 35)]) (.leaf [(.ob 35), (.ob 34)]))) (.call 64 [(.ob 35), (.ob 19)] 55 (.br (.lt (.lit 0) (.var 55)) (.leaf [(.ob 35), (.ob 35)]) (.leaf [(.ob 35), (.ob 19)]))))) (.call 64 [(.ob 34), (.ob 18)] 54 (.br (.lt (.lit 0) (.var 54)) (.call 64 [(.ob 35), (.ob 34)] 55 (.br (.lt (.lit 0) (.var 55)) (.leaf [(.ob 35), (.ob 35)]) (.leaf [(.ob 35), (.ob 34)]))) (.call 64 [(.ob 35), (.ob 18)] 55 (.br (.lt (.lit 0) (.var 55)) (.leaf [(.ob 35), (.ob 35)]) (.leaf [(.ob 35), (.ob 18)]))))))) (.call 64 [(.ob 19), (.ob 18)] 53 (.br (.lt (.lit 0) (.var 53)) (.call 64 [(.ob 34), (.ob 19)] 54 (.br (.lt (.lit 0) (.var 54)) (.call 64 [(.ob 35), (.ob 34)] 55 (.br (.lt (.lit 0) (.var 55)) (.leaf [(.ob 34), (.ob 35)]) (.leaf [(.ob 34), (.ob 34)]))) (.call 64 [(.ob 35), (.ob 19)] 55 (.br (.lt (.lit 0) (.var 55)) (.leaf [(.ob 34), (.ob 35)]) (.leaf [(.ob 34), (.ob 19)]))))) (.call 64 [(.ob 34), (.ob 18)] 54 (.br (.lt (.lit 0) (.var 54)) (.call 64 [(.ob 35), (.ob 34)] 55 (.br (.lt (.lit 0) (.var 55)) (.leaf [(.ob 34), (.ob 35)]) (.leaf [(.ob 34), (.ob 34)]))) (.call 64 [(.ob 35), (.ob 18)] 55 (.br (.lt (.lit 0) (.var 55)) (.leaf [(.ob 34), (.ob 35)]) (.leaf [(.ob 34), (.ob 18)]))))))))) (.call 64 [(.ob 35), (.ob 19)] 52 (.br (.lt (.var 52) (.lit 0)) (.call 64 [(.ob 19), (.ob 18)] 53 (.br (.lt (.lit 0) (.var 53)) (.call 64 [(.ob 34), (.ob 19)] 54 (.br (.lt (.lit 0) (.var 54)) (.call 64 [(.ob 35), (.ob 34)] 55 (.br (.lt (.lit 0) (.var 55)) (.leaf [(.ob 35), (.ob 35)]) (.leaf [(.ob 35), (.ob 34)]))) (.call 64 [(.ob 35), (.ob 19)] 55 (.br (.lt (.lit 0) (.var 55)) (.leaf [(.ob 35), (.ob 35)]) (.leaf [(.ob 35), (.ob 19)]))))) (.call 64 [(.ob 34), (.ob 18)] 54 (.br (.lt (.lit 0) (.var 54)) (.call 64 [(.ob 35), (.ob 34)] 55 (.br (.lt (.lit 0) (.var 55)) (.leaf [(.ob 35), (.ob 35)]) (.leaf [(.ob 35), (.ob 34)]))) (.call 64 [(.ob 35), (.ob 18)] 55 (.br (.lt (.lit 0) (.var 55)) (.leaf [(.ob 35), (.ob 35)]) (.leaf [(.ob 35), (.ob 18)]))))))) (.call 64 [(.ob 19), (.ob 18)] 53 (.br (.lt (.lit 0) (.var 53)) (.call 64 [(.ob 34), (.ob 19)] 54 (.br (.lt (.lit 0) (.var 54)) (.call 64 [(.ob 35), (.ob 34)] 55 (.br (.lt (.lit 0) (.var 55)) (.leaf [(.ob 19), (.ob 35)]) (.leaf [(.ob 19), (.ob 34)]))) (.call 64 [(.ob 35), (.ob 19)] 55 (.br (.lt (.lit 0) (.var 55)) (.leaf [(.ob 19), (.ob 35)]) (.leaf [(.ob 19), (.ob 19)]))))) (.call 64 [(.ob 34), (.ob 18)] 54 (.br (.lt (.lit 0) (.var 54)) (.call 64 [(.ob 35), (.ob 34)] 55 (.br (.lt (.lit 0) (.var 55)) (.leaf [(.ob 19), (.ob 35)]) (.leaf [(.ob 19), (.ob 34)]))) (.call 64 [(.ob 35), (.ob 18)] 55 (.br (.lt (.lit 0) (.var 55)) (.leaf [(.ob 19), (.ob 35)]) (.leaf [(.ob 19), (.ob 18)]))))))))))) (.call 64 [(.ob 34), (.ob 18)] 51 (.br (.lt (.var 51) (.lit 0)) (.call 64 [(.ob 35), (.ob 34)] 52 (.br (.lt (.var 52) (.lit 0)) (.call 64 [(.ob 19), (.ob 18)] 53 (.br (.lt (.lit 0) (.var 53)) (.call 64 [(.ob 34), (.ob 19)] 54 (.br (.lt (.lit 0) (.var 54)) (.call 64 [(.ob 35), (.ob 34)] 55 (.br (.lt (.lit 0) (.var 55)) (.leaf [(.ob 35), (.ob 35)]) (.leaf [(.ob 35), (.ob 34)]))) (.call 64 [(.ob 35), (.ob 19)] 55 (.br (.lt (.lit 0) (.var 55)) (.leaf [(.ob 35), (.ob 35)]) (.leaf [(.ob 35), (.ob 19)]))))) (.call 64 [(.ob 34), (.ob 18)] 54 (.br (.lt (.lit 0) (.var 54)) (.call 64 [(.ob 35), (.ob 34)] 55 (.br (.lt (.lit 0) (.var 55)) (.leaf [(.ob 35), (.ob 35)]) (.leaf [(.ob 35), (.ob 34)]))) (.call 64 [(.ob 35), (.ob 18)] 55 (.br (.lt (.lit 0) (.var 55)) (.leaf [(.ob 35), (.ob 35)]) (.leaf [(.ob 35), (.ob 18)]))))))) (.call 64 [(.ob 19), (.ob 18)] 53 (.br (.lt (.lit 0) (.var 53)) (.call 64 [(.ob 34), (.ob 19)] 54 (.br (.lt (.lit 0) (.var 54)) (.call 64 [(.ob 35), (.ob 34)] 55 (.br (.lt (.lit 0) (.var 55)) (.leaf [(.ob 34), (.ob 35)]) (.leaf [(.ob 34), (.ob 34)]))) (.call 64 [(.ob 35), (.ob 19)] 55 (.br (.lt (.lit 0) (.var 55)) (.leaf [(.ob 34), (.ob 35)]) (.leaf [(.ob 34), (.ob 19)]))))) (.call 64 [(.ob 34), (.ob 18)] 54 (.br (.lt (.lit 0) (.var 54)) (.call 64 [(.ob 35), (.ob 34)] 55 (.br (.lt (.lit 0) (.var 55)) (.leaf [(.ob 34), (.ob 35)]) (.leaf [(.ob 34), (.ob 34)]))) (.call 64 [(.ob 35), (.ob 18)] 55 (.br (.lt (.lit 0) (.var 55)) (.leaf [(.ob 34), (.ob 35)]) (.leaf [(.ob 34), (.ob 18)]))))))))) (.call 64 [(.ob 35), (.ob 18)] 52 (.br (.lt (.var 52) (.lit 0)) (.call 64 [(.ob 19), (.ob 18)] 53 (.br (.lt (.lit 0) (.var 53)) (.call 64 [(.ob 34), (.ob 19)] 54 (.br (.lt (.lit 0) (.var 54)) (.call 64 [(.ob 35), (.ob 34)] 55 (.br (.lt (.lit 0) (.var 55)) (.leaf [(.ob 35), (.ob 35)]) (.leaf [(.ob 35), (.ob 34)]))) (.call 64 [(.ob 35), (.ob 19)] 55 (.br (.lt (.lit 0) (.var 55)) (.leaf [(.ob 35), (.ob 35)]) (.leaf [(.ob 35), (.ob 19)]))))) (.call 64 [(.ob 34), (.ob 18)] 54 (.br (.lt (.lit 0) (.var 54)) (.call 64 [(.ob 35), (.ob 34)] 55 (.br (.lt (.lit 0) (.var 55)) (.leaf [(.ob 35), (.ob 35)]) (.leaf [(.ob 35), (.ob 34)]))) (.call 64 [(.ob 35), (.ob 18)] 55 (.br (.lt (.lit 0) (.var 55)) (.leaf [(.ob 35), (.ob 35)]) (.leaf [(.ob 35), (.ob 18)]))))))) (.call 64 [(.ob 19), (.ob 18)] 53 (.br (.lt (.lit 0) (.var 53)) (.call 64 [(.ob 34), (.ob 19)] 54 (.br (.lt (.lit 0) (.var 54)) (.call 64 [(.ob 35), (.ob 34)] 55 (.br (.lt (.lit 0) (.var 55)) (.leaf [(.ob 18), (.ob 35)]) (.leaf [(.ob 18), (.ob 34)]))) (.call 64 [(.ob 35), (.ob 19)] 55 (.br (.lt (.lit 0) (.var 55)) (.leaf [(.ob 18), (.ob 35)]) (.leaf [(.ob 18), (.ob 19)]))))) (.call 64 [(.ob 34), (.ob 18)] 54 (.br (.lt (.lit 0) (.var 54)) (.call 64 [(.ob 35), (.ob 34)] 55 (.br (.lt (.lit 0) (.var 55)) (.leaf [(.ob 18), (.ob 35)]) (.leaf [(.ob 18), (.ob 34)]))) (.call 64 [(.ob 35), (.ob 18)] 55 (.br (.lt (.lit 0) (.var 55)) (.leaf [(.ob 18), (.ob 35)]) (.leaf [(.ob 18), (.ob 18)])))))))))))))))))
theorem ev_ivmul : Ct.ok Tryz.prog 29 { args := [[.r, .r], [.r, .r]], res := [[.r, .r]], F := fun als => tr_ivmul.den GV0 (env0 als), L := 1000000, A := 2, B := 4 } :=
  top_ok (by kernel_rfl) GV0_ok (plans := planF) (lf := 60) (k := 20) (by kernel_rfl)
end Go.Proofs.YtifgdiejpglhfaaGreat
