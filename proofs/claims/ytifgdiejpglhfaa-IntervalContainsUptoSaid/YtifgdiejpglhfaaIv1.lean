/- Intervals, in numbers: the functions without rounding. -/
import Derived.Test.YtifgdiejpglhfaaQa1
import Derived.Test.YtifgdiejpglhfaaNc2
namespace Go.Proofs.Ytifgdiejpglhfaa
open Go Go.RowKit Go.V
set_option linter.unusedSimpArgs false
set_option linter.unusedVariables false
set_option maxRecDepth 20000
/-- the lesser one, as the code picks it: the second only if it is less than the first -/
def rmin (x y : Rat) : Rat := if y < x then y else x
def rmax (x y : Rat) : Rat := if x < y then y else x
theorem cmp_lt (x y : Rat) : (qcmpv x y < 0) = (x < y) := by
  apply propext
  rcases qtri x y with h | rfl | h
  · rw [qcmpv_lt h]; simp [h]
  · rw [qcmpv_eq]; simp [Rat.lt_irrefl]
  · rw [qcmpv_gt h]
    constructor
    · intro h'; exact absurd h' (by decide)
    · intro h'; exact absurd (Std.lt_trans h h') Rat.lt_irrefl
theorem cmp_gt (x y : Rat) : (0 < qcmpv x y) = (y < x) := by
  apply propext
  rcases qtri x y with h | rfl | h
  · rw [qcmpv_lt h]
    constructor
    · intro h'; exact absurd h' (by decide)
    · intro h'; exact absurd (Std.lt_trans h h') Rat.lt_irrefl
  · rw [qcmpv_eq]; simp [Rat.lt_irrefl]
  · rw [qcmpv_gt h]; simp [h]
theorem cmp_le (x y : Rat) : (qcmpv x y ≤ 0) = (x ≤ y) := by
  apply propext
  have := cmp_gt x y
  rw [← Int.not_lt, this, Rat.not_lt]
def ivm1 (a b c d : Rat) : Rat := rmin (rmin (rmin (a * c) (a * d)) (b * c)) (b * d)
def ivm2 (a b c d : Rat) : Rat := rmax (rmax (rmax (a * c) (a * d)) (b * c)) (b * d)
def g_ivhas : List QA → Option (List QA)
  | [.q a, .q b, .q x] => some [.b (decide (a ≤ x ∧ x ≤ b))]
  | _ => none
def g_ivadd : List QA → Option (List QA)
  | [.q a, .q b, .q c, .q d] => some [.q (a + c), .q (b + d)]
  | _ => none
def g_ivsub : List QA → Option (List QA)
  | [.q a, .q b, .q c, .q d] => some [.q (a - d), .q (b - c)]
  | _ => none
def g_ivmul : List QA → Option (List QA)
  | [.q a, .q b, .q c, .q d] => some [.q (ivm1 a b c d), .q (ivm2 a b c d)]
  | _ => none
def g_ivhull : List QA → Option (List QA)
  | [.q a, .q b, .q c, .q d] => if a ≤ b ∧ c ≤ d then some [.q (rmin a c), .q (rmax b d)] else none
  | _ => none
def g_ivmeet : List QA → Option (List QA)
  | [.q a, .q b, .q c, .q d] => some (if rmin b d < rmax a c then [.z, .z, .b false] else [.q (rmax a c), .q (rmin b d), .b true])
  | _ => none
def g_ivdiv : List QA → Option (List QA)
  | [.q a, .q b, .q c, .q d] => if c ≤ d then some (if c ≤ 0 ∧ 0 ≤ d then [.z, .z, .n 3] else [.q (ivm1 a b (1 / d) (1 / c)), .q (ivm2 a b (1 / d) (1 / c)), .n 0]) else none
  | _ => none
def g_ivsquare : List QA → Option (List QA)
  | [.q a, .q b] => some (if a ≤ 0 ∧ 0 ≤ b then [.q 0, .q (rmax (a * a) (b * b))] else [.q (rmin (a * a) (b * b)), .q (rmax (a * a) (b * b))])
  | _ => none
def GV0 : Gam := gamOf [(26, ct_dadd), (27, ct_dsub), (28, ct_dmul), (30, ct_ddiv), (38, ct_dcmp), (39, ct_drcmp), (33, ct_dof), (35, ct_drof), (32, ct_dsign)]
theorem GV0_ok : GamOk Try.prog GV0 := gamOk_of ⟨ok_dadd, ok_dsub, ok_dmul, ok_ddiv, ok_dcmp, ok_drcmp, ok_dof, ok_drof, ok_dsign, trivial⟩
theorem GV0_dadd : GV0 26 = some ct_dadd := rfl
theorem GV0_dsub : GV0 27 = some ct_dsub := rfl
theorem GV0_dmul : GV0 28 = some ct_dmul := rfl
theorem GV0_ddiv : GV0 30 = some ct_ddiv := rfl
theorem GV0_dcmp : GV0 38 = some ct_dcmp := rfl
theorem GV0_drcmp : GV0 39 = some ct_drcmp := rfl
theorem GV0_dof : GV0 33 = some ct_dof := rfl
theorem GV0_drof : GV0 35 = some ct_drof := rfl
theorem GV0_dsign : GV0 32 = some ct_dsign := rfl
def tr_ivhas : Tr (List SA) := (.call 38 [(.ob 0), (.ob 2)] 3 (.br (.le (.var 3) (.lit 0)) (.call 38 [(.ob 2), (.ob 1)] 4 (.leaf [(.b (.le (.var 4) (.lit 0)))])) (.leaf [(.b (.lit false))])))
theorem ev_ivhas : Ct.ok Try.prog 25 { args := [[.r, .r], [.r]], res := [[.b]], F := fun als => tr_ivhas.den GV0 (env0 als), L := 10000000, A := 0, B := 0 } :=
  top_ok (by kernel_rfl) GV0_ok (plans := planF) (lf := 60) (k := 20) (by kernel_rfl)
def tr_ivadd : Tr (List SA) := (.call 26 [(.ob 0), (.ob 2)] 4 (.call 26 [(.ob 1), (.ob 3)] 5 (.leaf [(.ob 4), (.ob 5)])))
theorem ev_ivadd : Ct.ok Try.prog 19 { args := [[.r, .r], [.r, .r]], res := [[.r, .r]], F := fun als => tr_ivadd.den GV0 (env0 als), L := 1000000, A := 2, B := 6 } :=
  top_ok (by kernel_rfl) GV0_ok (plans := planF) (lf := 60) (k := 20) (by kernel_rfl)
def tr_ivsub : Tr (List SA) := (.call 27 [(.ob 0), (.ob 3)] 4 (.call 27 [(.ob 1), (.ob 2)] 5 (.leaf [(.ob 4), (.ob 5)])))
theorem ev_ivsub : Ct.ok Try.prog 20 { args := [[.r, .r], [.r, .r]], res := [[.r, .r]], F := fun als => tr_ivsub.den GV0 (env0 als), L := 1000000, A := 2, B := 6 } :=
  top_ok (by kernel_rfl) GV0_ok (plans := planF) (lf := 60) (k := 20) (by kernel_rfl)
def tr_ivhull : Tr (List SA) := (.call 38 [(.ob 2), (.ob 0)] 18 (.br (.lt (.var 18) (.lit 0)) (.call 38 [(.ob 3), (.ob 1)] 19 (.br (.lt (.lit 0) (.var 19)) (.leaf [(.ob 2), (.ob 3)]) (.leaf [(.ob 2), (.ob 1)]))) (.call 38 [(.ob 3), (.ob 1)] 19 (.br (.lt (.lit 0) (.var 19)) (.leaf [(.ob 0), (.ob 3)]) (.leaf [(.ob 0), (.ob 1)])))))
theorem ev_ivhull : Ct.ok Try.prog 17 { args := [[.r, .r], [.r, .r]], res := [[.r, .r]], F := fun als => tr_ivhull.den GV0 (env0 als), L := 1000000, A := 1, B := 0 } :=
  top_ok (by kernel_rfl) GV0_ok (plans := planF) (lf := 60) (k := 20) (by kernel_rfl)
def tr_ivmul : Tr (List SA) := (.call 28 [(.ob 0), (.ob 2)] 18 (.call 28 [(.ob 0), (.ob 3)] 19 (.call 28 [(.ob 1), (.ob 2)] 34 (.call 28 [(.ob 1), (.ob 3)] 35 (.call 38 [(.ob 19), (.ob 18)] 50 (.br (.lt (.var 50) (.lit 0)) (.call 38 [(.ob 34), (.ob 19)] 51 (.br (.lt (.var 51) (.lit 0)) (.call 38 [(.ob 35), (.ob 34)] 52 (.br (.lt (.var 52) (.lit 0)) (.call 38 [(.ob 19), (.ob 18)] 53 (.br (.lt (.lit 0) (.var 53)) (.call 38 [(.ob 34), (.ob 19)] 54 (.br (.lt (.lit 0) (.var 54)) (.call 38 [(.ob 35), (.ob 34)] 55 (.br (.lt (.lit 0) (.var 55)) (.leaf [(.ob 35), (.ob 35)]) (.leaf [(.ob 35), (.ob 34)]))) (.call 38 [(.ob 35), (.ob 19)] 55 (.br (.lt (.lit 0) (.var 55)) (.leaf [(.ob 35), (.ob 35)]) (.leaf [(.ob 35), (.ob 19)]))))) (.call 38 [(.ob 34), (.ob 18)] 54 (.br (.lt (.lit 0) (.var 54)) (.call 38 [(.ob 35), (.ob 34)] 55 (.br (.lt (.lit 0) (.var 55)) (.leaf [(.ob 35), (.ob 35)]) (.leaf [(.ob 35), (.ob 34)]))) (.call 38 [(.ob 35), (.ob 18)] 55 (.br (.lt (.lit 0) (.var 55)) (.leaf [(.ob 35), (.ob 35)]) (.leaf [(.ob 35), (.ob 18)]))))))) (.call 38 [(.ob 19), (.ob 18)] 53 (.br (.lt (.lit 0) (.var 53)) (.call 38 [(.ob 34), (.ob 19)] 54 (.br (.lt (.lit 0) (.var 54)) (.call 38 [(.ob 35), (.ob 34)] 55 (.br (.lt (.lit 0) (.var 55)) (.leaf [(.ob 34), (.ob 35)]) (.leaf [(.ob 34), (.ob 34)]))) (.call 38 [(.ob 35), (.ob 19)] 55 (.br (.lt (.lit 0) (.var 55)) (.leaf [(.ob 34), (.ob 35)]) (.leaf [(.ob 34), (.ob 19)]))))) (.call 38 [(.ob 34), (.ob 18)] 54 (.br (.lt (.lit 0) (.var 54)) (.call 38 [(.ob 35), (.ob 34)] 55 (.br (.lt (.lit 0) (.var 55)) (.leaf [(.ob 34), (.ob 35)]) (.leaf [(.ob 34), (.ob 34)]))) (.call 38 [(.ob 35), (.ob 18)] 55 (.br (.lt (.lit 0) (.var 55)) (.leaf [(.ob 34), (.ob 35)]) (.leaf [(.ob 34), (.ob 18)]))))))))) (.call 38 [(.ob 35), (.ob 19)] 52 (.br (.lt (.var 52) (.lit 0)) (.call 38 [(.ob 19), (.ob 18)] 53 (.br (.lt (.lit 0) (.var 53)) (.call 38 [(.ob 34), (.ob 19)] 54 (.br (.lt (.lit 0) (.var 54)) (.call 38 [(.ob 35), (.ob 34)] 55 (.br (.lt (.lit 0) (.var 55)) (.leaf [(.ob 35), (.ob 35)]) (.leaf [(.ob 35), (.ob 34)]))) (.call 38 [(.ob 35), (.ob 19)] 55 (.br (.lt (.lit 0) (.var 55)) (.leaf [(.ob 35), (.ob 35)]) (.leaf [(.ob 35), (.ob 19)]))))) (.call 38 [(.ob 34), (.ob 18)] 54 (.br (.lt (.lit 0) (.var 54)) (.call 38 [(.ob 35), (.ob 34)] 55 (.br (.lt (.lit 0) (.var 55)) (.leaf [(.ob 35), (.ob 35)]) (.leaf [(.ob 35), (.ob 34)]))) (.call 38 [(.ob 35), (.ob 18)] 55 (.br (.lt (.lit 0) (.var 55)) (.leaf [(.ob 35), (.ob 35)]) (.leaf [(.ob 35), (.ob 18)]))))))) (.call 38 [(.ob 19), (.ob 18)] 53 (.br (.lt (.lit 0) (.var 53)) (.call 38 [(.ob 34), (.ob 19)] 54 (.br (.lt (.lit 0) (.var 54)) (.call 38 [(.ob 35), (.ob 34)] 55 (.br (.lt (.lit 0) (.var 55)) (.leaf [(.ob 19), (.ob 35)]) (.leaf [(.ob 19), (.ob 34)]))) (.call 38 [(.ob 35), (.ob 19)] 55 (.br (.lt (.lit 0) (.var 55)) (.leaf [(.ob 19), (.ob 35)]) (.leaf [(.ob 19), (.ob 19)]))))) (.call 38 [(.ob 34), (.ob 18)] 54 (.br (.lt (.lit 0) (.var 54)) (.call 38 [(.ob 35), (.ob 34)] 55 (.br (.lt (.lit 0) (.var 55)) (.leaf [(.ob 19), (.ob 35)]) (.leaf [(.ob 19), (.ob 34)]))) (.call 38 [(.ob 35), (.ob 18)] 55 (.br (.lt (.lit 0) (.var 55)) (.leaf [(.ob 19), (.ob 35)]) (.leaf [(.ob 19), (.ob 18)]))))))))))) (.call 38 [(.ob 34), (.ob 18)] 51 (.br (.lt (.var 51) (.lit 0)) (.call 38 [(.ob 35), (.ob 34)] 52 (.br (.lt (.var 52) (.lit 0)) (.call 38 [(.ob 19), (.ob 18)] 53 (.br (.lt (.lit 0) (.var 53)) (.call 38 [(.ob 34), (.ob 19)] 54 (.br (.lt (.lit 0) (.var 54)) (.call 38 [(.ob 35), (.ob 34)] 55 (.br (.lt (.lit 0) (.var 55)) (.leaf [(.ob 35), (.ob 35)]) (.leaf [(.ob 35), (.ob 34)]))) (.call 38 [(.ob 35), (.ob 19)] 55 (.br (.lt (.lit 0) (.var 55)) (.leaf [(.ob 35), (.ob 35)]) (.leaf [(.ob 35), (.ob 19)]))))) (.call 38 [(.ob 34), (.ob 18)] 54 (.br (.lt (.lit 0) (.var 54)) (.call 38 [(.ob 35), (.ob 34)] 55 (.br (.lt (.lit 0) (.var 55)) (.leaf [(.ob 35), (.ob 35)]) (.leaf [(.ob 35), (.ob 34)]))) (.call 38 [(.ob 35), (.ob 18)] 55 (.br (.lt (.lit 0) (.var 55)) (.leaf [(.ob 35), (.ob 35)]) (.leaf [(.ob 35), (.ob 18)]))))))) (.call 38 [(.ob 19), (.ob 18)] 53 (.br (.lt (.lit 0) (.var 53)) (.call 38 [(.ob 34), (.ob 19)] 54 (.br (.lt (.lit 0) (.var 54)) (.call 38 [(.ob 35), (.ob 34)] 55 (.br (.lt (.lit 0) (.var 55)) (.leaf [(.ob 34), (.ob 35)]) (.leaf [(.ob 34), (.ob 34)]))) (.call 38 [(.ob 35), (.ob 19)] 55 (.br (.lt (.lit 0) (.var 55)) (.leaf [(.ob 34), (.ob 35)]) (.leaf [(.ob 34), (.ob 19)]))))) (.call 38 [(.ob 34), (.ob 18)] 54 (.br (.lt (.lit 0) (.var 54)) (.call 38 [(.ob 35), (.ob 34)] 55 (.br (.lt (.lit 0) (.var 55)) (.leaf [(.ob 34), (.ob 35)]) (.leaf [(.ob 34), (.ob 34)]))) (.call 38 [(.ob 35), (.ob 18)] 55 (.br (.lt (.lit 0) (.var 55)) (.leaf [(.ob 34), (.ob 35)]) (.leaf [(.ob 34), (.ob 18)]))))))))) (.call 38 [(.ob 35), (.ob 18)] 52 (.br (.lt (.var 52) (.lit 0)) (.call 38 [(.ob 19), (.ob 18)] 53 (.br (.lt (.lit 0) (.var 53)) (.call 38 [(.ob 34), (.ob 19)] 54 (.br (.lt (.lit 0) (.var 54)) (.call 38 [(.ob 35), (.ob 34)] 55 (.br (.lt (.lit 0) (.var 55)) (.leaf [(.ob 35), (.ob 35)]) (.leaf [(.ob 35), (.ob 34)]))) (.call 38 [(.ob 35), (.ob 19)] 55 (.br (.lt (.lit 0) (.var 55)) (.leaf [(.ob 35), (.ob 35)]) (.leaf [(.ob 35), (.ob 19)]))))) (.call 38 [(.ob 34), (.ob 18)] 54 (.br (.lt (.lit 0) (.var 54)) (.call 38 [(.ob 35), (.ob 34)] 55 (.br (.lt (.lit 0) (.var 55)) (.leaf [(.ob 35), (.ob 35)]) (.leaf [(.ob 35), (.ob 34)]))) (.call 38 [(.ob 35), (.ob 18)] 55 (.br (.lt (.lit 0) (.var 55)) (.leaf [(.ob 35), (.ob 35)]) (.leaf [(.ob 35), (.ob 18)]))))))) (.call 38 [(.ob 19), (.ob 18)] 53 (.br (.lt (.lit 0) (.var 53)) (.call 38 [(.ob 34), (.ob 19)] 54 (.br (.lt (.lit 0) (.var 54)) (.call 38 [(.ob 35), (.ob 34)] 55 (.br (.lt (.lit 0) (.var 55)) (.leaf [(.ob 18), (.ob 35)]) (.leaf [(.ob 18), (.ob 34)]))) (.call 38 [(.ob 35), (.ob 19)] 55 (.br (.lt (.lit 0) (.var 55)) (.leaf [(.ob 18), (.ob 35)]) (.leaf [(.ob 18), (.ob 19)]))))) (.call 38 [(.ob 34), (.ob 18)] 54 (.br (.lt (.lit 0) (.var 54)) (.call 38 [(.ob 35), (.ob 34)] 55 (.br (.lt (.lit 0) (.var 55)) (.leaf [(.ob 18), (.ob 35)]) (.leaf [(.ob 18), (.ob 34)]))) (.call 38 [(.ob 35), (.ob 18)] 55 (.br (.lt (.lit 0) (.var 55)) (.leaf [(.ob 18), (.ob 35)]) (.leaf [(.ob 18), (.ob 18)])))))))))))))))))
theorem ev_ivmul : Ct.ok Try.prog 21 { args := [[.r, .r], [.r, .r]], res := [[.r, .r]], F := fun als => tr_ivmul.den GV0 (env0 als), L := 1000000, A := 2, B := 4 } :=
  top_ok (by kernel_rfl) GV0_ok (plans := planF) (lf := 60) (k := 20) (by kernel_rfl)
end Go.Proofs.Ytifgdiejpglhfaa
