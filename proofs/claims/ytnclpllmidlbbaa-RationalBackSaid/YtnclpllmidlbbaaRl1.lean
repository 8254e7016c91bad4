/- Rational numbers: the laws' arguments; alive. -/
import Derived.Test.YtnclpllmidlbbaaRa5
import Derived.Test.YtnclpllmidlbbaaRow
import Derived.Test.YtnclpllmidlbbaaRt1
import Derived.ChangeSame
namespace Go.Proofs.Ytnclpllmidlbbaa
open Go Go.RowKit Go.V Go.ChangeMaps
set_option linter.unusedSimpArgs false
set_option linter.unusedVariables false
set_option maxRecDepth 20000

def f_true : List At → Option (List At)
  | [] => some [.b true]
  | _ => none
def GR6 : Gam := gamOf [(12, ct_qmake), (20, ct_qsqrt), (17, ct_qfrac), (14, ct_rqsame)]
theorem GR6_ok : GamOk Try.prog GR6 := gamOk_of ⟨ok_qmake, ok_qsqrt, ok_qfrac, ok_rqsame, trivial⟩
theorem GR6_qmake : GR6 12 = some ct_qmake := rfl
theorem GR6_qsqrt : GR6 20 = some ct_qsqrt := rfl
theorem GR6_qfrac : GR6 17 = some ct_qfrac := rfl
theorem GR6_rqsame : GR6 14 = some ct_rqsame := rfl
def tr_alive3 : Tr (List SA) := (.obj [2] 0 (.obj [4] 1 (.call 12 [(.y (.lit false) (.var 0 0)), (.y (.lit true) (.var 1 0))] 2 (.call 17 [(.n (.lit 9)), (.n (.lit 4))] 4 (.call 20 [(.ob 4)] 5 (.br (.eq (.var 3) (.lit 0)) (.obj [1] 11 (.obj [2] 13 (.call 14 [(.ob 2), (.r (.lit true) (.var 11 0) (.var 13 0))] 26 (.br (.var 26) (.br (.var 6) (.call 17 [(.n (.lit 3)), (.n (.lit 2))] 27 (.call 14 [(.ob 5), (.ob 27)] 28 (.leaf [(.b (.var 28))]))) (.leaf [(.b (.lit false))])) (.leaf [(.b (.lit false))]))))) (.leaf [(.b (.lit false))])))))))
theorem ev_alive3 : Ct.ok Try.prog 11 { args := [], res := [[.b]], F := fun als => tr_alive3.den GR6 (env0 als), L := 100, A := 0, B := 0 } :=
  top_ok (by kernel_rfl) GR6_ok (plans := planF) (lf := 60) (k := 20) (by kernel_rfl)
theorem alive3_den : tr_alive3.den GR6 (env0 []) = some [.b true] := by kernel_rfl
def ct_alive3 : Ct := { args := [], res := [[.b]], F := f_true, L := 100, A := 0, B := 0 }
theorem ctF_alive3 : ct_alive3.F = f_true := rfl
theorem ok_alive3 : ct_alive3.ok Try.prog 11 := by
  refine ev_alive3.weaken fun als r h => ?_
  unfold f_true at h
  split at h
  · rw [← h]; exact alive3_den
  · cases h
end Go.Proofs.Ytnclpllmidlbbaa
