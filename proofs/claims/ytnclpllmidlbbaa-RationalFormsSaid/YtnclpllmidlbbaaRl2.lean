/- Rational numbers: the laws. -/
import Derived.Test.YtnclpllmidlbbaaRl1
namespace Go.Proofs.Ytnclpllmidlbbaa
open Go Go.RowKit Go.V Go.ChangeMaps
set_option linter.unusedSimpArgs false
set_option linter.unusedVariables false
set_option maxRecDepth 20000
def GL0 : Gam := gamOf [(11, ct_alive3)]
theorem GL0_ok : GamOk Try.prog GL0 := gamOk_of ⟨ok_alive3, trivial⟩
theorem GL0_alive3 : GL0 11 = some ct_alive3 := rfl
def GL1 : Gam := gamOf [(25, ct_qright), (26, ct_rqright), (27, ct_qsign), (28, ct_rqsign), (29, ct_qcmp), (30, ct_rqcmp), (31, ct_qequal), (32, ct_rqequal), (11, ct_alive3)]
theorem GL1_ok : GamOk Try.prog GL1 := gamOk_of ⟨ok_qright, ok_rqright, ok_qsign, ok_rqsign, ok_qcmp, ok_rqcmp, ok_qequal, ok_rqequal, ok_alive3, trivial⟩
theorem GL1_qright : GL1 25 = some ct_qright := rfl
theorem GL1_rqright : GL1 26 = some ct_rqright := rfl
theorem GL1_qsign : GL1 27 = some ct_qsign := rfl
theorem GL1_rqsign : GL1 28 = some ct_rqsign := rfl
theorem GL1_qcmp : GL1 29 = some ct_qcmp := rfl
theorem GL1_rqcmp : GL1 30 = some ct_rqcmp := rfl
theorem GL1_qequal : GL1 31 = some ct_qequal := rfl
theorem GL1_rqequal : GL1 32 = some ct_rqequal := rfl
theorem GL1_alive3 : GL1 11 = some ct_alive3 := rfl
def tr_formsA : Tr (List SA) := (.br (.lt (.lit 12) (.len 0 1)) (.call 11 [] 2 (.leaf [(.b (.var 2))])) (.br (.lt (.lit 12) (.len 0 2)) (.call 11 [] 2 (.leaf [(.b (.var 2))])) (.br (.lt (.lit 12) (.len 1 1)) (.call 11 [] 2 (.leaf [(.b (.var 2))])) (.br (.lt (.lit 12) (.len 1 2)) (.call 11 [] 2 (.leaf [(.b (.var 2))])) (.call 25 [(.ob 0)] 2 (.call 26 [(.ob 0)] 3 (.br (.beq (.var 2) (.var 3)) (.call 27 [(.ob 0)] 4 (.call 28 [(.ob 0)] 5 (.br (.eq (.var 4) (.var 5)) (.call 29 [(.ob 0), (.ob 1)] 6 (.call 30 [(.ob 0), (.ob 1)] 7 (.br (.eq (.var 6) (.var 7)) (.call 31 [(.ob 0), (.ob 1)] 8 (.call 32 [(.ob 0), (.ob 1)] 9 (.br (.beq (.var 8) (.var 9)) (.call 11 [] 10 (.leaf [(.b (.var 10))])) (.leaf [(.b (.lit false))])))) (.leaf [(.b (.lit false))])))) (.leaf [(.b (.lit false))])))) (.leaf [(.b (.lit false))]))))))))
theorem ev_formsA : Ct.ok Try.prog 5 { args := [[.r], [.r]], res := [[.b]], F := fun als => tr_formsA.den GL1 (env0 als), L := 12, A := 0, B := 0 } :=
  top_ok (by kernel_rfl) GL1_ok (plans := planF) (lf := 60) (k := 20) (by kernel_rfl)
def tr_formsB : Tr (List SA) := (.br (.lt (.lit 12) (.len 0 1)) (.call 11 [] 2 (.leaf [(.b (.var 2))])) (.br (.lt (.lit 12) (.len 0 2)) (.call 11 [] 2 (.leaf [(.b (.var 2))])) (.br (.lt (.lit 12) (.len 1 1)) (.call 11 [] 2 (.leaf [(.b (.var 2))])) (.br (.lt (.lit 12) (.len 1 2)) (.call 11 [] 2 (.leaf [(.b (.var 2))])) (.br (.eq (.len 0 1) (.lit 0)) (.br (.not (.bit 0)) (.br (.eq (.len 0 2) (.lit 0)) (.br (.eq (.len 0 1) (.lit 0)) (.br (.bit 0) (.br (.not (.eq (.len 0 1) (.lit 0))) (.br (.eq (.len 0 2) (.lit 0)) (.br (.lt (.lit 0) (.len 0 1)) .bad .bad) .bad) (.br (.lt (.lit 0) (.len 0 2)) .bad .bad)) (.br (.eq (.len 0 2) (.lit 0)) (.br (.lt (.lit 0) (.len 0 1)) .bad .bad) .bad)) .bad) .bad) (.br (.lt (.lit 0) (.len 0 1)) .bad (.br (.eq (.len 0 1) (.lit 0)) (.br (.bit 0) (.br (.not (.eq (.len 0 1) (.lit 0))) (.br (.eq (.len 0 2) (.lit 0)) (.br (.lt (.lit 0) (.len 0 1)) .bad .bad) .bad) (.br (.lt (.lit 0) (.len 0 2)) .bad .bad)) (.br (.eq (.len 0 2) (.lit 0)) (.br (.lt (.lit 0) (.len 0 1)) .bad .bad) .bad)) .bad))) (.br (.lt (.lit 0) (.len 0 1)) .bad (.br (.eq (.len 0 1) (.lit 0)) (.br (.bit 0) (.br (.not (.eq (.len 0 1) (.lit 0))) (.br (.eq (.len 0 2) (.lit 0)) (.br (.lt (.lit 0) (.len 0 1)) .bad .bad) .bad) (.br (.lt (.lit 0) (.len 0 2)) .bad .bad)) (.br (.eq (.len 0 2) (.lit 0)) (.br (.lt (.lit 0) (.len 0 1)) .bad .bad) .bad)) .bad)))))))
theorem ev_formsB (L : Nat) : Ct.ok Try.prog 5 { args := [[.r], [.r]], res := [[.b]], F := fun als => tr_formsB.den GL0 (env0 als), L := L, A := 0, B := 0 } :=
  top_ok (by kernel_rfl) GL0_ok (plans := planF) (lf := 60) (k := 20) (by kernel_rfl)
theorem formsA_den (a : Bool) (l m : List Nat) (b : Bool) (k n : List Nat) (h : l.length ≤ 12 ∧ m.length ≤ 12 ∧ k.length ≤ 12 ∧ n.length ≤ 12) : tr_formsA.den GL1 (env0 [.r a l m, .r b k n]) = some [.b true] := by
  have h_1 : ¬ (12 : Int) < l.length := by omega
  have h_2 : ¬ (12 : Int) < m.length := by omega
  have h_3 : ¬ (12 : Int) < k.length := by omega
  have h_4 : ¬ (12 : Int) < n.length := by omega
  simp only [tr_formsA, Tr.den, evAll, SA.ev, BE.ev, IE.ev, SE.ev, LE.ev, env0, extE_eq, pickO, evN, evB, evS, evLen, evBit, evLst, At.len, At.bit, At.lst, op1, op2, op3, Nat.reduceLeDiff, Nat.reduceSub, Nat.reduceEqDiff, if_true, if_false, ite_true, ite_false, decide_true, decide_false, Bool.not_true, Bool.not_false, Nat.zero_le, Nat.sub_zero, List.getElem?_cons_zero, List.getElem?_cons_succ, List.getElem?_nil, GL1_qright, ctF_qright, GL1_rqright, ctF_rqright, GL1_qsign, ctF_qsign, GL1_rqsign, ctF_rqsign, GL1_qcmp, ctF_qcmp, GL1_rqcmp, ctF_rqcmp, GL1_qequal, ctF_qequal, GL1_rqequal, ctF_rqequal, GL1_alive3, ctF_alive3, decide_eq_false h_1, decide_eq_false h_2, decide_eq_false h_3, decide_eq_false h_4, f_qright, f_qsign, f_qcmp, f_qequal, f_true, beq_self_eq_true]
theorem formsB_den (a : Bool) (l m : List Nat) (b : Bool) (k n : List Nat) (h : ¬ (l.length ≤ 12 ∧ m.length ≤ 12 ∧ k.length ≤ 12 ∧ n.length ≤ 12)) : tr_formsB.den GL0 (env0 [.r a l m, .r b k n]) = some [.b true] := by
  by_cases h_1 : (12 : Int) < l.length
  · simp only [tr_formsB, Tr.den, evAll, SA.ev, BE.ev, IE.ev, SE.ev, LE.ev, env0, extE_eq, pickO, evN, evB, evS, evLen, evBit, evLst, At.len, At.bit, At.lst, op1, op2, op3, Nat.reduceLeDiff, Nat.reduceSub, Nat.reduceEqDiff, if_true, if_false, ite_true, ite_false, decide_true, decide_false, Bool.not_true, Bool.not_false, Nat.zero_le, Nat.sub_zero, List.getElem?_cons_zero, List.getElem?_cons_succ, List.getElem?_nil, GL0_alive3, ctF_alive3, decide_eq_true h_1, f_true]
  by_cases h_2 : (12 : Int) < m.length
  · simp only [tr_formsB, Tr.den, evAll, SA.ev, BE.ev, IE.ev, SE.ev, LE.ev, env0, extE_eq, pickO, evN, evB, evS, evLen, evBit, evLst, At.len, At.bit, At.lst, op1, op2, op3, Nat.reduceLeDiff, Nat.reduceSub, Nat.reduceEqDiff, if_true, if_false, ite_true, ite_false, decide_true, decide_false, Bool.not_true, Bool.not_false, Nat.zero_le, Nat.sub_zero, List.getElem?_cons_zero, List.getElem?_cons_succ, List.getElem?_nil, GL0_alive3, ctF_alive3, decide_eq_false h_1, decide_eq_true h_2, f_true]
  by_cases h_3 : (12 : Int) < k.length
  · simp only [tr_formsB, Tr.den, evAll, SA.ev, BE.ev, IE.ev, SE.ev, LE.ev, env0, extE_eq, pickO, evN, evB, evS, evLen, evBit, evLst, At.len, At.bit, At.lst, op1, op2, op3, Nat.reduceLeDiff, Nat.reduceSub, Nat.reduceEqDiff, if_true, if_false, ite_true, ite_false, decide_true, decide_false, Bool.not_true, Bool.not_false, Nat.zero_le, Nat.sub_zero, List.getElem?_cons_zero, List.getElem?_cons_succ, List.getElem?_nil, GL0_alive3, ctF_alive3, decide_eq_false h_1, decide_eq_false h_2, decide_eq_true h_3, f_true]
  by_cases h_4 : (12 : Int) < n.length
  · simp only [tr_formsB, Tr.den, evAll, SA.ev, BE.ev, IE.ev, SE.ev, LE.ev, env0, extE_eq, pickO, evN, evB, evS, evLen, evBit, evLst, At.len, At.bit, At.lst, op1, op2, op3, Nat.reduceLeDiff, Nat.reduceSub, Nat.reduceEqDiff, if_true, if_false, ite_true, ite_false, decide_true, decide_false, Bool.not_true, Bool.not_false, Nat.zero_le, Nat.sub_zero, List.getElem?_cons_zero, List.getElem?_cons_succ, List.getElem?_nil, GL0_alive3, ctF_alive3, decide_eq_false h_1, decide_eq_false h_2, decide_eq_false h_3, decide_eq_true h_4, f_true]
  exact absurd ⟨by omega, by omega, by omega, by omega⟩ h
set_option maxRecDepth 100000 in
theorem rationalForms_lifted (os : Os) (started : os.Started) (H : Type) (enc : TypeId × Value → H) :
    ReturnsInHanded {} Try.checked os 5 .any (Rows.rationalFormsSpec.pre6 enc Try.prog Try.f5 Rows.rationalFormsRow.domain false) (Rows.rationalFormsSpec.post enc Try.prog Try.f5 false true false false) := by
  refine law_lifted (C := Try.checked) (s := Rows.rationalFormsSpec) Try.own Try.laidOut (by kernel_rfl) Try.func5 rfl 4 rfl Try.underlying4 (by kernel_rfl) enc ?_ ?_ os started
    (ChangeSpec.witness6 (enc := enc) (C := Try.checked) false ⟨#[], #[.agg #[.bool false, .slice none 0 0, .slice none 0 0], .agg #[.bool false, .slice none 0 0, .slice none 0 0]], []⟩ 8 (by kernel_rfl) (by kernel_rfl) (by kernel_rfl) (by kernel_rfl))
  · intro ds hl
    match ds, hl with
    | [d0, d1], _ => rfl
  · intro W base args ds ps hval hA hlt hwt
    have hA' : DataW.TrodAll enc Try.prog W 0 (fun _ => true) true [30, 30] args.toList ds ps := hA
    have hval' : ∀ (j : Nat) t v, Try.f5.params[j]? = some t → args[j]? = some v → Value.okWide Try.prog W .any base t v := hval
    obtain ⟨v0, v1, d0, d1, p0, p1, rfl, rfl, rfl, h0, h1⟩ := Go.ChangeShapes.trodAll_two hA'
    obtain ⟨als_a, hr_a⟩ := open_Rat (hval' 0 30 v0 rfl rfl) h0
    obtain ⟨als_b, hr_b⟩ := open_Rat (hval' 1 30 v1 rfl rfl) h1
    exact law_rr ev_formsA ev_formsB formsA_den formsB_den hr_a hr_b

theorem rationalForms_holds : Rows.RationalFormsSaid :=
  OpenClaim.holds_of_wide 5 Try.f5 rfl rfl rfl rfl rfl rfl rfl ⟨rfl, rfl, rfl, rfl, rfl⟩ rfl rfl rfl rfl rfl (by kernel_rfl) Try.func5 (by kernel_rfl)
    (of_decide_eq_true (by kernel_rfl)) (by unfold Func.isWrapper; first | (rw [if_pos (by decide +kernel)]; kernel_rfl) | (rw [if_neg (by decide +kernel)]; exact ⟨rfl, rfl⟩))
    (fun os started H enc _ => rationalForms_lifted os started H enc)
end Go.Proofs.Ytnclpllmidlbbaa
