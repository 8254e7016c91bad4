/- Rational numbers: a field, an order. -/
import Derived.Test.YtnclpllmidlbbaaRl1
import Derived.Test.YtnclpllmidlbbaaRa6
namespace Go.Proofs.Ytnclpllmidlbbaa
open Go Go.RowKit Go.V Go.ChangeMaps
set_option linter.unusedSimpArgs false
set_option linter.unusedVariables false
set_option maxRecDepth 20000
def GL0 : Gam := gamOf [(11, ct_alive3)]
theorem GL0_ok : GamOk Try.prog GL0 := gamOk_of ⟨ok_alive3, trivial⟩
theorem GL0_alive3 : GL0 11 = some ct_alive3 := rfl
def GL4 : Gam := gamOf [(37, ct_qadd), (41, ct_qmul), (39, ct_qsub), (33, ct_qdiv), (27, ct_qsign), (31, ct_qequal), (25, ct_qright), (14, ct_rqsame), (11, ct_alive3)]
theorem GL4_ok : GamOk Try.prog GL4 := gamOk_of ⟨ok_qadd, ok_qmul, ok_qsub, ok_qdiv, ok_qsign, ok_qequal, ok_qright, ok_rqsame, ok_alive3, trivial⟩
theorem GL4_qadd : GL4 37 = some ct_qadd := rfl
theorem GL4_qmul : GL4 41 = some ct_qmul := rfl
theorem GL4_qsub : GL4 39 = some ct_qsub := rfl
theorem GL4_qdiv : GL4 33 = some ct_qdiv := rfl
theorem GL4_qsign : GL4 27 = some ct_qsign := rfl
theorem GL4_qequal : GL4 31 = some ct_qequal := rfl
theorem GL4_qright : GL4 25 = some ct_qright := rfl
theorem GL4_rqsame : GL4 14 = some ct_rqsame := rfl
theorem GL4_alive3 : GL4 11 = some ct_alive3 := rfl
def tr_fieldA : Tr (List SA) := (.br (.lt (.lit 12) (.len 0 1)) (.call 11 [] 3 (.leaf [(.b (.var 3))])) (.br (.lt (.lit 12) (.len 0 2)) (.call 11 [] 3 (.leaf [(.b (.var 3))])) (.br (.lt (.lit 12) (.len 1 1)) (.call 11 [] 3 (.leaf [(.b (.var 3))])) (.br (.lt (.lit 12) (.len 1 2)) (.call 11 [] 3 (.leaf [(.b (.var 3))])) (.br (.lt (.lit 12) (.len 2 1)) (.call 11 [] 3 (.leaf [(.b (.var 3))])) (.br (.lt (.lit 12) (.len 2 2)) (.call 11 [] 3 (.leaf [(.b (.var 3))])) (.call 37 [(.ob 0), (.ob 1)] 13 (.call 41 [(.ob 0), (.ob 1)] 14 (.call 25 [(.ob 13)] 15 (.br (.not (.var 15)) (.leaf [(.b (.lit false))]) (.call 25 [(.ob 14)] 16 (.br (.not (.var 16)) (.leaf [(.b (.lit false))]) (.call 37 [(.ob 1), (.ob 0)] 17 (.call 14 [(.ob 13), (.ob 17)] 18 (.br (.not (.var 18)) (.leaf [(.b (.lit false))]) (.call 41 [(.ob 1), (.ob 0)] 19 (.call 14 [(.ob 14), (.ob 19)] 20 (.br (.not (.var 20)) (.leaf [(.b (.lit false))]) (.call 37 [(.ob 13), (.ob 2)] 21 (.call 37 [(.ob 1), (.ob 2)] 22 (.call 37 [(.ob 0), (.ob 22)] 23 (.call 14 [(.ob 21), (.ob 23)] 24 (.br (.not (.var 24)) (.leaf [(.b (.lit false))]) (.call 41 [(.ob 14), (.ob 2)] 25 (.call 41 [(.ob 1), (.ob 2)] 26 (.call 41 [(.ob 0), (.ob 26)] 27 (.call 14 [(.ob 25), (.ob 27)] 28 (.br (.not (.var 28)) (.leaf [(.b (.lit false))]) (.call 41 [(.ob 13), (.ob 2)] 29 (.call 41 [(.ob 0), (.ob 2)] 30 (.call 41 [(.ob 1), (.ob 2)] 31 (.call 37 [(.ob 30), (.ob 31)] 32 (.call 14 [(.ob 29), (.ob 32)] 33 (.br (.not (.var 33)) (.leaf [(.b (.lit false))]) (.call 39 [(.ob 13), (.ob 1)] 34 (.call 31 [(.ob 34), (.ob 0)] 35 (.br (.not (.var 35)) (.leaf [(.b (.lit false))]) (.call 33 [(.ob 14), (.ob 1)] 36 (.call 27 [(.ob 1)] 38 (.br (.eq (.var 38) (.lit 0)) (.br (.eq (.var 37) (.lit 3)) (.call 11 [] 39 (.leaf [(.b (.var 39))])) (.leaf [(.b (.lit false))])) (.br (.eq (.var 37) (.lit 0)) (.call 25 [(.ob 36)] 39 (.br (.var 39) (.call 31 [(.ob 36), (.ob 0)] 40 (.br (.var 40) (.call 11 [] 41 (.leaf [(.b (.var 41))])) (.leaf [(.b (.lit false))]))) (.leaf [(.b (.lit false))]))) (.leaf [(.b (.lit false))]))))))))))))))))))))))))))))))))))))))))))
theorem ev_fieldA : Ct.ok Try.prog 7 { args := [[.r], [.r], [.r]], res := [[.b]], F := fun als => tr_fieldA.den GL4 (env0 als), L := 12, A := 0, B := 0 } :=
  top_ok (by kernel_rfl) GL4_ok (plans := planF) (lf := 60) (k := 20) (by kernel_rfl)
def tr_fieldB : Tr (List SA) := (.br (.lt (.lit 12) (.len 0 1)) (.call 11 [] 3 (.leaf [(.b (.var 3))])) (.br (.lt (.lit 12) (.len 0 2)) (.call 11 [] 3 (.leaf [(.b (.var 3))])) (.br (.lt (.lit 12) (.len 1 1)) (.call 11 [] 3 (.leaf [(.b (.var 3))])) (.br (.lt (.lit 12) (.len 1 2)) (.call 11 [] 3 (.leaf [(.b (.var 3))])) (.br (.lt (.lit 12) (.len 2 1)) (.call 11 [] 3 (.leaf [(.b (.var 3))])) (.br (.lt (.lit 12) (.len 2 2)) (.call 11 [] 3 (.leaf [(.b (.var 3))])) .bad))))))
theorem ev_fieldB (L : Nat) : Ct.ok Try.prog 7 { args := [[.r], [.r], [.r]], res := [[.b]], F := fun als => tr_fieldB.den GL0 (env0 als), L := L, A := 0, B := 0 } :=
  top_ok (by kernel_rfl) GL0_ok (plans := planF) (lf := 60) (k := 20) (by kernel_rfl)
theorem fieldA_den (a : Bool) (l m : List Nat) (b : Bool) (k n : List Nat) (c : Bool) (i j : List Nat) (h : l.length ≤ 12 ∧ m.length ≤ 12 ∧ k.length ≤ 12 ∧ n.length ≤ 12 ∧ i.length ≤ 12 ∧ j.length ≤ 12) : tr_fieldA.den GL4 (env0 [.r a l m, .r b k n, .r c i j]) = some [.b true] := by
  have h_1 : ¬ (12 : Int) < l.length := by omega
  have h_2 : ¬ (12 : Int) < m.length := by omega
  have h_3 : ¬ (12 : Int) < k.length := by omega
  have h_4 : ¬ (12 : Int) < n.length := by omega
  have h_5 : ¬ (12 : Int) < i.length := by omega
  have h_6 : ¬ (12 : Int) < j.length := by omega
  have e1 : ∀ x y : Rat, (x + y = y + x) = True := fun x y => eq_true (Rat.add_comm x y)
  have e2 : ∀ x y : Rat, (x * y = y * x) = True := fun x y => eq_true (Rat.mul_comm x y)
  have e3 : ∀ x y z : Rat, (x + y + z = x + (y + z)) = True := fun x y z => eq_true (Rat.add_assoc x y z)
  have e4 : ∀ x y z : Rat, (x * y * z = x * (y * z)) = True := fun x y z => eq_true (Rat.mul_assoc x y z)
  have e5 : ∀ x y z : Rat, ((x + y) * z = x * z + y * z) = True := fun x y z => eq_true (Rat.add_mul x y z)
  have e6 : ∀ x y : Rat, (x + y - y = x) = True := fun x y => eq_true Rat.add_sub_cancel
  by_cases h0 : qv b k n = 0
  · simp only [tr_fieldA, Tr.den, evAll, SA.ev, BE.ev, IE.ev, SE.ev, LE.ev, env0, extE_eq, pickO, evN, evB, evS, evLen, evBit, evLst, At.len, At.bit, At.lst, op1, op2, op3, Nat.reduceLeDiff, Nat.reduceSub, Nat.reduceEqDiff, if_true, if_false, ite_true, ite_false, decide_true, decide_false, Bool.not_true, Bool.not_false, Nat.zero_le, Nat.sub_zero, List.getElem?_cons_zero, List.getElem?_cons_succ, List.getElem?_nil, GL4_qadd, ctF_qadd, GL4_qmul, ctF_qmul, GL4_qsub, ctF_qsub, GL4_qdiv, ctF_qdiv, GL4_qsign, ctF_qsign, GL4_qequal, ctF_qequal, GL4_qright, ctF_qright, GL4_rqsame, ctF_rqsame, GL4_alive3, ctF_alive3, decide_eq_false h_1, decide_eq_false h_2, decide_eq_false h_3, decide_eq_false h_4, decide_eq_false h_5, decide_eq_false h_6, f_qadd, f_qsub, f_qmul, f_qdiv, f_qsign, f_qright, f_qequal, sg_num, eq_true h0, f_rrb, f_true, beq_self_eq_true, qa, qRight_can, qsame_can, qv_qa, e1, e2, e3, e4, e5, e6, Bool.and_self]
  · have e7 : ∀ x : Rat, (x * qv b k n / qv b k n = x) = True := fun x => eq_true (Rat.mul_div_cancel h0)
    simp only [tr_fieldA, Tr.den, evAll, SA.ev, BE.ev, IE.ev, SE.ev, LE.ev, env0, extE_eq, pickO, evN, evB, evS, evLen, evBit, evLst, At.len, At.bit, At.lst, op1, op2, op3, Nat.reduceLeDiff, Nat.reduceSub, Nat.reduceEqDiff, if_true, if_false, ite_true, ite_false, decide_true, decide_false, Bool.not_true, Bool.not_false, Nat.zero_le, Nat.sub_zero, List.getElem?_cons_zero, List.getElem?_cons_succ, List.getElem?_nil, GL4_qadd, ctF_qadd, GL4_qmul, ctF_qmul, GL4_qsub, ctF_qsub, GL4_qdiv, ctF_qdiv, GL4_qsign, ctF_qsign, GL4_qequal, ctF_qequal, GL4_qright, ctF_qright, GL4_rqsame, ctF_rqsame, GL4_alive3, ctF_alive3, decide_eq_false h_1, decide_eq_false h_2, decide_eq_false h_3, decide_eq_false h_4, decide_eq_false h_5, decide_eq_false h_6, f_qadd, f_qsub, f_qmul, f_qdiv, f_qsign, f_qright, f_qequal, sg_num, h0, f_rrb, f_true, beq_self_eq_true, qa, qRight_can, qsame_can, qv_qa, e1, e2, e3, e4, e5, e6, e7, Bool.and_self]
theorem fieldB_den (a : Bool) (l m : List Nat) (b : Bool) (k n : List Nat) (c : Bool) (i j : List Nat) (h : ¬ (l.length ≤ 12 ∧ m.length ≤ 12 ∧ k.length ≤ 12 ∧ n.length ≤ 12 ∧ i.length ≤ 12 ∧ j.length ≤ 12)) : tr_fieldB.den GL0 (env0 [.r a l m, .r b k n, .r c i j]) = some [.b true] := by
  by_cases h_1 : (12 : Int) < l.length
  · simp only [tr_fieldB, Tr.den, evAll, SA.ev, BE.ev, IE.ev, SE.ev, LE.ev, env0, extE_eq, pickO, evN, evB, evS, evLen, evBit, evLst, At.len, At.bit, At.lst, op1, op2, op3, Nat.reduceLeDiff, Nat.reduceSub, Nat.reduceEqDiff, if_true, if_false, ite_true, ite_false, decide_true, decide_false, Bool.not_true, Bool.not_false, Nat.zero_le, Nat.sub_zero, List.getElem?_cons_zero, List.getElem?_cons_succ, List.getElem?_nil, GL0_alive3, ctF_alive3, decide_eq_true h_1, f_true]
  by_cases h_2 : (12 : Int) < m.length
  · simp only [tr_fieldB, Tr.den, evAll, SA.ev, BE.ev, IE.ev, SE.ev, LE.ev, env0, extE_eq, pickO, evN, evB, evS, evLen, evBit, evLst, At.len, At.bit, At.lst, op1, op2, op3, Nat.reduceLeDiff, Nat.reduceSub, Nat.reduceEqDiff, if_true, if_false, ite_true, ite_false, decide_true, decide_false, Bool.not_true, Bool.not_false, Nat.zero_le, Nat.sub_zero, List.getElem?_cons_zero, List.getElem?_cons_succ, List.getElem?_nil, GL0_alive3, ctF_alive3, decide_eq_false h_1, decide_eq_true h_2, f_true]
  by_cases h_3 : (12 : Int) < k.length
  · simp only [tr_fieldB, Tr.den, evAll, SA.ev, BE.ev, IE.ev, SE.ev, LE.ev, env0, extE_eq, pickO, evN, evB, evS, evLen, evBit, evLst, At.len, At.bit, At.lst, op1, op2, op3, Nat.reduceLeDiff, Nat.reduceSub, Nat.reduceEqDiff, if_true, if_false, ite_true, ite_false, decide_true, decide_false, Bool.not_true, Bool.not_false, Nat.zero_le, Nat.sub_zero, List.getElem?_cons_zero, List.getElem?_cons_succ, List.getElem?_nil, GL0_alive3, ctF_alive3, decide_eq_false h_1, decide_eq_false h_2, decide_eq_true h_3, f_true]
  by_cases h_4 : (12 : Int) < n.length
  · simp only [tr_fieldB, Tr.den, evAll, SA.ev, BE.ev, IE.ev, SE.ev, LE.ev, env0, extE_eq, pickO, evN, evB, evS, evLen, evBit, evLst, At.len, At.bit, At.lst, op1, op2, op3, Nat.reduceLeDiff, Nat.reduceSub, Nat.reduceEqDiff, if_true, if_false, ite_true, ite_false, decide_true, decide_false, Bool.not_true, Bool.not_false, Nat.zero_le, Nat.sub_zero, List.getElem?_cons_zero, List.getElem?_cons_succ, List.getElem?_nil, GL0_alive3, ctF_alive3, decide_eq_false h_1, decide_eq_false h_2, decide_eq_false h_3, decide_eq_true h_4, f_true]
  by_cases h_5 : (12 : Int) < i.length
  · simp only [tr_fieldB, Tr.den, evAll, SA.ev, BE.ev, IE.ev, SE.ev, LE.ev, env0, extE_eq, pickO, evN, evB, evS, evLen, evBit, evLst, At.len, At.bit, At.lst, op1, op2, op3, Nat.reduceLeDiff, Nat.reduceSub, Nat.reduceEqDiff, if_true, if_false, ite_true, ite_false, decide_true, decide_false, Bool.not_true, Bool.not_false, Nat.zero_le, Nat.sub_zero, List.getElem?_cons_zero, List.getElem?_cons_succ, List.getElem?_nil, GL0_alive3, ctF_alive3, decide_eq_false h_1, decide_eq_false h_2, decide_eq_false h_3, decide_eq_false h_4, decide_eq_true h_5, f_true]
  by_cases h_6 : (12 : Int) < j.length
  · simp only [tr_fieldB, Tr.den, evAll, SA.ev, BE.ev, IE.ev, SE.ev, LE.ev, env0, extE_eq, pickO, evN, evB, evS, evLen, evBit, evLst, At.len, At.bit, At.lst, op1, op2, op3, Nat.reduceLeDiff, Nat.reduceSub, Nat.reduceEqDiff, if_true, if_false, ite_true, ite_false, decide_true, decide_false, Bool.not_true, Bool.not_false, Nat.zero_le, Nat.sub_zero, List.getElem?_cons_zero, List.getElem?_cons_succ, List.getElem?_nil, GL0_alive3, ctF_alive3, decide_eq_false h_1, decide_eq_false h_2, decide_eq_false h_3, decide_eq_false h_4, decide_eq_false h_5, decide_eq_true h_6, f_true]
  exact absurd ⟨by omega, by omega, by omega, by omega, by omega, by omega⟩ h
set_option maxRecDepth 100000 in
theorem rationalField_lifted (os : Os) (started : os.Started) (H : Type) (enc : TypeId × Value → H) :
    ReturnsInHanded {} Try.checked os 7 .any (Rows.rationalFieldSpec.pre6 enc Try.prog Try.f7 Rows.rationalFieldRow.domain false) (Rows.rationalFieldSpec.post enc Try.prog Try.f7 false true false false) := by
  refine law_lifted (C := Try.checked) (s := Rows.rationalFieldSpec) Try.own Try.laidOut (by kernel_rfl) Try.func7 rfl 4 rfl Try.underlying4 (by kernel_rfl) enc ?_ ?_ os started
    (ChangeSpec.witness6 (enc := enc) (C := Try.checked) false ⟨#[], #[.agg #[.bool false, .slice none 0 0, .slice none 0 0], .agg #[.bool false, .slice none 0 0, .slice none 0 0], .agg #[.bool false, .slice none 0 0, .slice none 0 0]], []⟩ 8 (by kernel_rfl) (by kernel_rfl) (by kernel_rfl) (by kernel_rfl))
  · intro ds hl
    match ds, hl with
    | [d0, d1, d2], _ => rfl
  · intro W base args ds ps hval hA hlt hwt
    have hA' : DataW.TrodAll enc Try.prog W 0 (fun _ => true) true [30, 30, 30] args.toList ds ps := hA
    have hval' : ∀ (j : Nat) t v, Try.f7.params[j]? = some t → args[j]? = some v → Value.okWide Try.prog W .any base t v := hval
    obtain ⟨v0, v1, v2, d0, d1, d2, p0, p1, p2, rfl, rfl, rfl, h0, h1, h2⟩ := Go.ChangeShapes.trodAll_three hA'
    obtain ⟨als_a, hr_a⟩ := open_Rat (hval' 0 30 v0 rfl rfl) h0
    obtain ⟨als_b, hr_b⟩ := open_Rat (hval' 1 30 v1 rfl rfl) h1
    obtain ⟨als_c, hr_c⟩ := open_Rat (hval' 2 30 v2 rfl rfl) h2
    exact law_rrr ev_fieldA ev_fieldB fieldA_den fieldB_den hr_a hr_b hr_c

theorem rationalField_holds : Rows.RationalFieldSaid :=
  OpenClaim.holds_of_wide 7 Try.f7 rfl rfl rfl rfl rfl rfl rfl ⟨rfl, rfl, rfl, rfl, rfl⟩ rfl rfl rfl rfl rfl (by kernel_rfl) Try.func7 (by kernel_rfl)
    (of_decide_eq_true (by kernel_rfl)) (by unfold Func.isWrapper; first | (rw [if_pos (by decide +kernel)]; kernel_rfl) | (rw [if_neg (by decide +kernel)]; exact ⟨rfl, rfl⟩))
    (fun os started H enc _ => rationalField_lifted os started H enc)
end Go.Proofs.Ytnclpllmidlbbaa
