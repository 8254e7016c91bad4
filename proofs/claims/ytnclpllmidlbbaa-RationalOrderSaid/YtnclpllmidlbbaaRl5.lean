/- Rational numbers: the order. -/
import Derived.Test.YtnclpllmidlbbaaRl1
import Derived.Test.YtnclpllmidlbbaaRa6
namespace Go.Proofs.Ytnclpllmidlbbaa
open Go Go.RowKit Go.V Go.ChangeMaps
set_option linter.unusedSimpArgs false
set_option linter.unusedVariables false
set_option maxRecDepth 20000
def GL0 : Gam := gamOf [(11, ct_alive3)]
theorem GL0_ok : GamOk Try.prog GL0 := gamOk_of ⟨ok_alive3, trivial⟩
theorem GL0_alive3 : GL0 11 = some ct_alive3 := rfl
def GL5 : Gam := gamOf [(29, ct_qcmp), (27, ct_qsign), (39, ct_qsub), (37, ct_qadd), (41, ct_qmul), (31, ct_qequal), (23, ct_qfloor), (25, ct_qright), (15, ct_qof), (11, ct_alive3)]
theorem GL5_ok : GamOk Try.prog GL5 := gamOk_of ⟨ok_qcmp, ok_qsign, ok_qsub, ok_qadd, ok_qmul, ok_qequal, ok_qfloor, ok_qright, ok_qof, ok_alive3, trivial⟩
theorem GL5_qcmp : GL5 29 = some ct_qcmp := rfl
theorem GL5_qsign : GL5 27 = some ct_qsign := rfl
theorem GL5_qsub : GL5 39 = some ct_qsub := rfl
theorem GL5_qadd : GL5 37 = some ct_qadd := rfl
theorem GL5_qmul : GL5 41 = some ct_qmul := rfl
theorem GL5_qequal : GL5 31 = some ct_qequal := rfl
theorem GL5_qfloor : GL5 23 = some ct_qfloor := rfl
theorem GL5_qright : GL5 25 = some ct_qright := rfl
theorem GL5_qof : GL5 15 = some ct_qof := rfl
theorem GL5_alive3 : GL5 11 = some ct_alive3 := rfl
def tr_orderA : Tr (List SA) := (.br (.lt (.lit 12) (.len 0 1)) (.call 11 [] 3 (.leaf [(.b (.var 3))])) (.br (.lt (.lit 12) (.len 0 2)) (.call 11 [] 3 (.leaf [(.b (.var 3))])) (.br (.lt (.lit 12) (.len 1 1)) (.call 11 [] 3 (.leaf [(.b (.var 3))])) (.br (.lt (.lit 12) (.len 1 2)) (.call 11 [] 3 (.leaf [(.b (.var 3))])) (.br (.lt (.lit 12) (.len 2 1)) (.call 11 [] 3 (.leaf [(.b (.var 3))])) (.br (.lt (.lit 12) (.len 2 2)) (.call 11 [] 3 (.leaf [(.b (.var 3))])) (.call 29 [(.ob 0), (.ob 1)] 3 (.call 29 [(.ob 1), (.ob 0)] 4 (.br (.not (.eq (.var 3) (.neg (.var 4)))) (.leaf [(.b (.lit false))]) (.call 39 [(.ob 0), (.ob 1)] 5 (.call 27 [(.ob 5)] 6 (.br (.not (.eq (.var 3) (.var 6))) (.leaf [(.b (.lit false))]) (.call 37 [(.ob 0), (.ob 2)] 7 (.call 37 [(.ob 1), (.ob 2)] 8 (.call 29 [(.ob 7), (.ob 8)] 9 (.br (.not (.eq (.var 3) (.var 9))) (.leaf [(.b (.lit false))]) (.call 41 [(.ob 0), (.ob 2)] 10 (.call 41 [(.ob 1), (.ob 2)] 11 (.call 29 [(.ob 10), (.ob 11)] 12 (.call 27 [(.ob 2)] 13 (.br (.not (.eq (.var 12) (.mul (.var 3) (.var 13)))) (.leaf [(.b (.lit false))]) (.call 31 [(.ob 0), (.ob 1)] 14 (.br (.not (.beq (.eq (.var 3) (.lit 0)) (.var 14))) (.leaf [(.b (.lit false))]) (.call 23 [(.ob 0)] 15 (.obj [1] 16 (.call 25 [(.r (.bit 15) (.var 15 1) (.var 16 0))] 17 (.br (.var 17) (.call 29 [(.r (.bit 15) (.var 15 1) (.var 16 0)), (.ob 0)] 18 (.br (.le (.var 18) (.lit 0)) (.call 15 [(.n (.lit 1))] 19 (.call 37 [(.r (.bit 15) (.var 15 1) (.var 16 0)), (.ob 19)] 20 (.call 29 [(.ob 20), (.ob 0)] 21 (.br (.lt (.lit 0) (.var 21)) (.call 11 [] 22 (.leaf [(.b (.var 22))])) (.leaf [(.b (.lit false))]))))) (.leaf [(.b (.lit false))]))) (.leaf [(.b (.lit false))]))))))))))))))))))))))))))))
theorem ev_orderA : Ct.ok Try.prog 8 { args := [[.r], [.r], [.r]], res := [[.b]], F := fun als => tr_orderA.den GL5 (env0 als), L := 12, A := 0, B := 0 } :=
  top_ok (by kernel_rfl) GL5_ok (plans := planF) (lf := 60) (k := 20) (by kernel_rfl)
def tr_orderB : Tr (List SA) := (.br (.lt (.lit 12) (.len 0 1)) (.call 11 [] 3 (.leaf [(.b (.var 3))])) (.br (.lt (.lit 12) (.len 0 2)) (.call 11 [] 3 (.leaf [(.b (.var 3))])) (.br (.lt (.lit 12) (.len 1 1)) (.call 11 [] 3 (.leaf [(.b (.var 3))])) (.br (.lt (.lit 12) (.len 1 2)) (.call 11 [] 3 (.leaf [(.b (.var 3))])) (.br (.lt (.lit 12) (.len 2 1)) (.call 11 [] 3 (.leaf [(.b (.var 3))])) (.br (.lt (.lit 12) (.len 2 2)) (.call 11 [] 3 (.leaf [(.b (.var 3))])) (.br (.lt (.lit 0) (.len 0 2)) .bad .bad)))))))
theorem ev_orderB (L : Nat) : Ct.ok Try.prog 8 { args := [[.r], [.r], [.r]], res := [[.b]], F := fun als => tr_orderB.den GL0 (env0 als), L := L, A := 0, B := 0 } :=
  top_ok (by kernel_rfl) GL0_ok (plans := planF) (lf := 60) (k := 20) (by kernel_rfl)
theorem orderA_den (a : Bool) (l m : List Nat) (b : Bool) (k n : List Nat) (c : Bool) (i j : List Nat) (h : l.length ≤ 12 ∧ m.length ≤ 12 ∧ k.length ≤ 12 ∧ n.length ≤ 12 ∧ i.length ≤ 12 ∧ j.length ≤ 12) : tr_orderA.den GL5 (env0 [.r a l m, .r b k n, .r c i j]) = some [.b true] := by
  have h_1 : ¬ (12 : Int) < l.length := by omega
  have h_2 : ¬ (12 : Int) < m.length := by omega
  have h_3 : ¬ (12 : Int) < k.length := by omega
  have h_4 : ¬ (12 : Int) < n.length := by omega
  have h_5 : ¬ (12 : Int) < i.length := by omega
  have h_6 : ¬ (12 : Int) < j.length := by omega
  have e0 : ((-9223372036854775808 : Int) ≤ 1 ∧ (1 : Int) < 9223372036854775808) = True := by decide
  have e1 : ∀ x : Rat, (qcmpv ((x.floor : Int) : Rat) x ≤ 0) = True := fun x => eq_true (floor_cmp x)
  have e2 : ∀ x : Rat, (0 < qcmpv (((x.floor : Int) : Rat) + ((1 : Int) : Rat)) x) = True := fun x => eq_true (floor1_cmp x)
  simp only [tr_orderA, Tr.den, evAll, SA.ev, BE.ev, IE.ev, SE.ev, LE.ev, env0, extE_eq, pickO, evN, evB, evS, evLen, evBit, evLst, At.len, At.bit, At.lst, op1, op2, op3, Nat.reduceLeDiff, Nat.reduceSub, Nat.reduceEqDiff, if_true, if_false, ite_true, ite_false, decide_true, decide_false, Bool.not_true, Bool.not_false, Nat.zero_le, Nat.sub_zero, List.getElem?_cons_zero, List.getElem?_cons_succ, List.getElem?_nil, GL5_qcmp, ctF_qcmp, GL5_qsign, ctF_qsign, GL5_qsub, ctF_qsub, GL5_qadd, ctF_qadd, GL5_qmul, ctF_qmul, GL5_qequal, ctF_qequal, GL5_qfloor, ctF_qfloor, GL5_qright, ctF_qright, GL5_qof, ctF_qof, GL5_alive3, ctF_alive3, decide_eq_false h_1, decide_eq_false h_2, decide_eq_false h_3, decide_eq_false h_4, decide_eq_false h_5, decide_eq_false h_6, f_qadd, f_qsub, f_qmul, f_qcmp, f_qsign, f_qright, f_qequal, f_qfloor, f_qof, e0, f_true, beq_self_eq_true, qa, za, qRight_can, qRight_z1, qv_z1, qv_qa, qcmpv_neg, qcmpv_add, qcmpv_mul, sg_sub, qcmp_0, e1, e2, Bool.and_self]
theorem orderB_den (a : Bool) (l m : List Nat) (b : Bool) (k n : List Nat) (c : Bool) (i j : List Nat) (h : ¬ (l.length ≤ 12 ∧ m.length ≤ 12 ∧ k.length ≤ 12 ∧ n.length ≤ 12 ∧ i.length ≤ 12 ∧ j.length ≤ 12)) : tr_orderB.den GL0 (env0 [.r a l m, .r b k n, .r c i j]) = some [.b true] := by
  by_cases h_1 : (12 : Int) < l.length
  · simp only [tr_orderB, Tr.den, evAll, SA.ev, BE.ev, IE.ev, SE.ev, LE.ev, env0, extE_eq, pickO, evN, evB, evS, evLen, evBit, evLst, At.len, At.bit, At.lst, op1, op2, op3, Nat.reduceLeDiff, Nat.reduceSub, Nat.reduceEqDiff, if_true, if_false, ite_true, ite_false, decide_true, decide_false, Bool.not_true, Bool.not_false, Nat.zero_le, Nat.sub_zero, List.getElem?_cons_zero, List.getElem?_cons_succ, List.getElem?_nil, GL0_alive3, ctF_alive3, decide_eq_true h_1, f_true]
  by_cases h_2 : (12 : Int) < m.length
  · simp only [tr_orderB, Tr.den, evAll, SA.ev, BE.ev, IE.ev, SE.ev, LE.ev, env0, extE_eq, pickO, evN, evB, evS, evLen, evBit, evLst, At.len, At.bit, At.lst, op1, op2, op3, Nat.reduceLeDiff, Nat.reduceSub, Nat.reduceEqDiff, if_true, if_false, ite_true, ite_false, decide_true, decide_false, Bool.not_true, Bool.not_false, Nat.zero_le, Nat.sub_zero, List.getElem?_cons_zero, List.getElem?_cons_succ, List.getElem?_nil, GL0_alive3, ctF_alive3, decide_eq_false h_1, decide_eq_true h_2, f_true]
  by_cases h_3 : (12 : Int) < k.length
  · simp only [tr_orderB, Tr.den, evAll, SA.ev, BE.ev, IE.ev, SE.ev, LE.ev, env0, extE_eq, pickO, evN, evB, evS, evLen, evBit, evLst, At.len, At.bit, At.lst, op1, op2, op3, Nat.reduceLeDiff, Nat.reduceSub, Nat.reduceEqDiff, if_true, if_false, ite_true, ite_false, decide_true, decide_false, Bool.not_true, Bool.not_false, Nat.zero_le, Nat.sub_zero, List.getElem?_cons_zero, List.getElem?_cons_succ, List.getElem?_nil, GL0_alive3, ctF_alive3, decide_eq_false h_1, decide_eq_false h_2, decide_eq_true h_3, f_true]
  by_cases h_4 : (12 : Int) < n.length
  · simp only [tr_orderB, Tr.den, evAll, SA.ev, BE.ev, IE.ev, SE.ev, LE.ev, env0, extE_eq, pickO, evN, evB, evS, evLen, evBit, evLst, At.len, At.bit, At.lst, op1, op2, op3, Nat.reduceLeDiff, Nat.reduceSub, Nat.reduceEqDiff, if_true, if_false, ite_true, ite_false, decide_true, decide_false, Bool.not_true, Bool.not_false, Nat.zero_le, Nat.sub_zero, List.getElem?_cons_zero, List.getElem?_cons_succ, List.getElem?_nil, GL0_alive3, ctF_alive3, decide_eq_false h_1, decide_eq_false h_2, decide_eq_false h_3, decide_eq_true h_4, f_true]
  by_cases h_5 : (12 : Int) < i.length
  · simp only [tr_orderB, Tr.den, evAll, SA.ev, BE.ev, IE.ev, SE.ev, LE.ev, env0, extE_eq, pickO, evN, evB, evS, evLen, evBit, evLst, At.len, At.bit, At.lst, op1, op2, op3, Nat.reduceLeDiff, Nat.reduceSub, Nat.reduceEqDiff, if_true, if_false, ite_true, ite_false, decide_true, decide_false, Bool.not_true, Bool.not_false, Nat.zero_le, Nat.sub_zero, List.getElem?_cons_zero, List.getElem?_cons_succ, List.getElem?_nil, GL0_alive3, ctF_alive3, decide_eq_false h_1, decide_eq_false h_2, decide_eq_false h_3, decide_eq_false h_4, decide_eq_true h_5, f_true]
  by_cases h_6 : (12 : Int) < j.length
  · simp only [tr_orderB, Tr.den, evAll, SA.ev, BE.ev, IE.ev, SE.ev, LE.ev, env0, extE_eq, pickO, evN, evB, evS, evLen, evBit, evLst, At.len, At.bit, At.lst, op1, op2, op3, Nat.reduceLeDiff, Nat.reduceSub, Nat.reduceEqDiff, if_true, if_false, ite_true, ite_false, decide_true, decide_false, Bool.not_true, Bool.not_false, Nat.zero_le, Nat.sub_zero, List.getElem?_cons_zero, List.getElem?_cons_succ, List.getElem?_nil, GL0_alive3, ctF_alive3, decide_eq_false h_1, decide_eq_false h_2, decide_eq_false h_3, decide_eq_false h_4, decide_eq_false h_5, decide_eq_true h_6, f_true]
  exact absurd ⟨by omega, by omega, by omega, by omega, by omega, by omega⟩ h
set_option maxRecDepth 100000 in
theorem rationalOrder_lifted (os : Os) (started : os.Started) (H : Type) (enc : TypeId × Value → H) :
    ReturnsInHanded {} Try.checked os 8 .any (Rows.rationalOrderSpec.pre6 enc Try.prog Try.f8 Rows.rationalOrderRow.domain false) (Rows.rationalOrderSpec.post enc Try.prog Try.f8 false true false false) := by
  refine law_lifted (C := Try.checked) (s := Rows.rationalOrderSpec) Try.own Try.laidOut (by kernel_rfl) Try.func8 rfl 4 rfl Try.underlying4 (by kernel_rfl) enc ?_ ?_ os started
    (ChangeSpec.witness6 (enc := enc) (C := Try.checked) false ⟨#[], #[.agg #[.bool false, .slice none 0 0, .slice none 0 0], .agg #[.bool false, .slice none 0 0, .slice none 0 0], .agg #[.bool false, .slice none 0 0, .slice none 0 0]], []⟩ 8 (by kernel_rfl) (by kernel_rfl) (by kernel_rfl) (by kernel_rfl))
  · intro ds hl
    match ds, hl with
    | [d0, d1, d2], _ => rfl
  · intro W base args ds ps hval hA hlt hwt
    have hA' : DataW.TrodAll enc Try.prog W 0 (fun _ => true) true [30, 30, 30] args.toList ds ps := hA
    have hval' : ∀ (j : Nat) t v, Try.f8.params[j]? = some t → args[j]? = some v → Value.okWide Try.prog W .any base t v := hval
    obtain ⟨v0, v1, v2, d0, d1, d2, p0, p1, p2, rfl, rfl, rfl, h0, h1, h2⟩ := Go.ChangeShapes.trodAll_three hA'
    obtain ⟨als_a, hr_a, hg_a⟩ := open_Rat (hval' 0 30 v0 rfl rfl) h0
    obtain ⟨als_b, hr_b, hg_b⟩ := open_Rat (hval' 1 30 v1 rfl rfl) h1
    obtain ⟨als_c, hr_c, hg_c⟩ := open_Rat (hval' 2 30 v2 rfl rfl) h2
    exact law_rrr ev_orderA ev_orderB orderA_den orderB_den hr_a hr_b hr_c

theorem rationalOrder_holds : Rows.RationalOrderSaid :=
  OpenClaim.holds_of_wide 8 Try.f8 rfl rfl rfl rfl rfl rfl rfl ⟨rfl, rfl, rfl, rfl, rfl⟩ rfl rfl rfl rfl rfl (by kernel_rfl) Try.func8 (by kernel_rfl)
    (of_decide_eq_true (by kernel_rfl)) (by unfold Func.isWrapper; first | (rw [if_pos (by decide +kernel)]; kernel_rfl) | (rw [if_neg (by decide +kernel)]; exact ⟨rfl, rfl⟩))
    (fun os started H enc _ => rationalOrder_lifted os started H enc)
end Go.Proofs.Ytnclpllmidlbbaa
