/- Rational numbers: the laws of sums and roots. -/
import Derived.Test.YtnclpllmidlbbaaRl1
namespace Go.Proofs.Ytnclpllmidlbbaa
open Go Go.RowKit Go.V Go.ChangeMaps
set_option linter.unusedSimpArgs false
set_option linter.unusedVariables false
set_option maxRecDepth 20000
def GL0 : Gam := gamOf [(11, ct_alive3)]
theorem GL0_ok : GamOk Try.prog GL0 := gamOk_of ⟨ok_alive3, trivial⟩
theorem GL0_alive3 : GL0 11 = some ct_alive3 := rfl
def GL2 : Gam := gamOf [(35, ct_qneg), (36, ct_rqneg), (37, ct_qadd), (38, ct_rqadd), (39, ct_qsub), (40, ct_rqsub), (41, ct_qmul), (42, ct_rqmul), (33, ct_qdiv), (34, ct_rqdiv), (14, ct_rqsame), (11, ct_alive3)]
theorem GL2_ok : GamOk Try.prog GL2 := gamOk_of ⟨ok_qneg, ok_rqneg, ok_qadd, ok_rqadd, ok_qsub, ok_rqsub, ok_qmul, ok_rqmul, ok_qdiv, ok_rqdiv, ok_rqsame, ok_alive3, trivial⟩
theorem GL2_qneg : GL2 35 = some ct_qneg := rfl
theorem GL2_rqneg : GL2 36 = some ct_rqneg := rfl
theorem GL2_qadd : GL2 37 = some ct_qadd := rfl
theorem GL2_rqadd : GL2 38 = some ct_rqadd := rfl
theorem GL2_qsub : GL2 39 = some ct_qsub := rfl
theorem GL2_rqsub : GL2 40 = some ct_rqsub := rfl
theorem GL2_qmul : GL2 41 = some ct_qmul := rfl
theorem GL2_rqmul : GL2 42 = some ct_rqmul := rfl
theorem GL2_qdiv : GL2 33 = some ct_qdiv := rfl
theorem GL2_rqdiv : GL2 34 = some ct_rqdiv := rfl
theorem GL2_rqsame : GL2 14 = some ct_rqsame := rfl
theorem GL2_alive3 : GL2 11 = some ct_alive3 := rfl
def tr_addsA : Tr (List SA) := (.br (.lt (.lit 12) (.len 0 1)) (.call 11 [] 2 (.leaf [(.b (.var 2))])) (.br (.lt (.lit 12) (.len 0 2)) (.call 11 [] 2 (.leaf [(.b (.var 2))])) (.br (.lt (.lit 12) (.len 1 1)) (.call 11 [] 2 (.leaf [(.b (.var 2))])) (.br (.lt (.lit 12) (.len 1 2)) (.call 11 [] 2 (.leaf [(.b (.var 2))])) (.call 33 [(.ob 0), (.ob 1)] 2 (.call 34 [(.ob 0), (.ob 1)] 4 (.call 35 [(.ob 0)] 6 (.call 36 [(.ob 0)] 7 (.call 14 [(.ob 6), (.ob 7)] 8 (.br (.var 8) (.call 37 [(.ob 0), (.ob 1)] 9 (.call 38 [(.ob 0), (.ob 1)] 10 (.call 14 [(.ob 9), (.ob 10)] 11 (.br (.var 11) (.call 39 [(.ob 0), (.ob 1)] 12 (.call 40 [(.ob 0), (.ob 1)] 13 (.call 14 [(.ob 12), (.ob 13)] 14 (.br (.var 14) (.call 41 [(.ob 0), (.ob 1)] 15 (.call 42 [(.ob 0), (.ob 1)] 16 (.call 14 [(.ob 15), (.ob 16)] 17 (.br (.var 17) (.call 14 [(.ob 2), (.ob 4)] 18 (.br (.var 18) (.br (.eq (.var 3) (.var 5)) (.call 11 [] 19 (.leaf [(.b (.var 19))])) (.leaf [(.b (.lit false))])) (.leaf [(.b (.lit false))]))) (.leaf [(.b (.lit false))]))))) (.leaf [(.b (.lit false))]))))) (.leaf [(.b (.lit false))]))))) (.leaf [(.b (.lit false))])))))))))))
theorem ev_addsA : Ct.ok Try.prog 6 { args := [[.r], [.r]], res := [[.b]], F := fun als => tr_addsA.den GL2 (env0 als), L := 12, A := 0, B := 0 } :=
  top_ok (by kernel_rfl) GL2_ok (plans := planF) (lf := 60) (k := 20) (by kernel_rfl)
def tr_addsB : Tr (List SA) := (.br (.lt (.lit 12) (.len 0 1)) (.call 11 [] 2 (.leaf [(.b (.var 2))])) (.br (.lt (.lit 12) (.len 0 2)) (.call 11 [] 2 (.leaf [(.b (.var 2))])) (.br (.lt (.lit 12) (.len 1 1)) (.call 11 [] 2 (.leaf [(.b (.var 2))])) (.br (.lt (.lit 12) (.len 1 2)) (.call 11 [] 2 (.leaf [(.b (.var 2))])) (.br (.lt (.lit 0) (.len 0 2)) .bad .bad)))))
theorem ev_addsB (L : Nat) : Ct.ok Try.prog 6 { args := [[.r], [.r]], res := [[.b]], F := fun als => tr_addsB.den GL0 (env0 als), L := L, A := 0, B := 0 } :=
  top_ok (by kernel_rfl) GL0_ok (plans := planF) (lf := 60) (k := 20) (by kernel_rfl)
theorem addsA_den (a : Bool) (l m : List Nat) (b : Bool) (k n : List Nat) (h : l.length ≤ 12 ∧ m.length ≤ 12 ∧ k.length ≤ 12 ∧ n.length ≤ 12) : tr_addsA.den GL2 (env0 [.r a l m, .r b k n]) = some [.b true] := by
  have h_1 : ¬ (12 : Int) < l.length := by omega
  have h_2 : ¬ (12 : Int) < m.length := by omega
  have h_3 : ¬ (12 : Int) < k.length := by omega
  have h_4 : ¬ (12 : Int) < n.length := by omega
  by_cases h0 : qv b k n = 0
  · simp only [tr_addsA, Tr.den, evAll, SA.ev, BE.ev, IE.ev, SE.ev, LE.ev, env0, extE_eq, pickO, evN, evB, evS, evLen, evBit, evLst, At.len, At.bit, At.lst, op1, op2, op3, Nat.reduceLeDiff, Nat.reduceSub, Nat.reduceEqDiff, if_true, if_false, ite_true, ite_false, decide_true, decide_false, Bool.not_true, Bool.not_false, Nat.zero_le, Nat.sub_zero, List.getElem?_cons_zero, List.getElem?_cons_succ, List.getElem?_nil, GL2_qneg, ctF_qneg, GL2_rqneg, ctF_rqneg, GL2_qadd, ctF_qadd, GL2_rqadd, ctF_rqadd, GL2_qsub, ctF_qsub, GL2_rqsub, ctF_rqsub, GL2_qmul, ctF_qmul, GL2_rqmul, ctF_rqmul, GL2_qdiv, ctF_qdiv, GL2_rqdiv, ctF_rqdiv, GL2_rqsame, ctF_rqsame, GL2_alive3, ctF_alive3, decide_eq_false h_1, decide_eq_false h_2, decide_eq_false h_3, decide_eq_false h_4, f_qneg, f_qadd, f_qsub, f_qmul, f_qdiv, eq_true h0, f_rrb, f_true, beq_self_eq_true, qa, Bool.and_self]
  · simp only [tr_addsA, Tr.den, evAll, SA.ev, BE.ev, IE.ev, SE.ev, LE.ev, env0, extE_eq, pickO, evN, evB, evS, evLen, evBit, evLst, At.len, At.bit, At.lst, op1, op2, op3, Nat.reduceLeDiff, Nat.reduceSub, Nat.reduceEqDiff, if_true, if_false, ite_true, ite_false, decide_true, decide_false, Bool.not_true, Bool.not_false, Nat.zero_le, Nat.sub_zero, List.getElem?_cons_zero, List.getElem?_cons_succ, List.getElem?_nil, GL2_qneg, ctF_qneg, GL2_rqneg, ctF_rqneg, GL2_qadd, ctF_qadd, GL2_rqadd, ctF_rqadd, GL2_qsub, ctF_qsub, GL2_rqsub, ctF_rqsub, GL2_qmul, ctF_qmul, GL2_rqmul, ctF_rqmul, GL2_qdiv, ctF_qdiv, GL2_rqdiv, ctF_rqdiv, GL2_rqsame, ctF_rqsame, GL2_alive3, ctF_alive3, decide_eq_false h_1, decide_eq_false h_2, decide_eq_false h_3, decide_eq_false h_4, f_qneg, f_qadd, f_qsub, f_qmul, f_qdiv, h0, f_rrb, f_true, beq_self_eq_true, qa, Bool.and_self]
theorem addsB_den (a : Bool) (l m : List Nat) (b : Bool) (k n : List Nat) (h : ¬ (l.length ≤ 12 ∧ m.length ≤ 12 ∧ k.length ≤ 12 ∧ n.length ≤ 12)) : tr_addsB.den GL0 (env0 [.r a l m, .r b k n]) = some [.b true] := by
  by_cases h_1 : (12 : Int) < l.length
  · simp only [tr_addsB, Tr.den, evAll, SA.ev, BE.ev, IE.ev, SE.ev, LE.ev, env0, extE_eq, pickO, evN, evB, evS, evLen, evBit, evLst, At.len, At.bit, At.lst, op1, op2, op3, Nat.reduceLeDiff, Nat.reduceSub, Nat.reduceEqDiff, if_true, if_false, ite_true, ite_false, decide_true, decide_false, Bool.not_true, Bool.not_false, Nat.zero_le, Nat.sub_zero, List.getElem?_cons_zero, List.getElem?_cons_succ, List.getElem?_nil, GL0_alive3, ctF_alive3, decide_eq_true h_1, f_true]
  by_cases h_2 : (12 : Int) < m.length
  · simp only [tr_addsB, Tr.den, evAll, SA.ev, BE.ev, IE.ev, SE.ev, LE.ev, env0, extE_eq, pickO, evN, evB, evS, evLen, evBit, evLst, At.len, At.bit, At.lst, op1, op2, op3, Nat.reduceLeDiff, Nat.reduceSub, Nat.reduceEqDiff, if_true, if_false, ite_true, ite_false, decide_true, decide_false, Bool.not_true, Bool.not_false, Nat.zero_le, Nat.sub_zero, List.getElem?_cons_zero, List.getElem?_cons_succ, List.getElem?_nil, GL0_alive3, ctF_alive3, decide_eq_false h_1, decide_eq_true h_2, f_true]
  by_cases h_3 : (12 : Int) < k.length
  · simp only [tr_addsB, Tr.den, evAll, SA.ev, BE.ev, IE.ev, SE.ev, LE.ev, env0, extE_eq, pickO, evN, evB, evS, evLen, evBit, evLst, At.len, At.bit, At.lst, op1, op2, op3, Nat.reduceLeDiff, Nat.reduceSub, Nat.reduceEqDiff, if_true, if_false, ite_true, ite_false, decide_true, decide_false, Bool.not_true, Bool.not_false, Nat.zero_le, Nat.sub_zero, List.getElem?_cons_zero, List.getElem?_cons_succ, List.getElem?_nil, GL0_alive3, ctF_alive3, decide_eq_false h_1, decide_eq_false h_2, decide_eq_true h_3, f_true]
  by_cases h_4 : (12 : Int) < n.length
  · simp only [tr_addsB, Tr.den, evAll, SA.ev, BE.ev, IE.ev, SE.ev, LE.ev, env0, extE_eq, pickO, evN, evB, evS, evLen, evBit, evLst, At.len, At.bit, At.lst, op1, op2, op3, Nat.reduceLeDiff, Nat.reduceSub, Nat.reduceEqDiff, if_true, if_false, ite_true, ite_false, decide_true, decide_false, Bool.not_true, Bool.not_false, Nat.zero_le, Nat.sub_zero, List.getElem?_cons_zero, List.getElem?_cons_succ, List.getElem?_nil, GL0_alive3, ctF_alive3, decide_eq_false h_1, decide_eq_false h_2, decide_eq_false h_3, decide_eq_true h_4, f_true]
  exact absurd ⟨by omega, by omega, by omega, by omega⟩ h
set_option maxRecDepth 100000 in
theorem rationalAdds_lifted (os : Os) (started : os.Started) (H : Type) (enc : TypeId × Value → H) :
    ReturnsInHanded {} Try.checked os 6 .any (Rows.rationalAddsSpec.pre6 enc Try.prog Try.f6 Rows.rationalAddsRow.domain false) (Rows.rationalAddsSpec.post enc Try.prog Try.f6 false true false false) := by
  refine law_lifted (C := Try.checked) (s := Rows.rationalAddsSpec) Try.own Try.laidOut (by kernel_rfl) Try.func6 rfl 4 rfl Try.underlying4 (by kernel_rfl) enc ?_ ?_ os started
    (ChangeSpec.witness6 (enc := enc) (C := Try.checked) false ⟨#[], #[.agg #[.bool false, .slice none 0 0, .slice none 0 0], .agg #[.bool false, .slice none 0 0, .slice none 0 0]], []⟩ 8 (by kernel_rfl) (by kernel_rfl) (by kernel_rfl) (by kernel_rfl))
  · intro ds hl
    match ds, hl with
    | [d0, d1], _ => rfl
  · intro W base args ds ps hval hA hlt hwt
    have hA' : DataW.TrodAll enc Try.prog W 0 (fun _ => true) true [30, 30] args.toList ds ps := hA
    have hval' : ∀ (j : Nat) t v, Try.f6.params[j]? = some t → args[j]? = some v → Value.okWide Try.prog W .any base t v := hval
    obtain ⟨v0, v1, d0, d1, p0, p1, rfl, rfl, rfl, h0, h1⟩ := Go.ChangeShapes.trodAll_two hA'
    obtain ⟨als_a, hr_a⟩ := open_Rat (hval' 0 30 v0 rfl rfl) h0
    obtain ⟨als_b, hr_b⟩ := open_Rat (hval' 1 30 v1 rfl rfl) h1
    exact law_rr ev_addsA ev_addsB addsA_den addsB_den hr_a hr_b

theorem rationalAdds_holds : Rows.RationalAddsSaid :=
  OpenClaim.holds_of_wide 6 Try.f6 rfl rfl rfl rfl rfl rfl rfl ⟨rfl, rfl, rfl, rfl, rfl⟩ rfl rfl rfl rfl rfl (by kernel_rfl) Try.func6 (by kernel_rfl)
    (of_decide_eq_true (by kernel_rfl)) (by unfold Func.isWrapper; first | (rw [if_pos (by decide +kernel)]; kernel_rfl) | (rw [if_neg (by decide +kernel)]; exact ⟨rfl, rfl⟩))
    (fun os started H enc _ => rationalAdds_lifted os started H enc)
def GL3 : Gam := gamOf [(23, ct_qfloor), (24, ct_rqfloor), (20, ct_qsqrt), (21, ct_rqsqrt), (14, ct_rqsame), (22, ct_isame2), (11, ct_alive3)]
theorem GL3_ok : GamOk Try.prog GL3 := gamOk_of ⟨ok_qfloor, ok_rqfloor, ok_qsqrt, ok_rqsqrt, ok_rqsame, ok_isame2, ok_alive3, trivial⟩
theorem GL3_qfloor : GL3 23 = some ct_qfloor := rfl
theorem GL3_rqfloor : GL3 24 = some ct_rqfloor := rfl
theorem GL3_qsqrt : GL3 20 = some ct_qsqrt := rfl
theorem GL3_rqsqrt : GL3 21 = some ct_rqsqrt := rfl
theorem GL3_rqsame : GL3 14 = some ct_rqsame := rfl
theorem GL3_isame2 : GL3 22 = some ct_isame2 := rfl
theorem GL3_alive3 : GL3 11 = some ct_alive3 := rfl
def tr_rootsA : Tr (List SA) := (.br (.lt (.lit 12) (.len 0 1)) (.call 11 [] 1 (.leaf [(.b (.var 1))])) (.br (.lt (.lit 12) (.len 0 2)) (.call 11 [] 1 (.leaf [(.b (.var 1))])) (.call 20 [(.ob 0)] 1 (.call 21 [(.ob 0)] 3 (.call 23 [(.ob 0)] 5 (.call 24 [(.ob 0)] 6 (.call 22 [(.ob 5), (.ob 6)] 7 (.br (.var 7) (.call 14 [(.ob 1), (.ob 3)] 8 (.br (.var 8) (.br (.beq (.var 2) (.var 4)) (.call 11 [] 9 (.leaf [(.b (.var 9))])) (.leaf [(.b (.lit false))])) (.leaf [(.b (.lit false))]))) (.leaf [(.b (.lit false))])))))))))
theorem ev_rootsA : Ct.ok Try.prog 4 { args := [[.r]], res := [[.b]], F := fun als => tr_rootsA.den GL3 (env0 als), L := 12, A := 0, B := 0 } :=
  top_ok (by kernel_rfl) GL3_ok (plans := planF) (lf := 60) (k := 20) (by kernel_rfl)
def tr_rootsB : Tr (List SA) := (.br (.lt (.lit 12) (.len 0 1)) (.call 11 [] 1 (.leaf [(.b (.var 1))])) (.br (.lt (.lit 12) (.len 0 2)) (.call 11 [] 1 (.leaf [(.b (.var 1))])) (.br (.lt (.lit 0) (.len 0 2)) .bad .bad)))
theorem ev_rootsB (L : Nat) : Ct.ok Try.prog 4 { args := [[.r]], res := [[.b]], F := fun als => tr_rootsB.den GL0 (env0 als), L := L, A := 0, B := 0 } :=
  top_ok (by kernel_rfl) GL0_ok (plans := planF) (lf := 60) (k := 20) (by kernel_rfl)
theorem rootsA_den (a : Bool) (l m : List Nat) (h : l.length ≤ 12 ∧ m.length ≤ 12) : tr_rootsA.den GL3 (env0 [.r a l m]) = some [.b true] := by
  have h_1 : ¬ (12 : Int) < l.length := by omega
  have h_2 : ¬ (12 : Int) < m.length := by omega
  cases h0 : isSq (qv a l m)
  · simp only [tr_rootsA, Tr.den, evAll, SA.ev, BE.ev, IE.ev, SE.ev, LE.ev, env0, extE_eq, pickO, evN, evB, evS, evLen, evBit, evLst, At.len, At.bit, At.lst, op1, op2, op3, Nat.reduceLeDiff, Nat.reduceSub, Nat.reduceEqDiff, if_true, if_false, ite_true, ite_false, decide_true, decide_false, Bool.not_true, Bool.not_false, Nat.zero_le, Nat.sub_zero, List.getElem?_cons_zero, List.getElem?_cons_succ, List.getElem?_nil, GL3_qfloor, ctF_qfloor, GL3_rqfloor, ctF_rqfloor, GL3_qsqrt, ctF_qsqrt, GL3_rqsqrt, ctF_rqsqrt, GL3_rqsame, ctF_rqsame, GL3_isame2, ctF_isame2, GL3_alive3, ctF_alive3, decide_eq_false h_1, decide_eq_false h_2, f_qfloor, f_qsqrt, h0, Bool.false_eq_true, f_rrb, f_yyb, f_true, beq_self_eq_true, qa, za, Bool.and_self]
  · simp only [tr_rootsA, Tr.den, evAll, SA.ev, BE.ev, IE.ev, SE.ev, LE.ev, env0, extE_eq, pickO, evN, evB, evS, evLen, evBit, evLst, At.len, At.bit, At.lst, op1, op2, op3, Nat.reduceLeDiff, Nat.reduceSub, Nat.reduceEqDiff, if_true, if_false, ite_true, ite_false, decide_true, decide_false, Bool.not_true, Bool.not_false, Nat.zero_le, Nat.sub_zero, List.getElem?_cons_zero, List.getElem?_cons_succ, List.getElem?_nil, GL3_qfloor, ctF_qfloor, GL3_rqfloor, ctF_rqfloor, GL3_qsqrt, ctF_qsqrt, GL3_rqsqrt, ctF_rqsqrt, GL3_rqsame, ctF_rqsame, GL3_isame2, ctF_isame2, GL3_alive3, ctF_alive3, decide_eq_false h_1, decide_eq_false h_2, f_qfloor, f_qsqrt, h0, f_rrb, f_yyb, f_true, beq_self_eq_true, qa, za, Bool.and_self]
theorem rootsB_den (a : Bool) (l m : List Nat) (h : ¬ (l.length ≤ 12 ∧ m.length ≤ 12)) : tr_rootsB.den GL0 (env0 [.r a l m]) = some [.b true] := by
  by_cases h_1 : (12 : Int) < l.length
  · simp only [tr_rootsB, Tr.den, evAll, SA.ev, BE.ev, IE.ev, SE.ev, LE.ev, env0, extE_eq, pickO, evN, evB, evS, evLen, evBit, evLst, At.len, At.bit, At.lst, op1, op2, op3, Nat.reduceLeDiff, Nat.reduceSub, Nat.reduceEqDiff, if_true, if_false, ite_true, ite_false, decide_true, decide_false, Bool.not_true, Bool.not_false, Nat.zero_le, Nat.sub_zero, List.getElem?_cons_zero, List.getElem?_cons_succ, List.getElem?_nil, GL0_alive3, ctF_alive3, decide_eq_true h_1, f_true]
  by_cases h_2 : (12 : Int) < m.length
  · simp only [tr_rootsB, Tr.den, evAll, SA.ev, BE.ev, IE.ev, SE.ev, LE.ev, env0, extE_eq, pickO, evN, evB, evS, evLen, evBit, evLst, At.len, At.bit, At.lst, op1, op2, op3, Nat.reduceLeDiff, Nat.reduceSub, Nat.reduceEqDiff, if_true, if_false, ite_true, ite_false, decide_true, decide_false, Bool.not_true, Bool.not_false, Nat.zero_le, Nat.sub_zero, List.getElem?_cons_zero, List.getElem?_cons_succ, List.getElem?_nil, GL0_alive3, ctF_alive3, decide_eq_false h_1, decide_eq_true h_2, f_true]
  exact absurd ⟨by omega, by omega⟩ h
set_option maxRecDepth 100000 in
theorem rationalRoots_lifted (os : Os) (started : os.Started) (H : Type) (enc : TypeId × Value → H) :
    ReturnsInHanded {} Try.checked os 4 .any (Rows.rationalRootsSpec.pre6 enc Try.prog Try.f4 Rows.rationalRootsRow.domain false) (Rows.rationalRootsSpec.post enc Try.prog Try.f4 false true false false) := by
  refine law_lifted (C := Try.checked) (s := Rows.rationalRootsSpec) Try.own Try.laidOut (by kernel_rfl) Try.func4 rfl 4 rfl Try.underlying4 (by kernel_rfl) enc ?_ ?_ os started
    (ChangeSpec.witness6 (enc := enc) (C := Try.checked) false ⟨#[], #[.agg #[.bool false, .slice none 0 0, .slice none 0 0]], []⟩ 8 (by kernel_rfl) (by kernel_rfl) (by kernel_rfl) (by kernel_rfl))
  · intro ds hl
    match ds, hl with
    | [d0], _ => rfl
  · intro W base args ds ps hval hA hlt hwt
    have hA' : DataW.TrodAll enc Try.prog W 0 (fun _ => true) true [30] args.toList ds ps := hA
    have hval' : ∀ (j : Nat) t v, Try.f4.params[j]? = some t → args[j]? = some v → Value.okWide Try.prog W .any base t v := hval
    obtain ⟨v0, d0, rfl, rfl, h0⟩ := Go.ChangeShapes.trodAll_one hA'
    obtain ⟨als_a, hr_a⟩ := open_Rat (hval' 0 30 v0 rfl rfl) h0
    exact law_r ev_rootsA ev_rootsB rootsA_den rootsB_den hr_a

theorem rationalRoots_holds : Rows.RationalRootsSaid :=
  OpenClaim.holds_of_wide 4 Try.f4 rfl rfl rfl rfl rfl rfl rfl ⟨rfl, rfl, rfl, rfl, rfl⟩ rfl rfl rfl rfl rfl (by kernel_rfl) Try.func4 (by kernel_rfl)
    (of_decide_eq_true (by kernel_rfl)) (by unfold Func.isWrapper; first | (rw [if_pos (by decide +kernel)]; kernel_rfl) | (rw [if_neg (by decide +kernel)]; exact ⟨rfl, rfl⟩))
    (fun os started H enc _ => rationalRoots_lifted os started H enc)
end Go.Proofs.Ytnclpllmidlbbaa
