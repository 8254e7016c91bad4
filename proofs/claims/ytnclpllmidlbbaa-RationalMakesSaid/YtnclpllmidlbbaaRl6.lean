/- Rational numbers: made of integers, of ints. -/
import Derived.Test.YtnclpllmidlbbaaRl1
namespace Go.Proofs.Ytnclpllmidlbbaa
open Go Go.RowKit Go.V Go.ChangeMaps
set_option linter.unusedSimpArgs false
set_option linter.unusedVariables false
set_option maxRecDepth 20000
def GL0 : Gam := gamOf [(11, ct_alive3)]
theorem GL0_ok : GamOk Try.prog GL0 := gamOk_of ⟨ok_alive3, trivial⟩
theorem GL0_alive3 : GL0 11 = some ct_alive3 := rfl
def GL6 : Gam := gamOf [(12, ct_qmake), (13, ct_rqmake), (15, ct_qof), (16, ct_rqof), (17, ct_qfrac), (18, ct_rqfrac), (14, ct_rqsame), (11, ct_alive3)]
theorem GL6_ok : GamOk Try.prog GL6 := gamOk_of ⟨ok_qmake, ok_rqmake, ok_qof, ok_rqof, ok_qfrac, ok_rqfrac, ok_rqsame, ok_alive3, trivial⟩
theorem GL6_qmake : GL6 12 = some ct_qmake := rfl
theorem GL6_rqmake : GL6 13 = some ct_rqmake := rfl
theorem GL6_qof : GL6 15 = some ct_qof := rfl
theorem GL6_rqof : GL6 16 = some ct_rqof := rfl
theorem GL6_qfrac : GL6 17 = some ct_qfrac := rfl
theorem GL6_rqfrac : GL6 18 = some ct_rqfrac := rfl
theorem GL6_rqsame : GL6 14 = some ct_rqsame := rfl
theorem GL6_alive3 : GL6 11 = some ct_alive3 := rfl
def tr_makesA : Tr (List SA) := (.br (.lt (.lit 12) (.len 0 1)) (.call 11 [] 4 (.leaf [(.b (.var 4))])) (.br (.lt (.lit 12) (.len 1 1)) (.call 11 [] 4 (.leaf [(.b (.var 4))])) (.call 12 [(.ob 0), (.ob 1)] 4 (.call 13 [(.ob 0), (.ob 1)] 6 (.call 14 [(.ob 4), (.ob 6)] 8 (.br (.var 8) (.br (.eq (.var 5) (.var 7)) (.call 15 [(.n (.var 2))] 9 (.call 16 [(.n (.var 2))] 10 (.call 14 [(.ob 9), (.ob 10)] 11 (.br (.var 11) (.call 17 [(.n (.var 2)), (.n (.var 3))] 12 (.call 18 [(.n (.var 2)), (.n (.var 3))] 13 (.call 14 [(.ob 12), (.ob 13)] 14 (.br (.var 14) (.call 11 [] 15 (.leaf [(.b (.var 15))])) (.leaf [(.b (.lit false))]))))) (.leaf [(.b (.lit false))]))))) (.leaf [(.b (.lit false))])) (.leaf [(.b (.lit false))])))))))
theorem ev_makesA : Ct.ok Try.prog 3 { args := [[.y], [.y], [.n, .n]], res := [[.b]], F := fun als => tr_makesA.den GL6 (env0 als), L := 12, A := 0, B := 0 } :=
  top_ok (by kernel_rfl) GL6_ok (plans := planF) (lf := 60) (k := 20) (by kernel_rfl)
def tr_makesB : Tr (List SA) := (.br (.lt (.lit 12) (.len 0 1)) (.call 11 [] 4 (.leaf [(.b (.var 4))])) (.br (.lt (.lit 12) (.len 1 1)) (.call 11 [] 4 (.leaf [(.b (.var 4))])) (.br (.lt (.lit 0) (.len 1 1)) .bad .bad)))
theorem ev_makesB (L : Nat) : Ct.ok Try.prog 3 { args := [[.y], [.y], [.n, .n]], res := [[.b]], F := fun als => tr_makesB.den GL0 (env0 als), L := L, A := 0, B := 0 } :=
  top_ok (by kernel_rfl) GL0_ok (plans := planF) (lf := 60) (k := 20) (by kernel_rfl)
theorem makesA_den (a : Bool) (l : List Nat) (b : Bool) (k : List Nat) (i j : Int) (hi : inI i) (hj : inI j) (h : l.length ≤ 12 ∧ k.length ≤ 12) : tr_makesA.den GL6 (env0 [.y a l, .y b k, .n i, .n j]) = some [.b true] := by
  have h_1 : ¬ (12 : Int) < l.length := by omega
  have h_2 : ¬ (12 : Int) < k.length := by omega
  have hij := eq_true (And.intro hi hj)
  have hi' : (-9223372036854775808 ≤ i ∧ i < 9223372036854775808) = True := eq_true hi
  by_cases h0 : vz b k = 0
  · simp only [tr_makesA, Tr.den, evAll, SA.ev, BE.ev, IE.ev, SE.ev, LE.ev, env0, extE_eq, pickO, evN, evB, evS, evLen, evBit, evLst, At.len, At.bit, At.lst, op1, op2, op3, Nat.reduceLeDiff, Nat.reduceSub, Nat.reduceEqDiff, if_true, if_false, ite_true, ite_false, decide_true, decide_false, Bool.not_true, Bool.not_false, Nat.zero_le, Nat.sub_zero, List.getElem?_cons_zero, List.getElem?_cons_succ, List.getElem?_nil, GL6_qmake, ctF_qmake, GL6_rqmake, ctF_rqmake, GL6_qof, ctF_qof, GL6_rqof, ctF_rqof, GL6_qfrac, ctF_qfrac, GL6_rqfrac, ctF_rqfrac, GL6_rqsame, ctF_rqsame, GL6_alive3, ctF_alive3, decide_eq_false h_1, decide_eq_false h_2, f_qmake, f_qof, f_qfrac, hij, hi', eq_true h0, f_rrb, f_true, beq_self_eq_true, qa, Bool.and_self]
  · simp only [tr_makesA, Tr.den, evAll, SA.ev, BE.ev, IE.ev, SE.ev, LE.ev, env0, extE_eq, pickO, evN, evB, evS, evLen, evBit, evLst, At.len, At.bit, At.lst, op1, op2, op3, Nat.reduceLeDiff, Nat.reduceSub, Nat.reduceEqDiff, if_true, if_false, ite_true, ite_false, decide_true, decide_false, Bool.not_true, Bool.not_false, Nat.zero_le, Nat.sub_zero, List.getElem?_cons_zero, List.getElem?_cons_succ, List.getElem?_nil, GL6_qmake, ctF_qmake, GL6_rqmake, ctF_rqmake, GL6_qof, ctF_qof, GL6_rqof, ctF_rqof, GL6_qfrac, ctF_qfrac, GL6_rqfrac, ctF_rqfrac, GL6_rqsame, ctF_rqsame, GL6_alive3, ctF_alive3, decide_eq_false h_1, decide_eq_false h_2, f_qmake, f_qof, f_qfrac, hij, hi', h0, f_rrb, f_true, beq_self_eq_true, qa, Bool.and_self]
theorem makesB_den (a : Bool) (l : List Nat) (b : Bool) (k : List Nat) (i j : Int) (h : ¬ (l.length ≤ 12 ∧ k.length ≤ 12)) : tr_makesB.den GL0 (env0 [.y a l, .y b k, .n i, .n j]) = some [.b true] := by
  by_cases h_1 : (12 : Int) < l.length
  · simp only [tr_makesB, Tr.den, evAll, SA.ev, BE.ev, IE.ev, SE.ev, LE.ev, env0, extE_eq, pickO, evN, evB, evS, evLen, evBit, evLst, At.len, At.bit, At.lst, op1, op2, op3, Nat.reduceLeDiff, Nat.reduceSub, Nat.reduceEqDiff, if_true, if_false, ite_true, ite_false, decide_true, decide_false, Bool.not_true, Bool.not_false, Nat.zero_le, Nat.sub_zero, List.getElem?_cons_zero, List.getElem?_cons_succ, List.getElem?_nil, GL0_alive3, ctF_alive3, decide_eq_true h_1, f_true]
  by_cases h_2 : (12 : Int) < k.length
  · simp only [tr_makesB, Tr.den, evAll, SA.ev, BE.ev, IE.ev, SE.ev, LE.ev, env0, extE_eq, pickO, evN, evB, evS, evLen, evBit, evLst, At.len, At.bit, At.lst, op1, op2, op3, Nat.reduceLeDiff, Nat.reduceSub, Nat.reduceEqDiff, if_true, if_false, ite_true, ite_false, decide_true, decide_false, Bool.not_true, Bool.not_false, Nat.zero_le, Nat.sub_zero, List.getElem?_cons_zero, List.getElem?_cons_succ, List.getElem?_nil, GL0_alive3, ctF_alive3, decide_eq_false h_1, decide_eq_true h_2, f_true]
  exact absurd ⟨by omega, by omega⟩ h
theorem repV_nn {w : World} {als : List At} {v : Value} (h : RepV w [.n, .n] als v) : ∃ i j, als = [.n i, .n j] := by
  obtain ⟨cs, ⟨a, r, c1, c2, rfl, rfl, h1, h2, b, r', c3, c4, rfl, rfl, h3, h4, rfl, rfl⟩, rfl⟩ := h
  cases a <;> simp [At.sh] at h1
  cases b <;> simp [At.sh] at h3
  exact ⟨_, _, rfl⟩
theorem makes_any {w : World} {als1 als2 als3 : List At} {v1 v2 v3 : Value} (h1 : RepV w [.y] als1 v1) (h2 : RepV w [.y] als2 v2) (h3 : RepV w [.n, .n] als3 v3) (hg : ∀ a ∈ als3, a.rng) :
    Calls Try.prog 3 #[v1, v2, v3] w fun e w' => e = .returned (.bool true) ∧ Below w.heap.size w w' := by
  have hr : RepVs w [[.y], [.y], [.n, .n]] (als1 ++ (als2 ++ als3)) [v1, v2, v3] := ⟨als1, _, _, _, rfl, rfl, h1, als2, als3, _, _, rfl, rfl, h2, als3, _, _, _, by simp, rfl, h3, rfl, rfl⟩
  obtain ⟨a, l, _, _, rfl, rfl, _⟩ := repV_y.1 h1
  obtain ⟨b, k, _, _, rfl, rfl, _⟩ := repV_y.1 h2
  obtain ⟨i, j, rfl⟩ := repV_nn h3
  have hi : inI i := hg (.n i) (by simp)
  have hj : inI j := hg (.n j) (by simp)
  exact law_small ev_makesA ev_makesB hr (fun h => makesA_den _ _ _ _ _ _ hi hj (by simp only [szM, List.cons_append, List.nil_append, List.foldr, At.sz] at h; omega)) (fun h => makesB_den _ _ _ _ _ _ (by simp only [szM, List.cons_append, List.nil_append, List.foldr, At.sz] at h; omega))
set_option maxRecDepth 100000 in
theorem rationalMakes_lifted (os : Os) (started : os.Started) (H : Type) (enc : TypeId × Value → H) :
    ReturnsInHanded {} Try.checked os 3 .any (Rows.rationalMakesSpec.pre6 enc Try.prog Try.f3 Rows.rationalMakesRow.domain false) (Rows.rationalMakesSpec.post enc Try.prog Try.f3 false true false false) := by
  refine law_lifted (C := Try.checked) (s := Rows.rationalMakesSpec) Try.own Try.laidOut (by kernel_rfl) Try.func3 rfl 4 rfl Try.underlying4 (by kernel_rfl) enc ?_ ?_ os started
    (ChangeSpec.witness6 (enc := enc) (C := Try.checked) false ⟨#[], #[.agg #[.bool false, .slice none 0 0], .agg #[.bool false, .slice none 0 0], .agg #[.int .i64 0, .int .i64 0]], []⟩ 8 (by kernel_rfl) (by kernel_rfl) (by kernel_rfl) (by kernel_rfl))
  · intro ds hl
    match ds, hl with
    | [d0, d1, d2], _ => rfl
  · intro W base args ds ps hval hA hlt hwt
    have hA' : DataW.TrodAll enc Try.prog W 0 (fun _ => true) true [25, 25, 27] args.toList ds ps := hA
    have hval' : ∀ (j : Nat) t v, Try.f3.params[j]? = some t → args[j]? = some v → Value.okWide Try.prog W .any base t v := hval
    obtain ⟨v0, v1, v2, d0, d1, d2, p0, p1, p2, rfl, rfl, rfl, h0, h1, h2⟩ := Go.ChangeShapes.trodAll_three hA'
    obtain ⟨als_a, hr_a, hg_a⟩ := open_IntR (hval' 0 25 v0 rfl rfl) h0
    obtain ⟨als_b, hr_b, hg_b⟩ := open_IntR (hval' 1 25 v1 rfl rfl) h1
    obtain ⟨als_x, hr_x, hg_x⟩ := open_Two (hval' 2 27 v2 rfl rfl) h2
    exact makes_any hr_a hr_b hr_x hg_x

theorem rationalMakes_holds : Rows.RationalMakesSaid :=
  OpenClaim.holds_of_wide 3 Try.f3 rfl rfl rfl rfl rfl rfl rfl ⟨rfl, rfl, rfl, rfl, rfl⟩ rfl rfl rfl rfl rfl (by kernel_rfl) Try.func3 (by kernel_rfl)
    (of_decide_eq_true (by kernel_rfl)) (by unfold Func.isWrapper; first | (rw [if_pos (by decide +kernel)]; kernel_rfl) | (rw [if_neg (by decide +kernel)]; exact ⟨rfl, rfl⟩))
    (fun os started H enc _ => rationalMakes_lifted os started H enc)
end Go.Proofs.Ytnclpllmidlbbaa
