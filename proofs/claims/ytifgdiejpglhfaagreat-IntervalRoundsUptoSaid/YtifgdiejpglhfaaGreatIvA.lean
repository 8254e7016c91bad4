/- IntervalRounds. -/
import Derived.Test.YtifgdiejpglhfaaGreatIv7
namespace Go.Proofs.YtifgdiejpglhfaaGreat
open Go Go.RowKit Go.V Go.ChangeMaps
set_option linter.unusedSimpArgs false
set_option linter.unusedVariables false
set_option maxRecDepth 20000
def ct_sround : Ct := { args := [[.r, .r], [.n]], res := [[.r, .r], [.n]], F := fun _ => none, L := 0, A := 0, B := 0 }
theorem ctF_sround : ct_sround.F = fun _ => none := rfl
theorem ok_sround : ct_sround.ok Tryz.prog 8 := fun s w vs als r h1 h2 h3 h4 => by cases h4
def GC1 : Gam := gamOf [(14, ct_rqright), (52, ct_rqcmp), (7, ct_alive4), (8, ct_sround)]
theorem GC1_ok : GamOk Tryz.prog GC1 := gamOk_of ⟨ok_rqright, ok_rqcmp, ok_alive4, ok_sround, trivial⟩
theorem GC1_rqright : GC1 14 = some ct_rqright := rfl
theorem GC1_rqcmp : GC1 52 = some ct_rqcmp := rfl
theorem GC1_alive4 : GC1 7 = some ct_alive4 := rfl
theorem GC1_sround : GC1 8 = some ct_sround := rfl
def tr_roundsB : Tr (List SA) := (.br (.lt (.lit 8) (.len 0 1)) (.call 7 [] 3 (.leaf [(.b (.var 3))])) (.br (.lt (.lit 8) (.len 0 2)) (.call 7 [] 3 (.leaf [(.b (.var 3))])) (.br (.lt (.lit 8) (.len 1 1)) (.call 7 [] 3 (.leaf [(.b (.var 3))])) (.br (.lt (.lit 8) (.len 1 2)) (.call 7 [] 3 (.leaf [(.b (.var 3))])) (.call 14 [(.ob 0)] 3 (.br (.var 3) (.call 14 [(.ob 1)] 4 (.br (.var 4) (.call 52 [(.ob 0), (.ob 1)] 5 (.br (.not (.le (.var 5) (.lit 0))) (.call 7 [] 6 (.leaf [(.b (.var 6))])) .bad)) (.call 7 [] 5 (.leaf [(.b (.var 5))])))) (.call 7 [] 4 (.leaf [(.b (.var 4))]))))))))
theorem ev_roundsB : Ct.ok Tryz.prog 3 { args := [[.r, .r], [.n]], res := [[.b]], F := fun als => tr_roundsB.den GC1 (env0 als), L := 1048576, A := 0, B := 0 } :=
  top_ok (by kernel_rfl) GC1_ok (plans := planF) (lf := 60) (k := 20) (by kernel_rfl)
theorem roundsB_den (a1 : Bool) (l1 m1 : List Nat) (b1 : Bool) (k1 n1 : List Nat) (z : Int) (h : ¬ ivS a1 l1 m1 b1 k1 n1) :
    tr_roundsB.den GC1 (env0 [.r a1 l1 m1, .r b1 k1 n1, .n z]) = some [.b true] := by
  by_cases h_1 : (8 : Int) < l1.length
  · simp only [tr_roundsB, Tr.den, evAll, SA.ev, BE.ev, IE.ev, SE.ev, LE.ev, env0, extE_eq, pickO, evN, evB, evS, evLen, evBit, evLst, At.len, At.bit, At.lst, op1, op2, op3, Nat.reduceLeDiff, Nat.reduceSub, Nat.reduceEqDiff, if_true, if_false, ite_true, ite_false, decide_true, decide_false, Bool.not_true, Bool.not_false, Nat.zero_le, Nat.sub_zero, List.getElem?_cons_zero, List.getElem?_cons_succ, List.getElem?_nil, GC1_rqright, ctF_rqright, GC1_rqcmp, ctF_rqcmp, GC1_alive4, ctF_alive4, GC1_sround, ctF_sround, (decide_eq_true h_1), f_qright, f_qcmp, f_tt]
  by_cases h_2 : (8 : Int) < m1.length
  · simp only [tr_roundsB, Tr.den, evAll, SA.ev, BE.ev, IE.ev, SE.ev, LE.ev, env0, extE_eq, pickO, evN, evB, evS, evLen, evBit, evLst, At.len, At.bit, At.lst, op1, op2, op3, Nat.reduceLeDiff, Nat.reduceSub, Nat.reduceEqDiff, if_true, if_false, ite_true, ite_false, decide_true, decide_false, Bool.not_true, Bool.not_false, Nat.zero_le, Nat.sub_zero, List.getElem?_cons_zero, List.getElem?_cons_succ, List.getElem?_nil, GC1_rqright, ctF_rqright, GC1_rqcmp, ctF_rqcmp, GC1_alive4, ctF_alive4, GC1_sround, ctF_sround, (decide_eq_false h_1), (decide_eq_true h_2), f_qright, f_qcmp, f_tt]
  by_cases h_3 : (8 : Int) < k1.length
  · simp only [tr_roundsB, Tr.den, evAll, SA.ev, BE.ev, IE.ev, SE.ev, LE.ev, env0, extE_eq, pickO, evN, evB, evS, evLen, evBit, evLst, At.len, At.bit, At.lst, op1, op2, op3, Nat.reduceLeDiff, Nat.reduceSub, Nat.reduceEqDiff, if_true, if_false, ite_true, ite_false, decide_true, decide_false, Bool.not_true, Bool.not_false, Nat.zero_le, Nat.sub_zero, List.getElem?_cons_zero, List.getElem?_cons_succ, List.getElem?_nil, GC1_rqright, ctF_rqright, GC1_rqcmp, ctF_rqcmp, GC1_alive4, ctF_alive4, GC1_sround, ctF_sround, (decide_eq_false h_1), (decide_eq_false h_2), (decide_eq_true h_3), f_qright, f_qcmp, f_tt]
  by_cases h_4 : (8 : Int) < n1.length
  · simp only [tr_roundsB, Tr.den, evAll, SA.ev, BE.ev, IE.ev, SE.ev, LE.ev, env0, extE_eq, pickO, evN, evB, evS, evLen, evBit, evLst, At.len, At.bit, At.lst, op1, op2, op3, Nat.reduceLeDiff, Nat.reduceSub, Nat.reduceEqDiff, if_true, if_false, ite_true, ite_false, decide_true, decide_false, Bool.not_true, Bool.not_false, Nat.zero_le, Nat.sub_zero, List.getElem?_cons_zero, List.getElem?_cons_succ, List.getElem?_nil, GC1_rqright, ctF_rqright, GC1_rqcmp, ctF_rqcmp, GC1_alive4, ctF_alive4, GC1_sround, ctF_sround, (decide_eq_false h_1), (decide_eq_false h_2), (decide_eq_false h_3), (decide_eq_true h_4), f_qright, f_qcmp, f_tt]
  by_cases h_5 : qRight a1 l1 m1 = false
  · simp only [tr_roundsB, Tr.den, evAll, SA.ev, BE.ev, IE.ev, SE.ev, LE.ev, env0, extE_eq, pickO, evN, evB, evS, evLen, evBit, evLst, At.len, At.bit, At.lst, op1, op2, op3, Nat.reduceLeDiff, Nat.reduceSub, Nat.reduceEqDiff, if_true, if_false, ite_true, ite_false, decide_true, decide_false, Bool.not_true, Bool.not_false, Nat.zero_le, Nat.sub_zero, List.getElem?_cons_zero, List.getElem?_cons_succ, List.getElem?_nil, GC1_rqright, ctF_rqright, GC1_rqcmp, ctF_rqcmp, GC1_alive4, ctF_alive4, GC1_sround, ctF_sround, (decide_eq_false h_1), (decide_eq_false h_2), (decide_eq_false h_3), (decide_eq_false h_4), h_5, f_qright, f_qcmp, f_tt]
  by_cases h_6 : qRight b1 k1 n1 = false
  · simp only [tr_roundsB, Tr.den, evAll, SA.ev, BE.ev, IE.ev, SE.ev, LE.ev, env0, extE_eq, pickO, evN, evB, evS, evLen, evBit, evLst, At.len, At.bit, At.lst, op1, op2, op3, Nat.reduceLeDiff, Nat.reduceSub, Nat.reduceEqDiff, if_true, if_false, ite_true, ite_false, decide_true, decide_false, Bool.not_true, Bool.not_false, Nat.zero_le, Nat.sub_zero, List.getElem?_cons_zero, List.getElem?_cons_succ, List.getElem?_nil, GC1_rqright, ctF_rqright, GC1_rqcmp, ctF_rqcmp, GC1_alive4, ctF_alive4, GC1_sround, ctF_sround, (decide_eq_false h_1), (decide_eq_false h_2), (decide_eq_false h_3), (decide_eq_false h_4), (eq_true_of_ne_false h_5), h_6, f_qright, f_qcmp, f_tt]
  by_cases h_7 : ¬ (qcmpv (qv a1 l1 m1) (qv b1 k1 n1) ≤ 0)
  · simp only [tr_roundsB, Tr.den, evAll, SA.ev, BE.ev, IE.ev, SE.ev, LE.ev, env0, extE_eq, pickO, evN, evB, evS, evLen, evBit, evLst, At.len, At.bit, At.lst, op1, op2, op3, Nat.reduceLeDiff, Nat.reduceSub, Nat.reduceEqDiff, if_true, if_false, ite_true, ite_false, decide_true, decide_false, Bool.not_true, Bool.not_false, Nat.zero_le, Nat.sub_zero, List.getElem?_cons_zero, List.getElem?_cons_succ, List.getElem?_nil, GC1_rqright, ctF_rqright, GC1_rqcmp, ctF_rqcmp, GC1_alive4, ctF_alive4, GC1_sround, ctF_sround, (decide_eq_false h_1), (decide_eq_false h_2), (decide_eq_false h_3), (decide_eq_false h_4), (eq_true_of_ne_false h_5), (eq_true_of_ne_false h_6), (decide_eq_false h_7), f_qright, f_qcmp, f_tt]
  exact absurd ⟨⟨by omega, by omega, by omega, by omega⟩, eq_true_of_ne_false h_5, eq_true_of_ne_false h_6, Decidable.not_not.1 h_7⟩ h
def GC2 : Gam := gamOf [(14, ct_drrightT), (52, ct_drcmp), (8, ct_ivround), (9, ct_rivround), (10, ct_ivsqrt), (11, ct_rivsqrt), (57, ct_drsameT), (7, ct_alive4)]
theorem GC2_ok : GamOk Tryz.prog GC2 := gamOk_of ⟨ok_drrightT, ok_drcmp, ok_ivround, ok_rivround, ok_ivsqrt, ok_rivsqrt, ok_drsameT, ok_alive4, trivial⟩
theorem GC2_drrightT : GC2 14 = some ct_drrightT := rfl
theorem GC2_drcmp : GC2 52 = some ct_drcmp := rfl
theorem GC2_ivround : GC2 8 = some ct_ivround := rfl
theorem GC2_rivround : GC2 9 = some ct_rivround := rfl
theorem GC2_ivsqrt : GC2 10 = some ct_ivsqrt := rfl
theorem GC2_rivsqrt : GC2 11 = some ct_rivsqrt := rfl
theorem GC2_drsameT : GC2 57 = some ct_drsameT := rfl
theorem GC2_alive4 : GC2 7 = some ct_alive4 := rfl
def tr_roundsA : Tr (List SA) := (.br (.lt (.lit 8) (.len 0 1)) (.call 7 [] 3 (.leaf [(.b (.var 3))])) (.br (.lt (.lit 8) (.len 0 2)) (.call 7 [] 3 (.leaf [(.b (.var 3))])) (.br (.lt (.lit 8) (.len 1 1)) (.call 7 [] 3 (.leaf [(.b (.var 3))])) (.br (.lt (.lit 8) (.len 1 2)) (.call 7 [] 3 (.leaf [(.b (.var 3))])) (.call 14 [(.ob 0)] 3 (.call 14 [(.ob 1)] 4 (.call 52 [(.ob 0), (.ob 1)] 5 (.br (.not (.le (.var 5) (.lit 0))) (.call 7 [] 6 (.leaf [(.b (.var 6))])) (.call 8 [(.ob 0), (.ob 1), (.n (.var 2))] 6 (.call 9 [(.ob 0), (.ob 1), (.n (.var 2))] 9 (.call 10 [(.ob 0), (.ob 1), (.n (.var 2))] 12 (.call 11 [(.ob 0), (.ob 1), (.n (.var 2))] 15 (.call 57 [(.ob 6), (.ob 9)] 18 (.call 57 [(.ob 7), (.ob 10)] 19 (.br (.eq (.var 8) (.var 11)) (.call 57 [(.ob 12), (.ob 15)] 20 (.call 57 [(.ob 13), (.ob 16)] 21 (.br (.eq (.var 14) (.var 17)) (.call 7 [] 22 (.leaf [(.b (.var 22))])) (.leaf [(.b (.lit false))])))) (.leaf [(.b (.lit false))]))))))))))))))))
theorem ev_roundsA : Ct.ok Tryz.prog 3 { args := [[.r, .r], [.n]], res := [[.b]], F := fun als => tr_roundsA.den GC2 (env0 als), L := 8, A := 0, B := 0 } :=
  top_ok (by kernel_rfl) GC2_ok (plans := planF) (lf := 60) (k := 20) (by kernel_rfl)
theorem roundsA_den (x1 y1 : Rat) (z : Int) (h1 : x1 ≤ y1) (q1 : qS x1) (q2 : qS y1) : tr_roundsA.den GC2 (env0 (List.map QA.at [.q x1, .q y1, .n z])) = some [.b true] := by
  by_cases h3 : z < 0 ∨ 200 < z
  · simp only [tr_roundsA, Tr.den, evAll, SA.ev, BE.ev, IE.ev, SE.ev, LE.ev, env0, extE_eq, pickO, op1, op2, op3, Nat.reduceLeDiff, Nat.reduceSub, Nat.reduceEqDiff, if_true, if_false, ite_true, ite_false, decide_true, decide_false, Bool.not_true, Bool.not_false, Nat.zero_le, Nat.sub_zero, List.getElem?_cons_zero, List.getElem?_cons_succ, List.getElem?_nil, cq0, cq1, cq2, cq3, cq4, cq5, cq6, cq7, cq8, cq9, cq10, cq12, cq16, outQ1, outQ2, outQ3, outQ4, outQ5, evN_at, evB_at, evS_at, evLen_z1, evLen_z2, evBit_z, at_n, at_b, at_s, at_z, at_k, at_kb, kG, kQ, kQ1, List.map_cons, List.map_nil, List.cons_append, List.nil_append, decide_eq_true_eq, Bool.false_eq_true, GC2_drrightT, ctF_drrightT, GC2_drcmp, ctF_drcmp, GC2_ivround, ctF_ivround, GC2_rivround, ctF_rivround, GC2_ivsqrt, ctF_ivsqrt, GC2_rivsqrt, ctF_rivsqrt, GC2_drsameT, ctF_drsameT, GC2_alive4, ctF_alive4, evLen_q1, evLen_q2, qS1 q1, qS2 q1, qS1 q2, qS2 q2, g_right, g_cmp, cmp_le, eq_true h1, g_ivround, g_ivsqrt, g_qsame, or_true, eq_true h3, f_tt, eq_self]
  · by_cases h4 : y1 < 0
    · simp only [tr_roundsA, Tr.den, evAll, SA.ev, BE.ev, IE.ev, SE.ev, LE.ev, env0, extE_eq, pickO, op1, op2, op3, Nat.reduceLeDiff, Nat.reduceSub, Nat.reduceEqDiff, if_true, if_false, ite_true, ite_false, decide_true, decide_false, Bool.not_true, Bool.not_false, Nat.zero_le, Nat.sub_zero, List.getElem?_cons_zero, List.getElem?_cons_succ, List.getElem?_nil, cq0, cq1, cq2, cq3, cq4, cq5, cq6, cq7, cq8, cq9, cq10, cq12, cq16, outQ1, outQ2, outQ3, outQ4, outQ5, evN_at, evB_at, evS_at, evLen_z1, evLen_z2, evBit_z, at_n, at_b, at_s, at_z, at_k, at_kb, kG, kQ, kQ1, List.map_cons, List.map_nil, List.cons_append, List.nil_append, decide_eq_true_eq, Bool.false_eq_true, GC2_drrightT, ctF_drrightT, GC2_drcmp, ctF_drcmp, GC2_ivround, ctF_ivround, GC2_rivround, ctF_rivround, GC2_ivsqrt, ctF_ivsqrt, GC2_rivsqrt, ctF_rivsqrt, GC2_drsameT, ctF_drsameT, GC2_alive4, ctF_alive4, evLen_q1, evLen_q2, qS1 q1, qS2 q1, qS1 q2, qS2 q2, g_right, g_cmp, cmp_le, eq_true h1, g_ivround, g_ivsqrt, g_qsame, or_false, eq_true h4, h3, f_tt, eq_self]
    · simp only [tr_roundsA, Tr.den, evAll, SA.ev, BE.ev, IE.ev, SE.ev, LE.ev, env0, extE_eq, pickO, op1, op2, op3, Nat.reduceLeDiff, Nat.reduceSub, Nat.reduceEqDiff, if_true, if_false, ite_true, ite_false, decide_true, decide_false, Bool.not_true, Bool.not_false, Nat.zero_le, Nat.sub_zero, List.getElem?_cons_zero, List.getElem?_cons_succ, List.getElem?_nil, cq0, cq1, cq2, cq3, cq4, cq5, cq6, cq7, cq8, cq9, cq10, cq12, cq16, outQ1, outQ2, outQ3, outQ4, outQ5, evN_at, evB_at, evS_at, evLen_z1, evLen_z2, evBit_z, at_n, at_b, at_s, at_z, at_k, at_kb, kG, kQ, kQ1, List.map_cons, List.map_nil, List.cons_append, List.nil_append, decide_eq_true_eq, Bool.false_eq_true, GC2_drrightT, ctF_drrightT, GC2_drcmp, ctF_drcmp, GC2_ivround, ctF_ivround, GC2_rivround, ctF_rivround, GC2_ivsqrt, ctF_ivsqrt, GC2_rivsqrt, ctF_rivsqrt, GC2_drsameT, ctF_drsameT, GC2_alive4, ctF_alive4, evLen_q1, evLen_q2, qS1 q1, qS2 q1, qS1 q2, qS2 q2, g_right, g_cmp, cmp_le, eq_true h1, g_ivround, g_ivsqrt, g_qsame, or_false, h4, h3, f_tt, eq_self]
theorem rounds_any {w : World} {B1 : Nat} {als1 : List At} {v1 : Value} {z : Int} (h1 : RepV w [.r, .r] als1 v1) (g1 : ∀ a ∈ als1, a.rngB B1) (b1 : B1 ≤ 1048576) :
    Calls Tryz.prog 3 #[v1, .int .i64 z] w fun e w' => e = .returned (.bool true) ∧ Below w.heap.size w w' := by
  have hr : RepVs w [[.r, .r], [.n]] (als1 ++ [.n z]) [v1, .int .i64 z] := ⟨als1, [.n z], _, _, rfl, rfl, h1, [.n z], _, _, _, by simp, rfl, repV_n.2 ⟨z, rfl, rfl⟩, rfl, rfl⟩
  have hz := z_app (z_bound g1 b1) (z_n (z := z))
  obtain ⟨a1, l1, m1, c1, k1, n1, rfl, o1, o2⟩ := iv_split h1
  by_cases hs : ivS a1 l1 m1 c1 k1 n1
  · obtain ⟨x1, y1, e1, e2, hx1, q1, q2⟩ := ivS_q o1 o2 hs
    rw [e1, e2] at hr hz
    exact law_two ev_roundsA ev_roundsB hr hz (.inl ⟨szM_cons (qS_sz q1) (szM_cons (qS_sz q2) (szM_cons sz_n (Nat.zero_le _))), roundsA_den x1 y1 z hx1 q1 q2⟩)
  · exact law_two ev_roundsA ev_roundsB hr hz (.inr (roundsB_den _ _ _ _ _ _ _ hs))
set_option maxRecDepth 100000 in
theorem intervalRounds_liftedU (os : Os) (started : os.Started) (H : Type) (enc : TypeId × Value → H) (F : Stop.Interp) :
    ReturnsInHanded {} Tryz.checked os 3 .any ((Rows.OpenSpec.upto Rows.intervalRoundsSpec).pre6 enc Tryz.prog Tryz.f3 Rows.intervalRoundsUptoRow.domain false) (((Rows.OpenSpec.upto Rows.intervalRoundsSpec).at F).post enc Tryz.prog Tryz.f3 false true false false) := by
  refine law_liftedU (C := Tryz.checked) (s := Rows.intervalRoundsSpec) Tryz.own Tryz.laidOut (by kernel_rfl) Tryz.func3 rfl 4 rfl Tryz.underlying4 (by kernel_rfl) enc ?_ ?_ os started F
    (OpenSpec.witness (enc := enc) (C := Tryz.checked) (s := Rows.OpenSpec.upto Rows.intervalRoundsSpec) (k := Rows.uptoSmall) rfl false ⟨#[], #[.agg #[.bool false, .slice none 0 0, .slice none 0 0, .bool false, .slice none 0 0, .slice none 0 0], .int .i64 0], []⟩ 8 (by kernel_rfl) (by kernel_rfl) (by kernel_rfl) (x := ([.agg [.agg [.agg [.lit (.bool false), .nil], .nil], .agg [.agg [.lit (.bool false), .nil], .nil]], .lit (.int .i64 0)], [], [])) (by kernel_rfl) rfl (by kernel_rfl))
  · intro ds hl
    match ds, hl with
    | [d0, d1], _ => rfl
  · intro W base args ds ps hval hA hlt hk
    have hA' : DataW.TrodAll enc Tryz.prog W 0 (fun _ => true) true [29, 3] args.toList ds ps := hA
    have hval' : ∀ (j : Nat) t v, Tryz.f3.params[j]? = some t → args[j]? = some v → Value.okWide Tryz.prog W .any base t v := hval
    obtain ⟨v0, v1, d0, d1, p0, p1, rfl, rfl, rfl, h0, h1⟩ := Go.ChangeShapes.trodAll_two hA'
    simp only [Rows.uptoBulkAll] at hk
    have hb_a : Rows.uptoBulk d0 ≤ 1048576 := by omega
    obtain ⟨als_a, hr_a, hg_a⟩ := open_Interval (hval' 0 29 v0 rfl rfl) h0
    have hb_bits : Rows.uptoBulk d1 ≤ 1048576 := by omega
    obtain ⟨bits, rfl, rfl, rfl, hs_bits⟩ := Go.ChangeShapes.open_int Tryz.underlying3 (hval' 1 3 v1 rfl rfl) h1
    exact rounds_any hr_a hg_a hb_a

theorem intervalRoundsUpto_holds : Rows.IntervalRoundsUptoSaid :=
  OpenClaim.holds_of_cond 3 Tryz.f3 rfl rfl rfl rfl rfl rfl rfl ⟨rfl, rfl, rfl, rfl, rfl⟩ rfl rfl rfl rfl rfl (by kernel_rfl) Tryz.func3 (by kernel_rfl)
    (of_decide_eq_true (by kernel_rfl)) (by unfold Func.isWrapper; first | (rw [if_pos (by decide +kernel)]; kernel_rfl) | (rw [if_neg (by decide +kernel)]; exact ⟨rfl, rfl⟩))
    (fun os started H enc _ F => intervalRounds_liftedU os started H enc F)
end Go.Proofs.YtifgdiejpglhfaaGreat
