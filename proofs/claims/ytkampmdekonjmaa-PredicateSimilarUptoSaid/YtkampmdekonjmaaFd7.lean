/- Facts: the laws' arguments fit or not. -/
import Derived.Test.YtkampmdekonjmaaFc4
import Derived.Test.YtkampmdekonjmaaRt2
import Derived.Deep.Slices
import Derived.Test.YtkampmdekonjmaaPl2
import Derived.Test.YtkampmdekonjmaaFcP
import Derived.Test.YtkampmdekonjmaaFc3
namespace Go.Proofs.Ytkampmdekonjmaa
open Go Go.RowKit Go.V
set_option linter.unusedSimpArgs false
set_option linter.unusedVariables false
set_option maxRecDepth 20000
theorem rows_cells {t e n : Nat} {shs : List Sh} (ht : Try.prog.underlying t = some (.slice e)) (hc : Try.prog.cellsOf e = n) (hn : 0 < n) (hT : TR e shs) (hns : ∀ W als cs, Reps W shs als cs → RepV W shs als (.agg cs.toArray))
    {H : Type} {enc : TypeId × Value → H} {W : World} {fuel : Nat} {cs : List Value} {x : DataW H × List MemPlace} (hf : DataW.trod enc Try.prog W 0 (fun _ => true) true fuel t cs = some x) :
    ∃ (a : Option Addr) (cap : Nat) (xs : List (List At)), cs = [.slice a xs.length cap] ∧ RowsR W a n shs xs ∧ xs.length ≤ maxLen ∧ xs.length ≤ Rows.uptoBulk x.1 ∧ ∀ y ∈ xs, ∀ z ∈ y, z.rngB (Rows.uptoBulk x.1) := by
  rcases Go.Deep.open_slice ht hf with ⟨h, _⟩ | ⟨a, len, cap, m, f2, D, Pl, hcs, _, hle, hmax, hm, hx, hi⟩
  · exact ⟨none, 0, [], h, ⟨[], SL.nil _ _, rfl, fun i R x h => by simp at h⟩, Nat.zero_le _, Nat.zero_le _, fun y hy => by cases hy⟩
  · simp only [if_true] at hm
    have hm' := hm.symm
    subst hm'
    rw [hc] at hi
    obtain ⟨C, hC⟩ := Go.Deep.choose_lt (α := List Value) (p := fun i cs' => W.cells? 0 (a.add (i * n)) n = some cs' ∧ DataW.trod enc Try.prog W 0 (fun _ => true) true f2 e cs' = some (D i, Pl i)) (fun i h => hi i h)
    obtain ⟨X, hX⟩ := Go.Deep.choose_lt (α := List At) (p := fun i als => Reps W shs als (C i) ∧ ∀ z ∈ als, z.rngB (Rows.uptoBulk (D i))) (n := cap) (fun i h => hT (hC i h).2)
    have hb1 : ∀ i, i < len → Rows.uptoBulk (D i) ≤ Rows.uptoBulk x.1 := by
      intro i h
      have h3 : D i ∈ (List.range len).map D := List.mem_map.2 ⟨i, List.mem_range.2 h, rfl⟩
      have h4 := bulk_part h3
      rw [hx]
      simp only [Rows.uptoBulk]
      omega
    have hlen : len ≤ Rows.uptoBulk x.1 := by
      have := bulk_slice (H := H) ((List.range len).map D) ((List.range (cap - len)).map fun j => D (len + j))
      rw [hx]
      simp only [List.length_map, List.length_range] at this ⊢
      omega
    refine ⟨some a, cap, (List.range len).map X, by rw [List.length_map, List.length_range]; exact hcs, ⟨(List.range len).map C, ?_, by simp, ?_⟩, by simp; omega, by simpa using hlen, ?_⟩
    · by_cases h0 : len = 0
      · subst h0; exact .inl rfl
      · have g0 := (World.cells?_some (hC 0 (by omega)).1).2.2 0 hn
        have g1 : (C 0)[0]? = some ((C 0)[0]'(by rw [(World.cells?_some (hC 0 (by omega)).1).2.1]; exact hn)) := List.getElem?_eq_getElem _
        rw [g1] at g0
        obtain ⟨b, off, spot⟩ := a
        have hspot : spot = none := by simpa [Addr.add] using World.cell?_spot g0
        subst hspot
        refine .inr ⟨b, off, rfl, fun j v hv => ?_⟩
        have hall : ∀ R ∈ (List.range len).map C, R.length = n := by
          intro R hR
          obtain ⟨i, hi, rfl⟩ := List.mem_map.1 hR
          exact (World.cells?_some (hC i (by have := List.mem_range.1 hi; omega)).1).2.1
        have hj : j < n * len := by
          have := (List.getElem?_eq_some_iff.1 hv).1
          rw [flat_len hall, List.length_map, List.length_range] at this
          exact this
        have hq : j / n < len := (Nat.div_lt_iff_lt_mul hn).2 (by rw [Nat.mul_comm]; exact hj)
        have hr := Nat.mod_lt j hn
        have g := (World.cells?_some (hC (j / n) (by omega)).1).2.2 (j % n) hr
        rw [add_mk, add_mk, Nat.add_assoc, Nat.div_mul_self_eq_mod_sub_self, Nat.sub_add_cancel (Nat.mod_le j n)] at g
        rw [g]
        have hfr := flat_row hall (i := j / n) (R := C (j / n)) (by simp [hq])
        rw [← hfr, List.getElem?_take, if_pos hr, List.getElem?_drop, ← hv]
        congr 1
        rw [Nat.div_mul_self_eq_mod_sub_self]
        have := Nat.mod_le j n
        omega
    · intro i R y hR hy
      have hil : i < len := by have := (List.getElem?_eq_some_iff.1 hR).1; simpa using this
      simp only [List.getElem?_map, List.getElem?_range hil, Option.map_some, Option.some.injEq] at hR hy
      subst hR; subst hy
      exact ⟨(World.cells?_some (hC i (by omega)).1).2.1, hns _ _ _ (hX i (by omega)).1⟩
    · intro y hy z hz
      obtain ⟨i, hi', rfl⟩ := List.mem_map.1 hy
      have hil := List.mem_range.1 hi'
      exact ((hX i (by omega)).2 z hz).mono (hb1 i hil)
theorem pts_rep (W : World) (als : List At) (cs : List Value) (h : Reps W [.r, .r] als cs) : RepV W [.r, .r] als (.agg cs.toArray) := (RepV_of rfl).2 ⟨_, h, by simp [mkV, single]⟩
/-- points, as a slice's value -/
def PtsV (W : World) (v : Value) (B : Nat) : Prop := ∃ (a : Option Addr) (cap : Nat) (xs : List (List At)), v = .slice a xs.length cap ∧ RowsR W a 6 [.r, .r] xs ∧ xs.length ≤ maxLen ∧ xs.length ≤ B ∧ ∀ y ∈ xs, ∀ z ∈ y, z.rngB B
theorem open_Points {H : Type} {enc : TypeId × Value → H} {W : World} {r : Reach} {base : Nat} {v : Value} {d : DataW H} {ps : List MemPlace}
    (hval : Value.okWide Try.prog W r base 39 v) (hd : DataW.Trod enc Try.prog W 0 (fun _ => true) true 39 v d ps) : ∃ (_ _ : Unit), PtsV W v (Rows.uptoBulk d) := by
  obtain ⟨a, n, c, rfl⟩ := Go.WideShapes.okWide_slice Try.underlying39 hval
  obtain ⟨fuel, hf⟩ := hd
  obtain ⟨a', cap, xs, e, h⟩ := rows_cells (n := 6) Try.underlying39 (by kernel_rfl) (by decide) TR_point pts_rep hf
  refine ⟨(), (), a', cap, xs, ?_, h⟩
  simpa [Value.cells] using e
end Go.Proofs.Ytkampmdekonjmaa
namespace Go.Proofs.Ytkampmdekonjmaa
open Go Go.RowKit Go.V
set_option linter.unusedSimpArgs false
set_option linter.unusedVariables false
set_option maxRecDepth 20000
set_option maxHeartbeats 1000000
def GF1 : Gam := gamOf [(83, ct_dadd), (55, ct_dsub), (51, ct_dmul), (52, ct_dof), (44, ct_dsign), (113, ct_ppdot), (112, ct_ppcross), (114, ct_ppnorm)]
theorem GF1_ok : GamOk Try.prog GF1 := gamOk_of ⟨ok_dadd, ok_dsub, ok_dmul, ok_dof, ok_dsign, ok_ppdot, ok_ppcross, ok_ppnorm, trivial⟩
theorem GF1_dadd : GF1 83 = some ct_dadd := rfl
theorem GF1_dsub : GF1 55 = some ct_dsub := rfl
theorem GF1_dmul : GF1 51 = some ct_dmul := rfl
theorem GF1_dof : GF1 52 = some ct_dof := rfl
theorem GF1_dsign : GF1 44 = some ct_dsign := rfl
theorem GF1_ppdot : GF1 113 = some ct_ppdot := rfl
theorem GF1_ppcross : GF1 112 = some ct_ppcross := rfl
theorem GF1_ppnorm : GF1 114 = some ct_ppnorm := rfl
def tr_fval1 : Tr (List SA) := (.call 112 [(.ob 3), (.ob 4), (.ob 5), (.ob 6), (.ob 3), (.ob 4), (.ob 7), (.ob 8)] 9 (.leaf [(.ob 9)]))
theorem ev_fval1 : OkS Try.prog GF1 81 [[(.k (1)), .w, .r]] 3 [.r, .r, .r, .r, .r, .r] [[(.sl 1), .r]] tr_fval1 3000 8 38 :=
  top_okS (by kernel_rfl) GF1_ok (plans := planF) (lf := 60) (k := 20) (by kernel_rfl) rfl
theorem fval1_den (v : Value) (a : At) (p0 p1 p2 : PT) : tr_fval1.den GF1 (env0 ([.k 1, .w v, a] ++ [QA.at (.q p0.1), QA.at (.q p0.2), QA.at (.q p1.1), QA.at (.q p1.2), QA.at (.q p2.1), QA.at (.q p2.2)])) = some [QA.at (.q (crP p0 p1 p0 p2))] := by
  simp only [tr_fval1, Tr.den, evAll, SA.ev, BE.ev, IE.ev, SE.ev, LE.ev, env0, extE_eq, pickO, op1, op2, op3, Nat.reduceLeDiff, Nat.reduceSub, Nat.reduceEqDiff, if_true, if_false, ite_true, ite_false, decide_true, decide_false, Bool.not_true, Bool.not_false, Nat.zero_le, Nat.sub_zero, List.getElem?_cons_zero, List.getElem?_cons_succ, List.getElem?_nil, cq0, cq1, cq2, cq3, cq4, cq5, cq6, cq7, cq8, cq9, cq10, cq12, cq16, outQ1, outQ2, outQ3, outQ4, outQ5, evN_at, evB_at, evS_at, evLen_z1, evLen_z2, evBit_z, at_n, at_b, at_s, at_z, at_k, at_kb, kG, kQ, kQ1, List.map_cons, List.map_nil, List.cons_append, List.nil_append, decide_eq_true_eq, Bool.false_eq_true, GF1_dadd, ctF_dadd, GF1_dsub, ctF_dsub, GF1_dmul, ctF_dmul, GF1_dof, ctF_dof, GF1_dsign, ctF_dsign, GF1_ppdot, ctF_ppdot, GF1_ppcross, ctF_ppcross, GF1_ppnorm, ctF_ppnorm, g_add, g_sub, g_mul, g_of, inI2, cast2, g_pdot, g_pcross, g_pnorm, lnP, crP, dtP, nmP]
def tr_fval2 : Tr (List SA) := (.call 112 [(.ob 3), (.ob 4), (.ob 5), (.ob 6), (.ob 7), (.ob 8), (.ob 9), (.ob 10)] 11 (.leaf [(.ob 11)]))
theorem ev_fval2 : OkS Try.prog GF1 81 [[(.k (2)), .w, .r]] 4 [.r, .r, .r, .r, .r, .r, .r, .r] [[(.sl 1), .r]] tr_fval2 3000 8 38 :=
  top_okS (by kernel_rfl) GF1_ok (plans := planF) (lf := 60) (k := 20) (by kernel_rfl) rfl
theorem fval2_den (v : Value) (a : At) (p0 p1 p2 p3 : PT) : tr_fval2.den GF1 (env0 ([.k 2, .w v, a] ++ [QA.at (.q p0.1), QA.at (.q p0.2), QA.at (.q p1.1), QA.at (.q p1.2), QA.at (.q p2.1), QA.at (.q p2.2), QA.at (.q p3.1), QA.at (.q p3.2)])) = some [QA.at (.q (crP p0 p1 p2 p3))] := by
  simp only [tr_fval2, Tr.den, evAll, SA.ev, BE.ev, IE.ev, SE.ev, LE.ev, env0, extE_eq, pickO, op1, op2, op3, Nat.reduceLeDiff, Nat.reduceSub, Nat.reduceEqDiff, if_true, if_false, ite_true, ite_false, decide_true, decide_false, Bool.not_true, Bool.not_false, Nat.zero_le, Nat.sub_zero, List.getElem?_cons_zero, List.getElem?_cons_succ, List.getElem?_nil, cq0, cq1, cq2, cq3, cq4, cq5, cq6, cq7, cq8, cq9, cq10, cq12, cq16, outQ1, outQ2, outQ3, outQ4, outQ5, evN_at, evB_at, evS_at, evLen_z1, evLen_z2, evBit_z, at_n, at_b, at_s, at_z, at_k, at_kb, kG, kQ, kQ1, List.map_cons, List.map_nil, List.cons_append, List.nil_append, decide_eq_true_eq, Bool.false_eq_true, GF1_dadd, ctF_dadd, GF1_dsub, ctF_dsub, GF1_dmul, ctF_dmul, GF1_dof, ctF_dof, GF1_dsign, ctF_dsign, GF1_ppdot, ctF_ppdot, GF1_ppcross, ctF_ppcross, GF1_ppnorm, ctF_ppnorm, g_add, g_sub, g_mul, g_of, inI2, cast2, g_pdot, g_pcross, g_pnorm, lnP, crP, dtP, nmP]
def tr_fval3 : Tr (List SA) := (.call 113 [(.ob 3), (.ob 4), (.ob 5), (.ob 6), (.ob 7), (.ob 8), (.ob 9), (.ob 10)] 11 (.leaf [(.ob 11)]))
theorem ev_fval3 : OkS Try.prog GF1 81 [[(.k (3)), .w, .r]] 4 [.r, .r, .r, .r, .r, .r, .r, .r] [[(.sl 1), .r]] tr_fval3 3000 8 38 :=
  top_okS (by kernel_rfl) GF1_ok (plans := planF) (lf := 60) (k := 20) (by kernel_rfl) rfl
theorem fval3_den (v : Value) (a : At) (p0 p1 p2 p3 : PT) : tr_fval3.den GF1 (env0 ([.k 3, .w v, a] ++ [QA.at (.q p0.1), QA.at (.q p0.2), QA.at (.q p1.1), QA.at (.q p1.2), QA.at (.q p2.1), QA.at (.q p2.2), QA.at (.q p3.1), QA.at (.q p3.2)])) = some [QA.at (.q (dtP p0 p1 p2 p3))] := by
  simp only [tr_fval3, Tr.den, evAll, SA.ev, BE.ev, IE.ev, SE.ev, LE.ev, env0, extE_eq, pickO, op1, op2, op3, Nat.reduceLeDiff, Nat.reduceSub, Nat.reduceEqDiff, if_true, if_false, ite_true, ite_false, decide_true, decide_false, Bool.not_true, Bool.not_false, Nat.zero_le, Nat.sub_zero, List.getElem?_cons_zero, List.getElem?_cons_succ, List.getElem?_nil, cq0, cq1, cq2, cq3, cq4, cq5, cq6, cq7, cq8, cq9, cq10, cq12, cq16, outQ1, outQ2, outQ3, outQ4, outQ5, evN_at, evB_at, evS_at, evLen_z1, evLen_z2, evBit_z, at_n, at_b, at_s, at_z, at_k, at_kb, kG, kQ, kQ1, List.map_cons, List.map_nil, List.cons_append, List.nil_append, decide_eq_true_eq, Bool.false_eq_true, GF1_dadd, ctF_dadd, GF1_dsub, ctF_dsub, GF1_dmul, ctF_dmul, GF1_dof, ctF_dof, GF1_dsign, ctF_dsign, GF1_ppdot, ctF_ppdot, GF1_ppcross, ctF_ppcross, GF1_ppnorm, ctF_ppnorm, g_add, g_sub, g_mul, g_of, inI2, cast2, g_pdot, g_pcross, g_pnorm, lnP, crP, dtP, nmP]
def tr_fval4 : Tr (List SA) := (.call 114 [(.ob 3), (.ob 4), (.ob 5), (.ob 6)] 11 (.call 114 [(.ob 7), (.ob 8), (.ob 9), (.ob 10)] 12 (.call 55 [(.ob 11), (.ob 12)] 13 (.leaf [(.ob 13)]))))
theorem ev_fval4 : OkS Try.prog GF1 81 [[(.k (4)), .w, .r]] 4 [.r, .r, .r, .r, .r, .r, .r, .r] [[(.sl 1), .r]] tr_fval4 3000 16 82 :=
  top_okS (by kernel_rfl) GF1_ok (plans := planF) (lf := 60) (k := 20) (by kernel_rfl) rfl
theorem fval4_den (v : Value) (a : At) (p0 p1 p2 p3 : PT) : tr_fval4.den GF1 (env0 ([.k 4, .w v, a] ++ [QA.at (.q p0.1), QA.at (.q p0.2), QA.at (.q p1.1), QA.at (.q p1.2), QA.at (.q p2.1), QA.at (.q p2.2), QA.at (.q p3.1), QA.at (.q p3.2)])) = some [QA.at (.q (nmP p0 p1 - nmP p2 p3))] := by
  simp only [tr_fval4, Tr.den, evAll, SA.ev, BE.ev, IE.ev, SE.ev, LE.ev, env0, extE_eq, pickO, op1, op2, op3, Nat.reduceLeDiff, Nat.reduceSub, Nat.reduceEqDiff, if_true, if_false, ite_true, ite_false, decide_true, decide_false, Bool.not_true, Bool.not_false, Nat.zero_le, Nat.sub_zero, List.getElem?_cons_zero, List.getElem?_cons_succ, List.getElem?_nil, cq0, cq1, cq2, cq3, cq4, cq5, cq6, cq7, cq8, cq9, cq10, cq12, cq16, outQ1, outQ2, outQ3, outQ4, outQ5, evN_at, evB_at, evS_at, evLen_z1, evLen_z2, evBit_z, at_n, at_b, at_s, at_z, at_k, at_kb, kG, kQ, kQ1, List.map_cons, List.map_nil, List.cons_append, List.nil_append, decide_eq_true_eq, Bool.false_eq_true, GF1_dadd, ctF_dadd, GF1_dsub, ctF_dsub, GF1_dmul, ctF_dmul, GF1_dof, ctF_dof, GF1_dsign, ctF_dsign, GF1_ppdot, ctF_ppdot, GF1_ppcross, ctF_ppcross, GF1_ppnorm, ctF_ppnorm, g_add, g_sub, g_mul, g_of, inI2, cast2, g_pdot, g_pcross, g_pnorm, lnP, crP, dtP, nmP]
def tr_fval5 : Tr (List SA) := (.call 83 [(.ob 5), (.ob 7)] 9 (.call 52 [(.n (.lit 2))] 10 (.call 51 [(.ob 10), (.ob 3)] 11 (.call 55 [(.ob 9), (.ob 11)] 12 (.call 83 [(.ob 6), (.ob 8)] 13 (.call 52 [(.n (.lit 2))] 14 (.call 51 [(.ob 14), (.ob 4)] 15 (.call 55 [(.ob 13), (.ob 15)] 16 (.leaf [(.ob 12), (.ob 16)])))))))))
theorem ev_fval5 : OkS Try.prog GF1 81 [[(.k (5)), .w, .r]] 3 [.r, .r, .r, .r, .r, .r] [[(.sl 2), .r, .r]] tr_fval5 3000 4 30 :=
  top_okS (by kernel_rfl) GF1_ok (plans := planF) (lf := 60) (k := 20) (by kernel_rfl) rfl
theorem fval5_den (v : Value) (a : At) (p0 p1 p2 : PT) : tr_fval5.den GF1 (env0 ([.k 5, .w v, a] ++ [QA.at (.q p0.1), QA.at (.q p0.2), QA.at (.q p1.1), QA.at (.q p1.2), QA.at (.q p2.1), QA.at (.q p2.2)])) = some [QA.at (.q (p1.1 + p2.1 - 2 * p0.1)), QA.at (.q (p1.2 + p2.2 - 2 * p0.2))] := by
  simp only [tr_fval5, Tr.den, evAll, SA.ev, BE.ev, IE.ev, SE.ev, LE.ev, env0, extE_eq, pickO, op1, op2, op3, Nat.reduceLeDiff, Nat.reduceSub, Nat.reduceEqDiff, if_true, if_false, ite_true, ite_false, decide_true, decide_false, Bool.not_true, Bool.not_false, Nat.zero_le, Nat.sub_zero, List.getElem?_cons_zero, List.getElem?_cons_succ, List.getElem?_nil, cq0, cq1, cq2, cq3, cq4, cq5, cq6, cq7, cq8, cq9, cq10, cq12, cq16, outQ1, outQ2, outQ3, outQ4, outQ5, evN_at, evB_at, evS_at, evLen_z1, evLen_z2, evBit_z, at_n, at_b, at_s, at_z, at_k, at_kb, kG, kQ, kQ1, List.map_cons, List.map_nil, List.cons_append, List.nil_append, decide_eq_true_eq, Bool.false_eq_true, GF1_dadd, ctF_dadd, GF1_dsub, ctF_dsub, GF1_dmul, ctF_dmul, GF1_dof, ctF_dof, GF1_dsign, ctF_dsign, GF1_ppdot, ctF_ppdot, GF1_ppcross, ctF_ppcross, GF1_ppnorm, ctF_ppnorm, g_add, g_sub, g_mul, g_of, inI2, cast2, g_pdot, g_pcross, g_pnorm, lnP, crP, dtP, nmP]
def tr_fval6 : Tr (List SA) := (.call 112 [(.ob 5), (.ob 6), (.ob 3), (.ob 4), (.ob 5), (.ob 6), (.ob 7), (.ob 8)] 40 (.call 113 [(.ob 9), (.ob 10), (.ob 3), (.ob 4), (.ob 9), (.ob 10), (.ob 7), (.ob 8)] 41 (.call 51 [(.ob 40), (.ob 41)] 42 (.call 112 [(.ob 9), (.ob 10), (.ob 3), (.ob 4), (.ob 9), (.ob 10), (.ob 7), (.ob 8)] 72 (.call 113 [(.ob 5), (.ob 6), (.ob 3), (.ob 4), (.ob 5), (.ob 6), (.ob 7), (.ob 8)] 73 (.call 51 [(.ob 72), (.ob 73)] 74 (.call 55 [(.ob 42), (.ob 74)] 75 (.leaf [(.ob 75)]))))))))
theorem ev_fval6 : OkS Try.prog GF1 81 [[(.k (6)), .w, .r]] 4 [.r, .r, .r, .r, .r, .r, .r, .r] [[(.sl 1), .r]] tr_fval6 3000 32 166 :=
  top_okS (by kernel_rfl) GF1_ok (plans := planF) (lf := 60) (k := 20) (by kernel_rfl) rfl
theorem fval6_den (v : Value) (a : At) (p0 p1 p2 p3 : PT) : tr_fval6.den GF1 (env0 ([.k 6, .w v, a] ++ [QA.at (.q p0.1), QA.at (.q p0.2), QA.at (.q p1.1), QA.at (.q p1.2), QA.at (.q p2.1), QA.at (.q p2.2), QA.at (.q p3.1), QA.at (.q p3.2)])) = some [QA.at (.q (lnP p1 p0 p1 p2 p3 p0 p3 p2))] := by
  simp only [tr_fval6, Tr.den, evAll, SA.ev, BE.ev, IE.ev, SE.ev, LE.ev, env0, extE_eq, pickO, op1, op2, op3, Nat.reduceLeDiff, Nat.reduceSub, Nat.reduceEqDiff, if_true, if_false, ite_true, ite_false, decide_true, decide_false, Bool.not_true, Bool.not_false, Nat.zero_le, Nat.sub_zero, List.getElem?_cons_zero, List.getElem?_cons_succ, List.getElem?_nil, cq0, cq1, cq2, cq3, cq4, cq5, cq6, cq7, cq8, cq9, cq10, cq12, cq16, outQ1, outQ2, outQ3, outQ4, outQ5, evN_at, evB_at, evS_at, evLen_z1, evLen_z2, evBit_z, at_n, at_b, at_s, at_z, at_k, at_kb, kG, kQ, kQ1, List.map_cons, List.map_nil, List.cons_append, List.nil_append, decide_eq_true_eq, Bool.false_eq_true, GF1_dadd, ctF_dadd, GF1_dsub, ctF_dsub, GF1_dmul, ctF_dmul, GF1_dof, ctF_dof, GF1_dsign, ctF_dsign, GF1_ppdot, ctF_ppdot, GF1_ppcross, ctF_ppcross, GF1_ppnorm, ctF_ppnorm, g_add, g_sub, g_mul, g_of, inI2, cast2, g_pdot, g_pcross, g_pnorm, lnP, crP, dtP, nmP]
def tr_fval7 : Tr (List SA) := (.call 112 [(.ob 3), (.ob 4), (.ob 5), (.ob 6), (.ob 7), (.ob 8), (.ob 9), (.ob 10)] 48 (.call 113 [(.ob 11), (.ob 12), (.ob 13), (.ob 14), (.ob 15), (.ob 16), (.ob 17), (.ob 18)] 49 (.call 51 [(.ob 48), (.ob 49)] 50 (.call 112 [(.ob 11), (.ob 12), (.ob 13), (.ob 14), (.ob 15), (.ob 16), (.ob 17), (.ob 18)] 80 (.call 113 [(.ob 3), (.ob 4), (.ob 5), (.ob 6), (.ob 7), (.ob 8), (.ob 9), (.ob 10)] 81 (.call 51 [(.ob 80), (.ob 81)] 82 (.call 55 [(.ob 50), (.ob 82)] 83 (.leaf [(.ob 83)]))))))))
theorem ev_fval7 : OkS Try.prog GF1 81 [[(.k (7)), .w, .r]] 8 [.r, .r, .r, .r, .r, .r, .r, .r, .r, .r, .r, .r, .r, .r, .r, .r] [[(.sl 1), .r]] tr_fval7 3000 32 166 :=
  top_okS (by kernel_rfl) GF1_ok (plans := planF) (lf := 60) (k := 20) (by kernel_rfl) rfl
theorem fval7_den (v : Value) (a : At) (p0 p1 p2 p3 p4 p5 p6 p7 : PT) : tr_fval7.den GF1 (env0 ([.k 7, .w v, a] ++ [QA.at (.q p0.1), QA.at (.q p0.2), QA.at (.q p1.1), QA.at (.q p1.2), QA.at (.q p2.1), QA.at (.q p2.2), QA.at (.q p3.1), QA.at (.q p3.2), QA.at (.q p4.1), QA.at (.q p4.2), QA.at (.q p5.1), QA.at (.q p5.2), QA.at (.q p6.1), QA.at (.q p6.2), QA.at (.q p7.1), QA.at (.q p7.2)])) = some [QA.at (.q (lnP p0 p1 p2 p3 p4 p5 p6 p7))] := by
  simp only [tr_fval7, Tr.den, evAll, SA.ev, BE.ev, IE.ev, SE.ev, LE.ev, env0, extE_eq, pickO, op1, op2, op3, Nat.reduceLeDiff, Nat.reduceSub, Nat.reduceEqDiff, if_true, if_false, ite_true, ite_false, decide_true, decide_false, Bool.not_true, Bool.not_false, Nat.zero_le, Nat.sub_zero, List.getElem?_cons_zero, List.getElem?_cons_succ, List.getElem?_nil, cq0, cq1, cq2, cq3, cq4, cq5, cq6, cq7, cq8, cq9, cq10, cq12, cq16, outQ1, outQ2, outQ3, outQ4, outQ5, evN_at, evB_at, evS_at, evLen_z1, evLen_z2, evBit_z, at_n, at_b, at_s, at_z, at_k, at_kb, kG, kQ, kQ1, List.map_cons, List.map_nil, List.cons_append, List.nil_append, decide_eq_true_eq, Bool.false_eq_true, GF1_dadd, ctF_dadd, GF1_dsub, ctF_dsub, GF1_dmul, ctF_dmul, GF1_dof, ctF_dof, GF1_dsign, ctF_dsign, GF1_ppdot, ctF_ppdot, GF1_ppcross, ctF_ppcross, GF1_ppnorm, ctF_ppnorm, g_add, g_sub, g_mul, g_of, inI2, cast2, g_pdot, g_pcross, g_pnorm, lnP, crP, dtP, nmP]
def tr_fval8 : Tr (List SA) := (.call 55 [(.ob 3), (.ob 5)] 7 (.call 55 [(.ob 4), (.ob 6)] 8 (.leaf [(.ob 7), (.ob 8)])))
theorem ev_fval8 : OkS Try.prog GF1 81 [[(.k (8)), .w, .r]] 2 [.r, .r, .r, .r] [[(.sl 2), .r, .r]] tr_fval8 3000 2 6 :=
  top_okS (by kernel_rfl) GF1_ok (plans := planF) (lf := 60) (k := 20) (by kernel_rfl) rfl
theorem fval8_den (v : Value) (a : At) (p0 p1 : PT) : tr_fval8.den GF1 (env0 ([.k 8, .w v, a] ++ [QA.at (.q p0.1), QA.at (.q p0.2), QA.at (.q p1.1), QA.at (.q p1.2)])) = some [QA.at (.q (p0.1 - p1.1)), QA.at (.q (p0.2 - p1.2))] := by
  simp only [tr_fval8, Tr.den, evAll, SA.ev, BE.ev, IE.ev, SE.ev, LE.ev, env0, extE_eq, pickO, op1, op2, op3, Nat.reduceLeDiff, Nat.reduceSub, Nat.reduceEqDiff, if_true, if_false, ite_true, ite_false, decide_true, decide_false, Bool.not_true, Bool.not_false, Nat.zero_le, Nat.sub_zero, List.getElem?_cons_zero, List.getElem?_cons_succ, List.getElem?_nil, cq0, cq1, cq2, cq3, cq4, cq5, cq6, cq7, cq8, cq9, cq10, cq12, cq16, outQ1, outQ2, outQ3, outQ4, outQ5, evN_at, evB_at, evS_at, evLen_z1, evLen_z2, evBit_z, at_n, at_b, at_s, at_z, at_k, at_kb, kG, kQ, kQ1, List.map_cons, List.map_nil, List.cons_append, List.nil_append, decide_eq_true_eq, Bool.false_eq_true, GF1_dadd, ctF_dadd, GF1_dsub, ctF_dsub, GF1_dmul, ctF_dmul, GF1_dof, ctF_dof, GF1_dsign, ctF_dsign, GF1_ppdot, ctF_ppdot, GF1_ppcross, ctF_ppcross, GF1_ppnorm, ctF_ppnorm, g_add, g_sub, g_mul, g_of, inI2, cast2, g_pdot, g_pcross, g_pnorm, lnP, crP, dtP, nmP]
def tr_fval9 : Tr (List SA) := (.call 114 [(.ob 3), (.ob 4), (.ob 5), (.ob 6)] 11 (.call 114 [(.ob 7), (.ob 8), (.ob 9), (.ob 10)] 12 (.call 51 [(.ob 2), (.ob 12)] 13 (.call 55 [(.ob 11), (.ob 13)] 14 (.leaf [(.ob 14)])))))
theorem ev_fval9 : OkS Try.prog GF1 81 [[(.k (9)), .w, .r]] 4 [.r, .r, .r, .r, .r, .r, .r, .r] [[(.sl 1), .r]] tr_fval9 3000 32 166 :=
  top_okS (by kernel_rfl) GF1_ok (plans := planF) (lf := 60) (k := 20) (by kernel_rfl) rfl
theorem fval9_den (v : Value) (r : Rat) (p0 p1 p2 p3 : PT) : tr_fval9.den GF1 (env0 ([.k 9, .w v, QA.at (.q r)] ++ [QA.at (.q p0.1), QA.at (.q p0.2), QA.at (.q p1.1), QA.at (.q p1.2), QA.at (.q p2.1), QA.at (.q p2.2), QA.at (.q p3.1), QA.at (.q p3.2)])) = some [QA.at (.q (nmP p0 p1 - r * nmP p2 p3))] := by
  simp only [tr_fval9, Tr.den, evAll, SA.ev, BE.ev, IE.ev, SE.ev, LE.ev, env0, extE_eq, pickO, op1, op2, op3, Nat.reduceLeDiff, Nat.reduceSub, Nat.reduceEqDiff, if_true, if_false, ite_true, ite_false, decide_true, decide_false, Bool.not_true, Bool.not_false, Nat.zero_le, Nat.sub_zero, List.getElem?_cons_zero, List.getElem?_cons_succ, List.getElem?_nil, cq0, cq1, cq2, cq3, cq4, cq5, cq6, cq7, cq8, cq9, cq10, cq12, cq16, outQ1, outQ2, outQ3, outQ4, outQ5, evN_at, evB_at, evS_at, evLen_z1, evLen_z2, evBit_z, at_n, at_b, at_s, at_z, at_k, at_kb, kG, kQ, kQ1, List.map_cons, List.map_nil, List.cons_append, List.nil_append, decide_eq_true_eq, Bool.false_eq_true, GF1_dadd, ctF_dadd, GF1_dsub, ctF_dsub, GF1_dmul, ctF_dmul, GF1_dof, ctF_dof, GF1_dsign, ctF_dsign, GF1_ppdot, ctF_ppdot, GF1_ppcross, ctF_ppcross, GF1_ppnorm, ctF_ppnorm, g_add, g_sub, g_mul, g_of, inI2, cast2, g_pdot, g_pcross, g_pnorm, lnP, crP, dtP, nmP]
end Go.Proofs.Ytkampmdekonjmaa
namespace Go.Proofs.Ytkampmdekonjmaa
open Go Go.RowKit Go.V
set_option linter.unusedSimpArgs false
set_option linter.unusedVariables false
set_option maxRecDepth 20000
theorem _root_.Go.World.ownsRow.keep {w w' : World} {B e size n : Nat} {v : Value} {xs : List Value} (h : w.ownsRow B e size v n xs) (hb : Below w.heap.size w w') : w'.ownsRow B e size v n xs := own_keep' h hb
theorem reps1 {w : World} {a : At} {c : List Value} (h2 : a.sh = .r) (h3 : a.Rep w c) : RepV w [.r] [a] (.agg c.toArray) := (RepV_of rfl).2 ⟨c, ⟨a, [], c, [], rfl, by simp, h2, h3, rfl, rfl⟩, rfl⟩
/-- numbers, as a slice's value -/
def RetV (_ : World) (s : Nat) (xs : List Rat) (v : Value) (w' : World) : Prop := ∃ ad cap, v = .slice ad xs.length cap ∧ RowsR w' ad 3 [.r] (xs.map fun x => [QA.at (.q x)]) ∧ (∀ x ∈ xs, (QA.at (.q x)).sz ≤ s)
theorem RetV.keep {w0 w w' : World} {s : Nat} {xs : List Rat} {v : Value} (h : RetV w0 s xs v w) (hb : Below w.heap.size w w') : RetV w0 s xs v w' := by
  obtain ⟨ad, cap, h1, h2, h3⟩ := h
  exact ⟨ad, cap, h1, h2.ext hb, h3⟩
theorem RetV.nil (w0 w : World) (s : Nat) : RetV w0 s [] (.slice none 0 0) w := ⟨none, 0, rfl, ⟨[], SL.nil _ _, rfl, fun i R x h => by simp at h⟩, fun x hx => by cases hx⟩
theorem vals1 {w' : World} {x : Rat} {rvs : List Value} (h : RepVs w' [[.sl 1, .r]] [QA.at (.q x)] rvs) {S : Nat} (hz : ∀ a ∈ [QA.at (.q x)], a.sz ≤ S) (w : World) : ∃ v, rvs = [v] ∧ RetV w S [x] v w' := by
  obtain ⟨v, rfl, h1⟩ := vs1 h
  obtain ⟨ad, c, cs, rfl, hs, hr⟩ := h1
  have hl : cs.length = 3 := by
    obtain ⟨a, r, c1, c2, e1, rfl, h2, h3, rfl, rfl⟩ := hr
    simp only [List.cons.injEq, and_true] at e1
    subst e1
    obtain ⟨a, c, a', c', rfl, _⟩ := h3
    rfl
  refine ⟨_, rfl, ad, c, rfl, ⟨[cs], by simpa using hs, rfl, fun i R y hR hy => ?_⟩, fun y hy => ?_⟩
  · have hi : i = 0 := by have := (List.getElem?_eq_some_iff.1 hR).1; simp at this; omega
    subst hi
    simp only [List.getElem?_cons_zero, List.map_cons, List.map_nil, Option.some.injEq] at hR hy
    subst hR; subst hy
    exact ⟨hl, (RepV_of rfl).2 ⟨_, hr, by simp [mkV, single]⟩⟩
  · rw [List.mem_singleton.1 hy]; exact hz _ (List.mem_singleton.2 rfl)
theorem vals2 {w' : World} {x y : Rat} {rvs : List Value} (h : RepVs w' [[.sl 2, .r, .r]] [QA.at (.q x), QA.at (.q y)] rvs) {S : Nat} (hz : ∀ a ∈ [QA.at (.q x), QA.at (.q y)], a.sz ≤ S) (w : World) : ∃ v, rvs = [v] ∧ RetV w S [x, y] v w' := by
  obtain ⟨v, rfl, h1⟩ := vs1 h
  obtain ⟨ad, c, cs, rfl, hs, hr⟩ := h1
  obtain ⟨a, r, c1, c2, e1, rfl, h2, h3, b, r', c3, c4, e2, rfl, h4, h5, rfl, rfl⟩ := hr
  simp only [List.cons.injEq, and_true] at e1
  obtain ⟨rfl, rfl⟩ := e1
  simp only [List.cons.injEq, and_true] at e2
  subst e2
  have hl1 : c1.length = 3 := by obtain ⟨a, c, a', c', rfl, _⟩ := h3; rfl
  have hl3 : c3.length = 3 := by obtain ⟨a, c, a', c', rfl, _⟩ := h5; rfl
  refine ⟨_, rfl, ad, c, rfl, ⟨[c1, c3], by simpa using hs, rfl, fun i R z hR hz' => ?_⟩, fun z hz' => ?_⟩
  · have hi : i = 0 ∨ i = 1 := by have := (List.getElem?_eq_some_iff.1 hR).1; simp at this; omega
    rcases hi with rfl | rfl
    · simp only [List.getElem?_cons_zero, List.map_cons, Option.some.injEq] at hR hz'
      subst hR; subst hz'
      exact ⟨hl1, reps1 h2 h3⟩
    · simp only [List.getElem?_cons_succ, List.getElem?_cons_zero, List.map_cons, List.map_nil, Option.some.injEq] at hR hz'
      subst hR; subst hz'
      exact ⟨hl3, reps1 h4 h5⟩
  · simp only [List.mem_cons, List.not_mem_nil, or_false] at hz'
    rcases hz' with rfl | rfl
    · exact hz _ (by simp)
    · exact hz _ (by simp)
/-- points that begin a block -/
structure PtB (w : World) (β : Nat) (ps : List PT) (s : Nat) : Prop where
  lt : β < w.heap.size
  ex : ∃ cs, Reps w (ps.flatMap fun _ => [.r, .r]) (ps.flatMap ptA) cs ∧ ∀ (j : Nat) (v : Value), cs[j]? = some v → w.cell? ⟨β, j, none⟩ = some v
  sz : ∀ p ∈ ps, ptSz p s
theorem fact_reps {w : World} {k : Int} {ad a b : Option Addr} {n cap c d : Nat} {neg : Bool} {l m : List Nat} (hr : RD w a c l) (hs : RD w b d m) : RepVs w [[.k k, .w, .r]] [.k k, .w (.slice ad n cap), .r neg l m] [.agg #[.int .i64 k, .slice ad n cap, .bool neg, .slice a l.length c, .slice b m.length d]] := by
  have h3 : Reps w [.r] [.r neg l m] [.bool neg, .slice a l.length c, .slice b m.length d] := ⟨.r neg l m, [], _, [], rfl, by simp, rfl, ⟨a, c, b, d, rfl, hr, hs⟩, rfl, rfl⟩
  have h2 : Reps w [.w, .r] [.w (.slice ad n cap), .r neg l m] (.slice ad n cap :: [.bool neg, .slice a l.length c, .slice b m.length d]) := ⟨.w (.slice ad n cap), _, [_], _, rfl, rfl, rfl, ⟨rfl, rfl, rfl⟩, h3⟩
  have h1 : Reps w [.k k, .w, .r] [.k k, .w (.slice ad n cap), .r neg l m] (.int .i64 k :: .slice ad n cap :: [.bool neg, .slice a l.length c, .slice b m.length d]) := ⟨.k k, _, [_], _, rfl, rfl, rfl, rfl, h2⟩
  exact ⟨_, [], _, _, (List.append_nil _).symm, rfl, (RepV_of rfl).2 ⟨_, h1, rfl⟩, rfl, rfl⟩
theorem pts_sz {ps : List PT} {s : Nat} (h : ∀ p ∈ ps, ptSz p s) : ∀ a ∈ ps.flatMap ptA, a.sz ≤ s := by
  intro a ha
  obtain ⟨p, hp, ha⟩ := List.mem_flatMap.1 ha
  simp only [ptA, List.mem_cons, List.not_mem_nil, or_false] at ha
  rcases ha with rfl | rfl
  · exact (h p hp).1
  · exact (h p hp).2
end Go.Proofs.Ytkampmdekonjmaa
namespace Go.Proofs.Ytkampmdekonjmaa
open Go Go.RowKit Go.V
set_option linter.unusedSimpArgs false
set_option linter.unusedVariables false
set_option maxRecDepth 20000
def pt0 : PT := (0, 0)
def ptOf (ps : List PT) (i : Nat) : PT := ps.getD i pt0
theorem vals_of1 {P : Program} {Γ : Gam} {f n L A B s S β cap : Nat} {t : Tr (List SA)} {w : World} {vs : List Value} {als : List At} {ps : List PT} {x : Rat} {args : List (List Sh)} (h : OkS P Γ f args n (ps.flatMap fun _ => [.r, .r]) [[.sl 1, .r]] t L A B) (hs : s ≤ L) (hr : RepVs w args als vs) (hB : PtB w β ps s) (hz : ∀ a ∈ als, a.sz ≤ s)
    (hF : t.den Γ (env0 (als ++ ps.flatMap ptA)) = some [QA.at (.q x)]) (hS : A * s + B ≤ S) :
    Calls P f (vs ++ [Value.slice (some ⟨β, 0, none⟩) n cap]).toArray w fun e w' => ∃ v, e = .returned v ∧ RetV w S [x] v w' ∧ Below w.heap.size w w' := by
  obtain ⟨cs, h1, h2⟩ := hB.ex
  refine (h s w vs als _ _ cs β cap hs hr h1 hB.lt h2 (fun a ha => (List.mem_append.1 ha).elim (hz a) (pts_sz hB.sz a)) hF).mono ?_
  rintro e w' ⟨rvs, he, hrv, hsz, hE⟩
  obtain ⟨v, rfl, h3⟩ := vals1 hrv (S := S) (fun a ha => by have := hsz a ha; omega) w
  exact ⟨v, he, h3, hE⟩
theorem vals_of2 {P : Program} {Γ : Gam} {f n L A B s S β cap : Nat} {t : Tr (List SA)} {w : World} {vs : List Value} {als : List At} {ps : List PT} {x y : Rat} {args : List (List Sh)} (h : OkS P Γ f args n (ps.flatMap fun _ => [.r, .r]) [[.sl 2, .r, .r]] t L A B) (hs : s ≤ L) (hr : RepVs w args als vs) (hB : PtB w β ps s) (hz : ∀ a ∈ als, a.sz ≤ s)
    (hF : t.den Γ (env0 (als ++ ps.flatMap ptA)) = some [QA.at (.q x), QA.at (.q y)]) (hS : A * s + B ≤ S) :
    Calls P f (vs ++ [Value.slice (some ⟨β, 0, none⟩) n cap]).toArray w fun e w' => ∃ v, e = .returned v ∧ RetV w S [x, y] v w' ∧ Below w.heap.size w w' := by
  obtain ⟨cs, h1, h2⟩ := hB.ex
  refine (h s w vs als _ _ cs β cap hs hr h1 hB.lt h2 (fun a ha => (List.mem_append.1 ha).elim (hz a) (pts_sz hB.sz a)) hF).mono ?_
  rintro e w' ⟨rvs, he, hrv, hsz, hE⟩
  obtain ⟨v, rfl, h3⟩ := vals2 hrv (S := S) (fun a ha => by have := hsz a ha; omega) w
  exact ⟨v, he, h3, hE⟩
/-- as many limbs as the values have for points of so many limbs -/
def vSz (s : Nat) : Nat := 100 * s + 2000
theorem fAr_kind {k : Int} {n : Nat} (h : fAr k = n) (h0 : n ≠ 0) : k = 1 ∧ n = 3 ∨ k = 2 ∧ n = 4 ∨ k = 3 ∧ n = 4 ∨ k = 4 ∧ n = 4 ∨ k = 5 ∧ n = 3 ∨ k = 6 ∧ n = 4 ∨ k = 7 ∧ n = 8 ∨ k = 8 ∧ n = 2 ∨ k = 9 ∧ n = 4 := by
  unfold fAr at h
  by_cases h8 : k = 8
  · subst h8; simp at h; simp [← h]
  rw [if_neg h8] at h
  by_cases h1 : k = 1 ∨ k = 5
  · rw [if_pos h1] at h; rcases h1 with rfl | rfl <;> simp [← h]
  rw [if_neg h1] at h
  by_cases h2 : k = 2 ∨ k = 3 ∨ k = 4 ∨ k = 6 ∨ k = 9
  · rw [if_pos h2] at h; rcases h2 with rfl | rfl | rfl | rfl | rfl <;> simp [← h]
  rw [if_neg h2] at h
  by_cases h7 : k = 7
  · rw [if_pos h7] at h; subst h7; simp [← h]
  · rw [if_neg h7] at h; exact absurd h.symm h0
theorem len2 {α : Type} {l : List α} (h : l.length = 2) : ∃ a b, l = [a, b] := by
  match l, h with
  | [a, b], _ => exact ⟨a, b, rfl⟩
theorem len3 {α : Type} {l : List α} (h : l.length = 3) : ∃ a b c, l = [a, b, c] := by
  match l, h with
  | [a, b, c], _ => exact ⟨a, b, c, rfl⟩
theorem len4 {α : Type} {l : List α} (h : l.length = 4) : ∃ a b c d, l = [a, b, c, d] := by
  match l, h with
  | [a, b, c, d], _ => exact ⟨a, b, c, d, rfl⟩
theorem len8 {α : Type} {l : List α} (h : l.length = 8) : ∃ a b c d e f g i, l = [a, b, c, d, e, f, g, i] := by
  match l, h with
  | [a, b, c, d, e, f, g, i], _ => exact ⟨a, b, c, d, e, f, g, i, rfl⟩
theorem fv1 (p : Nat → PT) (r : Rat) : fVals 1 p r = [crP (p 0) (p 1) (p 0) (p 2)] := by simp [fVals]
theorem fv2 (p : Nat → PT) (r : Rat) : fVals 2 p r = [crP (p 0) (p 1) (p 2) (p 3)] := by simp [fVals]
theorem fv3 (p : Nat → PT) (r : Rat) : fVals 3 p r = [dtP (p 0) (p 1) (p 2) (p 3)] := by simp [fVals]
theorem fv4 (p : Nat → PT) (r : Rat) : fVals 4 p r = [nmP (p 0) (p 1) - nmP (p 2) (p 3)] := by simp [fVals]
theorem fv5 (p : Nat → PT) (r : Rat) : fVals 5 p r = [(p 1).1 + (p 2).1 - 2 * (p 0).1, (p 1).2 + (p 2).2 - 2 * (p 0).2] := by simp [fVals]
theorem fv6 (p : Nat → PT) (r : Rat) : fVals 6 p r = [lnP (p 1) (p 0) (p 1) (p 2) (p 3) (p 0) (p 3) (p 2)] := by simp [fVals]
theorem fv7 (p : Nat → PT) (r : Rat) : fVals 7 p r = [lnP (p 0) (p 1) (p 2) (p 3) (p 4) (p 5) (p 6) (p 7)] := by simp [fVals]
theorem fv8 (p : Nat → PT) (r : Rat) : fVals 8 p r = [(p 0).1 - (p 1).1, (p 0).2 - (p 1).2] := by simp [fVals]
theorem fv9 (p : Nat → PT) (r : Rat) : fVals 9 p r = [nmP (p 0) (p 1) - r * nmP (p 2) (p 3)] := by simp [fVals]
theorem fvals_any (k : Int) (neg : Bool) (l m : List Nat) (ad a b : Option Addr) (n cap c d s β cap2 : Nat) (r : Rat) (w : World) (ps : List PT) (hr : RD w a c l) (hs : RD w b d m) (hl : l.length ≤ s) (hm : m.length ≤ s) (hk : fAr k = ps.length) (h0 : ps.length ≠ 0) (hB : PtB w β ps s) (hL : s ≤ 3000) (h9 : k = 9 → At.r neg l m = QA.at (.q r)) :
    Calls Try.prog 81 #[.agg #[.int .i64 k, .slice ad n cap, .bool neg, .slice a l.length c, .slice b m.length d], .slice (some ⟨β, 0, none⟩) ps.length cap2] w fun e w' => ∃ v, e = .returned v ∧ RetV w (vSz s) (fVals k (ptOf ps) r) v w' ∧ Below w.heap.size w w' := by
  have hrep := fact_reps (k := k) (ad := ad) (n := n) (cap := cap) (neg := neg) hr hs
  have hz : ∀ x ∈ [At.k k, .w (.slice ad n cap), .r neg l m], x.sz ≤ s := by
    intro x hx
    simp only [List.mem_cons, List.not_mem_nil, or_false] at hx
    rcases hx with rfl | rfl | rfl
    · exact Nat.zero_le _
    · exact Nat.zero_le _
    · exact Nat.max_le.2 ⟨hl, hm⟩
  have hS : ∀ A B, A ≤ 100 → B ≤ 2000 → A * s + B ≤ vSz s := by
    intro A B hA hB
    have := Nat.mul_le_mul_right s hA
    unfold vSz; omega
  rcases fAr_kind hk h0 with ⟨rfl, hn⟩ | ⟨rfl, hn⟩ | ⟨rfl, hn⟩ | ⟨rfl, hn⟩ | ⟨rfl, hn⟩ | ⟨rfl, hn⟩ | ⟨rfl, hn⟩ | ⟨rfl, hn⟩ | ⟨rfl, hn⟩
  · obtain ⟨p0, p1, p2, rfl⟩ := len3 hn
    have h := vals_of1 (cap := cap2) (S := vSz s) (ps := [p0, p1, p2]) ev_fval1 hL hrep hB hz (fval1_den _ _ _ _ _) (hS _ _ (by decide) (by decide))
    rw [fv1]
    exact h
  · obtain ⟨p0, p1, p2, p3, rfl⟩ := len4 hn
    have h := vals_of1 (cap := cap2) (S := vSz s) (ps := [p0, p1, p2, p3]) ev_fval2 hL hrep hB hz (fval2_den _ _ _ _ _ _) (hS _ _ (by decide) (by decide))
    rw [fv2]
    exact h
  · obtain ⟨p0, p1, p2, p3, rfl⟩ := len4 hn
    have h := vals_of1 (cap := cap2) (S := vSz s) (ps := [p0, p1, p2, p3]) ev_fval3 hL hrep hB hz (fval3_den _ _ _ _ _ _) (hS _ _ (by decide) (by decide))
    rw [fv3]
    exact h
  · obtain ⟨p0, p1, p2, p3, rfl⟩ := len4 hn
    have h := vals_of1 (cap := cap2) (S := vSz s) (ps := [p0, p1, p2, p3]) ev_fval4 hL hrep hB hz (fval4_den _ _ _ _ _ _) (hS _ _ (by decide) (by decide))
    rw [fv4]
    exact h
  · obtain ⟨p0, p1, p2, rfl⟩ := len3 hn
    have h := vals_of2 (cap := cap2) (S := vSz s) (ps := [p0, p1, p2]) ev_fval5 hL hrep hB hz (fval5_den _ _ _ _ _) (hS _ _ (by decide) (by decide))
    rw [fv5]
    exact h
  · obtain ⟨p0, p1, p2, p3, rfl⟩ := len4 hn
    have h := vals_of1 (cap := cap2) (S := vSz s) (ps := [p0, p1, p2, p3]) ev_fval6 hL hrep hB hz (fval6_den _ _ _ _ _ _) (hS _ _ (by decide) (by decide))
    rw [fv6]
    exact h
  · obtain ⟨p0, p1, p2, p3, p4, p5, p6, p7, rfl⟩ := len8 hn
    have h := vals_of1 (cap := cap2) (S := vSz s) (ps := [p0, p1, p2, p3, p4, p5, p6, p7]) ev_fval7 hL hrep hB hz (fval7_den _ _ _ _ _ _ _ _ _ _) (hS _ _ (by decide) (by decide))
    rw [fv7]
    exact h
  · obtain ⟨p0, p1, rfl⟩ := len2 hn
    have h := vals_of2 (cap := cap2) (S := vSz s) (ps := [p0, p1]) ev_fval8 hL hrep hB hz (fval8_den _ _ _ _) (hS _ _ (by decide) (by decide))
    rw [fv8]
    exact h
  · obtain ⟨p0, p1, p2, p3, rfl⟩ := len4 hn
    rw [h9 rfl] at hrep hz
    have h := vals_of1 (cap := cap2) (S := vSz s) (ps := [p0, p1, p2, p3]) ev_fval9 hL hrep hB hz (fval9_den _ _ _ _ _ _) (hS _ _ (by decide) (by decide))
    rw [fv9]
    exact h
def gath (ps : List PT) (args : List Int) : List PT := args.map fun z => ptOf ps z.toNat
theorem RowsR.row2 {w w' : World} {ad : Option Addr} {n : Nat} {shs : List Sh} {xs : List (List At)} (h : RowsR w ad n shs xs) (hb : Below w.heap.size w w') (hn : 0 < n) {i : Nat} {x : List At} (hx : xs[i]? = some x) :
    ∃ R : List Value, rowV w' ((ad.getD default).add (i * n)) 0 n = R ∧ rowOk w' ((ad.getD default).add (i * n)) 0 n ∧ ad.isSome = true ∧ R.length = n ∧ RepV w shs x (.agg R.toArray) := by
  obtain ⟨rows, h1, h2, h3⟩ := h
  have hi : i < rows.length := by rw [h2]; exact (List.getElem?_eq_some_iff.1 hx).1
  obtain ⟨R, hR⟩ : ∃ R, rows[i]? = some R := ⟨_, List.getElem?_eq_getElem hi⟩
  obtain ⟨g1, g2⟩ := h3 i R x hR hx
  have hall : ∀ R ∈ rows, R.length = n := by
    intro Q hQ
    obtain ⟨j, hj, rfl⟩ := List.getElem_of_mem hQ
    have hj' : j < xs.length := by omega
    exact (h3 j _ _ (List.getElem?_eq_getElem hj) (List.getElem?_eq_getElem hj')).1
  have hfl := flat_len hall
  have hle : i * n + n ≤ rows.flatten.length := by
    rw [hfl, Nat.mul_comm n]
    have := Nat.mul_le_mul_right n (Nat.succ_le_of_lt hi)
    rw [Nat.succ_mul] at this; exact this
  obtain ⟨q1, q2, q3⟩ := (h1.ext hb).row (i * n) n hle hn
  exact ⟨R, by rw [q1, flat_row hall hR], q2, q3, g1, g2⟩
theorem gath_take {ps : List PT} {args : List Int} {i : Nat} (h : i < args.length) : gath ps (args.take (i + 1)) = gath ps (args.take i) ++ [ptOf ps (args.getD i 0).toNat] := by
  unfold gath
  rw [List.take_succ_eq_append_getElem h, List.map_append]
  simp [List.getD_eq_getElem?_getD, h]
theorem reps_snoc {w : World} {qs : List PT} {p : PT} {cs R : List Value} (h : Reps w (qs.flatMap fun _ => [Sh.r, .r]) (qs.flatMap ptA) cs) (hp : RepV w [.r, .r] (ptA p) (.agg R.toArray)) : Reps w ((qs ++ [p]).flatMap fun _ => [Sh.r, .r]) ((qs ++ [p]).flatMap ptA) (cs ++ R) := by
  obtain ⟨cs', h1, h2⟩ := (RepV_of rfl).1 hp
  have h3 : R = cs' := by
    simp only [mkV, single] at h2
    injection h2 with h2
    simpa using h2
  rw [← h3] at h1
  rw [List.flatMap_append, List.flatMap_append]
  simpa using Reps_app h h1
theorem reps_one {w : World} {R : List Value} {p : PT} (hp : RepV w [.r, .r] (ptA p) (.agg R.toArray)) : ∀ v ∈ R, v.oneCell' = true := by
  obtain ⟨cs', h1, h2⟩ := (RepV_of rfl).1 hp
  have h3 : R = cs' := by
    simp only [mkV, single] at h2
    injection h2 with h2
    simpa using h2
  subst h3
  obtain ⟨a, r, c1, c2, e1, rfl, h2, h3, b, r', c3, c4, e2, rfl, h4, h5, rfl, rfl⟩ := h1
  simp only [ptA, List.cons.injEq, and_true] at e1
  obtain ⟨rfl, rfl⟩ := e1
  simp only [List.cons.injEq, and_true] at e2
  subst e2
  obtain ⟨a, c, a', c', rfl, _⟩ := h3
  obtain ⟨b, d, b', d', rfl, _⟩ := h5
  intro v hv
  simp only [List.append_nil, List.mem_append, List.mem_cons, List.not_mem_nil, or_false] at hv
  rcases hv with (rfl | rfl | rfl) | (rfl | rfl | rfl) <;> rfl
end Go.Proofs.Ytkampmdekonjmaa
namespace Go.Proofs.Ytkampmdekonjmaa
open Go Go.RowKit Go.V
set_option linter.unusedSimpArgs false
set_option linter.unusedVariables false
set_option maxRecDepth 20000
theorem own_ne_bx {w : World} {B e size n b t : Nat} {v : Value} {xs : List Value} {c : Array Value} (h : w.ownsRow B e size v n xs) (hB : Bx w b c t) (hne : e ≠ t) : v.ownBlock ≠ some b := by
  intro hb
  rcases h.2 with ⟨h1, _⟩ | ⟨g, cap, cur, hv, _, hg, _⟩
  · rw [h1] at hb; cases hb
  · rw [hv] at hb
    injection hb with hb
    simp only at hb
    subst hb
    rw [hB.heap] at hg
    injection hg with hg
    injection hg with _ hg _
    exact hne hg.symm
theorem len6 {α : Type} {l : List α} (h : l.length = 6) : ∃ a b c d e f, l = [a, b, c, d, e, f] := by
  match l, h with
  | [a, b, c, d, e, f], _ => exact ⟨a, b, c, d, e, f, rfl⟩
theorem fRt_zero {k : Int} {args : List Int} {N : Int} {neg : Bool} {l m : List Nat} (h : fRt k args N neg l m = 0) : fAr k ≠ 0 ∧ args.length = fAr k ∧ (∀ z ∈ args, 0 ≤ z ∧ z < N) ∧ fRat k neg l m = true := by
  unfold fRt at h
  by_cases h1 : fAr k = 0
  · rw [if_pos h1] at h; omega
  rw [if_neg h1] at h
  by_cases h2 : ¬ args.length = fAr k
  · rw [if_pos h2] at h; omega
  rw [if_neg h2] at h
  by_cases h3 : args.any (badA N) = true
  · rw [if_pos h3] at h; omega
  rw [if_neg h3] at h
  by_cases h4 : fRat k neg l m = true
  · refine ⟨h1, Decidable.not_not.1 h2, fun z hz => ?_, h4⟩
    have h5 : badA N z = false := by
      cases hb : badA N z with
      | false => rfl
      | true => exact absurd (List.any_eq_true.2 ⟨z, hz, hb⟩) h3
    unfold badA at h5
    simp only [Bool.or_eq_false_iff, decide_eq_false_iff_not] at h5
    omega
  · rw [if_neg h4] at h; omega
theorem fAr_le (k : Int) : fAr k ≤ 8 := by
  unfold fAr
  repeat' split
  all_goals omega
theorem ptB_of {w w' : World} {B e n : Nat} {v : Value} {qs : List PT} {cs : List Value} {s : Nat} (h : w'.ownsRow B e 6 v n cs) (hn : n ≠ 0) (hE : Below w.heap.size w w') (hr : Reps w (qs.flatMap fun _ => [Sh.r, .r]) (qs.flatMap ptA) cs) (hz : ∀ p ∈ qs, ptSz p s) : ∃ β cap, v = .slice (some ⟨β, 0, none⟩) n cap ∧ PtB w' β qs s := by
  rcases h.2 with ⟨_, h2⟩ | ⟨g, cap, cur, hv, _, hg, _⟩
  · exact absurd h2 hn
  · refine ⟨g, cap, hv, ⟨(Array.getElem?_eq_some_iff.1 hg).1, ⟨cs, Reps_keep hE hr, fun j u hj => ?_⟩, hz⟩⟩
    have := h.cells (g := g) (by rw [hv]; rfl) j u hj
    rwa [add_mk, Nat.zero_add] at this
set_option maxHeartbeats 2000000 in
theorem fValues_any (k : Int) (args : List Int) (neg : Bool) (l m : List Nat) (ad a b pa : Option Addr) (cap c d cap2 s : Nat) (ps : List PT) (w : World) (ha : SL w ad (intC args)) (hn : args.length ≤ maxLen) (hr : RD w a c l) (hs : RD w b d m) (hl : l.length ≤ s) (hm : m.length ≤ s) (hP : RowsR w pa 6 [.r, .r] (ps.map ptA)) (hpl : ps.length ≤ maxLen) (hz : ∀ p ∈ ps, ptSz p s) (hL : s ≤ 3000) :
    Calls Try.prog 43 #[.agg #[.int .i64 k, .slice ad args.length cap, .bool neg, .slice a l.length c, .slice b m.length d], .slice pa ps.length cap2] w fun e w' => ∃ v, e = .returned (.tuple #[v, .int .i64 (fRt k args ps.length neg l m)]) ∧ RetV w (vSz s) (if fRt k args ps.length neg l m = 0 then fVals k (ptOf (gath ps args)) (qv neg l m) else []) v w' ∧ Below w.heap.size w w' := by
  unfold maxLen at hpl
  obtain ⟨R, hR⟩ : ∃ R, R = fRt k args ps.length neg l m := ⟨_, rfl⟩
  rw [← hR]
  refine calls_of_W (args := [.agg #[.int .i64 k, .slice ad args.length cap, .bool neg, .slice a l.length c, .slice b m.length d], .slice pa ps.length cap2]) (rs := [.tmp 4, .tmp 5]) (n := 35) Try.func43 rfl rfl rfl (by kernel_rfl) ?_
  have hA0 := Below.refl w.heap.size w
  first | refine W_rt (by kernel_rfl) (fun K hK => ?_) | refine W_text (by kernel_rfl) (fun K hK => ?_)
  simp [go_sem, add_mk, rowV, rowOk]
  refine hv_box #[.int .i64 k, .slice ad args.length cap, .bool neg, .slice a l.length c, .slice b m.length d] (by simp [go_sem, add_mk, rowV, rowOk]) rfl (by simp [go_sem, Value.cells, add_mk, rowV, rowOk]) (fun w1 b1 hE1 hle1 hB1 => ?_)
  have hb1_0 := Nat.le_trans hA0.size hle1
  replace hA0 := hA0.next hE1
  simp [go_sem, add_mk, rowV, rowOk, hB1.cell]
  refine hK _ _ ?_; clear hK K
  refine W_seq (fun K1 hK1 => ?_)
  first | refine W_rt (by kernel_rfl) (fun K hK => ?_) | refine W_text (by kernel_rfl) (fun K hK => ?_)
  simp [go_sem, add_mk, rowV, rowOk, hB1.cell]
  refine hv_call (by simp [go_sem, add_mk, rowV, rowOk, hB1.cell]) rfl Try.call10 (fun R hR => ?_)
  simp [go_sem, add_mk, rowV, rowOk, hB1.cell]
  refine (fright_any k args ps.length neg l m ad a b cap c d _ (ha.ext hA0) hn (hr.ext hA0) (hs.ext hA0) (by omega) (by omega)).mono ?_
  rintro e w2 ⟨rfl, hE2⟩
  refine ⟨_, rfl, hR _ _ ?_⟩
  clear hR R
  replace hA0 := hA0.next hE2
  replace hB1 := hB1.keep hE2
  simp [go_sem, add_mk, rowV, rowOk, hB1.cell]
  rw [← hR]
  refine hK _ _ ?_; clear hK K
  skip
  first | refine W_rt (by kernel_rfl) (fun K hK => ?_) | refine W_text (by kernel_rfl) (fun K hK => ?_)
  simp [go_sem, add_mk, rowV, rowOk, hB1.cell]
  refine hK _ _ ?_; clear hK K
  by_cases h0 : ¬ R = 0
  · refine W_if (t := true) (by simp [go_sem, add_mk, rowV, rowOk, hB1.cell, h0]) rfl ?_
    first | refine W_rt (by kernel_rfl) (fun K hK => ?_) | refine W_text (by kernel_rfl) (fun K hK => ?_)
    simp [go_sem, add_mk, rowV, rowOk, hB1.cell]
    refine hK _ _ ?_; clear hK K
    refine W_ret ?_
    repeat (first | refine thenG_ret ?_ | refine inBlock_ret ?_)
    refine ⟨trivial, .slice none 0 0, ?_, ?_, hA0⟩
    · simp [go_sem, pack, resL]
    · rw [if_neg h0]; exact RetV.nil _ _ _
  replace h0 := Decidable.not_not.1 h0
  rw [h0] at hR
  obtain ⟨f1, f2, f3, f4⟩ := fRt_zero hR.symm
  have hle8 := fAr_le k
  refine W_if (t := false) (by simp [go_sem, add_mk, rowV, rowOk, hB1.cell,  h0]) rfl ?_
  refine W_skip ?_
  refine hK1 _ _ ?_
  first | refine W_rt (by kernel_rfl) (fun K hK => ?_) | refine W_text (by kernel_rfl) (fun K hK => ?_)
  simp [go_sem, add_mk, rowV, rowOk, hB1.cell]
  refine hK _ _ ?_; clear hK K
  refine W_seq (fun K2 hK2 => ?_)
  first | refine W_rt (by kernel_rfl) (fun K hK => ?_) | refine W_text (by kernel_rfl) (fun K hK => ?_)
  simp [go_sem, add_mk, rowV, rowOk, hB1.cell]
  refine hK _ _ ?_; clear hK K
  refine W_block ?_
  refine W_loop (fun m' g w' => Below w.heap.size w w' ∧ Bx w' b1 #[.int .i64 k, .slice ad args.length cap, .bool neg, .slice a l.length c, .slice b m.length d] 30 ∧ ∃ (i : Nat) (v : Value) (cs : List Value), i ≤ args.length ∧ m' = args.length - i ∧ w'.ownsRow w.heap.size 41 6 v i cs ∧ Reps w ((gath ps (args.take i)).flatMap fun _ => [Sh.r, .r]) ((gath ps (args.take i)).flatMap ptA) cs ∧ g 1 = .slice pa ps.length cap2 ∧ g 2 = .pointer (some ⟨b1, 0, none⟩) ∧ g 7 = v ∧ g 18 = .slice ad args.length cap ∧ g 19 = .int .i64 args.length ∧ g 20 = .int .i64 i) args.length ?_ ?_
  · exact ⟨hA0, hB1, 0, .slice none 0 0, [], by omega, rfl, World.ownsRow_nil _ _ _ _, ⟨rfl, rfl⟩, by simp [go_sem], by simp [go_sem], by simp [go_sem], by simp [go_sem], by simp [go_sem], by simp [go_sem]⟩
  clear hB1 hA0
  rintro m' g w' ⟨hA0, hB1, i, v, cs, hi, rfl, hown, hreps, g1, g2, g7, g18, g19, g20⟩
  first | refine W_rt (by kernel_rfl) (fun K hK => ?_) | refine W_text (by kernel_rfl) (fun K hK => ?_)
  simp [go_sem, add_mk, rowV, rowOk, hB1.cell, g1, g2, g7, g18, g19, g20]
  refine hK _ _ ?_; clear hK K
  refine W_seq (fun K3 hK3 => ?_)
  by_cases hlt : i < args.length
  · have c1 : (i : Int) < args.length := by omega
    have hw1 : IntKind.i64.wrap ((i : Int) + 1) = (i : Int) + 1 := IntWalk.i64_in _ (by unfold maxLen at hn; omega)
    obtain ⟨q1, q2⟩ := (ha.ext hA0).getD (j := i) (by simp [intC]; omega)
    rw [intC_at hlt] at q1
    have hgt := gath_take (ps := ps) hlt
    have hmem : args.getD i 0 ∈ args := by rw [List.getD_eq_getElem?_getD, List.getElem?_eq_getElem hlt]; exact List.getElem_mem hlt
    obtain ⟨z1, z2⟩ := f3 _ hmem
    generalize args.getD i 0 = z at q1 hgt z1 z2
    obtain ⟨p, hp⟩ : ∃ p, p = ptOf ps z.toNat := ⟨_, rfl⟩
    have hzl : z.toNat < ps.length := by omega
    have hpi : (ps.map ptA)[z.toNat]? = some (ptA p) := by
      rw [hp, List.getElem?_map]; unfold ptOf
      rw [List.getD_eq_getElem?_getD, List.getElem?_eq_getElem hzl]; rfl
    rw [← hp] at hgt
    obtain ⟨Rw, r1, r2, r3, r4, r5⟩ := hP.row2 hA0 (by decide) hpi
    have hone := reps_one r5
    have hsn := reps_snoc hreps r5
    rw [← hgt] at hsn
    obtain ⟨u0, u1, u2, u3, u4, u5, rfl⟩ := len6 r4
    refine W_if (t := true) (by simp [go_sem, add_mk, hB1.cell, g1, g2, g7, g18, g19, g20, c1, hlt]) rfl ?_
    refine W_skip ?_
    refine hK3 _ _ ?_
    refine W_seq (fun K4 hK4 => ?_)
    refine W_block ?_
    first | refine W_rt (by kernel_rfl) (fun K hK => ?_) | refine W_text (by kernel_rfl) (fun K hK => ?_)
    simp [go_sem, add_mk, hB1.cell, g1, g2, g7, g18, g19, g20,  c1, hlt, q1, q2]
    refine hK _ _ ?_; clear hK K
    first | refine W_rt (by kernel_rfl) (fun K hK => ?_) | refine W_text (by kernel_rfl) (fun K hK => ?_)
    simp [go_sem, add_mk, hB1.cell, g1, g2, g7, g18, g19, g20,  z1, z2, r1, r2, r3]
    refine hv_buildSlice #[u0, u1, u2, u3, u4, u5] (by simp [go_sem, add_mk, hB1.cell, g1, g2, g7, g18, g19, g20, z1, z2, r1, r2, r3]) rfl ty_slZ39 (by decide) [(0, .agg #[u0, u1, u2, u3, u4, u5])] (by simp [go_sem, add_mk, hB1.cell, g1, g2, g7, g18, g19, g20, z1, z2, r1, r2, r3]) (by kernel_rfl) (fun w3 b3 hE3 hle3 hB3 => ?_)
    have hb3_0 := Nat.le_trans hA0.size hle3
    have hd1_3 : b1 ≠ b3 := Nat.ne_of_lt (Nat.lt_of_lt_of_le hB1.lt hle3)
    replace hA0 := hA0.next hE3
    replace hB1 := hB1.keep hE3
    replace hown := hown.keep hE3
    simp [go_sem, add_mk, hB1.cell, g1, g2, g7, g18, g19, g20, hB3.cell, z1, z2, r1, r2, r3]
    refine hv_appendB (v := v) (b := b3) (len := 1) (c := 1) hB3 (by simp [go_sem]) rfl ty_slZ39 ty_bytes41 rfl (by decide) (by simp [go_sem, add_mk, hB1.cell, g1, g2, g7, g18, g19, g20, hB3.cell, z1]) (by simp [go_sem]) hown rfl (by first | (simp [Value.oneCell']; done) | simpa using hone) (by unfold maxLen; omega) (by omega) hA0.size (by decide) (fun v21 w21 h21 hg21 _ => ?_)
    have hne21 := fun b e => (hown.lt b e).1
    replace hA0 := hA0.nextG hg21 hne21
    replace hB1 := hB1.grown hg21 (fun e => own_ne_bx hown hB1 (by decide) e.symm)
    simp [go_sem, add_mk, hB1.cell, g1, g2, g7, g18, g19, g20, z1]
    refine hK _ _ ?_; clear hK K
    refine hK4 _ _ ?_
    refine W_text (by kernel_rfl) (fun K hK => ?_)
    simp [go_sem, g20, hw1]
    refine hK _ _ ⟨args.length - (i + 1), by omega, hA0, hB1, i + 1, v21, cs ++ [u0, u1, u2, u3, u4, u5], by omega, rfl, h21, hsn, by simp [go_sem, g1], by simp [go_sem, g2], by simp [go_sem], by simp [go_sem, g18], by simp [go_sem, g19], by simp [go_sem]⟩
  · have c1 : ¬ (i : Int) < args.length := by omega
    have hie : i = args.length := by omega
    rw [hie, List.take_length] at hreps
    rw [hie] at hown
    have hgl : (gath ps args).length = args.length := by unfold gath; simp
    obtain ⟨β, cp, rfl, hPB⟩ := ptB_of (s := s) hown (by omega) hA0 hreps (fun p hp => by
      unfold gath at hp
      obtain ⟨z, hz1, rfl⟩ := List.mem_map.1 hp
      obtain ⟨z2, z3⟩ := f3 z hz1
      have hzl : z.toNat < ps.length := by omega
      unfold ptOf
      rw [List.getD_eq_getElem?_getD, List.getElem?_eq_getElem hzl]
      exact hz _ (List.getElem_mem hzl))
    refine W_if (t := false) (by simp [go_sem, add_mk, rowV, rowOk, hB1.cell, g1, g2, g7, g18, g19, g20, c1, hlt]) rfl ?_
    refine W_exit ?_
    repeat (first | refine thenG_exit ?_ | refine inBlock_other rfl ?_ | refine inBlock_same ?_)
    refine hK2 _ _ ?_
    have hvv := fun w3 => fvals_any k neg l m ad a b args.length cap c d s β cp (qv neg l m) w3 (gath ps args)
    simp only [hgl] at hvv
    first | refine W_rt (by kernel_rfl) (fun K hK => ?_) | refine W_text (by kernel_rfl) (fun K hK => ?_)
    simp [go_sem, add_mk, rowV, rowOk, hB1.cell, g1, g2, g7, g18, g19, g20]
    refine hv_call (by simp [go_sem, add_mk, rowV, rowOk, hB1.cell, g1, g2, g7, g18, g19, g20]) rfl Try.call81 (fun R hR => ?_)
    simp [go_sem, add_mk, rowV, rowOk, hB1.cell, g1, g2, g7, g18, g19, g20]
    refine (hvv _ (hr.ext hA0) (hs.ext hA0) hl hm f2.symm (by omega) hPB hL (fun h9 => by rw [h9] at f4; exact can_qa hr.ok hs.ok (by simpa [fRat] using f4))).mono ?_
    rintro e w22 ⟨v22, rfl, hv22, hE22⟩
    refine ⟨_, rfl, hR _ _ ?_⟩
    clear hR R
    replace hA0 := hA0.next hE22
    replace hB1 := hB1.keep hE22
    replace hown := hown.keep hE22
    simp [go_sem, add_mk, rowV, rowOk, hB1.cell, g1, g2, g7, g18, g19, g20]
    refine hK _ _ ?_; clear hK K
    refine W_ret ?_
    repeat (first | refine thenG_ret ?_ | refine inBlock_ret ?_)
    refine ⟨trivial, v22, ?_, by rw [if_pos h0]; exact hv22, hA0⟩
    simp [go_sem, pack, resL, h0]
end Go.Proofs.Ytkampmdekonjmaa
namespace Go.Proofs.Ytkampmdekonjmaa
open Go Go.RowKit Go.V
set_option linter.unusedSimpArgs false
set_option linter.unusedVariables false
set_option maxRecDepth 20000
theorem RepV_r {w : World} {x : Rat} {R : List Value} (h : RepV w [.r] [QA.at (.q x)] (.agg R.toArray)) : ∃ a c a' c', R = [.bool (decide (x.num < 0)), .slice a (lim x.num.natAbs).length c, .slice a' (lim x.den).length c'] ∧ RD w a c (lim x.num.natAbs) ∧ RD w a' c' (lim x.den) := by
  obtain ⟨neg, l, m, a, c1, a', c2, e2, e3, r1, r2⟩ := repV_r.1 h
  simp only [QA.at, qa, List.cons.injEq, At.r.injEq, and_true] at e2
  obtain ⟨rfl, rfl, rfl⟩ := e2
  injection e3 with e3
  exact ⟨a, c1, a', c2, by simpa using e3, r1, r2⟩
theorem fVals_len (k : Int) (p : Nat → PT) (r : Rat) : (fVals k p r).length ≤ 2 := by
  unfold fVals
  repeat' split
  all_goals simp
theorem qsg_zero (x : Rat) : qsg x = 0 ↔ x = 0 := by
  unfold qsg sg
  have h : x.num = 0 ↔ x = 0 := Rat.num_eq_zero
  rw [← h]
  generalize x.num = z
  repeat' split
  all_goals omega
theorem dsignC_any (x : Rat) (a b : Option Addr) (c d s : Nat) (w : World) (hr : RD w a c (lim x.num.natAbs)) (hs : RD w b d (lim x.den)) (hz : (QA.at (.q x)).sz ≤ s) (hL : s ≤ 100000000) :
    Calls Try.prog 44 #[.agg #[.bool (decide (x.num < 0)), .slice a (lim x.num.natAbs).length c, .slice b (lim x.den).length d]] w fun e w' => ∃ z, e = .returned (.int .i64 z) ∧ (z = 0 ↔ x = 0) ∧ Below w.heap.size w w' := by
  refine (ct_n (z := qsg x) ok_dsign rfl (s := s) hL (rats1 hr hs) (fun y hy => by rw [List.mem_singleton.1 hy]; exact hz) ?_).mono ?_
  · show cq g_sign [QA.at (.q x)] = _
    exact (cq1 _ _).trans rfl
  · rintro e w' ⟨rfl, hE⟩
    exact ⟨_, rfl, qsg_zero x, hE⟩
set_option maxHeartbeats 2000000 in
theorem fHolds_any (k : Int) (args : List Int) (neg : Bool) (l m : List Nat) (ad a b pa : Option Addr) (cap c d cap2 s : Nat) (ps : List PT) (w : World) (ha : SL w ad (intC args)) (hn : args.length ≤ maxLen) (hr : RD w a c l) (hs : RD w b d m) (hl : l.length ≤ s) (hm : m.length ≤ s) (hP : RowsR w pa 6 [.r, .r] (ps.map ptA)) (hpl : ps.length ≤ maxLen) (hz : ∀ p ∈ ps, ptSz p s) (hL : s ≤ 3000) :
    Calls Try.prog 20 #[.agg #[.int .i64 k, .slice ad args.length cap, .bool neg, .slice a l.length c, .slice b m.length d], .slice pa ps.length cap2] w fun e w' => e = .returned (.tuple #[.bool (decide (fRt k args ps.length neg l m = 0) && fHolds k (ptOf (gath ps args)) (qv neg l m)), .int .i64 (fRt k args ps.length neg l m)]) ∧ Below w.heap.size w w' := by
  have hval := fun w ha hr hs hP => fValues_any k args neg l m ad a b pa cap c d cap2 s ps w ha hn hr hs hl hm hP hpl hz (by omega)
  obtain ⟨R, hR⟩ : ∃ R, R = fRt k args ps.length neg l m := ⟨_, rfl⟩
  rw [← hR] at hval ⊢
  refine calls_of_W (args := [.agg #[.int .i64 k, .slice ad args.length cap, .bool neg, .slice a l.length c, .slice b m.length d], .slice pa ps.length cap2]) (rs := [.tmp 4, .tmp 5]) (n := 29) Try.func20 rfl rfl rfl (by kernel_rfl) ?_
  have hA0 := Below.refl w.heap.size w
  first | refine W_rt (by kernel_rfl) (fun K hK => ?_) | refine W_text (by kernel_rfl) (fun K hK => ?_)
  simp [go_sem, add_mk, rowV, rowOk]
  refine hv_box #[.int .i64 k, .slice ad args.length cap, .bool neg, .slice a l.length c, .slice b m.length d] (by simp [go_sem, add_mk, rowV, rowOk]) rfl (by simp [go_sem, Value.cells, add_mk, rowV, rowOk]) (fun w1 b1 hE1 hle1 hB1 => ?_)
  have hb1_0 := Nat.le_trans hA0.size hle1
  replace hA0 := hA0.next hE1
  simp [go_sem, add_mk, rowV, rowOk, hB1.cell]
  refine hK _ _ ?_; clear hK K
  first | refine W_rt (by kernel_rfl) (fun K hK => ?_) | refine W_text (by kernel_rfl) (fun K hK => ?_)
  simp [go_sem, add_mk, rowV, rowOk, hB1.cell]
  refine hv_call (by simp [go_sem, add_mk, rowV, rowOk, hB1.cell]) rfl Try.call43 (fun R hR => ?_)
  simp [go_sem, add_mk, rowV, rowOk, hB1.cell]
  refine (hval _ (ha.ext hA0) (hr.ext hA0) (hs.ext hA0) (hP.ext hA0)).mono ?_
  rintro e w2 ⟨v2, rfl, hv2, hE2⟩
  refine ⟨_, rfl, hR _ _ ?_⟩
  clear hR R
  replace hA0 := hA0.next hE2
  replace hB1 := hB1.keep hE2
  simp [go_sem, add_mk, rowV, rowOk, hB1.cell]
  refine hK _ _ ?_; clear hK K
  refine W_seq (fun K1 hK1 => ?_)
  first | refine W_rt (by kernel_rfl) (fun K hK => ?_) | refine W_text (by kernel_rfl) (fun K hK => ?_)
  simp [go_sem, add_mk, rowV, rowOk, hB1.cell]
  refine hK _ _ ?_; clear hK K
  by_cases h0 : ¬ R = 0
  · refine W_if (t := true) (by simp [go_sem, add_mk, rowV, rowOk, hB1.cell, h0]) rfl ?_
    first | refine W_rt (by kernel_rfl) (fun K hK => ?_) | refine W_text (by kernel_rfl) (fun K hK => ?_)
    simp [go_sem, add_mk, rowV, rowOk, hB1.cell]
    refine hK _ _ ?_; clear hK K
    refine W_ret ?_
    repeat (first | refine thenG_ret ?_ | refine inBlock_ret ?_)
    refine ⟨trivial, ?_, hA0⟩
    have hd : decide (R = 0) = false := decide_eq_false h0
    simp [go_sem, pack, resL, hd]
  replace h0 := Decidable.not_not.1 h0
  rw [if_pos h0] at hv2
  have hd : decide (R = 0) = true := decide_eq_true h0
  have hfh : fHolds k (ptOf (gath ps args)) (qv neg l m) = (fVals k (ptOf (gath ps args)) (qv neg l m)).all fun x => decide (x = 0) := rfl
  have hxl := fVals_len k (ptOf (gath ps args)) (qv neg l m)
  generalize fVals k (ptOf (gath ps args)) (qv neg l m) = xs at hv2 hxl hfh
  obtain ⟨av, cv, rfl, hrow, hvz⟩ := hv2
  refine W_if (t := false) (by simp [go_sem, add_mk, rowV, rowOk, hB1.cell,  h0]) rfl ?_
  refine W_skip ?_
  refine hK1 _ _ ?_
  have hA3 := Below.refl (w2).heap.size (w2)
  refine W_seq (fun K2 hK2 => ?_)
  first | refine W_rt (by kernel_rfl) (fun K hK => ?_) | refine W_text (by kernel_rfl) (fun K hK => ?_)
  simp [go_sem, add_mk, rowV, rowOk, hB1.cell]
  refine hK _ _ ?_; clear hK K
  refine W_block ?_
  refine W_loop (fun m' g w' => Below w.heap.size w w' ∧ Below w2.heap.size w2 w' ∧ ∃ (i : Nat), i ≤ xs.length ∧ m' = xs.length - i ∧ (∀ x ∈ xs.take i, x = 0) ∧ g 19 = .slice av xs.length cv ∧ g 20 = .int .i64 xs.length ∧ g 21 = .int .i64 i) xs.length ?_ ?_
  · exact ⟨hA0, hA3, 0, by omega, rfl, (fun x hx => by simp at hx), by simp [go_sem], by simp [go_sem], by simp [go_sem]⟩
  clear hA0 hA3 hB1
  rintro m' g w' ⟨hA0, hA3, i, hi, rfl, hall, g19, g20, g21⟩
  first | refine W_rt (by kernel_rfl) (fun K hK => ?_) | refine W_text (by kernel_rfl) (fun K hK => ?_)
  simp [go_sem, add_mk, rowV, rowOk, g19, g20, g21]
  refine hK _ _ ?_; clear hK K
  refine W_seq (fun K3 hK3 => ?_)
  by_cases hlt : i < xs.length
  · have c1 : (i : Int) < xs.length := by omega
    have hw1 : IntKind.i64.wrap ((i : Int) + 1) = (i : Int) + 1 := IntWalk.i64_in _ (by omega)
    have hxi : (xs.map fun x => [QA.at (.q x)])[i]? = some [QA.at (.q (xs[i]'hlt))] := by simp [hlt]
    obtain ⟨Rw, r1, r2, r3, r4, r5⟩ := hrow.row2 hA3 (by decide) hxi
    have hxz := hvz _ (List.getElem_mem hlt)
    have htk := List.take_succ_eq_append_getElem hlt
    generalize xs[i]'hlt = x at *
    obtain ⟨a5, c5, b5, d5, rfl, hr5, hs5⟩ := RepV_r r5
    refine W_if (t := true) (by simp [go_sem, add_mk, rowV, rowOk, g19, g20, g21, c1, hlt]) rfl ?_
    refine W_skip ?_
    refine hK3 _ _ ?_
    refine W_seq (fun K4 hK4 => ?_)
    refine W_block ?_
    first | refine W_rt (by kernel_rfl) (fun K hK => ?_) | refine W_text (by kernel_rfl) (fun K hK => ?_)
    simp [go_sem, add_mk, g19, g20, g21,  c1, hlt, r1, r2, r3]
    refine hv_alloc (by simp [go_sem, add_mk, g19, g20, g21, c1, r1, r2, r3]) rfl ty_zeroC28 (fun w21 b21 hE21 hle21 hB21 => ?_)
    have hb21_0 := Nat.le_trans hA0.size hle21
    have hb21_1 := Nat.le_trans hA3.size hle21
    replace hA0 := hA0.next hE21
    replace hA3 := hA3.next hE21
    simp [go_sem, add_mk, g19, g20, g21, hB21.cell, c1, r1, r2, r3]
    refine hv_store (b := b21) (off := 0) [.bool (decide (x.num < 0)), .slice a5 (lim x.num.natAbs).length c5, .slice b5 (lim x.den).length d5] (by simp [go_sem, add_mk, g19, g20, g21, hB21.cell, c1, r1, r2, r3]) rfl (by simp [go_sem, add_mk, g19, g20, g21, hB21.cell, c1, r1, r2, r3]) (by simp [go_sem, Value.cells, add_mk, g19, g20, g21, hB21.cell, c1, r1, r2, r3]) ty_size28 hB21 (by simp) (by simp [Value.oneCell']) (by decide) (fun w22 hS22 hB22 => ?_)
    simp [putC] at hB22
    replace hA0 := hA0.nextS hS22 (by first | exact hb21_0 | omega)
    replace hA3 := hA3.nextS hS22 (by first | exact hb21_1 | omega)
    simp [go_sem, add_mk, g19, g20, g21, hB22.cell, c1, r1, r2, r3]
    refine hK _ _ ?_; clear hK K
    first | refine W_rt (by kernel_rfl) (fun K hK => ?_) | refine W_text (by kernel_rfl) (fun K hK => ?_)
    simp [go_sem, add_mk, g19, g20, g21, hB22.cell, rowV, rowOk]
    refine hv_call (by simp [go_sem, add_mk, g19, g20, g21, hB22.cell, rowV, rowOk]) rfl Try.call44 (fun R hR => ?_)
    simp [go_sem, add_mk, g19, g20, g21, hB22.cell, rowV, rowOk]
    refine (dsignC_any x a5 b5 c5 d5 (vSz s) _ ((hr5.ext hA3)) ((hs5.ext hA3)) hxz (by unfold vSz; omega)).mono ?_
    rintro e w23 ⟨z23, rfl, hz23, hE23⟩
    refine ⟨_, rfl, hR _ _ ?_⟩
    clear hR R
    replace hA0 := hA0.next hE23
    replace hA3 := hA3.next hE23
    replace hB22 := hB22.keep hE23
    simp [go_sem, add_mk, g19, g20, g21, hB22.cell, rowV, rowOk]
    refine hK _ _ ?_; clear hK K
    by_cases hx0 : x = 0
    · have hz0 : z23 = 0 := hz23.2 hx0
      refine W_if (t := false) (by simp [go_sem, add_mk, g19, g20, g21, hB22.cell, rowV, rowOk,  hz0]) rfl ?_
      refine W_skip ?_
      refine hK4 _ _ ?_
      refine W_text (by kernel_rfl) (fun K hK => ?_)
      simp [go_sem, g21, hw1]
      refine hK _ _ ⟨xs.length - (i + 1), by omega, hA0, hA3, i + 1, by omega, rfl, ?_, by simp [go_sem, g19], by simp [go_sem, g20], by simp [go_sem]⟩
      intro y hy
      rw [htk] at hy
      rcases List.mem_append.1 hy with hy | hy
      · exact hall y hy
      · rw [List.mem_singleton.1 hy]; exact hx0
    · have hz0 : ¬ z23 = 0 := fun e => hx0 (hz23.1 e)
      have hA : (xs.all fun x => decide (x = 0)) = false := by
        rw [List.all_eq_false]
        refine ⟨x, ?_, by simpa using hx0⟩
        have : x ∈ xs.take (i + 1) := by rw [htk]; simp
        exact List.mem_of_mem_take this
      refine W_if (t := true) (by simp [go_sem, add_mk, g19, g20, g21, hB22.cell, rowV, rowOk, hz0]) rfl ?_
      first | refine W_rt (by kernel_rfl) (fun K hK => ?_) | refine W_text (by kernel_rfl) (fun K hK => ?_)
      simp [go_sem, add_mk, g19, g20, g21, hB22.cell, rowV, rowOk]
      refine hK _ _ ?_; clear hK K
      refine W_ret ?_
      repeat (first | refine thenG_ret ?_ | refine inBlock_ret ?_)
      refine ⟨trivial, ?_, hA0⟩
      simp [go_sem, pack, resL, hfh, hA, h0]
  · have c1 : ¬ (i : Int) < xs.length := by omega
    have hie : i = xs.length := by omega
    rw [hie, List.take_length] at hall
    have hA : (xs.all fun x => decide (x = 0)) = true := List.all_eq_true.2 (fun x hx => by simpa using hall x hx)
    refine W_if (t := false) (by simp [go_sem, add_mk, rowV, rowOk, g19, g20, g21, c1, hlt]) rfl ?_
    refine W_exit ?_
    repeat (first | refine thenG_exit ?_ | refine inBlock_other rfl ?_ | refine inBlock_same ?_)
    refine hK2 _ _ ?_
    first | refine W_rt (by kernel_rfl) (fun K hK => ?_) | refine W_text (by kernel_rfl) (fun K hK => ?_)
    simp [go_sem, add_mk, rowV, rowOk, g19, g20, g21]
    refine hK _ _ ?_; clear hK K
    refine W_ret ?_
    repeat (first | refine thenG_ret ?_ | refine inBlock_ret ?_)
    refine ⟨trivial, ?_, hA0⟩
    simp [go_sem, pack, resL, hfh, hA, h0]
end Go.Proofs.Ytkampmdekonjmaa
namespace Go.Proofs.Ytkampmdekonjmaa
open Go Go.RowKit Go.V
set_option linter.unusedSimpArgs false
set_option linter.unusedVariables false
set_option maxRecDepth 20000
/-- a valid number of at most two limbs -/
def qSh (a : Bool) (l m : List Nat) : Bool := qRight a l m && (decide ((l.length : Int) ≤ 2) && decide ((m.length : Int) ≤ 2))
def f_sh : List At → Option (List At)
  | [.r a l m] => some [.b (qSh a l m)]
  | _ => none
def GS14 : Gam := gamOf [(30, ct_rqright)]
theorem GS14_ok : GamOk Try.prog GS14 := gamOk_of ⟨ok_rqright, trivial⟩
theorem GS14_rqright : GS14 30 = some ct_rqright := rfl
def tr_short14 : Tr (List SA) := (.call 30 [(.ob 0)] 1 (.br (.var 1) (.br (.le (.len 0 1) (.lit 2)) (.leaf [(.b (.le (.len 0 2) (.lit 2)))]) (.leaf [(.b (.lit false))])) (.leaf [(.b (.lit false))])))
theorem ev_short14 : Ct.ok Try.prog 15 { args := [[.r]], res := [[.b]], F := fun als => tr_short14.den GS14 (env0 als), L := 1048576, A := 0, B := 0 } :=
  top_ok (by kernel_rfl) GS14_ok (plans := planF) (lf := 60) (k := 20) (by kernel_rfl)
theorem short14_den (a : Bool) (l m : List Nat) : tr_short14.den GS14 (env0 [.r a l m]) = f_sh [.r a l m] := by
  simp only [f_sh, qSh]
  simp only [tr_short14, Tr.den, evAll, SA.ev, BE.ev, IE.ev, SE.ev, LE.ev, env0, extE_eq, pickO, evN, evB, evS, evLen, evBit, evLst, At.len, At.bit, At.lst, op1, op2, op3, Nat.reduceLeDiff, Nat.reduceSub, Nat.reduceEqDiff, if_true, if_false, ite_true, ite_false, decide_true, decide_false, Bool.not_true, Bool.not_false, Nat.zero_le, Nat.sub_zero, List.getElem?_cons_zero, List.getElem?_cons_succ, List.getElem?_nil, GS14_rqright, ctF_rqright, f_qright]
  cases qRight a l m
  · rfl
  · by_cases h : (l.length : Int) ≤ 2
    · simp [h]
    · simp [h]
theorem short14_any (neg : Bool) (l m : List Nat) (a b : Option Addr) (c d : Nat) (w : World) (hr : RD w a c l) (hs : RD w b d m) (hl : l.length ≤ 1048576) (hm : m.length ≤ 1048576) :
    Calls Try.prog 15 #[.agg #[.bool neg, .slice a l.length c, .slice b m.length d]] w fun e w' => e = .returned (.bool (qSh neg l m)) ∧ Below w.heap.size w w' :=
  ct_b ev_short14 rfl (Nat.le_refl _) (rats1 hr hs) (zsr hl hm) (short14_den neg l m)
theorem qSh_can {a : Bool} {l m : List Nat} (hl : Ok l) (hm : Ok m) (h : qSh a l m = true) : At.r a l m = QA.at (.q (qv a l m)) ∧ l.length ≤ 2 ∧ m.length ≤ 2 := by
  unfold qSh at h
  simp only [Bool.and_eq_true, decide_eq_true_eq] at h
  exact ⟨can_qa hl hm h.1, by omega, by omega⟩
/-- a point's atoms -/
theorem ptRow {w : World} {y : List At} {R : List Value} (h : RepV w [.r, .r] y (.agg R.toArray)) : ∃ n1 l1 m1 n2 l2 m2 a1 c1 b1 d1 a2 c2 b2 d2, y = [.r n1 l1 m1, .r n2 l2 m2] ∧ R = [.bool n1, .slice a1 l1.length c1, .slice b1 m1.length d1, .bool n2, .slice a2 l2.length c2, .slice b2 m2.length d2] ∧ RD w a1 c1 l1 ∧ RD w b1 d1 m1 ∧ RD w a2 c2 l2 ∧ RD w b2 d2 m2 := by
  obtain ⟨cs', h1, h2⟩ := (RepV_of rfl).1 h
  have h3 : R = cs' := by
    simp only [mkV, single] at h2
    injection h2 with h2
    simpa using h2
  subst h3
  obtain ⟨x, r, c1, c2, rfl, rfl, h2, h3, z, r', c3, c4, rfl, rfl, h4, h5, rfl, rfl⟩ := h1
  cases x <;> simp [At.sh] at h2
  cases z <;> simp [At.sh] at h4
  obtain ⟨a1, e1, b1, d1, rfl, q1, q2⟩ := h3
  obtain ⟨a2, e2, b2, d2, rfl, q3, q4⟩ := h5
  exact ⟨_, _, _, _, _, _, _, _, _, _, _, _, _, _, rfl, rfl, q1, q2, q3, q4⟩
def qSh2 : List At → Bool
  | [.r a l m, .r b k j] => qSh a l m && qSh b k j
  | _ => false
def fitB (xs : List (List At)) : Bool := xs.all qSh2 && decide (xs.length ≤ 8)
set_option maxHeartbeats 1000000 in
theorem fits_any (pa : Option Addr) (cap : Nat) (xs : List (List At)) (w : World) (hP : RowsR w pa 6 [.r, .r] xs) (hn : xs.length ≤ maxLen) (hz : ∀ y ∈ xs, ∀ z ∈ y, z.sz ≤ 1048576) :
    Calls Try.prog 14 #[.slice pa xs.length cap] w fun e w' => e = .returned (.bool (fitB xs)) ∧ Below w.heap.size w w' := by
  unfold maxLen at hn
  refine calls_of_W (args := [.slice pa xs.length cap]) (rs := [.tmp 2]) (n := 25) Try.func14 rfl rfl rfl (by kernel_rfl) ?_
  have hA0 := Below.refl w.heap.size w
  first | refine W_rt (by kernel_rfl) (fun K hK => ?_) | refine W_text (by kernel_rfl) (fun K hK => ?_)
  simp [go_sem, add_mk, rowV, rowOk]
  refine hK _ _ ?_; clear hK K
  refine W_seq (fun K1 hK1 => ?_)
  first | refine W_rt (by kernel_rfl) (fun K hK => ?_) | refine W_text (by kernel_rfl) (fun K hK => ?_)
  simp [go_sem, add_mk, rowV, rowOk]
  refine hK _ _ ?_; clear hK K
  refine W_block ?_
  refine W_loop (fun m' g w' => Below w.heap.size w w' ∧ ∃ (i : Nat), i ≤ xs.length ∧ m' = xs.length - i ∧ (xs.take i).all qSh2 = true ∧ g 0 = .slice pa xs.length cap ∧ g 5 = .slice pa xs.length cap ∧ g 6 = .int .i64 xs.length ∧ g 7 = .int .i64 i) xs.length ?_ ?_
  · exact ⟨hA0, 0, by omega, rfl, rfl, by simp [go_sem], by simp [go_sem], by simp [go_sem], by simp [go_sem]⟩
  clear hA0
  rintro m' g w' ⟨hA0, i, hi, rfl, hall, g0, g5, g6, g7⟩
  first | refine W_rt (by kernel_rfl) (fun K hK => ?_) | refine W_text (by kernel_rfl) (fun K hK => ?_)
  simp [go_sem, add_mk, rowV, rowOk, g0, g5, g6, g7]
  refine hK _ _ ?_; clear hK K
  refine W_seq (fun K2 hK2 => ?_)
  by_cases hlt : i < xs.length
  · have c1 : (i : Int) < xs.length := by omega
    have hw1 : IntKind.i64.wrap ((i : Int) + 1) = (i : Int) + 1 := IntWalk.i64_in _ (by omega)
    have hxi : xs[i]? = some (xs[i]'hlt) := List.getElem?_eq_getElem hlt
    obtain ⟨Rw, r1, r2, r3, r4, r5⟩ := hP.row2 hA0 (by decide) hxi
    have hzz := hz _ (List.getElem_mem hlt)
    have htk : (xs.take (i + 1)).all qSh2 = qSh2 (xs[i]'hlt) := by
      rw [List.take_succ_eq_append_getElem hlt, List.all_append, hall]; simp
    have hmem : xs[i]'hlt ∈ xs := List.getElem_mem hlt
    generalize xs[i]'hlt = y at *
    obtain ⟨n1, l1, m1, n2, l2, m2, a1, e1, b1, d1, a2, e2, b2, d2, rfl, rfl, p1, p2, p3, p4⟩ := ptRow r5
    have s1 := hzz _ (List.mem_cons_self ..)
    have s2 := hzz _ (List.mem_cons_of_mem _ (List.mem_singleton.2 rfl))
    simp only [At.sz] at s1 s2
    have s3 : l1.length ≤ 1048576 := by omega
    have s4 : m1.length ≤ 1048576 := by omega
    have s5 : l2.length ≤ 1048576 := by omega
    have s6 : m2.length ≤ 1048576 := by omega
    refine W_if (t := true) (by simp [go_sem, add_mk, rowV, rowOk, g0, g5, g6, g7, c1, hlt]) rfl ?_
    refine W_skip ?_
    refine hK2 _ _ ?_
    refine W_seq (fun K3 hK3 => ?_)
    refine W_block ?_
    first | refine W_rt (by kernel_rfl) (fun K hK => ?_) | refine W_text (by kernel_rfl) (fun K hK => ?_)
    simp [go_sem, add_mk, g0, g5, g6, g7,  c1, hlt, r1, r2, r3]
    refine hv_alloc (by simp [go_sem, add_mk, g0, g5, g6, g7, c1, r1, r2, r3]) rfl ty_zeroC41 (fun w21 b21 hE21 hle21 hB21 => ?_)
    have hb21_0 := Nat.le_trans hA0.size hle21
    replace hA0 := hA0.next hE21
    simp [go_sem, add_mk, g0, g5, g6, g7, hB21.cell, c1, r1, r2, r3]
    refine hv_store (b := b21) (off := 0) [.bool n1, .slice a1 l1.length e1, .slice b1 m1.length d1, .bool n2, .slice a2 l2.length e2, .slice b2 m2.length d2] (by simp [go_sem, add_mk, g0, g5, g6, g7, hB21.cell, c1, r1, r2, r3]) rfl (by simp [go_sem, add_mk, g0, g5, g6, g7, hB21.cell, c1, r1, r2, r3]) (by simp [go_sem, Value.cells, add_mk, g0, g5, g6, g7, hB21.cell, c1, r1, r2, r3]) ty_size41 hB21 (by simp) (by simp [Value.oneCell']) (by decide) (fun w22 hS22 hB22 => ?_)
    simp [putC] at hB22
    replace hA0 := hA0.nextS hS22 (by first | exact hb21_0 | omega)
    simp [go_sem, add_mk, g0, g5, g6, g7, hB22.cell, c1, r1, r2, r3]
    refine hK _ _ ?_; clear hK K
    first | refine W_rt (by kernel_rfl) (fun K hK => ?_) | refine W_text (by kernel_rfl) (fun K hK => ?_)
    simp [go_sem, add_mk, g0, g5, g6, g7, hB22.cell, rowV, rowOk]
    refine hv_call (by simp [go_sem, add_mk, g0, g5, g6, g7, hB22.cell, rowV, rowOk]) rfl Try.call15 (fun R hR => ?_)
    simp [go_sem, add_mk, g0, g5, g6, g7, hB22.cell, rowV, rowOk]
    refine (short14_any n1 l1 m1 a1 b1 e1 d1 _ (p1.ext hA0) (p2.ext hA0) s3 s4).mono ?_
    rintro e w23 ⟨rfl, hE23⟩
    refine ⟨_, rfl, hR _ _ ?_⟩
    clear hR R
    replace hA0 := hA0.next hE23
    replace hB22 := hB22.keep hE23
    simp [go_sem, add_mk, g0, g5, g6, g7, hB22.cell, rowV, rowOk]
    cases h1 : qSh n1 l1 m1 with
    | false =>
      have hq : qSh2 [.r n1 l1 m1, .r n2 l2 m2] = false := by simp [qSh2, h1]
      have hF : fitB xs = false := by
        unfold fitB
        have : xs.all qSh2 = false := List.all_eq_false.2 ⟨_, hmem, by rw [hq]; decide⟩
        rw [this, Bool.false_and]
      simp [go_sem, add_mk, g0, g5, g6, g7, hB22.cell, rowV, rowOk, h1]
      refine hK _ _ ?_; clear hK K
      refine W_if (t := true) (by simp [go_sem, add_mk, g0, g5, g6, g7, hB22.cell, rowV, rowOk, h1]) rfl ?_
      first | refine W_rt (by kernel_rfl) (fun K hK => ?_) | refine W_text (by kernel_rfl) (fun K hK => ?_)
      simp [go_sem, add_mk, g0, g5, g6, g7, hB22.cell, rowV, rowOk]
      refine hK _ _ ?_; clear hK K
      refine W_ret ?_
      repeat (first | refine thenG_ret ?_ | refine inBlock_ret ?_)
      refine ⟨trivial, ?_, hA0⟩
      simp [go_sem, pack, resL, hF]
    | true =>
      simp [go_sem, add_mk, g0, g5, g6, g7, hB22.cell, rowV, rowOk, h1]
      refine hv_call (by simp [go_sem, add_mk, g0, g5, g6, g7, hB22.cell, rowV, rowOk, h1]) rfl Try.call15 (fun R hR => ?_)
      simp [go_sem, add_mk, g0, g5, g6, g7, hB22.cell, rowV, rowOk, h1]
      refine (short14_any n2 l2 m2 a2 b2 e2 d2 _ (p3.ext hA0) (p4.ext hA0) s5 s6).mono ?_
      rintro e w24 ⟨rfl, hE24⟩
      refine ⟨_, rfl, hR _ _ ?_⟩
      clear hR R
      replace hA0 := hA0.next hE24
      replace hB22 := hB22.keep hE24
      simp [go_sem, add_mk, g0, g5, g6, g7, hB22.cell, rowV, rowOk, h1]
      refine hK _ _ ?_; clear hK K
      cases h2 : qSh n2 l2 m2 with
      | false =>
        have hq : qSh2 [.r n1 l1 m1, .r n2 l2 m2] = false := by simp [qSh2, h1, h2]
        have hF : fitB xs = false := by
          unfold fitB
          have : xs.all qSh2 = false := List.all_eq_false.2 ⟨_, hmem, by rw [hq]; decide⟩
          rw [this, Bool.false_and]
        refine W_if (t := true) (by simp [go_sem, add_mk, g0, g5, g6, g7, hB22.cell, rowV, rowOk, h1, h2]) rfl ?_
        first | refine W_rt (by kernel_rfl) (fun K hK => ?_) | refine W_text (by kernel_rfl) (fun K hK => ?_)
        simp [go_sem, add_mk, g0, g5, g6, g7, hB22.cell, rowV, rowOk]
        refine hK _ _ ?_; clear hK K
        refine W_ret ?_
        repeat (first | refine thenG_ret ?_ | refine inBlock_ret ?_)
        refine ⟨trivial, ?_, hA0⟩
        simp [go_sem, pack, resL, hF]
      | true =>
        have hq : qSh2 [.r n1 l1 m1, .r n2 l2 m2] = true := by simp [qSh2, h1, h2]
        rw [hq] at htk
        refine W_if (t := false) (by simp [go_sem, add_mk, g0, g5, g6, g7, hB22.cell, rowV, rowOk, h1, h2]) rfl ?_
        refine W_skip ?_
        refine hK3 _ _ ?_
        refine W_text (by kernel_rfl) (fun K hK => ?_)
        simp [go_sem, g7, hw1]
        refine hK _ _ ⟨xs.length - (i + 1), by omega, hA0, i + 1, by omega, rfl, htk, by simp [go_sem, g0], by simp [go_sem, g5], by simp [go_sem, g6], by simp [go_sem]⟩
  · have c1 : ¬ (i : Int) < xs.length := by omega
    have hie : i = xs.length := by omega
    rw [hie, List.take_length] at hall
    have h8 : decide ((xs.length : Int) ≤ 8) = decide (xs.length ≤ 8) := by congr 1; apply propext; omega
    have hF : fitB xs = decide (xs.length ≤ 8) := by unfold fitB; rw [hall, Bool.true_and]
    refine W_if (t := false) (by simp [go_sem, add_mk, rowV, rowOk, g0, g5, g6, g7, c1, hlt]) rfl ?_
    refine W_exit ?_
    repeat (first | refine thenG_exit ?_ | refine inBlock_other rfl ?_ | refine inBlock_same ?_)
    refine hK1 _ _ ?_
    first | refine W_rt (by kernel_rfl) (fun K hK => ?_) | refine W_text (by kernel_rfl) (fun K hK => ?_)
    simp [go_sem, add_mk, rowV, rowOk, g0, g5, g6, g7]
    refine hK _ _ ?_; clear hK K
    refine W_ret ?_
    repeat (first | refine thenG_ret ?_ | refine inBlock_ret ?_)
    refine ⟨trivial, ?_, hA0⟩
    simp [go_sem, pack, resL, hF, h8]
/-- points that fit -/
theorem fit_pts {W : World} {pa : Option Addr} {xs : List (List At)} (hP : RowsR W pa 6 [.r, .r] xs) (h : fitB xs = true) : ∃ ps : List PT, xs = ps.map ptA ∧ (∀ p ∈ ps, ptSz p 2) ∧ ps.length ≤ 8 := by
  unfold fitB at h
  simp only [Bool.and_eq_true, decide_eq_true_eq] at h
  obtain ⟨h1, h2⟩ := h
  have key : ∀ y ∈ xs, ∃ p : PT, y = ptA p ∧ ptSz p 2 := by
    intro y hy
    obtain ⟨i, hi, rfl⟩ := List.getElem_of_mem hy
    obtain ⟨R, _, _, _, _, r5⟩ := hP.row (by decide) (List.getElem?_eq_getElem hi)
    have hq := List.all_eq_true.1 h1 _ hy
    generalize xs[i] = y at *
    obtain ⟨n1, l1, m1, n2, l2, m2, a1, e1, b1, d1, a2, e2, b2, d2, rfl, rfl, p1, p2, p3, p4⟩ := ptRow r5
    simp only [qSh2, Bool.and_eq_true] at hq
    obtain ⟨q1, q2, q3⟩ := qSh_can p1.ok p2.ok hq.1
    obtain ⟨q4, q5, q6⟩ := qSh_can p3.ok p4.ok hq.2
    refine ⟨(qv n1 l1 m1, qv n2 l2 m2), by simp only [ptA]; rw [← q1, ← q4], ?_, ?_⟩
    · show (QA.at (.q (qv n1 l1 m1))).sz ≤ 2
      rw [← q1]; exact Nat.max_le.2 ⟨q2, q3⟩
    · show (QA.at (.q (qv n2 l2 m2))).sz ≤ 2
      rw [← q4]; exact Nat.max_le.2 ⟨q5, q6⟩
  clear hP h1
  induction xs with
  | nil => exact ⟨[], rfl, (fun p hp => by cases hp), Nat.zero_le _⟩
  | cons y r ih =>
    obtain ⟨p, rfl, hp⟩ := key y (List.mem_cons_self ..)
    obtain ⟨ps, rfl, h3, h4⟩ := ih (by simp at h2; omega) (fun y hy => key y (List.mem_cons_of_mem _ hy))
    exact ⟨p :: ps, rfl, fun q hq => (List.mem_cons.1 hq).elim (fun e => e ▸ hp) (h3 q), by simpa using h2⟩
end Go.Proofs.Ytkampmdekonjmaa
