/- Rational numbers: the contracts. -/
import Derived.Test.YtifgdiejpglhfaaGreatRa3
namespace Go.Proofs.YtifgdiejpglhfaaGreat
open Go Go.RowKit Go.V
set_option linter.unusedSimpArgs false
set_option linter.unusedVariables false
set_option maxRecDepth 20000
def ct_qmake : Ct := { args := [[.y], [.y]], res := [[.r], [.n]], F := f_qmake, L := 100000000, A := 1, B := 4 }
theorem ctF_qmake : ct_qmake.F = f_qmake := rfl
theorem ok_qmake : ct_qmake.ok Tryz.prog 85 := by
  refine ev_qmake.weaken fun als r h => ?_
  have h' := h
  unfold f_qmake at h
  split at h <;> first | exact (qmake_den _ _ _ _).trans h' | cases h
def ct_rqmake : Ct := { args := [[.y], [.y]], res := [[.r], [.n]], F := f_qmake, L := 100000000, A := 1, B := 4 }
theorem ctF_rqmake : ct_rqmake.F = f_qmake := rfl
theorem ok_rqmake : ct_rqmake.ok Tryz.prog 80 := by
  refine ev_rqmake.weaken fun als r h => ?_
  have h' := h
  unfold f_qmake at h
  split at h <;> first | exact (rqmake_den _ _ _ _).trans h' | cases h
def ct_qsign : Ct := { args := [[.r]], res := [[.n]], F := f_qsign, L := 100000000, A := 0, B := 0 }
theorem ctF_qsign : ct_qsign.F = f_qsign := rfl
theorem ok_qsign : ct_qsign.ok Tryz.prog 47 := by
  refine ev_qsign.weaken fun als r h => ?_
  have h' := h
  unfold f_qsign at h
  split at h <;> first | exact (qsign_den _ _ _).trans h' | cases h
def ct_rqsign : Ct := { args := [[.r]], res := [[.n]], F := f_qsign, L := 100000000, A := 0, B := 0 }
theorem ctF_rqsign : ct_rqsign.F = f_qsign := rfl
theorem ok_rqsign : ct_rqsign.ok Tryz.prog 49 := by
  refine ev_rqsign.weaken fun als r h => ?_
  have h' := h
  unfold f_qsign at h
  split at h <;> first | exact (rqsign_den _ _ _).trans h' | cases h
def ct_qcmp : Ct := { args := [[.r], [.r]], res := [[.n]], F := f_qcmp, L := 100000000, A := 0, B := 0 }
theorem ctF_qcmp : ct_qcmp.F = f_qcmp := rfl
theorem ok_qcmp : ct_qcmp.ok Tryz.prog 64 := by
  refine ev_qcmp.weaken fun als r h => ?_
  have h' := h
  unfold f_qcmp at h
  split at h <;> first | exact (qcmp_den _ _ _ _ _ _).trans h' | cases h
def ct_rqcmp : Ct := { args := [[.r], [.r]], res := [[.n]], F := f_qcmp, L := 100000000, A := 0, B := 0 }
theorem ctF_rqcmp : ct_rqcmp.F = f_qcmp := rfl
theorem ok_rqcmp : ct_rqcmp.ok Tryz.prog 52 := by
  refine ev_rqcmp.weaken fun als r h => ?_
  have h' := h
  unfold f_qcmp at h
  split at h <;> first | exact (rqcmp_den _ _ _ _ _ _).trans h' | cases h
def ct_rqneg : Ct := { args := [[.r]], res := [[.r]], F := f_qneg, L := 100000000, A := 1, B := 4 }
theorem ctF_rqneg : ct_rqneg.F = f_qneg := rfl
theorem ok_rqneg : ct_rqneg.ok Tryz.prog 92 := by
  refine ev_rqneg.weaken fun als r h => ?_
  have h' := h
  unfold f_qneg at h
  split at h <;> first | exact (rqneg_den _ _ _).trans h' | cases h
def ct_qadd : Ct := { args := [[.r], [.r]], res := [[.r]], F := f_qadd, L := 100000000, A := 2, B := 6 }
theorem ctF_qadd : ct_qadd.F = f_qadd := rfl
theorem ok_qadd : ct_qadd.ok Tryz.prog 70 := by
  refine ev_qadd.weaken fun als r h => ?_
  have h' := h
  unfold f_qadd at h
  split at h <;> first | exact (qadd_den _ _ _ _ _ _).trans h' | cases h
def ct_rqadd : Ct := { args := [[.r], [.r]], res := [[.r]], F := f_qadd, L := 100000000, A := 2, B := 20 }
theorem ctF_rqadd : ct_rqadd.F = f_qadd := rfl
theorem ok_rqadd : ct_rqadd.ok Tryz.prog 71 := by
  refine ev_rqadd.weaken fun als r h => ?_
  have h' := h
  unfold f_qadd at h
  split at h <;> first | exact (rqadd_den _ _ _ _ _ _).trans h' | cases h
def ct_qmul : Ct := { args := [[.r], [.r]], res := [[.r]], F := f_qmul, L := 100000000, A := 2, B := 4 }
theorem ctF_qmul : ct_qmul.F = f_qmul := rfl
theorem ok_qmul : ct_qmul.ok Tryz.prog 74 := by
  refine ev_qmul.weaken fun als r h => ?_
  have h' := h
  unfold f_qmul at h
  split at h <;> first | exact (qmul_den _ _ _ _ _ _).trans h' | cases h
def ct_rqmul : Ct := { args := [[.r], [.r]], res := [[.r]], F := f_qmul, L := 100000000, A := 2, B := 20 }
theorem ctF_rqmul : ct_rqmul.F = f_qmul := rfl
theorem ok_rqmul : ct_rqmul.ok Tryz.prog 75 := by
  refine ev_rqmul.weaken fun als r h => ?_
  have h' := h
  unfold f_qmul at h
  split at h <;> first | exact (rqmul_den _ _ _ _ _ _).trans h' | cases h
def ct_qdiv : Ct := { args := [[.r], [.r]], res := [[.r], [.n]], F := f_qdiv, L := 100000000, A := 2, B := 4 }
theorem ok_qdiv : ct_qdiv.ok Tryz.prog 68 := by
  refine ev_qdiv.weaken fun als r h => ?_
  have h' := h
  unfold f_qdiv at h
  split at h <;> first | exact (qdiv_den _ _ _ _ _ _).trans h' | cases h
def ct_rqdiv : Ct := { args := [[.r], [.r]], res := [[.r], [.n]], F := f_qdiv, L := 100000000, A := 2, B := 20 }
theorem ok_rqdiv : ct_rqdiv.ok Tryz.prog 69 := by
  refine ev_rqdiv.weaken fun als r h => ?_
  have h' := h
  unfold f_qdiv at h
  split at h <;> first | exact (rqdiv_den _ _ _ _ _ _).trans h' | cases h
def ct_rqfloor : Ct := { args := [[.r]], res := [[.y]], F := f_qfloor, L := 100000000, A := 1, B := 8 }
theorem ctF_rqfloor : ct_rqfloor.F = f_qfloor := rfl
theorem ok_rqfloor : ct_rqfloor.ok Tryz.prog 44 := by
  refine ev_rqfloor.weaken fun als r h => ?_
  have h' := h
  unfold f_qfloor at h
  split at h <;> first | exact (rqfloor_den _ _ _).trans h' | cases h
def ct_rqsame : Ct := { args := [[.r], [.r]], res := [[.b]], F := f_rrb fun a l m b k n => (a == b) && (decide (l = k) && decide (m = n)), L := 100000000, A := 0, B := 0 }
theorem ok_rqsame : ct_rqsame.ok Tryz.prog 57 := by
  refine ev_rqsame.weaken fun als r h => ?_
  have h' := h
  unfold f_rrb at h
  split at h <;> first | exact (rqsame_den _ _ _ _ _ _).trans h' | cases h
def ct_qof : Ct := { args := [[.n]], res := [[.r]], F := f_qof, L := 100000000, A := 0, B := 4 }
theorem ctF_qof : ct_qof.F = f_qof := rfl
theorem ok_qof : ct_qof.ok Tryz.prog 35 := by
  refine ev_qof.weaken fun als r h => ?_
  have h' := h
  unfold f_qof at h
  split at h <;> first | exact qof_den _ _ h' | cases h
def ct_rqof : Ct := { args := [[.n]], res := [[.r]], F := f_qof, L := 100000000, A := 1, B := 8 }
theorem ctF_rqof : ct_rqof.F = f_qof := rfl
theorem ok_rqof : ct_rqof.ok Tryz.prog 38 := by
  refine ev_rqof.weaken fun als r h => ?_
  have h' := h
  unfold f_qof at h
  split at h <;> first | exact rqof_den _ _ h' | cases h
def GR3 : Gam := gamOf [(85, ct_qmake), (80, ct_rqmake), (35, ct_qof), (38, ct_rqof), (77, ct_iofi), (56, ct_riof), (64, ct_qcmp), (52, ct_rqcmp), (70, ct_qadd), (71, ct_rqadd), (92, ct_rqneg)]
theorem GR3_ok : GamOk Tryz.prog GR3 := gamOk_of ⟨ok_qmake, ok_rqmake, ok_qof, ok_rqof, ok_iofi, ok_riof, ok_qcmp, ok_rqcmp, ok_qadd, ok_rqadd, ok_rqneg, trivial⟩
theorem GR3_qmake : GR3 85 = some ct_qmake := rfl
theorem GR3_rqmake : GR3 80 = some ct_rqmake := rfl
theorem GR3_qof : GR3 35 = some ct_qof := rfl
theorem GR3_rqof : GR3 38 = some ct_rqof := rfl
theorem GR3_iofi : GR3 77 = some ct_iofi := rfl
theorem GR3_riof : GR3 56 = some ct_riof := rfl
theorem GR3_qcmp : GR3 64 = some ct_qcmp := rfl
theorem GR3_rqcmp : GR3 52 = some ct_rqcmp := rfl
theorem GR3_qadd : GR3 70 = some ct_qadd := rfl
theorem GR3_rqadd : GR3 71 = some ct_rqadd := rfl
theorem GR3_rqneg : GR3 92 = some ct_rqneg := rfl
def tr_rqequal : Tr (List SA) := (.call 52 [(.ob 0), (.ob 1)] 2 (.leaf [(.b (.eq (.var 2) (.lit 0)))]))
theorem ev_rqequal : Ct.ok Tryz.prog 37 { args := [[.r], [.r]], res := [[.b]], F := fun als => tr_rqequal.den GR3 (env0 als), L := 100000000, A := 0, B := 0 } :=
  top_ok (by kernel_rfl) GR3_ok (plans := planF) (lf := 60) (k := 20) (by kernel_rfl)
def tr_qsub : Tr (List SA) := (.call 70 [(.ob 0), (.r (.not (.bit 1)) (.var 1 1) (.var 1 2))] 2 (.leaf [(.ob 2)]))
theorem ev_qsub : Ct.ok Tryz.prog 72 { args := [[.r], [.r]], res := [[.r]], F := fun als => tr_qsub.den GR3 (env0 als), L := 100000000, A := 2, B := 6 } :=
  top_ok (by kernel_rfl) GR3_ok (plans := planF) (lf := 60) (k := 20) (by kernel_rfl)
def tr_rqsub : Tr (List SA) := (.call 92 [(.ob 1)] 2 (.call 71 [(.ob 0), (.ob 2)] 3 (.leaf [(.ob 3)])))
theorem ev_rqsub : Ct.ok Tryz.prog 73 { args := [[.r], [.r]], res := [[.r]], F := fun als => tr_rqsub.den GR3 (env0 als), L := 10000000, A := 2, B := 40 } :=
  top_ok (by kernel_rfl) GR3_ok (plans := planF) (lf := 60) (k := 20) (by kernel_rfl)
def tr_rqfrac : Tr (List SA) := (.call 56 [(.n (.var 0))] 2 (.call 56 [(.n (.var 1))] 3 (.call 80 [(.ob 2), (.ob 3)] 4 (.br (.not (.eq (.var 5) (.lit 0))) (.call 38 [(.n (.lit 0))] 6 (.leaf [(.ob 6)])) (.leaf [(.ob 4)])))))
theorem ev_rqfrac : Ct.ok Tryz.prog 39 { args := [[.n], [.n]], res := [[.r]], F := fun als => tr_rqfrac.den GR3 (env0 als), L := 100000000, A := 0, B := 20 } :=
  top_ok (by kernel_rfl) GR3_ok (plans := planF) (lf := 60) (k := 20) (by kernel_rfl)
def f_qequal : List At → Option (List At)
  | [.r a l m, .r b k n] => some [.b (decide (qv a l m = qv b k n))]
  | _ => none
theorem qcmp_0 (x y : Rat) : (qcmpv x y = 0) = (x = y) := by
  apply propext
  unfold qcmpv
  by_cases h : x < y
  · rw [if_pos h]; constructor
    · intro h; cases h
    · rintro rfl; exact absurd h (Rat.lt_irrefl)
  · rw [if_neg h]
    by_cases h' : y < x
    · rw [if_pos h']; constructor
      · intro h; cases h
      · rintro rfl; exact absurd h' (Rat.lt_irrefl)
    · rw [if_neg h']
      constructor
      · intro _; exact Rat.le_antisymm (Rat.not_lt.1 h') (Rat.not_lt.1 h)
      · intro _; rfl
theorem rqequal_den (a b : Bool) (l m k n : List Nat) : tr_rqequal.den GR3 (env0 [.r a l m, .r b k n]) = f_qequal [.r a l m, .r b k n] := by
  simp only [f_qequal]
  simp only [tr_rqequal, Tr.den, evAll, SA.ev, BE.ev, IE.ev, SE.ev, LE.ev, env0, extE_eq, pickO, evN, evB, evS, evLen, evBit, evLst, At.len, At.bit, At.lst, op1, op2, op3, Nat.reduceLeDiff, Nat.reduceSub, Nat.reduceEqDiff, if_true, if_false, ite_true, ite_false, decide_true, decide_false, Bool.not_true, Bool.not_false, Nat.zero_le, Nat.sub_zero, List.getElem?_cons_zero, List.getElem?_cons_succ, List.getElem?_nil, GR3_qmake, ctF_qmake, GR3_rqmake, ctF_rqmake, GR3_qof, ctF_qof, GR3_rqof, ctF_rqof, GR3_iofi, ctF_iofi, GR3_riof, ctF_riof, GR3_qcmp, ctF_qcmp, GR3_rqcmp, ctF_rqcmp, GR3_qadd, ctF_qadd, GR3_rqadd, ctF_rqadd, GR3_rqneg, ctF_rqneg, f_qcmp, qcmp_0]
def f_qsub : List At → Option (List At)
  | [.r a l m, .r b k n] => some [qa (qv a l m - qv b k n)]
  | _ => none
theorem qsub_den (a b : Bool) (l m k n : List Nat) : tr_qsub.den GR3 (env0 [.r a l m, .r b k n]) = f_qsub [.r a l m, .r b k n] := by
  simp only [f_qsub]
  simp only [tr_qsub, Tr.den, evAll, SA.ev, BE.ev, IE.ev, SE.ev, LE.ev, env0, extE_eq, pickO, evN, evB, evS, evLen, evBit, evLst, At.len, At.bit, At.lst, op1, op2, op3, Nat.reduceLeDiff, Nat.reduceSub, Nat.reduceEqDiff, if_true, if_false, ite_true, ite_false, decide_true, decide_false, Bool.not_true, Bool.not_false, Nat.zero_le, Nat.sub_zero, List.getElem?_cons_zero, List.getElem?_cons_succ, List.getElem?_nil, GR3_qmake, ctF_qmake, GR3_rqmake, ctF_rqmake, GR3_qof, ctF_qof, GR3_rqof, ctF_rqof, GR3_iofi, ctF_iofi, GR3_riof, ctF_riof, GR3_qcmp, ctF_qcmp, GR3_rqcmp, ctF_rqcmp, GR3_qadd, ctF_qadd, GR3_rqadd, ctF_rqadd, GR3_rqneg, ctF_rqneg, f_qadd, qv_not]
  rw [Rat.sub_eq_add_neg]
theorem rqsub_den (a b : Bool) (l m k n : List Nat) : tr_rqsub.den GR3 (env0 [.r a l m, .r b k n]) = f_qsub [.r a l m, .r b k n] := by
  simp only [f_qsub]
  simp only [tr_rqsub, Tr.den, evAll, SA.ev, BE.ev, IE.ev, SE.ev, LE.ev, env0, extE_eq, pickO, evN, evB, evS, evLen, evBit, evLst, At.len, At.bit, At.lst, op1, op2, op3, Nat.reduceLeDiff, Nat.reduceSub, Nat.reduceEqDiff, if_true, if_false, ite_true, ite_false, decide_true, decide_false, Bool.not_true, Bool.not_false, Nat.zero_le, Nat.sub_zero, List.getElem?_cons_zero, List.getElem?_cons_succ, List.getElem?_nil, GR3_qmake, ctF_qmake, GR3_rqmake, ctF_rqmake, GR3_qof, ctF_qof, GR3_rqof, ctF_rqof, GR3_iofi, ctF_iofi, GR3_riof, ctF_riof, GR3_qcmp, ctF_qcmp, GR3_rqcmp, ctF_rqcmp, GR3_qadd, ctF_qadd, GR3_rqadd, ctF_rqadd, GR3_rqneg, ctF_rqneg, f_qadd, f_qneg, qa, qv_qa]
  rw [Rat.sub_eq_add_neg]
def ct_rqequal : Ct := { args := [[.r], [.r]], res := [[.b]], F := f_qequal, L := 100000000, A := 0, B := 0 }
theorem ctF_rqequal : ct_rqequal.F = f_qequal := rfl
theorem ok_rqequal : ct_rqequal.ok Tryz.prog 37 := by
  refine ev_rqequal.weaken fun als r h => ?_
  have h' := h
  unfold f_qequal at h
  split at h <;> first | exact (rqequal_den _ _ _ _ _ _).trans h' | cases h
def ct_qsub : Ct := { args := [[.r], [.r]], res := [[.r]], F := f_qsub, L := 100000000, A := 2, B := 6 }
theorem ctF_qsub : ct_qsub.F = f_qsub := rfl
theorem ok_qsub : ct_qsub.ok Tryz.prog 72 := by
  refine ev_qsub.weaken fun als r h => ?_
  have h' := h
  unfold f_qsub at h
  split at h <;> first | exact (qsub_den _ _ _ _ _ _).trans h' | cases h
def ct_rqsub : Ct := { args := [[.r], [.r]], res := [[.r]], F := f_qsub, L := 10000000, A := 2, B := 40 }
theorem ctF_rqsub : ct_rqsub.F = f_qsub := rfl
theorem ok_rqsub : ct_rqsub.ok Tryz.prog 73 := by
  refine ev_rqsub.weaken fun als r h => ?_
  have h' := h
  unfold f_qsub at h
  split at h <;> first | exact (rqsub_den _ _ _ _ _ _).trans h' | cases h
def f_qfrac : List At → Option (List At)
  | [.n z, .n y] => if inI z ∧ inI y then some [qa ((z : Rat) / (y : Rat))] else none
  | _ => none
theorem rqfrac_den (z y : Int) (h : inI z ∧ inI y) : tr_rqfrac.den GR3 (env0 [.n z, .n y]) = some [qa ((z : Rat) / (y : Rat))] := by
  obtain ⟨h1, h2⟩ := h
  have h0 : (-9223372036854775808 : Int) ≤ 0 ∧ (0 : Int) < 9223372036854775808 := by decide
  unfold inI at h1 h2
  by_cases hy : y = 0
  · simp only [tr_rqfrac, Tr.den, evAll, SA.ev, BE.ev, IE.ev, SE.ev, LE.ev, env0, extE_eq, pickO, evN, evB, evS, evLen, evBit, evLst, At.len, At.bit, At.lst, op1, op2, op3, Nat.reduceLeDiff, Nat.reduceSub, Nat.reduceEqDiff, if_true, if_false, ite_true, ite_false, decide_true, decide_false, Bool.not_true, Bool.not_false, Nat.zero_le, Nat.sub_zero, List.getElem?_cons_zero, List.getElem?_cons_succ, List.getElem?_nil, GR3_qmake, ctF_qmake, GR3_rqmake, ctF_rqmake, GR3_qof, ctF_qof, GR3_rqof, ctF_rqof, GR3_iofi, ctF_iofi, GR3_riof, ctF_riof, GR3_qcmp, ctF_qcmp, GR3_rqcmp, ctF_rqcmp, GR3_qadd, ctF_qadd, GR3_rqadd, ctF_rqadd, GR3_rqneg, ctF_rqneg, f_iof, f_qmake, f_qof, eq_true h1, eq_true h2, za, vz_can, eq_true hy, eq_true h0]
    have h3 : ¬ (3 : Int) = 0 := by decide
    simp only [h3, decide_false, Bool.not_false]
    rw [hy, show ((0 : Int) : Rat) = 0 from rfl, Rat.div_def, Rat.inv_zero, Rat.mul_zero]
  · simp only [tr_rqfrac, Tr.den, evAll, SA.ev, BE.ev, IE.ev, SE.ev, LE.ev, env0, extE_eq, pickO, evN, evB, evS, evLen, evBit, evLst, At.len, At.bit, At.lst, op1, op2, op3, Nat.reduceLeDiff, Nat.reduceSub, Nat.reduceEqDiff, if_true, if_false, ite_true, ite_false, decide_true, decide_false, Bool.not_true, Bool.not_false, Nat.zero_le, Nat.sub_zero, List.getElem?_cons_zero, List.getElem?_cons_succ, List.getElem?_nil, GR3_qmake, ctF_qmake, GR3_rqmake, ctF_rqmake, GR3_qof, ctF_qof, GR3_rqof, ctF_rqof, GR3_iofi, ctF_iofi, GR3_riof, ctF_riof, GR3_qcmp, ctF_qcmp, GR3_rqcmp, ctF_rqcmp, GR3_qadd, ctF_qadd, GR3_rqadd, ctF_rqadd, GR3_rqneg, ctF_rqneg, f_iof, f_qmake, f_qof, eq_true h1, eq_true h2, za, vz_can, hy, eq_true h0]
theorem qfrac_ok' {c : Gam} {t : Tr (List SA)} (h : ∀ z y, inI z ∧ inI y → t.den c (env0 [.n z, .n y]) = some [qa ((z : Rat) / (y : Rat))]) (als r : List At) (hF : f_qfrac als = some r) : t.den c (env0 als) = some r := by
  unfold f_qfrac at hF
  split at hF
  · split at hF
    · rename_i hz
      rw [← hF]; exact h _ _ hz
    · cases hF
  · cases hF
def ct_rqfrac : Ct := { args := [[.n], [.n]], res := [[.r]], F := f_qfrac, L := 100000000, A := 0, B := 20 }
theorem ok_rqfrac : ct_rqfrac.ok Tryz.prog 39 := ev_rqfrac.weaken (qfrac_ok' rqfrac_den)
def GR5 : Gam := gamOf [(58, ct_riright), (59, ct_rvalid), (61, ct_rgcd), (54, ct_rnof), (60, ct_rsame)]
theorem GR5_ok : GamOk Tryz.prog GR5 := gamOk_of ⟨ok_riright, ok_rvalid, ok_rgcd, ok_rnof, ok_rsame, trivial⟩
theorem GR5_riright : GR5 58 = some ct_riright := rfl
theorem GR5_rvalid : GR5 59 = some ct_rvalid := rfl
theorem GR5_rgcd : GR5 61 = some ct_rgcd := rfl
theorem GR5_rnof : GR5 54 = some ct_rnof := rfl
theorem GR5_rsame : GR5 60 = some ct_rsame := rfl
def tr_rqright : Tr (List SA) := (.call 58 [(.y (.bit 0) (.var 0 1))] 1 (.br (.var 1) (.call 59 [(.u (.var 0 2))] 2 (.br (.var 2) (.call 61 [(.u (.var 0 1)), (.u (.var 0 2))] 3 (.call 54 [(.w 1)] 4 (.call 60 [(.u (.var 3 0)), (.u (.var 4 0))] 5 (.br (.var 5) (.leaf [(.b (.lt (.lit 0) (.len 0 2)))]) (.leaf [(.b (.lit false))]))))) (.leaf [(.b (.lit false))]))) (.leaf [(.b (.lit false))])))
theorem ev_rqright : Ct.ok Tryz.prog 14 { args := [[.r]], res := [[.b]], F := fun als => tr_rqright.den GR5 (env0 als), L := 1000000000, A := 0, B := 0 } :=
  top_ok (by kernel_rfl) GR5_ok (plans := planF) (lf := 60) (k := 20) (by kernel_rfl)
/-- is a representation valid? -/
def qRight (a : Bool) (l m : List Nat) : Bool := iRight a l && (iRight false m && (decide (Nat.gcd (val l) (val m) = 1) && decide (0 < m.length)))
def f_qright : List At → Option (List At)
  | [.r a l m] => some [.b (qRight a l m)]
  | _ => none
theorem rqright_den (a : Bool) (l m : List Nat) : tr_rqright.den GR5 (env0 [.r a l m]) = f_qright [.r a l m] := by
  simp only [f_qright, qRight]
  have h1 : (0 : Int) ≤ 1 ∧ (1 : Int) < 18446744073709551616 := by decide
  have hp : ((0 : Int) < m.length) = (0 < m.length) := propext (by omega)
  simp only [tr_rqright, Tr.den, evAll, SA.ev, BE.ev, IE.ev, SE.ev, LE.ev, env0, extE_eq, pickO, evN, evB, evS, evLen, evBit, evLst, At.len, At.bit, At.lst, op1, op2, op3, Nat.reduceLeDiff, Nat.reduceSub, Nat.reduceEqDiff, if_true, if_false, ite_true, ite_false, decide_true, decide_false, Bool.not_true, Bool.not_false, Nat.zero_le, Nat.sub_zero, List.getElem?_cons_zero, List.getElem?_cons_succ, List.getElem?_nil, GR5_riright, ctF_riright, GR5_rvalid, ctF_rvalid, GR5_rgcd, ctF_rgcd, GR5_rnof, ctF_rnof, GR5_rsame, ctF_rsame, f_yb, f_ub, f_uuu, f_nof, f_uub, na, eq_true h1, lim_iff, show Int.toNat 1 = 1 from rfl, hp]
  cases iRight a l
  · rfl
  · cases iRight false m
    · rfl
    · by_cases h : Nat.gcd (val l) (val m) = 1
      · simp [h]
      · simp [h]
def ct_rqright : Ct := { args := [[.r]], res := [[.b]], F := f_qright, L := 1000000000, A := 0, B := 0 }
theorem ctF_rqright : ct_rqright.F = f_qright := rfl
theorem ok_rqright : ct_rqright.ok Tryz.prog 14 := by
  refine ev_rqright.weaken fun als r h => ?_
  have h' := h
  unfold f_qright at h
  split at h <;> first | exact (rqright_den _ _ _).trans h' | cases h
end Go.Proofs.YtifgdiejpglhfaaGreat
