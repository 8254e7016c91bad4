/- Rational numbers: the contracts. -/
import Derived.Test.YtkampmdekonjmaaRa3
namespace Go.Proofs.Ytkampmdekonjmaa
open Go Go.RowKit Go.V
set_option linter.unusedSimpArgs false
set_option linter.unusedVariables false
set_option maxRecDepth 20000
def f_yyb (g : Bool → List Nat → Bool → List Nat → Bool) : List At → Option (List At)
  | [.y a l, .y b m] => some [.b (g a l b m)]
  | _ => none
def f_qnorm : List At → Option (List At)
  | [.r a l m] => some [qa (qv a l m)]
  | _ => none
theorem rqnorm_den (a : Bool) (l m : List Nat) : tr_rqnorm.den GR2 (env0 [.r a l m]) = f_qnorm [.r a l m] := by
  simp only [f_qnorm]
  simp only [tr_rqnorm, Tr.den, evAll, SA.ev, BE.ev, IE.ev, SE.ev, LE.ev, env0, extE_eq, pickO, evN, evB, evS, evLen, evBit, evLst, At.len, At.bit, At.lst, op1, op2, op3, Nat.reduceLeDiff, Nat.reduceSub, Nat.reduceEqDiff, if_true, if_false, ite_true, ite_false, decide_true, decide_false, Bool.not_true, Bool.not_false, Nat.zero_le, Nat.sub_zero, List.getElem?_cons_zero, List.getElem?_cons_succ, List.getElem?_nil, GR2_reduced, ctF_reduced, GR2_over, ctF_over, GR2_nbits, ctF_nbits, GR2_unit, ctF_unit, GR2_one, ctF_one, GR2_isign, ctF_isign, GR2_icmpp, ctF_icmpp, GR2_imul, ctF_imul, GR2_iadd, ctF_iadd, GR2_nmul, ctF_nmul, GR2_iofi, ctF_iofi, GR2_nnorm, ctF_nnorm, GR2_inorm, ctF_inorm, GR2_risign, ctF_risign, GR2_rimul, ctF_rimul, GR2_riadd, ctF_riadd, GR2_rineg, ctF_rineg, GR2_rmul, ctF_rmul, GR2_riof, ctF_riof, GR2_rnof, ctF_rnof, GR2_rnorm, ctF_rnorm, GR2_rinorm, ctF_rinorm, GR2_rsame, ctF_rsame, f_yur, f_un, f_uu, f_ub, f_yb, f_yn, f_yyn, f_yyy, f_uuu, f_yy, f_idiv, f_iof, f_nof, f_sqrt, f_uub, na, za, blen0i, one_lim, vz_can, vz_lim, vz_nil, qv_can, val_lim, val_nil, len_lim0, decide_eq_true_eq]
def ct_qmake : Ct := { args := [[.y], [.y]], res := [[.r], [.n]], F := f_qmake, L := 100000000, A := 1, B := 4 }
theorem ctF_qmake : ct_qmake.F = f_qmake := rfl
theorem ok_qmake : ct_qmake.ok Try.prog 123 := by
  refine ev_qmake.weaken fun als r h => ?_
  have h' := h
  unfold f_qmake at h
  split at h <;> first | exact (qmake_den _ _ _ _).trans h' | cases h
def ct_rqmake : Ct := { args := [[.y], [.y]], res := [[.r], [.n]], F := f_qmake, L := 100000000, A := 1, B := 4 }
theorem ctF_rqmake : ct_rqmake.F = f_qmake := rfl
theorem ok_rqmake : ct_rqmake.ok Try.prog 48 := by
  refine ev_rqmake.weaken fun als r h => ?_
  have h' := h
  unfold f_qmake at h
  split at h <;> first | exact (rqmake_den _ _ _ _).trans h' | cases h
def ct_qsign : Ct := { args := [[.r]], res := [[.n]], F := f_qsign, L := 100000000, A := 0, B := 0 }
theorem ctF_qsign : ct_qsign.F = f_qsign := rfl
theorem ok_qsign : ct_qsign.ok Try.prog 44 := by
  refine ev_qsign.weaken fun als r h => ?_
  have h' := h
  unfold f_qsign at h
  split at h <;> first | exact (qsign_den _ _ _).trans h' | cases h
def ct_rqsign : Ct := { args := [[.r]], res := [[.n]], F := f_qsign, L := 100000000, A := 0, B := 0 }
theorem ctF_rqsign : ct_rqsign.F = f_qsign := rfl
theorem ok_rqsign : ct_rqsign.ok Try.prog 16 := by
  refine ev_rqsign.weaken fun als r h => ?_
  have h' := h
  unfold f_qsign at h
  split at h <;> first | exact (rqsign_den _ _ _).trans h' | cases h
def ct_qcmp : Ct := { args := [[.r], [.r]], res := [[.n]], F := f_qcmp, L := 100000000, A := 0, B := 0 }
theorem ctF_qcmp : ct_qcmp.F = f_qcmp := rfl
theorem ok_qcmp : ct_qcmp.ok Try.prog 135 := by
  refine ev_qcmp.weaken fun als r h => ?_
  have h' := h
  unfold f_qcmp at h
  split at h <;> first | exact (qcmp_den _ _ _ _ _ _).trans h' | cases h
def ct_rqneg : Ct := { args := [[.r]], res := [[.r]], F := f_qneg, L := 100000000, A := 1, B := 4 }
theorem ctF_rqneg : ct_rqneg.F = f_qneg := rfl
theorem ok_rqneg : ct_rqneg.ok Try.prog 79 := by
  refine ev_rqneg.weaken fun als r h => ?_
  have h' := h
  unfold f_qneg at h
  split at h <;> first | exact (rqneg_den _ _ _).trans h' | cases h
def ct_qadd : Ct := { args := [[.r], [.r]], res := [[.r]], F := f_qadd, L := 100000000, A := 2, B := 6 }
theorem ctF_qadd : ct_qadd.F = f_qadd := rfl
theorem ok_qadd : ct_qadd.ok Try.prog 83 := by
  refine ev_qadd.weaken fun als r h => ?_
  have h' := h
  unfold f_qadd at h
  split at h <;> first | exact (qadd_den _ _ _ _ _ _).trans h' | cases h
def ct_rqadd : Ct := { args := [[.r], [.r]], res := [[.r]], F := f_qadd, L := 100000000, A := 2, B := 20 }
theorem ctF_rqadd : ct_rqadd.F = f_qadd := rfl
theorem ok_rqadd : ct_rqadd.ok Try.prog 77 := by
  refine ev_rqadd.weaken fun als r h => ?_
  have h' := h
  unfold f_qadd at h
  split at h <;> first | exact (rqadd_den _ _ _ _ _ _).trans h' | cases h
def ct_qmul : Ct := { args := [[.r], [.r]], res := [[.r]], F := f_qmul, L := 100000000, A := 2, B := 4 }
theorem ctF_qmul : ct_qmul.F = f_qmul := rfl
theorem ok_qmul : ct_qmul.ok Try.prog 51 := by
  refine ev_qmul.weaken fun als r h => ?_
  have h' := h
  unfold f_qmul at h
  split at h <;> first | exact (qmul_den _ _ _ _ _ _).trans h' | cases h
def ct_rqmul : Ct := { args := [[.r], [.r]], res := [[.r]], F := f_qmul, L := 100000000, A := 2, B := 20 }
theorem ctF_rqmul : ct_rqmul.F = f_qmul := rfl
theorem ok_rqmul : ct_rqmul.ok Try.prog 78 := by
  refine ev_rqmul.weaken fun als r h => ?_
  have h' := h
  unfold f_qmul at h
  split at h <;> first | exact (rqmul_den _ _ _ _ _ _).trans h' | cases h
def ct_qdiv : Ct := { args := [[.r], [.r]], res := [[.r], [.n]], F := f_qdiv, L := 100000000, A := 2, B := 4 }
theorem ctF_qdiv : ct_qdiv.F = f_qdiv := rfl
theorem ok_qdiv : ct_qdiv.ok Try.prog 92 := by
  refine ev_qdiv.weaken fun als r h => ?_
  have h' := h
  unfold f_qdiv at h
  split at h <;> first | exact (qdiv_den _ _ _ _ _ _).trans h' | cases h
def ct_rqnorm : Ct := { args := [[.r]], res := [[.r]], F := f_qnorm, L := 100000000, A := 1, B := 4 }
theorem ctF_rqnorm : ct_rqnorm.F = f_qnorm := rfl
theorem ok_rqnorm : ct_rqnorm.ok Try.prog 38 := by
  refine ev_rqnorm.weaken fun als r h => ?_
  have h' := h
  unfold f_qnorm at h
  split at h <;> first | exact (rqnorm_den _ _ _).trans h' | cases h
def ct_qof : Ct := { args := [[.n]], res := [[.r]], F := f_qof, L := 100000000, A := 0, B := 4 }
theorem ctF_qof : ct_qof.F = f_qof := rfl
theorem ok_qof : ct_qof.ok Try.prog 52 := by
  refine ev_qof.weaken fun als r h => ?_
  have h' := h
  unfold f_qof at h
  split at h <;> first | exact qof_den _ _ h' | cases h
def ct_rqof : Ct := { args := [[.n]], res := [[.r]], F := f_qof, L := 100000000, A := 1, B := 8 }
theorem ctF_rqof : ct_rqof.F = f_qof := rfl
theorem ok_rqof : ct_rqof.ok Try.prog 39 := by
  refine ev_rqof.weaken fun als r h => ?_
  have h' := h
  unfold f_qof at h
  split at h <;> first | exact rqof_den _ _ h' | cases h
def GR3 : Gam := gamOf [(123, ct_qmake), (48, ct_rqmake), (52, ct_qof), (39, ct_rqof), (90, ct_iofi), (49, ct_riof), (135, ct_qcmp), (83, ct_qadd), (77, ct_rqadd), (79, ct_rqneg)]
theorem GR3_ok : GamOk Try.prog GR3 := gamOk_of ⟨ok_qmake, ok_rqmake, ok_qof, ok_rqof, ok_iofi, ok_riof, ok_qcmp, ok_qadd, ok_rqadd, ok_rqneg, trivial⟩
theorem GR3_qmake : GR3 123 = some ct_qmake := rfl
theorem GR3_rqmake : GR3 48 = some ct_rqmake := rfl
theorem GR3_qof : GR3 52 = some ct_qof := rfl
theorem GR3_rqof : GR3 39 = some ct_rqof := rfl
theorem GR3_iofi : GR3 90 = some ct_iofi := rfl
theorem GR3_riof : GR3 49 = some ct_riof := rfl
theorem GR3_qcmp : GR3 135 = some ct_qcmp := rfl
theorem GR3_qadd : GR3 83 = some ct_qadd := rfl
theorem GR3_rqadd : GR3 77 = some ct_rqadd := rfl
theorem GR3_rqneg : GR3 79 = some ct_rqneg := rfl
def tr_qequal : Tr (List SA) := (.call 135 [(.ob 0), (.ob 1)] 2 (.leaf [(.b (.eq (.var 2) (.lit 0)))]))
theorem ev_qequal : Ct.ok Try.prog 120 { args := [[.r], [.r]], res := [[.b]], F := fun als => tr_qequal.den GR3 (env0 als), L := 100000000, A := 0, B := 0 } :=
  top_ok (by kernel_rfl) GR3_ok (plans := planF) (lf := 60) (k := 20) (by kernel_rfl)
def tr_qsub : Tr (List SA) := (.call 83 [(.ob 0), (.r (.not (.bit 1)) (.var 1 1) (.var 1 2))] 2 (.leaf [(.ob 2)]))
theorem ev_qsub : Ct.ok Try.prog 55 { args := [[.r], [.r]], res := [[.r]], F := fun als => tr_qsub.den GR3 (env0 als), L := 100000000, A := 2, B := 6 } :=
  top_ok (by kernel_rfl) GR3_ok (plans := planF) (lf := 60) (k := 20) (by kernel_rfl)
def tr_rqsub : Tr (List SA) := (.call 79 [(.ob 1)] 2 (.call 77 [(.ob 0), (.ob 2)] 3 (.leaf [(.ob 3)])))
theorem ev_rqsub : Ct.ok Try.prog 80 { args := [[.r], [.r]], res := [[.r]], F := fun als => tr_rqsub.den GR3 (env0 als), L := 10000000, A := 2, B := 40 } :=
  top_ok (by kernel_rfl) GR3_ok (plans := planF) (lf := 60) (k := 20) (by kernel_rfl)
def tr_rqfrac : Tr (List SA) := (.call 49 [(.n (.var 0))] 2 (.call 49 [(.n (.var 1))] 3 (.call 48 [(.ob 2), (.ob 3)] 4 (.br (.not (.eq (.var 5) (.lit 0))) (.call 39 [(.n (.lit 0))] 6 (.leaf [(.ob 6)])) (.leaf [(.ob 4)])))))
theorem ev_rqfrac : Ct.ok Try.prog 24 { args := [[.n], [.n]], res := [[.r]], F := fun als => tr_rqfrac.den GR3 (env0 als), L := 100000000, A := 0, B := 20 } :=
  top_ok (by kernel_rfl) GR3_ok (plans := planF) (lf := 60) (k := 20) (by kernel_rfl)
def f_qequal : List At → Option (List At)
  | [.r a l m, .r b k n] => some [.b (decide (qv a l m = qv b k n))]
  | _ => none
theorem qcmp_0 (x y : Rat) : (qcmpv x y = 0) = (x = y) := by
  apply propext
  unfold qcmpv
  by_cases h : x < y
  · rw [if_pos h]; constructor
    · intro h; cases h
    · rintro rfl; exact absurd h (Rat.lt_irrefl)
  · rw [if_neg h]
    by_cases h' : y < x
    · rw [if_pos h']; constructor
      · intro h; cases h
      · rintro rfl; exact absurd h' (Rat.lt_irrefl)
    · rw [if_neg h']
      constructor
      · intro _; exact Rat.le_antisymm (Rat.not_lt.1 h') (Rat.not_lt.1 h)
      · intro _; rfl
theorem qequal_den (a b : Bool) (l m k n : List Nat) : tr_qequal.den GR3 (env0 [.r a l m, .r b k n]) = f_qequal [.r a l m, .r b k n] := by
  simp only [f_qequal]
  simp only [tr_qequal, Tr.den, evAll, SA.ev, BE.ev, IE.ev, SE.ev, LE.ev, env0, extE_eq, pickO, evN, evB, evS, evLen, evBit, evLst, At.len, At.bit, At.lst, op1, op2, op3, Nat.reduceLeDiff, Nat.reduceSub, Nat.reduceEqDiff, if_true, if_false, ite_true, ite_false, decide_true, decide_false, Bool.not_true, Bool.not_false, Nat.zero_le, Nat.sub_zero, List.getElem?_cons_zero, List.getElem?_cons_succ, List.getElem?_nil, GR3_qmake, ctF_qmake, GR3_rqmake, ctF_rqmake, GR3_qof, ctF_qof, GR3_rqof, ctF_rqof, GR3_iofi, ctF_iofi, GR3_riof, ctF_riof, GR3_qcmp, ctF_qcmp, GR3_qadd, ctF_qadd, GR3_rqadd, ctF_rqadd, GR3_rqneg, ctF_rqneg, f_qcmp, qcmp_0]
def f_qsub : List At → Option (List At)
  | [.r a l m, .r b k n] => some [qa (qv a l m - qv b k n)]
  | _ => none
theorem qsub_den (a b : Bool) (l m k n : List Nat) : tr_qsub.den GR3 (env0 [.r a l m, .r b k n]) = f_qsub [.r a l m, .r b k n] := by
  simp only [f_qsub]
  simp only [tr_qsub, Tr.den, evAll, SA.ev, BE.ev, IE.ev, SE.ev, LE.ev, env0, extE_eq, pickO, evN, evB, evS, evLen, evBit, evLst, At.len, At.bit, At.lst, op1, op2, op3, Nat.reduceLeDiff, Nat.reduceSub, Nat.reduceEqDiff, if_true, if_false, ite_true, ite_false, decide_true, decide_false, Bool.not_true, Bool.not_false, Nat.zero_le, Nat.sub_zero, List.getElem?_cons_zero, List.getElem?_cons_succ, List.getElem?_nil, GR3_qmake, ctF_qmake, GR3_rqmake, ctF_rqmake, GR3_qof, ctF_qof, GR3_rqof, ctF_rqof, GR3_iofi, ctF_iofi, GR3_riof, ctF_riof, GR3_qcmp, ctF_qcmp, GR3_qadd, ctF_qadd, GR3_rqadd, ctF_rqadd, GR3_rqneg, ctF_rqneg, f_qadd, qv_not]
  rw [Rat.sub_eq_add_neg]
theorem rqsub_den (a b : Bool) (l m k n : List Nat) : tr_rqsub.den GR3 (env0 [.r a l m, .r b k n]) = f_qsub [.r a l m, .r b k n] := by
  simp only [f_qsub]
  simp only [tr_rqsub, Tr.den, evAll, SA.ev, BE.ev, IE.ev, SE.ev, LE.ev, env0, extE_eq, pickO, evN, evB, evS, evLen, evBit, evLst, At.len, At.bit, At.lst, op1, op2, op3, Nat.reduceLeDiff, Nat.reduceSub, Nat.reduceEqDiff, if_true, if_false, ite_true, ite_false, decide_true, decide_false, Bool.not_true, Bool.not_false, Nat.zero_le, Nat.sub_zero, List.getElem?_cons_zero, List.getElem?_cons_succ, List.getElem?_nil, GR3_qmake, ctF_qmake, GR3_rqmake, ctF_rqmake, GR3_qof, ctF_qof, GR3_rqof, ctF_rqof, GR3_iofi, ctF_iofi, GR3_riof, ctF_riof, GR3_qcmp, ctF_qcmp, GR3_qadd, ctF_qadd, GR3_rqadd, ctF_rqadd, GR3_rqneg, ctF_rqneg, f_qadd, f_qneg, qa, qv_qa]
  rw [Rat.sub_eq_add_neg]
def ct_qequal : Ct := { args := [[.r], [.r]], res := [[.b]], F := f_qequal, L := 100000000, A := 0, B := 0 }
theorem ctF_qequal : ct_qequal.F = f_qequal := rfl
theorem ok_qequal : ct_qequal.ok Try.prog 120 := by
  refine ev_qequal.weaken fun als r h => ?_
  have h' := h
  unfold f_qequal at h
  split at h <;> first | exact (qequal_den _ _ _ _ _ _).trans h' | cases h
def ct_qsub : Ct := { args := [[.r], [.r]], res := [[.r]], F := f_qsub, L := 100000000, A := 2, B := 6 }
theorem ctF_qsub : ct_qsub.F = f_qsub := rfl
theorem ok_qsub : ct_qsub.ok Try.prog 55 := by
  refine ev_qsub.weaken fun als r h => ?_
  have h' := h
  unfold f_qsub at h
  split at h <;> first | exact (qsub_den _ _ _ _ _ _).trans h' | cases h
def ct_rqsub : Ct := { args := [[.r], [.r]], res := [[.r]], F := f_qsub, L := 10000000, A := 2, B := 40 }
theorem ctF_rqsub : ct_rqsub.F = f_qsub := rfl
theorem ok_rqsub : ct_rqsub.ok Try.prog 80 := by
  refine ev_rqsub.weaken fun als r h => ?_
  have h' := h
  unfold f_qsub at h
  split at h <;> first | exact (rqsub_den _ _ _ _ _ _).trans h' | cases h
def f_qfrac : List At → Option (List At)
  | [.n z, .n y] => if inI z ∧ inI y then some [qa ((z : Rat) / (y : Rat))] else none
  | _ => none
theorem rqfrac_den (z y : Int) (h : inI z ∧ inI y) : tr_rqfrac.den GR3 (env0 [.n z, .n y]) = some [qa ((z : Rat) / (y : Rat))] := by
  obtain ⟨h1, h2⟩ := h
  have h0 : (-9223372036854775808 : Int) ≤ 0 ∧ (0 : Int) < 9223372036854775808 := by decide
  unfold inI at h1 h2
  by_cases hy : y = 0
  · simp only [tr_rqfrac, Tr.den, evAll, SA.ev, BE.ev, IE.ev, SE.ev, LE.ev, env0, extE_eq, pickO, evN, evB, evS, evLen, evBit, evLst, At.len, At.bit, At.lst, op1, op2, op3, Nat.reduceLeDiff, Nat.reduceSub, Nat.reduceEqDiff, if_true, if_false, ite_true, ite_false, decide_true, decide_false, Bool.not_true, Bool.not_false, Nat.zero_le, Nat.sub_zero, List.getElem?_cons_zero, List.getElem?_cons_succ, List.getElem?_nil, GR3_qmake, ctF_qmake, GR3_rqmake, ctF_rqmake, GR3_qof, ctF_qof, GR3_rqof, ctF_rqof, GR3_iofi, ctF_iofi, GR3_riof, ctF_riof, GR3_qcmp, ctF_qcmp, GR3_qadd, ctF_qadd, GR3_rqadd, ctF_rqadd, GR3_rqneg, ctF_rqneg, f_iof, f_qmake, f_qof, eq_true h1, eq_true h2, za, vz_can, eq_true hy, eq_true h0]
    have h3 : ¬ (3 : Int) = 0 := by decide
    simp only [h3, decide_false, Bool.not_false]
    rw [hy, show ((0 : Int) : Rat) = 0 from rfl, Rat.div_def, Rat.inv_zero, Rat.mul_zero]
  · simp only [tr_rqfrac, Tr.den, evAll, SA.ev, BE.ev, IE.ev, SE.ev, LE.ev, env0, extE_eq, pickO, evN, evB, evS, evLen, evBit, evLst, At.len, At.bit, At.lst, op1, op2, op3, Nat.reduceLeDiff, Nat.reduceSub, Nat.reduceEqDiff, if_true, if_false, ite_true, ite_false, decide_true, decide_false, Bool.not_true, Bool.not_false, Nat.zero_le, Nat.sub_zero, List.getElem?_cons_zero, List.getElem?_cons_succ, List.getElem?_nil, GR3_qmake, ctF_qmake, GR3_rqmake, ctF_rqmake, GR3_qof, ctF_qof, GR3_rqof, ctF_rqof, GR3_iofi, ctF_iofi, GR3_riof, ctF_riof, GR3_qcmp, ctF_qcmp, GR3_qadd, ctF_qadd, GR3_rqadd, ctF_rqadd, GR3_rqneg, ctF_rqneg, f_iof, f_qmake, f_qof, eq_true h1, eq_true h2, za, vz_can, hy, eq_true h0]
theorem qfrac_ok' {c : Gam} {t : Tr (List SA)} (h : ∀ z y, inI z ∧ inI y → t.den c (env0 [.n z, .n y]) = some [qa ((z : Rat) / (y : Rat))]) (als r : List At) (hF : f_qfrac als = some r) : t.den c (env0 als) = some r := by
  unfold f_qfrac at hF
  split at hF
  · split at hF
    · rename_i hz
      rw [← hF]; exact h _ _ hz
    · cases hF
  · cases hF
def ct_rqfrac : Ct := { args := [[.n], [.n]], res := [[.r]], F := f_qfrac, L := 100000000, A := 0, B := 20 }
theorem ctF_rqfrac : ct_rqfrac.F = f_qfrac := rfl
theorem ok_rqfrac : ct_rqfrac.ok Try.prog 24 := ev_rqfrac.weaken (qfrac_ok' rqfrac_den)
def GR5 : Gam := gamOf [(61, ct_riright), (62, ct_rvalid), (64, ct_rgcd), (65, ct_rnof), (63, ct_rsame)]
theorem GR5_ok : GamOk Try.prog GR5 := gamOk_of ⟨ok_riright, ok_rvalid, ok_rgcd, ok_rnof, ok_rsame, trivial⟩
theorem GR5_riright : GR5 61 = some ct_riright := rfl
theorem GR5_rvalid : GR5 62 = some ct_rvalid := rfl
theorem GR5_rgcd : GR5 64 = some ct_rgcd := rfl
theorem GR5_rnof : GR5 65 = some ct_rnof := rfl
theorem GR5_rsame : GR5 63 = some ct_rsame := rfl
def tr_rqright : Tr (List SA) := (.call 61 [(.y (.bit 0) (.var 0 1))] 1 (.br (.var 1) (.call 62 [(.u (.var 0 2))] 2 (.br (.var 2) (.call 64 [(.u (.var 0 1)), (.u (.var 0 2))] 3 (.call 65 [(.w 1)] 4 (.call 63 [(.u (.var 3 0)), (.u (.var 4 0))] 5 (.br (.var 5) (.leaf [(.b (.lt (.lit 0) (.len 0 2)))]) (.leaf [(.b (.lit false))]))))) (.leaf [(.b (.lit false))]))) (.leaf [(.b (.lit false))])))
theorem ev_rqright : Ct.ok Try.prog 30 { args := [[.r]], res := [[.b]], F := fun als => tr_rqright.den GR5 (env0 als), L := 1000000000, A := 0, B := 0 } :=
  top_ok (by kernel_rfl) GR5_ok (plans := planF) (lf := 60) (k := 20) (by kernel_rfl)
/-- is a representation valid? -/
def qRight (a : Bool) (l m : List Nat) : Bool := iRight a l && (iRight false m && (decide (Nat.gcd (val l) (val m) = 1) && decide (0 < m.length)))
def f_qright : List At → Option (List At)
  | [.r a l m] => some [.b (qRight a l m)]
  | _ => none
theorem rqright_den (a : Bool) (l m : List Nat) : tr_rqright.den GR5 (env0 [.r a l m]) = f_qright [.r a l m] := by
  simp only [f_qright, qRight]
  have h1 : (0 : Int) ≤ 1 ∧ (1 : Int) < 18446744073709551616 := by decide
  have hp : ((0 : Int) < m.length) = (0 < m.length) := propext (by omega)
  simp only [tr_rqright, Tr.den, evAll, SA.ev, BE.ev, IE.ev, SE.ev, LE.ev, env0, extE_eq, pickO, evN, evB, evS, evLen, evBit, evLst, At.len, At.bit, At.lst, op1, op2, op3, Nat.reduceLeDiff, Nat.reduceSub, Nat.reduceEqDiff, if_true, if_false, ite_true, ite_false, decide_true, decide_false, Bool.not_true, Bool.not_false, Nat.zero_le, Nat.sub_zero, List.getElem?_cons_zero, List.getElem?_cons_succ, List.getElem?_nil, GR5_riright, ctF_riright, GR5_rvalid, ctF_rvalid, GR5_rgcd, ctF_rgcd, GR5_rnof, ctF_rnof, GR5_rsame, ctF_rsame, f_yb, f_ub, f_uuu, f_nof, f_uub, na, eq_true h1, lim_iff, show Int.toNat 1 = 1 from rfl, hp]
  cases iRight a l
  · rfl
  · cases iRight false m
    · rfl
    · by_cases h : Nat.gcd (val l) (val m) = 1
      · simp [h]
      · simp [h]
def ct_rqright : Ct := { args := [[.r]], res := [[.b]], F := f_qright, L := 1000000000, A := 0, B := 0 }
theorem ctF_rqright : ct_rqright.F = f_qright := rfl
theorem ok_rqright : ct_rqright.ok Try.prog 30 := by
  refine ev_rqright.weaken fun als r h => ?_
  have h' := h
  unfold f_qright at h
  split at h <;> first | exact (rqright_den _ _ _).trans h' | cases h
end Go.Proofs.Ytkampmdekonjmaa
