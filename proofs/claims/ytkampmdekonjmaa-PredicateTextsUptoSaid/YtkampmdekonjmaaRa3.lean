/- Rational numbers: what the arithmetic answers. -/
import Derived.Test.YtkampmdekonjmaaRa2
namespace Go.Proofs.Ytkampmdekonjmaa
open Go Go.RowKit Go.V
set_option linter.unusedSimpArgs false
set_option linter.unusedVariables false
set_option maxRecDepth 20000

theorem blen0i (x : Nat) : ((blen x : Int) = 0) = (x = 0) := by
  apply propext
  rw [← blen0 x]; omega
theorem vz_lim (x : Nat) : vz false (lim x) = x := by unfold vz; rw [val_lim]; rfl
theorem val_nil : val [] = 0 := rfl
theorem vz_nil (a : Bool) : vz a [] = 0 := by unfold vz iv; cases a <;> rfl
theorem vz_not (a : Bool) (l : List Nat) : vz (!a) l = - vz a l := by unfold vz; exact iv_not a (val l)
theorem qv_can (z : Int) (d : Nat) : qv (decide (z < 0)) (lim z.natAbs) (lim d) = mkRat z d := by unfold qv; rw [vz_can, val_lim]
theorem nz_cast {d : Nat} (h : d ≠ 0) : (d : Rat) ≠ 0 := fun e => h (by exact_mod_cast e)
theorem sg_0i (z : Int) : (sg z = 0) = (z = 0) := by
  apply propext
  unfold sg; split <;> (try split) <;> simp_all
theorem qof_eq (z : Int) : qa (z : Rat) = .r (decide (z < 0)) (lim z.natAbs) (lim 1) := rfl

/-! ### make -/
def f_qmake : List At → Option (List At)
  | [.y a l, .y b m] => some (if vz b m = 0 then [.r false [] [], .n 3] else [qa ((vz a l : Rat) / (vz b m : Rat)), .n 0])
  | _ => none
theorem make_eq (a b : Bool) (l m : List Nat) : qv (!(a == b)) l m = (vz a l : Rat) / (vz b m : Rat) := by
  unfold qv vz iv
  rw [Rat.mkRat_eq_div]
  cases a <;> cases b <;> simp [Rat.intCast_neg, Rat.intCast_natCast] <;> grind
theorem vz_0 (b : Bool) (m : List Nat) : (vz b m = 0) = (val m = 0) := by
  apply propext
  unfold vz iv; cases b <;> simp
theorem qmake_den (a b : Bool) (l m : List Nat) : tr_qmake.den GR2 (env0 [.y a l, .y b m]) = f_qmake [.y a l, .y b m] := by
  unfold f_qmake
  by_cases h : vz b m = 0
  · simp only [tr_qmake, Tr.den, evAll, SA.ev, BE.ev, IE.ev, SE.ev, LE.ev, env0, extE_eq, pickO, evN, evB, evS, evLen, evBit, evLst, At.len, At.bit, At.lst, op1, op2, op3, Nat.reduceLeDiff, Nat.reduceSub, Nat.reduceEqDiff, if_true, if_false, ite_true, ite_false, decide_true, decide_false, Bool.not_true, Bool.not_false, Nat.zero_le, Nat.sub_zero, List.getElem?_cons_zero, List.getElem?_cons_succ, List.getElem?_nil, GR2_reduced, ctF_reduced, GR2_over, ctF_over, GR2_nbits, ctF_nbits, GR2_unit, ctF_unit, GR2_one, ctF_one, GR2_isign, ctF_isign, GR2_icmpp, ctF_icmpp, GR2_imul, ctF_imul, GR2_iadd, ctF_iadd, GR2_nmul, ctF_nmul, GR2_iofi, ctF_iofi, GR2_nnorm, ctF_nnorm, GR2_inorm, ctF_inorm, GR2_risign, ctF_risign, GR2_rimul, ctF_rimul, GR2_riadd, ctF_riadd, GR2_rineg, ctF_rineg, GR2_rmul, ctF_rmul, GR2_riof, ctF_riof, GR2_rnof, ctF_rnof, GR2_rnorm, ctF_rnorm, GR2_rinorm, ctF_rinorm, GR2_rsame, ctF_rsame, f_yur, f_un, f_uu, f_ub, f_yb, f_yn, f_yyn, f_yyy, f_uuu, f_yy, f_idiv, f_iof, f_nof, f_sqrt, f_uub, na, za, blen0i, one_lim, vz_can, vz_lim, vz_nil, qv_can, val_lim, val_nil, len_lim0, decide_eq_true_eq, sg_0i, eq_true h]
  · simp only [tr_qmake, Tr.den, evAll, SA.ev, BE.ev, IE.ev, SE.ev, LE.ev, env0, extE_eq, pickO, evN, evB, evS, evLen, evBit, evLst, At.len, At.bit, At.lst, op1, op2, op3, Nat.reduceLeDiff, Nat.reduceSub, Nat.reduceEqDiff, if_true, if_false, ite_true, ite_false, decide_true, decide_false, Bool.not_true, Bool.not_false, Nat.zero_le, Nat.sub_zero, List.getElem?_cons_zero, List.getElem?_cons_succ, List.getElem?_nil, GR2_reduced, ctF_reduced, GR2_over, ctF_over, GR2_nbits, ctF_nbits, GR2_unit, ctF_unit, GR2_one, ctF_one, GR2_isign, ctF_isign, GR2_icmpp, ctF_icmpp, GR2_imul, ctF_imul, GR2_iadd, ctF_iadd, GR2_nmul, ctF_nmul, GR2_iofi, ctF_iofi, GR2_nnorm, ctF_nnorm, GR2_inorm, ctF_inorm, GR2_risign, ctF_risign, GR2_rimul, ctF_rimul, GR2_riadd, ctF_riadd, GR2_rineg, ctF_rineg, GR2_rmul, ctF_rmul, GR2_riof, ctF_riof, GR2_rnof, ctF_rnof, GR2_rnorm, ctF_rnorm, GR2_rinorm, ctF_rinorm, GR2_rsame, ctF_rsame, f_yur, f_un, f_uu, f_ub, f_yb, f_yn, f_yyn, f_yyy, f_uuu, f_yy, f_idiv, f_iof, f_nof, f_sqrt, f_uub, na, za, blen0i, one_lim, vz_can, vz_lim, vz_nil, qv_can, val_lim, val_nil, len_lim0, decide_eq_true_eq, sg_0i, h, make_eq]
theorem make_eqR (a b : Bool) (l m : List Nat) : mkRat (if b = true then vz (!a) l else vz a l) (val m) = (vz a l : Rat) / (vz b m : Rat) := by
  rw [Rat.mkRat_eq_div, vz_not]
  unfold vz iv
  cases a <;> cases b <;> simp [Rat.intCast_neg, Rat.intCast_natCast] <;> grind
theorem rqmake_den (a b : Bool) (l m : List Nat) : tr_rqmake.den GR2 (env0 [.y a l, .y b m]) = f_qmake [.y a l, .y b m] := by
  unfold f_qmake
  have hk := make_eqR a b l m
  by_cases h : vz b m = 0
  · simp only [tr_rqmake, Tr.den, evAll, SA.ev, BE.ev, IE.ev, SE.ev, LE.ev, env0, extE_eq, pickO, evN, evB, evS, evLen, evBit, evLst, At.len, At.bit, At.lst, op1, op2, op3, Nat.reduceLeDiff, Nat.reduceSub, Nat.reduceEqDiff, if_true, if_false, ite_true, ite_false, decide_true, decide_false, Bool.not_true, Bool.not_false, Nat.zero_le, Nat.sub_zero, List.getElem?_cons_zero, List.getElem?_cons_succ, List.getElem?_nil, GR2_reduced, ctF_reduced, GR2_over, ctF_over, GR2_nbits, ctF_nbits, GR2_unit, ctF_unit, GR2_one, ctF_one, GR2_isign, ctF_isign, GR2_icmpp, ctF_icmpp, GR2_imul, ctF_imul, GR2_iadd, ctF_iadd, GR2_nmul, ctF_nmul, GR2_iofi, ctF_iofi, GR2_nnorm, ctF_nnorm, GR2_inorm, ctF_inorm, GR2_risign, ctF_risign, GR2_rimul, ctF_rimul, GR2_riadd, ctF_riadd, GR2_rineg, ctF_rineg, GR2_rmul, ctF_rmul, GR2_riof, ctF_riof, GR2_rnof, ctF_rnof, GR2_rnorm, ctF_rnorm, GR2_rinorm, ctF_rinorm, GR2_rsame, ctF_rsame, f_yur, f_un, f_uu, f_ub, f_yb, f_yn, f_yyn, f_yyy, f_uuu, f_yy, f_idiv, f_iof, f_nof, f_sqrt, f_uub, na, za, blen0i, one_lim, vz_can, vz_lim, vz_nil, qv_can, val_lim, val_nil, len_lim0, decide_eq_true_eq, sg_0i, eq_true h]
  · cases b
    · simp only [Bool.false_eq_true, if_false] at hk
      simp only [tr_rqmake, Tr.den, evAll, SA.ev, BE.ev, IE.ev, SE.ev, LE.ev, env0, extE_eq, pickO, evN, evB, evS, evLen, evBit, evLst, At.len, At.bit, At.lst, op1, op2, op3, Nat.reduceLeDiff, Nat.reduceSub, Nat.reduceEqDiff, if_true, if_false, ite_true, ite_false, decide_true, decide_false, Bool.not_true, Bool.not_false, Nat.zero_le, Nat.sub_zero, List.getElem?_cons_zero, List.getElem?_cons_succ, List.getElem?_nil, GR2_reduced, ctF_reduced, GR2_over, ctF_over, GR2_nbits, ctF_nbits, GR2_unit, ctF_unit, GR2_one, ctF_one, GR2_isign, ctF_isign, GR2_icmpp, ctF_icmpp, GR2_imul, ctF_imul, GR2_iadd, ctF_iadd, GR2_nmul, ctF_nmul, GR2_iofi, ctF_iofi, GR2_nnorm, ctF_nnorm, GR2_inorm, ctF_inorm, GR2_risign, ctF_risign, GR2_rimul, ctF_rimul, GR2_riadd, ctF_riadd, GR2_rineg, ctF_rineg, GR2_rmul, ctF_rmul, GR2_riof, ctF_riof, GR2_rnof, ctF_rnof, GR2_rnorm, ctF_rnorm, GR2_rinorm, ctF_rinorm, GR2_rsame, ctF_rsame, f_yur, f_un, f_uu, f_ub, f_yb, f_yn, f_yyn, f_yyy, f_uuu, f_yy, f_idiv, f_iof, f_nof, f_sqrt, f_uub, na, za, blen0i, one_lim, vz_can, vz_lim, vz_nil, qv_can, val_lim, val_nil, len_lim0, decide_eq_true_eq, sg_0i, h]
      rw [← hk]; rfl
    · simp only [if_true] at hk
      simp only [tr_rqmake, Tr.den, evAll, SA.ev, BE.ev, IE.ev, SE.ev, LE.ev, env0, extE_eq, pickO, evN, evB, evS, evLen, evBit, evLst, At.len, At.bit, At.lst, op1, op2, op3, Nat.reduceLeDiff, Nat.reduceSub, Nat.reduceEqDiff, if_true, if_false, ite_true, ite_false, decide_true, decide_false, Bool.not_true, Bool.not_false, Nat.zero_le, Nat.sub_zero, List.getElem?_cons_zero, List.getElem?_cons_succ, List.getElem?_nil, GR2_reduced, ctF_reduced, GR2_over, ctF_over, GR2_nbits, ctF_nbits, GR2_unit, ctF_unit, GR2_one, ctF_one, GR2_isign, ctF_isign, GR2_icmpp, ctF_icmpp, GR2_imul, ctF_imul, GR2_iadd, ctF_iadd, GR2_nmul, ctF_nmul, GR2_iofi, ctF_iofi, GR2_nnorm, ctF_nnorm, GR2_inorm, ctF_inorm, GR2_risign, ctF_risign, GR2_rimul, ctF_rimul, GR2_riadd, ctF_riadd, GR2_rineg, ctF_rineg, GR2_rmul, ctF_rmul, GR2_riof, ctF_riof, GR2_rnof, ctF_rnof, GR2_rnorm, ctF_rnorm, GR2_rinorm, ctF_rinorm, GR2_rsame, ctF_rsame, f_yur, f_un, f_uu, f_ub, f_yb, f_yn, f_yyn, f_yyy, f_uuu, f_yy, f_idiv, f_iof, f_nof, f_sqrt, f_uub, na, za, blen0i, one_lim, vz_can, vz_lim, vz_nil, qv_can, val_lim, val_nil, len_lim0, decide_eq_true_eq, sg_0i, h]
      rw [← hk]
      unfold qv; rw [vz_can]
def f_qof : List At → Option (List At)
  | [.n z] => if -9223372036854775808 ≤ z ∧ z < 9223372036854775808 then some [qa (z : Rat)] else none
  | _ => none
theorem qof_den (z : Int) (r : List At) (h : f_qof [.n z] = some r) : tr_qof.den GR2 (env0 [.n z]) = some r := by
  simp only [f_qof] at h
  by_cases hz : -9223372036854775808 ≤ z ∧ z < 9223372036854775808
  · rw [if_pos hz, qof_eq] at h
    simp only [tr_qof, Tr.den, evAll, SA.ev, BE.ev, IE.ev, SE.ev, LE.ev, env0, extE_eq, pickO, evN, evB, evS, evLen, evBit, evLst, At.len, At.bit, At.lst, op1, op2, op3, Nat.reduceLeDiff, Nat.reduceSub, Nat.reduceEqDiff, if_true, if_false, ite_true, ite_false, decide_true, decide_false, Bool.not_true, Bool.not_false, Nat.zero_le, Nat.sub_zero, List.getElem?_cons_zero, List.getElem?_cons_succ, List.getElem?_nil, GR2_reduced, ctF_reduced, GR2_over, ctF_over, GR2_nbits, ctF_nbits, GR2_unit, ctF_unit, GR2_one, ctF_one, GR2_isign, ctF_isign, GR2_icmpp, ctF_icmpp, GR2_imul, ctF_imul, GR2_iadd, ctF_iadd, GR2_nmul, ctF_nmul, GR2_iofi, ctF_iofi, GR2_nnorm, ctF_nnorm, GR2_inorm, ctF_inorm, GR2_risign, ctF_risign, GR2_rimul, ctF_rimul, GR2_riadd, ctF_riadd, GR2_rineg, ctF_rineg, GR2_rmul, ctF_rmul, GR2_riof, ctF_riof, GR2_rnof, ctF_rnof, GR2_rnorm, ctF_rnorm, GR2_rinorm, ctF_rinorm, GR2_rsame, ctF_rsame, f_yur, f_un, f_uu, f_ub, f_yb, f_yn, f_yyn, f_yyy, f_uuu, f_yy, f_idiv, f_iof, f_nof, f_sqrt, f_uub, na, za, blen0i, one_lim, vz_can, vz_lim, vz_nil, qv_can, val_lim, val_nil, len_lim0, decide_eq_true_eq, eq_true hz]
    exact h
  · rw [if_neg hz] at h; cases h
theorem rqof_den (z : Int) (r : List At) (h : f_qof [.n z] = some r) : tr_rqof.den GR2 (env0 [.n z]) = some r := by
  simp only [f_qof] at h
  by_cases hz : -9223372036854775808 ≤ z ∧ z < 9223372036854775808
  · rw [if_pos hz] at h
    have h1 : (0 : Int) ≤ 1 ∧ (1 : Int) < 18446744073709551616 := by decide
    simp only [tr_rqof, Tr.den, evAll, SA.ev, BE.ev, IE.ev, SE.ev, LE.ev, env0, extE_eq, pickO, evN, evB, evS, evLen, evBit, evLst, At.len, At.bit, At.lst, op1, op2, op3, Nat.reduceLeDiff, Nat.reduceSub, Nat.reduceEqDiff, if_true, if_false, ite_true, ite_false, decide_true, decide_false, Bool.not_true, Bool.not_false, Nat.zero_le, Nat.sub_zero, List.getElem?_cons_zero, List.getElem?_cons_succ, List.getElem?_nil, GR2_reduced, ctF_reduced, GR2_over, ctF_over, GR2_nbits, ctF_nbits, GR2_unit, ctF_unit, GR2_one, ctF_one, GR2_isign, ctF_isign, GR2_icmpp, ctF_icmpp, GR2_imul, ctF_imul, GR2_iadd, ctF_iadd, GR2_nmul, ctF_nmul, GR2_iofi, ctF_iofi, GR2_nnorm, ctF_nnorm, GR2_inorm, ctF_inorm, GR2_risign, ctF_risign, GR2_rimul, ctF_rimul, GR2_riadd, ctF_riadd, GR2_rineg, ctF_rineg, GR2_rmul, ctF_rmul, GR2_riof, ctF_riof, GR2_rnof, ctF_rnof, GR2_rnorm, ctF_rnorm, GR2_rinorm, ctF_rinorm, GR2_rsame, ctF_rsame, f_yur, f_un, f_uu, f_ub, f_yb, f_yn, f_yyn, f_yyy, f_uuu, f_yy, f_idiv, f_iof, f_nof, f_sqrt, f_uub, na, za, blen0i, one_lim, vz_can, vz_lim, vz_nil, qv_can, val_lim, val_nil, len_lim0, decide_eq_true_eq, eq_true hz, eq_true h1]
    rw [← h]
    rw [show Int.toNat 1 = 1 from rfl, show mkRat z 1 = (z : Rat) from by rw [Rat.mkRat_one]]
  · rw [if_neg hz] at h; cases h

/-! ### sign, comparison -/
def f_qsign : List At → Option (List At)
  | [.r a l m] => some [.n (sg (qv a l m).num)]
  | _ => none
theorem num_sg (z : Int) (d : Nat) (hd : d ≠ 0) : sg (mkRat z d).num = sg z := by
  have h := qa_red z d hd
  have hz : ((mkRat z d).num = 0) ↔ z = 0 := by
    rw [Rat.num_eq_zero]
    rw [Rat.mkRat_eq_zero hd]
  have hn : decide ((mkRat z d).num < 0) = decide (z < 0) := by
    unfold qa at h
    injection h
  have hn' : (mkRat z d).num < 0 ↔ z < 0 := by simpa using hn
  unfold sg
  by_cases h0 : z = 0
  · rw [if_pos (hz.2 h0), if_pos h0]
  · rw [if_neg (fun e => h0 (hz.1 e)), if_neg h0]
    by_cases h1 : z < 0
    · rw [if_pos (hn'.2 h1), if_pos h1]
    · rw [if_neg (fun e => h1 (hn'.1 e)), if_neg h1]
theorem qsign_den (a : Bool) (l m : List Nat) : tr_qsign.den GR2 (env0 [.r a l m]) = f_qsign [.r a l m] := by
  unfold f_qsign
  by_cases h : val m = 0
  · simp only [tr_qsign, Tr.den, evAll, SA.ev, BE.ev, IE.ev, SE.ev, LE.ev, env0, extE_eq, pickO, evN, evB, evS, evLen, evBit, evLst, At.len, At.bit, At.lst, op1, op2, op3, Nat.reduceLeDiff, Nat.reduceSub, Nat.reduceEqDiff, if_true, if_false, ite_true, ite_false, decide_true, decide_false, Bool.not_true, Bool.not_false, Nat.zero_le, Nat.sub_zero, List.getElem?_cons_zero, List.getElem?_cons_succ, List.getElem?_nil, GR2_reduced, ctF_reduced, GR2_over, ctF_over, GR2_nbits, ctF_nbits, GR2_unit, ctF_unit, GR2_one, ctF_one, GR2_isign, ctF_isign, GR2_icmpp, ctF_icmpp, GR2_imul, ctF_imul, GR2_iadd, ctF_iadd, GR2_nmul, ctF_nmul, GR2_iofi, ctF_iofi, GR2_nnorm, ctF_nnorm, GR2_inorm, ctF_inorm, GR2_risign, ctF_risign, GR2_rimul, ctF_rimul, GR2_riadd, ctF_riadd, GR2_rineg, ctF_rineg, GR2_rmul, ctF_rmul, GR2_riof, ctF_riof, GR2_rnof, ctF_rnof, GR2_rnorm, ctF_rnorm, GR2_rinorm, ctF_rinorm, GR2_rsame, ctF_rsame, f_yur, f_un, f_uu, f_ub, f_yb, f_yn, f_yyn, f_yyy, f_uuu, f_yy, f_idiv, f_iof, f_nof, f_sqrt, f_uub, na, za, blen0i, one_lim, vz_can, vz_lim, vz_nil, qv_can, val_lim, val_nil, len_lim0, decide_eq_true_eq, eq_true h]
    unfold qv; rw [h, Rat.mkRat_zero]; rfl
  · simp only [tr_qsign, Tr.den, evAll, SA.ev, BE.ev, IE.ev, SE.ev, LE.ev, env0, extE_eq, pickO, evN, evB, evS, evLen, evBit, evLst, At.len, At.bit, At.lst, op1, op2, op3, Nat.reduceLeDiff, Nat.reduceSub, Nat.reduceEqDiff, if_true, if_false, ite_true, ite_false, decide_true, decide_false, Bool.not_true, Bool.not_false, Nat.zero_le, Nat.sub_zero, List.getElem?_cons_zero, List.getElem?_cons_succ, List.getElem?_nil, GR2_reduced, ctF_reduced, GR2_over, ctF_over, GR2_nbits, ctF_nbits, GR2_unit, ctF_unit, GR2_one, ctF_one, GR2_isign, ctF_isign, GR2_icmpp, ctF_icmpp, GR2_imul, ctF_imul, GR2_iadd, ctF_iadd, GR2_nmul, ctF_nmul, GR2_iofi, ctF_iofi, GR2_nnorm, ctF_nnorm, GR2_inorm, ctF_inorm, GR2_risign, ctF_risign, GR2_rimul, ctF_rimul, GR2_riadd, ctF_riadd, GR2_rineg, ctF_rineg, GR2_rmul, ctF_rmul, GR2_riof, ctF_riof, GR2_rnof, ctF_rnof, GR2_rnorm, ctF_rnorm, GR2_rinorm, ctF_rinorm, GR2_rsame, ctF_rsame, f_yur, f_un, f_uu, f_ub, f_yb, f_yn, f_yyn, f_yyy, f_uuu, f_yy, f_idiv, f_iof, f_nof, f_sqrt, f_uub, na, za, blen0i, one_lim, vz_can, vz_lim, vz_nil, qv_can, val_lim, val_nil, len_lim0, decide_eq_true_eq, h]
    unfold qv; rw [num_sg _ _ h]
theorem rqsign_den (a : Bool) (l m : List Nat) : tr_rqsign.den GR2 (env0 [.r a l m]) = f_qsign [.r a l m] := by
  unfold f_qsign
  simp only [tr_rqsign, Tr.den, evAll, SA.ev, BE.ev, IE.ev, SE.ev, LE.ev, env0, extE_eq, pickO, evN, evB, evS, evLen, evBit, evLst, At.len, At.bit, At.lst, op1, op2, op3, Nat.reduceLeDiff, Nat.reduceSub, Nat.reduceEqDiff, if_true, if_false, ite_true, ite_false, decide_true, decide_false, Bool.not_true, Bool.not_false, Nat.zero_le, Nat.sub_zero, List.getElem?_cons_zero, List.getElem?_cons_succ, List.getElem?_nil, GR2_reduced, ctF_reduced, GR2_over, ctF_over, GR2_nbits, ctF_nbits, GR2_unit, ctF_unit, GR2_one, ctF_one, GR2_isign, ctF_isign, GR2_icmpp, ctF_icmpp, GR2_imul, ctF_imul, GR2_iadd, ctF_iadd, GR2_nmul, ctF_nmul, GR2_iofi, ctF_iofi, GR2_nnorm, ctF_nnorm, GR2_inorm, ctF_inorm, GR2_risign, ctF_risign, GR2_rimul, ctF_rimul, GR2_riadd, ctF_riadd, GR2_rineg, ctF_rineg, GR2_rmul, ctF_rmul, GR2_riof, ctF_riof, GR2_rnof, ctF_rnof, GR2_rnorm, ctF_rnorm, GR2_rinorm, ctF_rinorm, GR2_rsame, ctF_rsame, f_yur, f_un, f_uu, f_ub, f_yb, f_yn, f_yyn, f_yyy, f_uuu, f_yy, f_idiv, f_iof, f_nof, f_sqrt, f_uub, na, za, blen0i, one_lim, vz_can, vz_lim, vz_nil, qv_can, val_lim, val_nil, len_lim0, decide_eq_true_eq, qa]
def qcmpv (x y : Rat) : Int := if x < y then -1 else if y < x then 1 else 0
def f_qcmp : List At → Option (List At)
  | [.r a l m, .r b k n] => some [.n (qcmpv (qv a l m) (qv b k n))]
  | _ => none
theorem mk_lt {A B : Int} {c d : Nat} (hc : c ≠ 0) (hd : d ≠ 0) : mkRat A c < mkRat B d ↔ A * d < B * c := by
  have hc' : (0 : Rat) < (c : Rat) := by exact_mod_cast Nat.pos_of_ne_zero hc
  have hd' : (0 : Rat) < (d : Rat) := by exact_mod_cast Nat.pos_of_ne_zero hd
  rw [Rat.mkRat_eq_div, Rat.mkRat_eq_div]
  have e1 : ((A : Rat) / c < (B : Rat) / d) ↔ ((A : Rat) * d < (B : Rat) * c) := by
    have h1 : (A : Rat) / c * (c * d) = A * d := by have := Rat.ne_of_gt hc'; grind
    have h2 : (B : Rat) / d * (c * d) = B * c := by have := Rat.ne_of_gt hd'; grind
    rw [← Rat.mul_lt_mul_right (Rat.mul_pos hc' hd'), h1, h2]
  rw [e1]
  constructor
  · intro h; exact_mod_cast h
  · intro h; exact_mod_cast h
theorem icmp_mk {A B : Int} {c d : Nat} (hc : c ≠ 0) (hd : d ≠ 0) : icmp (A * d) (B * c) = qcmpv (mkRat A c) (mkRat B d) := by
  unfold icmp qcmpv
  by_cases h1 : A * d < B * c
  · rw [if_pos h1, if_pos ((mk_lt hc hd).2 h1)]
  · rw [if_neg h1, if_neg (fun h => h1 ((mk_lt hc hd).1 h))]
    by_cases h2 : B * c < A * d
    · rw [if_pos h2, if_pos ((mk_lt hd hc).2 h2)]
    · rw [if_neg h2, if_neg (fun h => h2 ((mk_lt hd hc).1 h))]
def f_qneg : List At → Option (List At)
  | [.r a l m] => some [qa (- qv a l m)]
  | _ => none
theorem qv_not (a : Bool) (l m : List Nat) : qv (!a) l m = - qv a l m := by unfold qv; rw [vz_not, Rat.neg_mkRat]
theorem rqneg_den (a : Bool) (l m : List Nat) : tr_rqneg.den GR2 (env0 [.r a l m]) = f_qneg [.r a l m] := by
  unfold f_qneg
  simp only [tr_rqneg, Tr.den, evAll, SA.ev, BE.ev, IE.ev, SE.ev, LE.ev, env0, extE_eq, pickO, evN, evB, evS, evLen, evBit, evLst, At.len, At.bit, At.lst, op1, op2, op3, Nat.reduceLeDiff, Nat.reduceSub, Nat.reduceEqDiff, if_true, if_false, ite_true, ite_false, decide_true, decide_false, Bool.not_true, Bool.not_false, Nat.zero_le, Nat.sub_zero, List.getElem?_cons_zero, List.getElem?_cons_succ, List.getElem?_nil, GR2_reduced, ctF_reduced, GR2_over, ctF_over, GR2_nbits, ctF_nbits, GR2_unit, ctF_unit, GR2_one, ctF_one, GR2_isign, ctF_isign, GR2_icmpp, ctF_icmpp, GR2_imul, ctF_imul, GR2_iadd, ctF_iadd, GR2_nmul, ctF_nmul, GR2_iofi, ctF_iofi, GR2_nnorm, ctF_nnorm, GR2_inorm, ctF_inorm, GR2_risign, ctF_risign, GR2_rimul, ctF_rimul, GR2_riadd, ctF_riadd, GR2_rineg, ctF_rineg, GR2_rmul, ctF_rmul, GR2_riof, ctF_riof, GR2_rnof, ctF_rnof, GR2_rnorm, ctF_rnorm, GR2_rinorm, ctF_rinorm, GR2_rsame, ctF_rsame, f_yur, f_un, f_uu, f_ub, f_yb, f_yn, f_yyn, f_yyy, f_uuu, f_yy, f_idiv, f_iof, f_nof, f_sqrt, f_uub, na, za, blen0i, one_lim, vz_can, vz_lim, vz_nil, qv_can, val_lim, val_nil, len_lim0, decide_eq_true_eq]
  rw [← qv_not]; unfold qv; rw [vz_can]
def f_qmul : List At → Option (List At)
  | [.r a l m, .r b k n] => some [qa (qv a l m * qv b k n)]
  | _ => none
theorem qmul_den (a b : Bool) (l m k n : List Nat) : tr_qmul.den GR2 (env0 [.r a l m, .r b k n]) = f_qmul [.r a l m, .r b k n] := by
  unfold f_qmul qv
  by_cases h1 : val m = 0 <;> by_cases h2 : val n = 0
  · simp only [tr_qmul, Tr.den, evAll, SA.ev, BE.ev, IE.ev, SE.ev, LE.ev, env0, extE_eq, pickO, evN, evB, evS, evLen, evBit, evLst, At.len, At.bit, At.lst, op1, op2, op3, Nat.reduceLeDiff, Nat.reduceSub, Nat.reduceEqDiff, if_true, if_false, ite_true, ite_false, decide_true, decide_false, Bool.not_true, Bool.not_false, Nat.zero_le, Nat.sub_zero, List.getElem?_cons_zero, List.getElem?_cons_succ, List.getElem?_nil, GR2_reduced, ctF_reduced, GR2_over, ctF_over, GR2_nbits, ctF_nbits, GR2_unit, ctF_unit, GR2_one, ctF_one, GR2_isign, ctF_isign, GR2_icmpp, ctF_icmpp, GR2_imul, ctF_imul, GR2_iadd, ctF_iadd, GR2_nmul, ctF_nmul, GR2_iofi, ctF_iofi, GR2_nnorm, ctF_nnorm, GR2_inorm, ctF_inorm, GR2_risign, ctF_risign, GR2_rimul, ctF_rimul, GR2_riadd, ctF_riadd, GR2_rineg, ctF_rineg, GR2_rmul, ctF_rmul, GR2_riof, ctF_riof, GR2_rnof, ctF_rnof, GR2_rnorm, ctF_rnorm, GR2_rinorm, ctF_rinorm, GR2_rsame, ctF_rsame, f_yur, f_un, f_uu, f_ub, f_yb, f_yn, f_yyn, f_yyy, f_uuu, f_yy, f_idiv, f_iof, f_nof, f_sqrt, f_uub, na, za, blen0i, one_lim, vz_can, vz_lim, vz_nil, qv_can, val_lim, val_nil, len_lim0, decide_eq_true_eq, eq_true h1, eq_true h2]
    rw [h1, Rat.mkRat_zero, Rat.zero_mul, Int.zero_mul, Rat.zero_mkRat]
  · simp only [tr_qmul, Tr.den, evAll, SA.ev, BE.ev, IE.ev, SE.ev, LE.ev, env0, extE_eq, pickO, evN, evB, evS, evLen, evBit, evLst, At.len, At.bit, At.lst, op1, op2, op3, Nat.reduceLeDiff, Nat.reduceSub, Nat.reduceEqDiff, if_true, if_false, ite_true, ite_false, decide_true, decide_false, Bool.not_true, Bool.not_false, Nat.zero_le, Nat.sub_zero, List.getElem?_cons_zero, List.getElem?_cons_succ, List.getElem?_nil, GR2_reduced, ctF_reduced, GR2_over, ctF_over, GR2_nbits, ctF_nbits, GR2_unit, ctF_unit, GR2_one, ctF_one, GR2_isign, ctF_isign, GR2_icmpp, ctF_icmpp, GR2_imul, ctF_imul, GR2_iadd, ctF_iadd, GR2_nmul, ctF_nmul, GR2_iofi, ctF_iofi, GR2_nnorm, ctF_nnorm, GR2_inorm, ctF_inorm, GR2_risign, ctF_risign, GR2_rimul, ctF_rimul, GR2_riadd, ctF_riadd, GR2_rineg, ctF_rineg, GR2_rmul, ctF_rmul, GR2_riof, ctF_riof, GR2_rnof, ctF_rnof, GR2_rnorm, ctF_rnorm, GR2_rinorm, ctF_rinorm, GR2_rsame, ctF_rsame, f_yur, f_un, f_uu, f_ub, f_yb, f_yn, f_yyn, f_yyy, f_uuu, f_yy, f_idiv, f_iof, f_nof, f_sqrt, f_uub, na, za, blen0i, one_lim, vz_can, vz_lim, vz_nil, qv_can, val_lim, val_nil, len_lim0, decide_eq_true_eq, eq_true h1, h2]
    rw [h1, Rat.mkRat_zero, Rat.zero_mul, Int.zero_mul, Rat.zero_mkRat]
  · simp only [tr_qmul, Tr.den, evAll, SA.ev, BE.ev, IE.ev, SE.ev, LE.ev, env0, extE_eq, pickO, evN, evB, evS, evLen, evBit, evLst, At.len, At.bit, At.lst, op1, op2, op3, Nat.reduceLeDiff, Nat.reduceSub, Nat.reduceEqDiff, if_true, if_false, ite_true, ite_false, decide_true, decide_false, Bool.not_true, Bool.not_false, Nat.zero_le, Nat.sub_zero, List.getElem?_cons_zero, List.getElem?_cons_succ, List.getElem?_nil, GR2_reduced, ctF_reduced, GR2_over, ctF_over, GR2_nbits, ctF_nbits, GR2_unit, ctF_unit, GR2_one, ctF_one, GR2_isign, ctF_isign, GR2_icmpp, ctF_icmpp, GR2_imul, ctF_imul, GR2_iadd, ctF_iadd, GR2_nmul, ctF_nmul, GR2_iofi, ctF_iofi, GR2_nnorm, ctF_nnorm, GR2_inorm, ctF_inorm, GR2_risign, ctF_risign, GR2_rimul, ctF_rimul, GR2_riadd, ctF_riadd, GR2_rineg, ctF_rineg, GR2_rmul, ctF_rmul, GR2_riof, ctF_riof, GR2_rnof, ctF_rnof, GR2_rnorm, ctF_rnorm, GR2_rinorm, ctF_rinorm, GR2_rsame, ctF_rsame, f_yur, f_un, f_uu, f_ub, f_yb, f_yn, f_yyn, f_yyy, f_uuu, f_yy, f_idiv, f_iof, f_nof, f_sqrt, f_uub, na, za, blen0i, one_lim, vz_can, vz_lim, vz_nil, qv_can, val_lim, val_nil, len_lim0, decide_eq_true_eq, h1, eq_true h2]
    rw [h2, Rat.mkRat_zero, Rat.mul_zero, Int.mul_zero, Rat.zero_mkRat]
  · simp only [tr_qmul, Tr.den, evAll, SA.ev, BE.ev, IE.ev, SE.ev, LE.ev, env0, extE_eq, pickO, evN, evB, evS, evLen, evBit, evLst, At.len, At.bit, At.lst, op1, op2, op3, Nat.reduceLeDiff, Nat.reduceSub, Nat.reduceEqDiff, if_true, if_false, ite_true, ite_false, decide_true, decide_false, Bool.not_true, Bool.not_false, Nat.zero_le, Nat.sub_zero, List.getElem?_cons_zero, List.getElem?_cons_succ, List.getElem?_nil, GR2_reduced, ctF_reduced, GR2_over, ctF_over, GR2_nbits, ctF_nbits, GR2_unit, ctF_unit, GR2_one, ctF_one, GR2_isign, ctF_isign, GR2_icmpp, ctF_icmpp, GR2_imul, ctF_imul, GR2_iadd, ctF_iadd, GR2_nmul, ctF_nmul, GR2_iofi, ctF_iofi, GR2_nnorm, ctF_nnorm, GR2_inorm, ctF_inorm, GR2_risign, ctF_risign, GR2_rimul, ctF_rimul, GR2_riadd, ctF_riadd, GR2_rineg, ctF_rineg, GR2_rmul, ctF_rmul, GR2_riof, ctF_riof, GR2_rnof, ctF_rnof, GR2_rnorm, ctF_rnorm, GR2_rinorm, ctF_rinorm, GR2_rsame, ctF_rsame, f_yur, f_un, f_uu, f_ub, f_yb, f_yn, f_yyn, f_yyy, f_uuu, f_yy, f_idiv, f_iof, f_nof, f_sqrt, f_uub, na, za, blen0i, one_lim, vz_can, vz_lim, vz_nil, qv_can, val_lim, val_nil, len_lim0, decide_eq_true_eq, h1, h2]
    rw [Rat.mkRat_mul_mkRat]
theorem rqmul_den (a b : Bool) (l m k n : List Nat) : tr_rqmul.den GR2 (env0 [.r a l m, .r b k n]) = f_qmul [.r a l m, .r b k n] := by
  unfold f_qmul qv
  simp only [tr_rqmul, Tr.den, evAll, SA.ev, BE.ev, IE.ev, SE.ev, LE.ev, env0, extE_eq, pickO, evN, evB, evS, evLen, evBit, evLst, At.len, At.bit, At.lst, op1, op2, op3, Nat.reduceLeDiff, Nat.reduceSub, Nat.reduceEqDiff, if_true, if_false, ite_true, ite_false, decide_true, decide_false, Bool.not_true, Bool.not_false, Nat.zero_le, Nat.sub_zero, List.getElem?_cons_zero, List.getElem?_cons_succ, List.getElem?_nil, GR2_reduced, ctF_reduced, GR2_over, ctF_over, GR2_nbits, ctF_nbits, GR2_unit, ctF_unit, GR2_one, ctF_one, GR2_isign, ctF_isign, GR2_icmpp, ctF_icmpp, GR2_imul, ctF_imul, GR2_iadd, ctF_iadd, GR2_nmul, ctF_nmul, GR2_iofi, ctF_iofi, GR2_nnorm, ctF_nnorm, GR2_inorm, ctF_inorm, GR2_risign, ctF_risign, GR2_rimul, ctF_rimul, GR2_riadd, ctF_riadd, GR2_rineg, ctF_rineg, GR2_rmul, ctF_rmul, GR2_riof, ctF_riof, GR2_rnof, ctF_rnof, GR2_rnorm, ctF_rnorm, GR2_rinorm, ctF_rinorm, GR2_rsame, ctF_rsame, f_yur, f_un, f_uu, f_ub, f_yb, f_yn, f_yyn, f_yyy, f_uuu, f_yy, f_idiv, f_iof, f_nof, f_sqrt, f_uub, na, za, blen0i, one_lim, vz_can, vz_lim, vz_nil, qv_can, val_lim, val_nil, len_lim0, decide_eq_true_eq]
  rw [Rat.mkRat_mul_mkRat]
def f_qadd : List At → Option (List At)
  | [.r a l m, .r b k n] => some [qa (qv a l m + qv b k n)]
  | _ => none
theorem rqadd_den (a b : Bool) (l m k n : List Nat) : tr_rqadd.den GR2 (env0 [.r a l m, .r b k n]) = f_qadd [.r a l m, .r b k n] := by
  unfold f_qadd
  simp only [tr_rqadd, Tr.den, evAll, SA.ev, BE.ev, IE.ev, SE.ev, LE.ev, env0, extE_eq, pickO, evN, evB, evS, evLen, evBit, evLst, At.len, At.bit, At.lst, op1, op2, op3, Nat.reduceLeDiff, Nat.reduceSub, Nat.reduceEqDiff, if_true, if_false, ite_true, ite_false, decide_true, decide_false, Bool.not_true, Bool.not_false, Nat.zero_le, Nat.sub_zero, List.getElem?_cons_zero, List.getElem?_cons_succ, List.getElem?_nil, GR2_reduced, ctF_reduced, GR2_over, ctF_over, GR2_nbits, ctF_nbits, GR2_unit, ctF_unit, GR2_one, ctF_one, GR2_isign, ctF_isign, GR2_icmpp, ctF_icmpp, GR2_imul, ctF_imul, GR2_iadd, ctF_iadd, GR2_nmul, ctF_nmul, GR2_iofi, ctF_iofi, GR2_nnorm, ctF_nnorm, GR2_inorm, ctF_inorm, GR2_risign, ctF_risign, GR2_rimul, ctF_rimul, GR2_riadd, ctF_riadd, GR2_rineg, ctF_rineg, GR2_rmul, ctF_rmul, GR2_riof, ctF_riof, GR2_rnof, ctF_rnof, GR2_rnorm, ctF_rnorm, GR2_rinorm, ctF_rinorm, GR2_rsame, ctF_rsame, f_yur, f_un, f_uu, f_ub, f_yb, f_yn, f_yyn, f_yyy, f_uuu, f_yy, f_idiv, f_iof, f_nof, f_sqrt, f_uub, na, za, blen0i, one_lim, vz_can, vz_lim, vz_nil, qv_can, val_lim, val_nil, len_lim0, decide_eq_true_eq, qa]
  rw [← Rat.mkRat_add_mkRat _ _ (Rat.den_nz _) (Rat.den_nz _), Rat.mkRat_self, Rat.mkRat_self]
def f_qdiv : List At → Option (List At)
  | [.r a l m, .r b k n] => some (if qv b k n = 0 then [.r false [] [], .n 3] else [qa (qv a l m / qv b k n), .n 0])
  | _ => none
theorem div_mk (x y : Rat) : ((x.num * y.den : Int) : Rat) / ((y.num * x.den : Int) : Rat) = x / y := by
  have h1 := Rat.mkRat_self x
  have h2 := Rat.mkRat_self y
  rw [Rat.mkRat_eq_div] at h1 h2
  have hx := nz_cast x.den_nz
  have hy := nz_cast y.den_nz
  rw [Rat.intCast_mul, Rat.intCast_mul, Rat.intCast_natCast, Rat.intCast_natCast]
  generalize (x.num : Rat) = A at *
  generalize (y.num : Rat) = B at *
  generalize (x.den : Rat) = c at *
  generalize (y.den : Rat) = d at *
  rw [← h1, ← h2]
  by_cases hB : B = 0
  · subst hB; grind
  · grind
theorem num_mul0 (x y : Rat) : (y.num * (x.den : Int) = 0) = (y = 0) := by
  apply propext
  rw [Int.mul_eq_zero, Rat.num_eq_zero]
  have := x.den_nz
  constructor
  · rintro (h | h)
    · exact h
    · exact absurd (by exact_mod_cast h) this
  · exact .inl
theorem make_abs (z y : Int) : mkRat (if y < 0 then -z else z) y.natAbs = (z : Rat) / (y : Rat) := by
  rw [Rat.mkRat_eq_div]
  by_cases h : y < 0
  · rw [if_pos h]
    have : ((y.natAbs : Nat) : Rat) = -(y : Rat) := by
      rw [← Rat.intCast_natCast, ← Rat.intCast_neg]; congr 1; omega
    rw [this, Rat.intCast_neg]; grind
  · rw [if_neg h]
    have : ((y.natAbs : Nat) : Rat) = (y : Rat) := by
      rw [← Rat.intCast_natCast]; congr 1; omega
    rw [this]
theorem vz_nota (z : Int) : vz (!decide (z < 0)) (lim z.natAbs) = -z := by rw [vz_not, vz_can]
theorem vz_f (m : List Nat) : vz false m = (val m : Int) := rfl
theorem make_can (z y : Int) : qv (!(decide (z < 0) == decide (y < 0))) (lim z.natAbs) (lim y.natAbs) = (z : Rat) / (y : Rat) := by
  rw [make_eq, vz_can, vz_can]
theorem qdivv {A B : Int} {c d : Nat} (hc : c ≠ 0) (hd : d ≠ 0) : ((A * d : Int) : Rat) / ((B * c : Int) : Rat) = mkRat A c / mkRat B d := by
  have hx := nz_cast hc
  have hy := nz_cast hd
  rw [Rat.mkRat_eq_div, Rat.mkRat_eq_div, Rat.intCast_mul, Rat.intCast_mul, Rat.intCast_natCast, Rat.intCast_natCast]
  generalize (A : Rat) = A at *
  generalize (B : Rat) = B at *
  generalize (c : Rat) = c at *
  generalize (d : Rat) = d at *
  by_cases hB : B = 0
  · subst hB; grind
  · grind
theorem zdiv (x : Rat) : (0 : Rat) / x = 0 := by rw [Rat.div_def, Rat.zero_mul]
theorem mk_0 {z : Int} {d : Nat} (hd : d ≠ 0) : (mkRat z d = 0) = (z = 0) := propext (Rat.mkRat_eq_zero hd)
theorem mul_nz {z : Int} {d : Nat} (hd : d ≠ 0) : (z * (d : Int) = 0) = (z = 0) := by
  apply propext
  rw [Int.mul_eq_zero]
  constructor
  · rintro (h | h)
    · exact h
    · exact absurd (by exact_mod_cast h) hd
  · exact .inl
theorem qdiv_den (a b : Bool) (l m k n : List Nat) : tr_qdiv.den GR2 (env0 [.r a l m, .r b k n]) = f_qdiv [.r a l m, .r b k n] := by
  simp only [f_qdiv]
  have z1 : ((1 : Nat) : Int) = 1 := rfl
  have o1 : ((1 : Nat) : Rat) = 1 := rfl
  by_cases h1 : val m = 0 <;> by_cases h2 : val n = 0
  · have q2 : qv b k n = 0 := by unfold qv; rw [h2, Rat.mkRat_zero]
    simp only [tr_qdiv, Tr.den, evAll, SA.ev, BE.ev, IE.ev, SE.ev, LE.ev, env0, extE_eq, pickO, evN, evB, evS, evLen, evBit, evLst, At.len, At.bit, At.lst, op1, op2, op3, Nat.reduceLeDiff, Nat.reduceSub, Nat.reduceEqDiff, if_true, if_false, ite_true, ite_false, decide_true, decide_false, Bool.not_true, Bool.not_false, Nat.zero_le, Nat.sub_zero, List.getElem?_cons_zero, List.getElem?_cons_succ, List.getElem?_nil, GR2_reduced, ctF_reduced, GR2_over, ctF_over, GR2_nbits, ctF_nbits, GR2_unit, ctF_unit, GR2_one, ctF_one, GR2_isign, ctF_isign, GR2_icmpp, ctF_icmpp, GR2_imul, ctF_imul, GR2_iadd, ctF_iadd, GR2_nmul, ctF_nmul, GR2_iofi, ctF_iofi, GR2_nnorm, ctF_nnorm, GR2_inorm, ctF_inorm, GR2_risign, ctF_risign, GR2_rimul, ctF_rimul, GR2_riadd, ctF_riadd, GR2_rineg, ctF_rineg, GR2_rmul, ctF_rmul, GR2_riof, ctF_riof, GR2_rnof, ctF_rnof, GR2_rnorm, ctF_rnorm, GR2_rinorm, ctF_rinorm, GR2_rsame, ctF_rsame, f_yur, f_un, f_uu, f_ub, f_yb, f_yn, f_yyn, f_yyy, f_uuu, f_yy, f_idiv, f_iof, f_nof, f_sqrt, f_uub, na, za, blen0i, one_lim, vz_can, vz_lim, vz_nil, qv_can, val_lim, val_nil, len_lim0, decide_eq_true_eq, eq_true h1, eq_true h2, sg_0i, make_can, Int.zero_mul, q2]
  · have q1 : qv a l m = 0 := by unfold qv; rw [h1, Rat.mkRat_zero]
    have e := mk_0 (z := vz b k) h2
    have e2 : (qv b k n = 0) = (vz b k = 0) := e
    by_cases h3 : vz b k = 0
    · simp only [tr_qdiv, Tr.den, evAll, SA.ev, BE.ev, IE.ev, SE.ev, LE.ev, env0, extE_eq, pickO, evN, evB, evS, evLen, evBit, evLst, At.len, At.bit, At.lst, op1, op2, op3, Nat.reduceLeDiff, Nat.reduceSub, Nat.reduceEqDiff, if_true, if_false, ite_true, ite_false, decide_true, decide_false, Bool.not_true, Bool.not_false, Nat.zero_le, Nat.sub_zero, List.getElem?_cons_zero, List.getElem?_cons_succ, List.getElem?_nil, GR2_reduced, ctF_reduced, GR2_over, ctF_over, GR2_nbits, ctF_nbits, GR2_unit, ctF_unit, GR2_one, ctF_one, GR2_isign, ctF_isign, GR2_icmpp, ctF_icmpp, GR2_imul, ctF_imul, GR2_iadd, ctF_iadd, GR2_nmul, ctF_nmul, GR2_iofi, ctF_iofi, GR2_nnorm, ctF_nnorm, GR2_inorm, ctF_inorm, GR2_risign, ctF_risign, GR2_rimul, ctF_rimul, GR2_riadd, ctF_riadd, GR2_rineg, ctF_rineg, GR2_rmul, ctF_rmul, GR2_riof, ctF_riof, GR2_rnof, ctF_rnof, GR2_rnorm, ctF_rnorm, GR2_rinorm, ctF_rinorm, GR2_rsame, ctF_rsame, f_yur, f_un, f_uu, f_ub, f_yb, f_yn, f_yyn, f_yyy, f_uuu, f_yy, f_idiv, f_iof, f_nof, f_sqrt, f_uub, na, za, blen0i, one_lim, vz_can, vz_lim, vz_nil, qv_can, val_lim, val_nil, len_lim0, decide_eq_true_eq, eq_true h1, h2, sg_0i, make_can, Int.zero_mul, Int.mul_one, z1, e2, eq_true h3]
    · simp only [tr_qdiv, Tr.den, evAll, SA.ev, BE.ev, IE.ev, SE.ev, LE.ev, env0, extE_eq, pickO, evN, evB, evS, evLen, evBit, evLst, At.len, At.bit, At.lst, op1, op2, op3, Nat.reduceLeDiff, Nat.reduceSub, Nat.reduceEqDiff, if_true, if_false, ite_true, ite_false, decide_true, decide_false, Bool.not_true, Bool.not_false, Nat.zero_le, Nat.sub_zero, List.getElem?_cons_zero, List.getElem?_cons_succ, List.getElem?_nil, GR2_reduced, ctF_reduced, GR2_over, ctF_over, GR2_nbits, ctF_nbits, GR2_unit, ctF_unit, GR2_one, ctF_one, GR2_isign, ctF_isign, GR2_icmpp, ctF_icmpp, GR2_imul, ctF_imul, GR2_iadd, ctF_iadd, GR2_nmul, ctF_nmul, GR2_iofi, ctF_iofi, GR2_nnorm, ctF_nnorm, GR2_inorm, ctF_inorm, GR2_risign, ctF_risign, GR2_rimul, ctF_rimul, GR2_riadd, ctF_riadd, GR2_rineg, ctF_rineg, GR2_rmul, ctF_rmul, GR2_riof, ctF_riof, GR2_rnof, ctF_rnof, GR2_rnorm, ctF_rnorm, GR2_rinorm, ctF_rinorm, GR2_rsame, ctF_rsame, f_yur, f_un, f_uu, f_ub, f_yb, f_yn, f_yyn, f_yyy, f_uuu, f_yy, f_idiv, f_iof, f_nof, f_sqrt, f_uub, na, za, blen0i, one_lim, vz_can, vz_lim, vz_nil, qv_can, val_lim, val_nil, len_lim0, decide_eq_true_eq, eq_true h1, h2, sg_0i, make_can, Int.zero_mul, Int.mul_one, z1, e2, h3]
      rw [q1, show ((0 : Int) : Rat) = 0 from rfl, zdiv, zdiv]
  · have q2 : qv b k n = 0 := by unfold qv; rw [h2, Rat.mkRat_zero]
    simp only [tr_qdiv, Tr.den, evAll, SA.ev, BE.ev, IE.ev, SE.ev, LE.ev, env0, extE_eq, pickO, evN, evB, evS, evLen, evBit, evLst, At.len, At.bit, At.lst, op1, op2, op3, Nat.reduceLeDiff, Nat.reduceSub, Nat.reduceEqDiff, if_true, if_false, ite_true, ite_false, decide_true, decide_false, Bool.not_true, Bool.not_false, Nat.zero_le, Nat.sub_zero, List.getElem?_cons_zero, List.getElem?_cons_succ, List.getElem?_nil, GR2_reduced, ctF_reduced, GR2_over, ctF_over, GR2_nbits, ctF_nbits, GR2_unit, ctF_unit, GR2_one, ctF_one, GR2_isign, ctF_isign, GR2_icmpp, ctF_icmpp, GR2_imul, ctF_imul, GR2_iadd, ctF_iadd, GR2_nmul, ctF_nmul, GR2_iofi, ctF_iofi, GR2_nnorm, ctF_nnorm, GR2_inorm, ctF_inorm, GR2_risign, ctF_risign, GR2_rimul, ctF_rimul, GR2_riadd, ctF_riadd, GR2_rineg, ctF_rineg, GR2_rmul, ctF_rmul, GR2_riof, ctF_riof, GR2_rnof, ctF_rnof, GR2_rnorm, ctF_rnorm, GR2_rinorm, ctF_rinorm, GR2_rsame, ctF_rsame, f_yur, f_un, f_uu, f_ub, f_yb, f_yn, f_yyn, f_yyy, f_uuu, f_yy, f_idiv, f_iof, f_nof, f_sqrt, f_uub, na, za, blen0i, one_lim, vz_can, vz_lim, vz_nil, qv_can, val_lim, val_nil, len_lim0, decide_eq_true_eq, h1, eq_true h2, sg_0i, make_can, Int.zero_mul, q2]
  · have e2 : (qv b k n = 0) = (vz b k = 0) := mk_0 (z := vz b k) h2
    have e3 : (vz b k * vz false m = 0) = (vz b k = 0) := mul_nz (z := vz b k) h1
    have hq : ((vz a l * vz false n : Int) : Rat) / ((vz b k * vz false m : Int) : Rat) = qv a l m / qv b k n := qdivv h1 h2
    by_cases h3 : vz b k = 0
    · simp only [tr_qdiv, Tr.den, evAll, SA.ev, BE.ev, IE.ev, SE.ev, LE.ev, env0, extE_eq, pickO, evN, evB, evS, evLen, evBit, evLst, At.len, At.bit, At.lst, op1, op2, op3, Nat.reduceLeDiff, Nat.reduceSub, Nat.reduceEqDiff, if_true, if_false, ite_true, ite_false, decide_true, decide_false, Bool.not_true, Bool.not_false, Nat.zero_le, Nat.sub_zero, List.getElem?_cons_zero, List.getElem?_cons_succ, List.getElem?_nil, GR2_reduced, ctF_reduced, GR2_over, ctF_over, GR2_nbits, ctF_nbits, GR2_unit, ctF_unit, GR2_one, ctF_one, GR2_isign, ctF_isign, GR2_icmpp, ctF_icmpp, GR2_imul, ctF_imul, GR2_iadd, ctF_iadd, GR2_nmul, ctF_nmul, GR2_iofi, ctF_iofi, GR2_nnorm, ctF_nnorm, GR2_inorm, ctF_inorm, GR2_risign, ctF_risign, GR2_rimul, ctF_rimul, GR2_riadd, ctF_riadd, GR2_rineg, ctF_rineg, GR2_rmul, ctF_rmul, GR2_riof, ctF_riof, GR2_rnof, ctF_rnof, GR2_rnorm, ctF_rnorm, GR2_rinorm, ctF_rinorm, GR2_rsame, ctF_rsame, f_yur, f_un, f_uu, f_ub, f_yb, f_yn, f_yyn, f_yyy, f_uuu, f_yy, f_idiv, f_iof, f_nof, f_sqrt, f_uub, na, za, blen0i, one_lim, vz_can, vz_lim, vz_nil, qv_can, val_lim, val_nil, len_lim0, decide_eq_true_eq, h1, h2, sg_0i, make_can, e2, e3, eq_true h3]
    · simp only [tr_qdiv, Tr.den, evAll, SA.ev, BE.ev, IE.ev, SE.ev, LE.ev, env0, extE_eq, pickO, evN, evB, evS, evLen, evBit, evLst, At.len, At.bit, At.lst, op1, op2, op3, Nat.reduceLeDiff, Nat.reduceSub, Nat.reduceEqDiff, if_true, if_false, ite_true, ite_false, decide_true, decide_false, Bool.not_true, Bool.not_false, Nat.zero_le, Nat.sub_zero, List.getElem?_cons_zero, List.getElem?_cons_succ, List.getElem?_nil, GR2_reduced, ctF_reduced, GR2_over, ctF_over, GR2_nbits, ctF_nbits, GR2_unit, ctF_unit, GR2_one, ctF_one, GR2_isign, ctF_isign, GR2_icmpp, ctF_icmpp, GR2_imul, ctF_imul, GR2_iadd, ctF_iadd, GR2_nmul, ctF_nmul, GR2_iofi, ctF_iofi, GR2_nnorm, ctF_nnorm, GR2_inorm, ctF_inorm, GR2_risign, ctF_risign, GR2_rimul, ctF_rimul, GR2_riadd, ctF_riadd, GR2_rineg, ctF_rineg, GR2_rmul, ctF_rmul, GR2_riof, ctF_riof, GR2_rnof, ctF_rnof, GR2_rnorm, ctF_rnorm, GR2_rinorm, ctF_rinorm, GR2_rsame, ctF_rsame, f_yur, f_un, f_uu, f_ub, f_yb, f_yn, f_yyn, f_yyy, f_uuu, f_yy, f_idiv, f_iof, f_nof, f_sqrt, f_uub, na, za, blen0i, one_lim, vz_can, vz_lim, vz_nil, qv_can, val_lim, val_nil, len_lim0, decide_eq_true_eq, h1, h2, sg_0i, make_can, e2, e3, h3]
      rw [hq]
theorem addv (A B : Int) {c d : Nat} (hc : c ≠ 0) (hd : d ≠ 0) : mkRat (A * d + B * c) (c * d) = mkRat A c + mkRat B d := (Rat.mkRat_add_mkRat A B hc hd).symm
theorem add1 (A B : Int) : mkRat (A + B) 1 = mkRat A 1 + mkRat B 1 := by
  have := addv A B (c := 1) (d := 1) (by decide) (by decide)
  simpa using this
theorem qv_can2 (z : Int) (m : List Nat) : qv (decide (z < 0)) (lim z.natAbs) m = mkRat z (val m) := by unfold qv; rw [vz_can]
theorem isOne_val {m : List Nat} (h : isOne m = true) : val m = 1 := by
  unfold isOne at h
  have : m = [1] := by simpa using h
  rw [this]; rfl
theorem qadd_den (a b : Bool) (l m k n : List Nat) : tr_qadd.den GR2 (env0 [.r a l m, .r b k n]) = f_qadd [.r a l m, .r b k n] := by
  simp only [f_qadd]
  have z1 : ((1 : Nat) : Int) = 1 := rfl
  by_cases h1 : val m = 0 <;> by_cases h2 : val n = 0
  · have q1 : qv a l m = 0 := by unfold qv; rw [h1, Rat.mkRat_zero]
    have q2 : qv b k n = 0 := by unfold qv; rw [h2, Rat.mkRat_zero]
    simp only [tr_qadd, Tr.den, evAll, SA.ev, BE.ev, IE.ev, SE.ev, LE.ev, env0, extE_eq, pickO, evN, evB, evS, evLen, evBit, evLst, At.len, At.bit, At.lst, op1, op2, op3, Nat.reduceLeDiff, Nat.reduceSub, Nat.reduceEqDiff, if_true, if_false, ite_true, ite_false, decide_true, decide_false, Bool.not_true, Bool.not_false, Nat.zero_le, Nat.sub_zero, List.getElem?_cons_zero, List.getElem?_cons_succ, List.getElem?_nil, GR2_reduced, ctF_reduced, GR2_over, ctF_over, GR2_nbits, ctF_nbits, GR2_unit, ctF_unit, GR2_one, ctF_one, GR2_isign, ctF_isign, GR2_icmpp, ctF_icmpp, GR2_imul, ctF_imul, GR2_iadd, ctF_iadd, GR2_nmul, ctF_nmul, GR2_iofi, ctF_iofi, GR2_nnorm, ctF_nnorm, GR2_inorm, ctF_inorm, GR2_risign, ctF_risign, GR2_rimul, ctF_rimul, GR2_riadd, ctF_riadd, GR2_rineg, ctF_rineg, GR2_rmul, ctF_rmul, GR2_riof, ctF_riof, GR2_rnof, ctF_rnof, GR2_rnorm, ctF_rnorm, GR2_rinorm, ctF_rinorm, GR2_rsame, ctF_rsame, f_yur, f_un, f_uu, f_ub, f_yb, f_yn, f_yyn, f_yyy, f_uuu, f_yy, f_idiv, f_iof, f_nof, f_sqrt, f_uub, na, za, blen0i, one_lim, vz_can, vz_lim, vz_nil, qv_can, val_lim, val_nil, len_lim0, decide_eq_true_eq, eq_true h1, eq_true h2, q1, q2, Int.zero_add, Int.zero_mul]
    rw [Rat.zero_mkRat, Rat.zero_add]
  · have q1 : qv a l m = 0 := by unfold qv; rw [h1, Rat.mkRat_zero]
    simp only [tr_qadd, Tr.den, evAll, SA.ev, BE.ev, IE.ev, SE.ev, LE.ev, env0, extE_eq, pickO, evN, evB, evS, evLen, evBit, evLst, At.len, At.bit, At.lst, op1, op2, op3, Nat.reduceLeDiff, Nat.reduceSub, Nat.reduceEqDiff, if_true, if_false, ite_true, ite_false, decide_true, decide_false, Bool.not_true, Bool.not_false, Nat.zero_le, Nat.sub_zero, List.getElem?_cons_zero, List.getElem?_cons_succ, List.getElem?_nil, GR2_reduced, ctF_reduced, GR2_over, ctF_over, GR2_nbits, ctF_nbits, GR2_unit, ctF_unit, GR2_one, ctF_one, GR2_isign, ctF_isign, GR2_icmpp, ctF_icmpp, GR2_imul, ctF_imul, GR2_iadd, ctF_iadd, GR2_nmul, ctF_nmul, GR2_iofi, ctF_iofi, GR2_nnorm, ctF_nnorm, GR2_inorm, ctF_inorm, GR2_risign, ctF_risign, GR2_rimul, ctF_rimul, GR2_riadd, ctF_riadd, GR2_rineg, ctF_rineg, GR2_rmul, ctF_rmul, GR2_riof, ctF_riof, GR2_rnof, ctF_rnof, GR2_rnorm, ctF_rnorm, GR2_rinorm, ctF_rinorm, GR2_rsame, ctF_rsame, f_yur, f_un, f_uu, f_ub, f_yb, f_yn, f_yyn, f_yyy, f_uuu, f_yy, f_idiv, f_iof, f_nof, f_sqrt, f_uub, na, za, blen0i, one_lim, vz_can, vz_lim, vz_nil, qv_can, val_lim, val_nil, len_lim0, decide_eq_true_eq, eq_true h1, h2]
    simp only [q1, Int.zero_add, Int.zero_mul, z1, Int.mul_one, Nat.one_mul, Rat.zero_add]
    cases h : isOne n with
    | true => simp only [qv, isOne_val h]
    | false => rfl
  · have q2 : qv b k n = 0 := by unfold qv; rw [h2, Rat.mkRat_zero]
    simp only [tr_qadd, Tr.den, evAll, SA.ev, BE.ev, IE.ev, SE.ev, LE.ev, env0, extE_eq, pickO, evN, evB, evS, evLen, evBit, evLst, At.len, At.bit, At.lst, op1, op2, op3, Nat.reduceLeDiff, Nat.reduceSub, Nat.reduceEqDiff, if_true, if_false, ite_true, ite_false, decide_true, decide_false, Bool.not_true, Bool.not_false, Nat.zero_le, Nat.sub_zero, List.getElem?_cons_zero, List.getElem?_cons_succ, List.getElem?_nil, GR2_reduced, ctF_reduced, GR2_over, ctF_over, GR2_nbits, ctF_nbits, GR2_unit, ctF_unit, GR2_one, ctF_one, GR2_isign, ctF_isign, GR2_icmpp, ctF_icmpp, GR2_imul, ctF_imul, GR2_iadd, ctF_iadd, GR2_nmul, ctF_nmul, GR2_iofi, ctF_iofi, GR2_nnorm, ctF_nnorm, GR2_inorm, ctF_inorm, GR2_risign, ctF_risign, GR2_rimul, ctF_rimul, GR2_riadd, ctF_riadd, GR2_rineg, ctF_rineg, GR2_rmul, ctF_rmul, GR2_riof, ctF_riof, GR2_rnof, ctF_rnof, GR2_rnorm, ctF_rnorm, GR2_rinorm, ctF_rinorm, GR2_rsame, ctF_rsame, f_yur, f_un, f_uu, f_ub, f_yb, f_yn, f_yyn, f_yyy, f_uuu, f_yy, f_idiv, f_iof, f_nof, f_sqrt, f_uub, na, za, blen0i, one_lim, vz_can, vz_lim, vz_nil, qv_can, val_lim, val_nil, len_lim0, decide_eq_true_eq, h1, eq_true h2]
    cases h : isOne m with
    | true =>
      simp only [qv_can2, q2, Rat.add_zero]
      rw [Int.zero_add, Int.add_zero]; rfl
    | false => simp only [q2, Int.zero_add, Int.zero_mul, z1, Int.mul_one, Nat.mul_one, Int.add_zero, Rat.add_zero]; rfl
  · have hq : mkRat (0 + vz a l * vz false n + vz b k * vz false m) (val m * val n) = qv a l m + qv b k n := by
      rw [Int.zero_add]; exact addv (vz a l) (vz b k) h1 h2
    simp only [tr_qadd, Tr.den, evAll, SA.ev, BE.ev, IE.ev, SE.ev, LE.ev, env0, extE_eq, pickO, evN, evB, evS, evLen, evBit, evLst, At.len, At.bit, At.lst, op1, op2, op3, Nat.reduceLeDiff, Nat.reduceSub, Nat.reduceEqDiff, if_true, if_false, ite_true, ite_false, decide_true, decide_false, Bool.not_true, Bool.not_false, Nat.zero_le, Nat.sub_zero, List.getElem?_cons_zero, List.getElem?_cons_succ, List.getElem?_nil, GR2_reduced, ctF_reduced, GR2_over, ctF_over, GR2_nbits, ctF_nbits, GR2_unit, ctF_unit, GR2_one, ctF_one, GR2_isign, ctF_isign, GR2_icmpp, ctF_icmpp, GR2_imul, ctF_imul, GR2_iadd, ctF_iadd, GR2_nmul, ctF_nmul, GR2_iofi, ctF_iofi, GR2_nnorm, ctF_nnorm, GR2_inorm, ctF_inorm, GR2_risign, ctF_risign, GR2_rimul, ctF_rimul, GR2_riadd, ctF_riadd, GR2_rineg, ctF_rineg, GR2_rmul, ctF_rmul, GR2_riof, ctF_riof, GR2_rnof, ctF_rnof, GR2_rnorm, ctF_rnorm, GR2_rinorm, ctF_rinorm, GR2_rsame, ctF_rsame, f_yur, f_un, f_uu, f_ub, f_yb, f_yn, f_yyn, f_yyy, f_uuu, f_yy, f_idiv, f_iof, f_nof, f_sqrt, f_uub, na, za, blen0i, one_lim, vz_can, vz_lim, vz_nil, qv_can, val_lim, val_nil, len_lim0, decide_eq_true_eq, h1, h2]
    cases h : isOne m with
    | true =>
      cases h' : isOne n with
      | true =>
        simp only [qv_can2]
        rw [Int.zero_add, isOne_val h, add1]
        unfold qv; rw [isOne_val h, isOne_val h']
      | false => simp only [hq]
    | false => simp only [hq]
def f_qfloor : List At → Option (List At)
  | [.r a l m] => some [za (qv a l m).floor]
  | _ => none
theorem floor_mk {A : Int} {c : Nat} (hc : c ≠ 0) : (mkRat A c).floor = A / (c : Int) := by
  rw [Rat.floor_def, Rat.num_mkRat, Rat.den_mkRat, if_neg hc, if_neg hc]
  have hg : 0 < c.gcd A.natAbs := Nat.gcd_pos_of_pos_left _ (by omega)
  obtain ⟨d, hd⟩ := Nat.gcd_dvd_left c A.natAbs
  have hA : ((c.gcd A.natAbs : Nat) : Int) ∣ A := Int.natAbs_dvd_natAbs.1 (by simpa using Nat.gcd_dvd_right c A.natAbs)
  obtain ⟨B, hB⟩ := hA
  generalize hG : c.gcd A.natAbs = g at *
  have hgz : (g : Int) ≠ 0 := by omega
  rw [hB, hd, Int.mul_ediv_cancel_left _ hgz, Nat.mul_div_cancel_left _ hg]
  rw [show ((g * d : Nat) : Int) = (g : Int) * (d : Int) from by simp]
  rw [Int.mul_ediv_mul_of_pos _ _ (by omega)]
theorem sg_muln (z : Int) {d : Nat} (hd : d ≠ 0) : sg (z * (d : Int)) = sg z := by
  have hp : (0 : Int) < d := by omega
  unfold sg
  rcases Int.lt_trichotomy z 0 with h | h | h
  · have := Int.mul_neg_of_neg_of_pos h hp
    rw [if_neg (by omega), if_pos this, if_neg (by omega), if_pos h]
  · subst h; simp
  · have := Int.mul_pos h hp
    rw [if_neg (by omega), if_neg (by omega), if_neg (by omega), if_neg (by omega)]
theorem icmp_sgn {z y : Int} (h : sg z ≠ sg y) : icmp z y = if sg z < sg y then -1 else 1 := by
  unfold icmp
  unfold sg at *
  repeat' split
  all_goals first | rfl | omega
theorem cmpL (A B : Int) {c d : Nat} (hc : c ≠ 0) (hd : d ≠ 0) : (if sg A = sg B then icmp (A * d) (B * c) else if sg A < sg B then -1 else 1) = qcmpv (mkRat A c) (mkRat B d) := by
  rw [← icmp_mk hc hd]
  split
  · rfl
  · rename_i h
    have := icmp_sgn (z := A * d) (y := B * c) (by rw [sg_muln A hd, sg_muln B hc]; exact h)
    rw [this, sg_muln A hd, sg_muln B hc]
theorem cmp_match {x y z : Int} : (match some !decide (x = y) with
    | some true => match some (decide (x < y)) with
      | some true => some [At.n (-1)]
      | some false => some [At.n 1]
      | none => none
    | some false => some [At.n z]
    | none => none) = some [At.n (if x = y then z else if x < y then -1 else 1)] := by
  by_cases h : x = y
  · simp [h]
  · by_cases h' : x < y <;> simp [h, h']
theorem qcmp_den (a b : Bool) (l m k n : List Nat) : tr_qcmp.den GR2 (env0 [.r a l m, .r b k n]) = f_qcmp [.r a l m, .r b k n] := by
  simp only [f_qcmp]
  by_cases h1 : val m = 0 <;> by_cases h2 : val n = 0
  · have q1 : qv a l m = 0 := by unfold qv; rw [h1, Rat.mkRat_zero]
    have q2 : qv b k n = 0 := by unfold qv; rw [h2, Rat.mkRat_zero]
    simp only [tr_qcmp, Tr.den, evAll, SA.ev, BE.ev, IE.ev, SE.ev, LE.ev, env0, extE_eq, pickO, evN, evB, evS, evLen, evBit, evLst, At.len, At.bit, At.lst, op1, op2, op3, Nat.reduceLeDiff, Nat.reduceSub, Nat.reduceEqDiff, if_true, if_false, ite_true, ite_false, decide_true, decide_false, Bool.not_true, Bool.not_false, Nat.zero_le, Nat.sub_zero, List.getElem?_cons_zero, List.getElem?_cons_succ, List.getElem?_nil, GR2_reduced, ctF_reduced, GR2_over, ctF_over, GR2_nbits, ctF_nbits, GR2_unit, ctF_unit, GR2_one, ctF_one, GR2_isign, ctF_isign, GR2_icmpp, ctF_icmpp, GR2_imul, ctF_imul, GR2_iadd, ctF_iadd, GR2_nmul, ctF_nmul, GR2_iofi, ctF_iofi, GR2_nnorm, ctF_nnorm, GR2_inorm, ctF_inorm, GR2_risign, ctF_risign, GR2_rimul, ctF_rimul, GR2_riadd, ctF_riadd, GR2_rineg, ctF_rineg, GR2_rmul, ctF_rmul, GR2_riof, ctF_riof, GR2_rnof, ctF_rnof, GR2_rnorm, ctF_rnorm, GR2_rinorm, ctF_rinorm, GR2_rsame, ctF_rsame, f_yur, f_un, f_uu, f_ub, f_yb, f_yn, f_yyn, f_yyy, f_uuu, f_yy, f_idiv, f_iof, f_nof, f_sqrt, f_uub, na, za, blen0i, one_lim, vz_can, vz_lim, vz_nil, qv_can, val_lim, val_nil, len_lim0, decide_eq_true_eq, eq_true h1, eq_true h2]
    rw [q1, q2]; rfl
  · have q1 : qv a l m = mkRat 0 1 := by unfold qv; rw [h1, Rat.mkRat_zero, Rat.zero_mkRat]
    have e := cmpL 0 (vz b k) (c := 1) (d := val n) (by decide) h2
    simp only [tr_qcmp, Tr.den, evAll, SA.ev, BE.ev, IE.ev, SE.ev, LE.ev, env0, extE_eq, pickO, evN, evB, evS, evLen, evBit, evLst, At.len, At.bit, At.lst, op1, op2, op3, Nat.reduceLeDiff, Nat.reduceSub, Nat.reduceEqDiff, if_true, if_false, ite_true, ite_false, decide_true, decide_false, Bool.not_true, Bool.not_false, Nat.zero_le, Nat.sub_zero, List.getElem?_cons_zero, List.getElem?_cons_succ, List.getElem?_nil, GR2_reduced, ctF_reduced, GR2_over, ctF_over, GR2_nbits, ctF_nbits, GR2_unit, ctF_unit, GR2_one, ctF_one, GR2_isign, ctF_isign, GR2_icmpp, ctF_icmpp, GR2_imul, ctF_imul, GR2_iadd, ctF_iadd, GR2_nmul, ctF_nmul, GR2_iofi, ctF_iofi, GR2_nnorm, ctF_nnorm, GR2_inorm, ctF_inorm, GR2_risign, ctF_risign, GR2_rimul, ctF_rimul, GR2_riadd, ctF_riadd, GR2_rineg, ctF_rineg, GR2_rmul, ctF_rmul, GR2_riof, ctF_riof, GR2_rnof, ctF_rnof, GR2_rnorm, ctF_rnorm, GR2_rinorm, ctF_rinorm, GR2_rsame, ctF_rsame, f_yur, f_un, f_uu, f_ub, f_yb, f_yn, f_yyn, f_yyy, f_uuu, f_yy, f_idiv, f_iof, f_nof, f_sqrt, f_uub, na, za, blen0i, one_lim, vz_can, vz_lim, vz_nil, qv_can, val_lim, val_nil, len_lim0, decide_eq_true_eq, eq_true h1, h2]
    rw [q1, show qv b k n = mkRat (vz b k) (val n) from rfl, ← e]
    exact cmp_match
  · have q2 : qv b k n = mkRat 0 1 := by unfold qv; rw [h2, Rat.mkRat_zero, Rat.zero_mkRat]
    have e := cmpL (vz a l) 0 (c := val m) (d := 1) h1 (by decide)
    simp only [tr_qcmp, Tr.den, evAll, SA.ev, BE.ev, IE.ev, SE.ev, LE.ev, env0, extE_eq, pickO, evN, evB, evS, evLen, evBit, evLst, At.len, At.bit, At.lst, op1, op2, op3, Nat.reduceLeDiff, Nat.reduceSub, Nat.reduceEqDiff, if_true, if_false, ite_true, ite_false, decide_true, decide_false, Bool.not_true, Bool.not_false, Nat.zero_le, Nat.sub_zero, List.getElem?_cons_zero, List.getElem?_cons_succ, List.getElem?_nil, GR2_reduced, ctF_reduced, GR2_over, ctF_over, GR2_nbits, ctF_nbits, GR2_unit, ctF_unit, GR2_one, ctF_one, GR2_isign, ctF_isign, GR2_icmpp, ctF_icmpp, GR2_imul, ctF_imul, GR2_iadd, ctF_iadd, GR2_nmul, ctF_nmul, GR2_iofi, ctF_iofi, GR2_nnorm, ctF_nnorm, GR2_inorm, ctF_inorm, GR2_risign, ctF_risign, GR2_rimul, ctF_rimul, GR2_riadd, ctF_riadd, GR2_rineg, ctF_rineg, GR2_rmul, ctF_rmul, GR2_riof, ctF_riof, GR2_rnof, ctF_rnof, GR2_rnorm, ctF_rnorm, GR2_rinorm, ctF_rinorm, GR2_rsame, ctF_rsame, f_yur, f_un, f_uu, f_ub, f_yb, f_yn, f_yyn, f_yyy, f_uuu, f_yy, f_idiv, f_iof, f_nof, f_sqrt, f_uub, na, za, blen0i, one_lim, vz_can, vz_lim, vz_nil, qv_can, val_lim, val_nil, len_lim0, decide_eq_true_eq, h1, eq_true h2]
    rw [q2, show qv a l m = mkRat (vz a l) (val m) from rfl, ← e]
    exact cmp_match
  · have e := cmpL (vz a l) (vz b k) (c := val m) (d := val n) h1 h2
    simp only [tr_qcmp, Tr.den, evAll, SA.ev, BE.ev, IE.ev, SE.ev, LE.ev, env0, extE_eq, pickO, evN, evB, evS, evLen, evBit, evLst, At.len, At.bit, At.lst, op1, op2, op3, Nat.reduceLeDiff, Nat.reduceSub, Nat.reduceEqDiff, if_true, if_false, ite_true, ite_false, decide_true, decide_false, Bool.not_true, Bool.not_false, Nat.zero_le, Nat.sub_zero, List.getElem?_cons_zero, List.getElem?_cons_succ, List.getElem?_nil, GR2_reduced, ctF_reduced, GR2_over, ctF_over, GR2_nbits, ctF_nbits, GR2_unit, ctF_unit, GR2_one, ctF_one, GR2_isign, ctF_isign, GR2_icmpp, ctF_icmpp, GR2_imul, ctF_imul, GR2_iadd, ctF_iadd, GR2_nmul, ctF_nmul, GR2_iofi, ctF_iofi, GR2_nnorm, ctF_nnorm, GR2_inorm, ctF_inorm, GR2_risign, ctF_risign, GR2_rimul, ctF_rimul, GR2_riadd, ctF_riadd, GR2_rineg, ctF_rineg, GR2_rmul, ctF_rmul, GR2_riof, ctF_riof, GR2_rnof, ctF_rnof, GR2_rnorm, ctF_rnorm, GR2_rinorm, ctF_rinorm, GR2_rsame, ctF_rsame, f_yur, f_un, f_uu, f_ub, f_yb, f_yn, f_yyn, f_yyy, f_uuu, f_yy, f_idiv, f_iof, f_nof, f_sqrt, f_uub, na, za, blen0i, one_lim, vz_can, vz_lim, vz_nil, qv_can, val_lim, val_nil, len_lim0, decide_eq_true_eq, h1, h2]
    rw [show qv a l m = mkRat (vz a l) (val m) from rfl, show qv b k n = mkRat (vz b k) (val n) from rfl, ← e]
    exact cmp_match
/-! ### roots -/
def isSq (x : Rat) : Bool := decide (0 ≤ x.num) && decide (isq x.num.natAbs * isq x.num.natAbs = x.num.natAbs) && decide (isq x.den * isq x.den = x.den)
def qroot (x : Rat) : Rat := mkRat (isq x.num.natAbs) (isq x.den)
def f_qsqrt : List At → Option (List At)
  | [.r a l m] => some (if isSq (qv a l m) = true then [qa (qroot (qv a l m)), .b true] else [.r false [] [], .b false])
  | _ => none
theorem len_pos (x : Nat) : ((0 : Int) < (lim x).length) = (x ≠ 0) := by
  apply propext
  have := len_lim0 x
  omega
theorem sq_rest (n : Nat) : (n - isq n * isq n ≠ 0) = ¬ (isq n * isq n = n) := by
  apply propext
  have := (isq_spec n).1
  omega
theorem qa_root {x : Rat} (h : isSq x = true) : qa (qroot x) = .r false (lim (isq x.num.natAbs)) (lim (isq x.den)) := by
  unfold isSq at h
  simp only [Bool.and_eq_true, decide_eq_true_eq] at h
  obtain ⟨⟨h0, h1⟩, h2⟩ := h
  have hd : isq x.den ≠ 0 := fun e => by rw [e] at h2; exact x.den_nz (by simpa using h2.symm)
  have hg : Nat.gcd (isq x.num.natAbs) (isq x.den) = 1 := by
    have hr := x.reduced
    unfold Nat.Coprime at hr
    have d1 := Nat.gcd_dvd_left (isq x.num.natAbs) (isq x.den)
    have d2 := Nat.gcd_dvd_right (isq x.num.natAbs) (isq x.den)
    generalize Nat.gcd (isq x.num.natAbs) (isq x.den) = g at *
    have e1 : g ∣ x.num.natAbs := by rw [← h1]; exact Nat.dvd_mul_right_of_dvd d1 _
    have e2 : g ∣ x.den := by rw [← h2]; exact Nat.dvd_mul_right_of_dvd d2 _
    have := Nat.dvd_gcd e1 e2
    rw [hr] at this
    exact Nat.dvd_one.1 this
  unfold qroot
  rw [qa_red _ _ hd]
  rw [Int.natAbs_natCast, hg, Nat.div_one, Nat.div_one, decide_eq_false (by omega)]
theorem isSq_iff (x : Rat) : (isSq x = true) = (¬ x.num < 0 ∧ isq x.num.natAbs * isq x.num.natAbs = x.num.natAbs ∧ isq x.den * isq x.den = x.den) := by
  apply propext
  unfold isSq
  simp only [Bool.and_eq_true, decide_eq_true_eq, Int.not_lt, and_assoc]
def f_rrb (g : Bool → List Nat → List Nat → Bool → List Nat → List Nat → Bool) : List At → Option (List At)
  | [.r a l m, .r b k n] => some [.b (g a l m b k n)]
  | _ => none
end Go.Proofs.Ytkampmdekonjmaa
