/- Rational numbers: reduced, over. -/
import Derived.Test.YtkampmdekonjmaaRs1
namespace Go.Proofs.Ytkampmdekonjmaa
open Go Go.RowKit Go.V
set_option linter.unusedSimpArgs false
set_option linter.unusedVariables false
set_option maxRecDepth 20000

/-- a rational number's valid representation -/
def qa (x : Rat) : At := .r (decide (x.num < 0)) (lim x.num.natAbs) (lim x.den)
/-- what a representation stands for -/
def qv (neg : Bool) (l m : List Nat) : Rat := mkRat (vz neg l) (val m)
theorem qv_qa (x : Rat) : qv (decide (x.num < 0)) (lim x.num.natAbs) (lim x.den) = x := by
  unfold qv; rw [vz_can, val_lim, Rat.mkRat_self]
def GR0 : Gam := gamOf [(63, ct_rsame)]
theorem GR0_ok : GamOk Try.prog GR0 := gamOk_of ⟨ok_rsame, trivial⟩
theorem GR0_rsame : GR0 63 = some ct_rsame := rfl
def GR1 : Gam := gamOf [(93, ct_nnorm), (100, ct_inorm), (60, ct_ngcd), (96, ct_ndiv), (59, ct_one), (91, ct_unit), (97, ct_rnorm), (75, ct_rinorm), (64, ct_rgcd), (98, ct_rdiv), (65, ct_rnof)]
theorem GR1_ok : GamOk Try.prog GR1 := gamOk_of ⟨ok_nnorm, ok_inorm, ok_ngcd, ok_ndiv, ok_one, ok_unit, ok_rnorm, ok_rinorm, ok_rgcd, ok_rdiv, ok_rnof, trivial⟩
theorem GR1_nnorm : GR1 93 = some ct_nnorm := rfl
theorem GR1_inorm : GR1 100 = some ct_inorm := rfl
theorem GR1_ngcd : GR1 60 = some ct_ngcd := rfl
theorem GR1_ndiv : GR1 96 = some ct_ndiv := rfl
theorem GR1_one : GR1 59 = some ct_one := rfl
theorem GR1_unit : GR1 91 = some ct_unit := rfl
theorem GR1_rnorm : GR1 97 = some ct_rnorm := rfl
theorem GR1_rinorm : GR1 75 = some ct_rinorm := rfl
theorem GR1_rgcd : GR1 64 = some ct_rgcd := rfl
theorem GR1_rdiv : GR1 98 = some ct_rdiv := rfl
theorem GR1_rnof : GR1 65 = some ct_rnof := rfl
def tr_reduced : Tr (List SA) := (.call 93 [(.u (.var 1 0))] 2 (.call 100 [(.ob 0)] 3 (.br (.eq (.len 2 0) (.lit 0)) (.call 91 [] 4 (.leaf [(.r (.lit false) .nil (.var 4 0))])) (.br (.eq (.len 3 1) (.lit 0)) (.call 91 [] 4 (.leaf [(.r (.lit false) .nil (.var 4 0))])) (.call 59 [(.u (.var 2 0))] 4 (.br (.var 4) (.leaf [(.r (.bit 3) (.var 3 1) (.var 2 0))]) (.call 60 [(.u (.var 3 1)), (.u (.var 2 0))] 5 (.call 59 [(.u (.var 5 0))] 6 (.br (.not (.var 6)) (.call 96 [(.u (.var 3 1)), (.u (.var 5 0))] 7 (.call 96 [(.u (.var 2 0)), (.u (.var 5 0))] 10 (.leaf [(.r (.bit 3) (.var 7 0) (.var 10 0))]))) (.leaf [(.r (.bit 3) (.var 3 1) (.var 2 0))]))))))))))
theorem ev_reduced : Ct.ok Try.prog 67 { args := [[.y], [.u]], res := [[.r]], F := fun als => tr_reduced.den GR1 (env0 als), L := 1000000000, A := 1, B := 1 } :=
  top_ok (by kernel_rfl) GR1_ok (plans := planF) (lf := 60) (k := 20) (by kernel_rfl)
def tr_over : Tr (List SA) := (.call 97 [(.u (.var 1 0))] 2 (.br (.eq (.len 2 0) (.lit 0)) (.call 65 [(.w 1)] 3 (.leaf [(.r (.lit false) .nil (.var 3 0))])) (.call 64 [(.u (.var 0 1)), (.u (.var 1 0))] 3 (.call 98 [(.u (.var 0 1)), (.u (.var 3 0))] 4 (.call 98 [(.u (.var 1 0)), (.u (.var 3 0))] 7 (.call 75 [(.y (.bit 0) (.var 4 0))] 10 (.leaf [(.r (.bit 10) (.var 10 1) (.var 7 0))])))))))
theorem ev_over : Ct.ok Try.prog 76 { args := [[.y], [.u]], res := [[.r]], F := fun als => tr_over.den GR1 (env0 als), L := 1000000000, A := 1, B := 4 } :=
  top_ok (by kernel_rfl) GR1_ok (plans := planF) (lf := 60) (k := 20) (by kernel_rfl)
theorem len_lim0 (x : Nat) : ((lim x).length : Int) = 0 ↔ x = 0 := by
  constructor
  · intro h
    rcases Nat.eq_zero_or_pos x with h0 | h0
    · exact h0
    · have := lim_ne (B := x) (by omega); omega
  · rintro rfl; rw [lim_zero]; rfl
theorem one_lim (x : Nat) : isOne (lim x) = decide (x = 1) := by
  unfold isOne
  rw [← lim_1' 1 (by decide) (by decide)]
  by_cases h : x = 1
  · simp [h]
  · have : ¬ lim x = lim 1 := fun e => h (by rw [← val_lim x, e, val_lim])
    simp [h, this]
theorem lim_iff (x y : Nat) : lim x = lim y ↔ x = y := ⟨fun e => by rw [← val_lim x, e, val_lim], fun e => by rw [e]⟩
theorem qa_0 : qa 0 = .r false [] (lim 1) := by
  have h1 : (0 : Rat).num = 0 := rfl
  have h2 : (0 : Rat).den = 1 := rfl
  unfold qa; rw [h1, h2]; simp [lim_zero]
theorem qa_red (z : Int) (d : Nat) (hd : d ≠ 0) : qa (mkRat z d) = .r (decide (z < 0)) (lim (z.natAbs / Nat.gcd z.natAbs d)) (lim (d / Nat.gcd z.natAbs d)) := by
  have hg : 0 < Nat.gcd z.natAbs d := Nat.gcd_pos_of_pos_right _ (by omega)
  have hn : (mkRat z d).num = z / (Nat.gcd z.natAbs d : Nat) := by rw [Rat.num_mkRat, if_neg hd, Nat.gcd_comm]
  have hdn : (mkRat z d).den = d / Nat.gcd z.natAbs d := by rw [Rat.den_mkRat, if_neg hd, Nat.gcd_comm]
  unfold qa
  rw [hn, hdn]
  obtain ⟨k, hk⟩ := Nat.gcd_dvd_left z.natAbs d
  generalize hG : Nat.gcd z.natAbs d = g at *
  have hz : z = (g : Int) * (z / (g : Int)) := by
    have : (g : Int) ∣ z := by rw [← hG]; exact Int.natAbs_dvd_natAbs.1 (by simpa using Nat.gcd_dvd_left z.natAbs d)
    exact (Int.mul_ediv_cancel' this).symm
  have hgz : (0 : Int) < g := by omega
  have h1 : (z / (g : Int) < 0) ↔ z < 0 := by
    constructor
    · intro h
      rw [hz]; exact Int.mul_neg_of_pos_of_neg hgz h
    · intro h
      exact Int.ediv_neg_of_neg_of_pos h hgz
  have h2 : (z / (g : Int)).natAbs = z.natAbs / g := by
    have e : z.natAbs = g * (z / (g : Int)).natAbs := by
      have := congrArg Int.natAbs hz
      rw [Int.natAbs_mul] at this
      simpa using this
    rw [e, Nat.mul_div_cancel_left _ hg]
  rw [h2, decide_eq_decide.2 h1]
theorem reduced_den (a : Bool) (l m : List Nat) : tr_reduced.den GR1 (env0 [.y a l, .u m]) = some [qa (qv a l m)] := by
  unfold qv
  by_cases hd : val m = 0
  · simp only [tr_reduced, Tr.den, evAll, SA.ev, BE.ev, IE.ev, SE.ev, LE.ev, env0, extE_eq, pickO, evN, evB, evS, evLen, evBit, evLst, At.len, At.bit, At.lst, op1, op2, op3, Nat.reduceLeDiff, Nat.reduceSub, Nat.reduceEqDiff, if_true, if_false, ite_true, ite_false, decide_true, decide_false, Bool.not_true, Bool.not_false, Nat.zero_le, Nat.sub_zero, List.getElem?_cons_zero, List.getElem?_cons_succ, List.getElem?_nil, GR1_nnorm, ctF_nnorm, GR1_inorm, ctF_inorm, GR1_ngcd, ctF_ngcd, GR1_ndiv, ctF_ndiv, GR1_one, ctF_one, GR1_unit, ctF_unit, GR1_rnorm, ctF_rnorm, GR1_rinorm, ctF_rinorm, GR1_rgcd, ctF_rgcd, GR1_rdiv, ctF_rdiv, GR1_rnof, ctF_rnof, f_uu, f_yy, f_uuu, f_ub, f_div, na, za, one_lim, decide_eq_true_eq, len_lim0, val_lim, eq_true hd]
    rw [hd, Rat.mkRat_zero, qa_0]
  by_cases hz : (vz a l).natAbs = 0
  · simp only [tr_reduced, Tr.den, evAll, SA.ev, BE.ev, IE.ev, SE.ev, LE.ev, env0, extE_eq, pickO, evN, evB, evS, evLen, evBit, evLst, At.len, At.bit, At.lst, op1, op2, op3, Nat.reduceLeDiff, Nat.reduceSub, Nat.reduceEqDiff, if_true, if_false, ite_true, ite_false, decide_true, decide_false, Bool.not_true, Bool.not_false, Nat.zero_le, Nat.sub_zero, List.getElem?_cons_zero, List.getElem?_cons_succ, List.getElem?_nil, GR1_nnorm, ctF_nnorm, GR1_inorm, ctF_inorm, GR1_ngcd, ctF_ngcd, GR1_ndiv, ctF_ndiv, GR1_one, ctF_one, GR1_unit, ctF_unit, GR1_rnorm, ctF_rnorm, GR1_rinorm, ctF_rinorm, GR1_rgcd, ctF_rgcd, GR1_rdiv, ctF_rdiv, GR1_rnof, ctF_rnof, f_uu, f_yy, f_uuu, f_ub, f_div, na, za, one_lim, decide_eq_true_eq, len_lim0, val_lim, hd, eq_true hz]
    rw [Int.natAbs_eq_zero.1 hz, Rat.zero_mkRat, qa_0]
  rw [qa_red _ _ hd]
  by_cases h1 : val m = 1
  · simp only [tr_reduced, Tr.den, evAll, SA.ev, BE.ev, IE.ev, SE.ev, LE.ev, env0, extE_eq, pickO, evN, evB, evS, evLen, evBit, evLst, At.len, At.bit, At.lst, op1, op2, op3, Nat.reduceLeDiff, Nat.reduceSub, Nat.reduceEqDiff, if_true, if_false, ite_true, ite_false, decide_true, decide_false, Bool.not_true, Bool.not_false, Nat.zero_le, Nat.sub_zero, List.getElem?_cons_zero, List.getElem?_cons_succ, List.getElem?_nil, GR1_nnorm, ctF_nnorm, GR1_inorm, ctF_inorm, GR1_ngcd, ctF_ngcd, GR1_ndiv, ctF_ndiv, GR1_one, ctF_one, GR1_unit, ctF_unit, GR1_rnorm, ctF_rnorm, GR1_rinorm, ctF_rinorm, GR1_rgcd, ctF_rgcd, GR1_rdiv, ctF_rdiv, GR1_rnof, ctF_rnof, f_uu, f_yy, f_uuu, f_ub, f_div, na, za, one_lim, decide_eq_true_eq, len_lim0, val_lim, hd, hz, eq_true h1]
    rw [h1, Nat.gcd_one_right, Nat.div_one, Nat.div_one]
  have hg : ¬ (vz a l).natAbs.gcd (val m) = 0 := Nat.ne_of_gt (Nat.gcd_pos_of_pos_right _ (by omega))
  by_cases h2 : (vz a l).natAbs.gcd (val m) = 1
  · simp only [tr_reduced, Tr.den, evAll, SA.ev, BE.ev, IE.ev, SE.ev, LE.ev, env0, extE_eq, pickO, evN, evB, evS, evLen, evBit, evLst, At.len, At.bit, At.lst, op1, op2, op3, Nat.reduceLeDiff, Nat.reduceSub, Nat.reduceEqDiff, if_true, if_false, ite_true, ite_false, decide_true, decide_false, Bool.not_true, Bool.not_false, Nat.zero_le, Nat.sub_zero, List.getElem?_cons_zero, List.getElem?_cons_succ, List.getElem?_nil, GR1_nnorm, ctF_nnorm, GR1_inorm, ctF_inorm, GR1_ngcd, ctF_ngcd, GR1_ndiv, ctF_ndiv, GR1_one, ctF_one, GR1_unit, ctF_unit, GR1_rnorm, ctF_rnorm, GR1_rinorm, ctF_rinorm, GR1_rgcd, ctF_rgcd, GR1_rdiv, ctF_rdiv, GR1_rnof, ctF_rnof, f_uu, f_yy, f_uuu, f_ub, f_div, na, za, one_lim, decide_eq_true_eq, len_lim0, val_lim, hd, hz, h1, eq_true h2]
    rw [h2, Nat.div_one, Nat.div_one]
  · simp only [tr_reduced, Tr.den, evAll, SA.ev, BE.ev, IE.ev, SE.ev, LE.ev, env0, extE_eq, pickO, evN, evB, evS, evLen, evBit, evLst, At.len, At.bit, At.lst, op1, op2, op3, Nat.reduceLeDiff, Nat.reduceSub, Nat.reduceEqDiff, if_true, if_false, ite_true, ite_false, decide_true, decide_false, Bool.not_true, Bool.not_false, Nat.zero_le, Nat.sub_zero, List.getElem?_cons_zero, List.getElem?_cons_succ, List.getElem?_nil, GR1_nnorm, ctF_nnorm, GR1_inorm, ctF_inorm, GR1_ngcd, ctF_ngcd, GR1_ndiv, ctF_ndiv, GR1_one, ctF_one, GR1_unit, ctF_unit, GR1_rnorm, ctF_rnorm, GR1_rinorm, ctF_rinorm, GR1_rgcd, ctF_rgcd, GR1_rdiv, ctF_rdiv, GR1_rnof, ctF_rnof, f_uu, f_yy, f_uuu, f_ub, f_div, na, za, one_lim, decide_eq_true_eq, len_lim0, val_lim, hd, hz, h1, h2, hg]
theorem over_den (a : Bool) (l m : List Nat) : tr_over.den GR1 (env0 [.y a l, .u m]) = some [qa (qv a l m)] := by
  unfold qv
  by_cases hd : val m = 0
  · simp only [tr_over, Tr.den, evAll, SA.ev, BE.ev, IE.ev, SE.ev, LE.ev, env0, extE_eq, pickO, evN, evB, evS, evLen, evBit, evLst, At.len, At.bit, At.lst, op1, op2, op3, Nat.reduceLeDiff, Nat.reduceSub, Nat.reduceEqDiff, if_true, if_false, ite_true, ite_false, decide_true, decide_false, Bool.not_true, Bool.not_false, Nat.zero_le, Nat.sub_zero, List.getElem?_cons_zero, List.getElem?_cons_succ, List.getElem?_nil, GR1_nnorm, ctF_nnorm, GR1_inorm, ctF_inorm, GR1_ngcd, ctF_ngcd, GR1_ndiv, ctF_ndiv, GR1_one, ctF_one, GR1_unit, ctF_unit, GR1_rnorm, ctF_rnorm, GR1_rinorm, ctF_rinorm, GR1_rgcd, ctF_rgcd, GR1_rdiv, ctF_rdiv, GR1_rnof, ctF_rnof, f_uu, f_yy, f_uuu, f_ub, f_div, f_nof, na, za, one_lim, decide_eq_true_eq, len_lim0, val_lim, eq_true hd]
    rw [hd, Rat.mkRat_zero, qa_0]
    simp
  have hg : ¬ (val l).gcd (val m) = 0 := Nat.ne_of_gt (Nat.gcd_pos_of_pos_right _ (by omega))
  have hz : (vz a l).natAbs = val l := iv_abs a (val l)
  rw [qa_red _ _ hd, hz]
  simp only [tr_over, Tr.den, evAll, SA.ev, BE.ev, IE.ev, SE.ev, LE.ev, env0, extE_eq, pickO, evN, evB, evS, evLen, evBit, evLst, At.len, At.bit, At.lst, op1, op2, op3, Nat.reduceLeDiff, Nat.reduceSub, Nat.reduceEqDiff, if_true, if_false, ite_true, ite_false, decide_true, decide_false, Bool.not_true, Bool.not_false, Nat.zero_le, Nat.sub_zero, List.getElem?_cons_zero, List.getElem?_cons_succ, List.getElem?_nil, GR1_nnorm, ctF_nnorm, GR1_inorm, ctF_inorm, GR1_ngcd, ctF_ngcd, GR1_ndiv, ctF_ndiv, GR1_one, ctF_one, GR1_unit, ctF_unit, GR1_rnorm, ctF_rnorm, GR1_rinorm, ctF_rinorm, GR1_rgcd, ctF_rgcd, GR1_rdiv, ctF_rdiv, GR1_rnof, ctF_rnof, f_uu, f_yy, f_uuu, f_ub, f_div, na, za, one_lim, decide_eq_true_eq, len_lim0, val_lim, hd, hg]
  have hk : val l / (val l).gcd (val m) = 0 ↔ val l = 0 := by
    have hd2 := Nat.gcd_dvd_left (val l) (val m)
    obtain ⟨k, hk⟩ := hd2
    generalize (val l).gcd (val m) = g at *
    rw [hk, Nat.mul_div_cancel_left _ (by omega)]
    constructor
    · intro h; rw [h, Nat.mul_zero]
    · intro h
      rcases Nat.mul_eq_zero.1 h with h | h
      · exact absurd h hg
      · exact h
  have e1 : decide (vz a (lim (val l / (val l).gcd (val m))) < 0) = decide (vz a l < 0) := by
    unfold vz
    rw [val_lim]
    generalize val l / (val l).gcd (val m) = k at *
    generalize val l = x at *
    by_cases h : x = 0
    · rw [hk.2 h, h]
    · have h' : k ≠ 0 := fun e => h (hk.1 e)
      cases a
      · rw [iv_n, iv_n]
      · rw [iv_p _ h, iv_p _ h']
  have e2 : ∀ k, (vz a (lim k)).natAbs = k := fun k => by unfold vz; rw [iv_abs, val_lim]
  rw [e1, e2]
def f_yur : List At → Option (List At)
  | [.y a l, .u m] => some [qa (qv a l m)]
  | _ => none
theorem f_yur_some {als r : List At} (h : f_yur als = some r) : ∃ a l m, als = [.y a l, .u m] ∧ r = [qa (qv a l m)] := by
  unfold f_yur at h
  split at h
  · injection h with h; exact ⟨_, _, _, rfl, h.symm⟩
  · cases h
def ct_reduced : Ct := { args := [[.y], [.u]], res := [[.r]], F := f_yur, L := 1000000000, A := 1, B := 1 }
theorem ctF_reduced : ct_reduced.F = f_yur := rfl
theorem ok_reduced : ct_reduced.ok Try.prog 67 := by
  refine ev_reduced.weaken fun als r h => ?_
  obtain ⟨a, l, m, rfl, rfl⟩ := f_yur_some h
  exact reduced_den a l m
def ct_over : Ct := { args := [[.y], [.u]], res := [[.r]], F := f_yur, L := 1000000000, A := 1, B := 4 }
theorem ctF_over : ct_over.F = f_yur := rfl
theorem ok_over : ct_over.ok Try.prog 76 := by
  refine ev_over.weaken fun als r h => ?_
  obtain ⟨a, l, m, rfl, rfl⟩ := f_yur_some h
  exact over_den a l m
end Go.Proofs.Ytkampmdekonjmaa
