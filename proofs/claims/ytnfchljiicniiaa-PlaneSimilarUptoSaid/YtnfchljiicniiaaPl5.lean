/- Points: the laws' arguments. -/
import Derived.Test.YtnfchljiicniiaaPl4
import Derived.Test.YtnfchljiicniiaaRt2
namespace Go.Proofs.Ytnfchljiicniiaa
open Go Go.RowKit Go.V
set_option linter.unusedSimpArgs false
set_option linter.unusedVariables false
set_option maxRecDepth 20000
/-- a valid number of at most two limbs -/
def qShort (a : Bool) (l m : List Nat) : Bool := qRight a l m && (decide ((l.length : Int) ≤ 2) && decide ((m.length : Int) ≤ 2))
def f_short : List At → Option (List At)
  | [.r a l m] => some [.b (qShort a l m)]
  | _ => none
def GS : Gam := gamOf [(14, ct_rqright)]
theorem GS_ok : GamOk Try.prog GS := gamOk_of ⟨ok_rqright, trivial⟩
theorem GS_rqright : GS 14 = some ct_rqright := rfl
def tr_shortp : Tr (List SA) := (.call 14 [(.ob 0)] 1 (.br (.var 1) (.br (.le (.len 0 1) (.lit 2)) (.leaf [(.b (.le (.len 0 2) (.lit 2)))]) (.leaf [(.b (.lit false))])) (.leaf [(.b (.lit false))])))
theorem ev_shortp : Ct.ok Try.prog 41 { args := [[.r]], res := [[.b]], F := fun als => tr_shortp.den GS (env0 als), L := 1048576, A := 0, B := 0 } :=
  top_ok (by kernel_rfl) GS_ok (plans := planF) (lf := 60) (k := 20) (by kernel_rfl)
theorem shortp_den (a : Bool) (l m : List Nat) : tr_shortp.den GS (env0 [.r a l m]) = f_short [.r a l m] := by
  simp only [f_short, qShort]
  simp only [tr_shortp, Tr.den, evAll, SA.ev, BE.ev, IE.ev, SE.ev, LE.ev, env0, extE_eq, pickO, evN, evB, evS, evLen, evBit, evLst, At.len, At.bit, At.lst, op1, op2, op3, Nat.reduceLeDiff, Nat.reduceSub, Nat.reduceEqDiff, if_true, if_false, ite_true, ite_false, decide_true, decide_false, Bool.not_true, Bool.not_false, Nat.zero_le, Nat.sub_zero, List.getElem?_cons_zero, List.getElem?_cons_succ, List.getElem?_nil, GS_rqright, ctF_rqright, f_qright]
  cases qRight a l m
  · rfl
  · by_cases h : (l.length : Int) ≤ 2
    · simp [h]
    · simp [h]
def ct_shortp : Ct := { args := [[.r]], res := [[.b]], F := f_short, L := 1048576, A := 0, B := 0 }
theorem ctF_shortp : ct_shortp.F = f_short := rfl
theorem ok_shortp : ct_shortp.ok Try.prog 41 := by
  refine ev_shortp.weaken fun als r h => ?_
  have h' := h
  unfold f_short at h
  split at h <;> first | exact (shortp_den _ _ _).trans h' | cases h
def f_fits : List At → Option (List At)
  | [.r a1 l1 m1, .r a2 l2 m2, .r a3 l3 m3, .r a4 l4 m4, .r a5 l5 m5, .r a6 l6 m6, .r a7 l7 m7, .r a8 l8 m8, .r a9 l9 m9, .b f] => some [.b (qShort a1 l1 m1 && qShort a2 l2 m2 && qShort a3 l3 m3 && qShort a4 l4 m4 && qShort a5 l5 m5 && qShort a6 l6 m6 && qShort a7 l7 m7 && qShort a8 l8 m8 && qShort a9 l9 m9)]
  | _ => none
def GS2 : Gam := gamOf [(41, ct_shortp)]
theorem GS2_ok : GamOk Try.prog GS2 := gamOk_of ⟨ok_shortp, trivial⟩
theorem GS2_shortp : GS2 41 = some ct_shortp := rfl
def tr_fits : Tr (List SA) := (.call 41 [(.ob 0)] 10 (.br (.not (.var 10)) (.leaf [(.b (.lit false))]) (.call 41 [(.ob 1)] 11 (.br (.not (.var 11)) (.leaf [(.b (.lit false))]) (.call 41 [(.ob 2)] 12 (.br (.not (.var 12)) (.leaf [(.b (.lit false))]) (.call 41 [(.ob 3)] 13 (.br (.not (.var 13)) (.leaf [(.b (.lit false))]) (.call 41 [(.ob 4)] 14 (.br (.not (.var 14)) (.leaf [(.b (.lit false))]) (.call 41 [(.ob 5)] 15 (.br (.not (.var 15)) (.leaf [(.b (.lit false))]) (.call 41 [(.ob 6)] 16 (.br (.not (.var 16)) (.leaf [(.b (.lit false))]) (.call 41 [(.ob 7)] 17 (.br (.not (.var 17)) (.leaf [(.b (.lit false))]) (.call 41 [(.ob 8)] 18 (.leaf [(.b (.var 18))]))))))))))))))))))
theorem ev_fits : Ct.ok Try.prog 8 { args := [[.r, .r, .r, .r, .r, .r, .r, .r, .r, .b]], res := [[.b]], F := fun als => tr_fits.den GS2 (env0 als), L := 1048576, A := 0, B := 0 } :=
  top_ok (by kernel_rfl) GS2_ok (plans := planF) (lf := 60) (k := 20) (by kernel_rfl)
theorem fits_den (a1 : Bool) (l1 m1 : List Nat) (a2 : Bool) (l2 m2 : List Nat) (a3 : Bool) (l3 m3 : List Nat) (a4 : Bool) (l4 m4 : List Nat) (a5 : Bool) (l5 m5 : List Nat) (a6 : Bool) (l6 m6 : List Nat) (a7 : Bool) (l7 m7 : List Nat) (a8 : Bool) (l8 m8 : List Nat) (a9 : Bool) (l9 m9 : List Nat) (f : Bool) : tr_fits.den GS2 (env0 [.r a1 l1 m1, .r a2 l2 m2, .r a3 l3 m3, .r a4 l4 m4, .r a5 l5 m5, .r a6 l6 m6, .r a7 l7 m7, .r a8 l8 m8, .r a9 l9 m9, .b f]) = f_fits [.r a1 l1 m1, .r a2 l2 m2, .r a3 l3 m3, .r a4 l4 m4, .r a5 l5 m5, .r a6 l6 m6, .r a7 l7 m7, .r a8 l8 m8, .r a9 l9 m9, .b f] := by
  simp only [f_fits]
  simp only [tr_fits, Tr.den, evAll, SA.ev, BE.ev, IE.ev, SE.ev, LE.ev, env0, extE_eq, pickO, evN, evB, evS, evLen, evBit, evLst, At.len, At.bit, At.lst, op1, op2, op3, Nat.reduceLeDiff, Nat.reduceSub, Nat.reduceEqDiff, if_true, if_false, ite_true, ite_false, decide_true, decide_false, Bool.not_true, Bool.not_false, Nat.zero_le, Nat.sub_zero, List.getElem?_cons_zero, List.getElem?_cons_succ, List.getElem?_nil, GS2_shortp, ctF_shortp, f_short]
  cases qShort a1 l1 m1
  · rfl
  cases qShort a2 l2 m2
  · rfl
  cases qShort a3 l3 m3
  · rfl
  cases qShort a4 l4 m4
  · rfl
  cases qShort a5 l5 m5
  · rfl
  cases qShort a6 l6 m6
  · rfl
  cases qShort a7 l7 m7
  · rfl
  cases qShort a8 l8 m8
  · rfl
  cases qShort a9 l9 m9 <;> rfl
def ct_fits : Ct := { args := [[.r, .r, .r, .r, .r, .r, .r, .r, .r, .b]], res := [[.b]], F := f_fits, L := 1048576, A := 0, B := 0 }
theorem ctF_fits : ct_fits.F = f_fits := rfl
theorem ok_fits : ct_fits.ok Try.prog 8 := by
  refine ev_fits.weaken fun als r h => ?_
  have h' := h
  unfold f_fits at h
  split at h <;> first | exact (fits_den _ _ _ _ _ _ _ _ _ _ _ _ _ _ _ _ _ _ _ _ _ _ _ _ _ _ _ _).trans h' | cases h
def f_fitsT (als : List At) : Option (List At) := match f_fits als with
  | some [.b true] => some [.kb true]
  | _ => none
def f_fitsF (als : List At) : Option (List At) := match f_fits als with
  | some [.b false] => some [.kb false]
  | _ => none
def ct_fitsT : Ct := { args := [[.r, .r, .r, .r, .r, .r, .r, .r, .r, .b]], res := [[(.kb true)]], F := f_fitsT, L := 1048576, A := 0, B := 0 }
theorem ctF_fitsT : ct_fitsT.F = f_fitsT := rfl
theorem ok_fitsT : ct_fitsT.ok Try.prog 8 := Ct.ok.konst ok_fits rfl fun als r h => by
  unfold f_fitsT at h
  split at h
  · rename_i h1; injection h with h; subst h; exact ⟨_, h1, rfl⟩
  · cases h
def ct_fitsF : Ct := { args := [[.r, .r, .r, .r, .r, .r, .r, .r, .r, .b]], res := [[(.kb false)]], F := f_fitsF, L := 1048576, A := 0, B := 0 }
theorem ctF_fitsF : ct_fitsF.F = f_fitsF := rfl
theorem ok_fitsF : ct_fitsF.ok Try.prog 8 := Ct.ok.konst ok_fits rfl fun als r h => by
  unfold f_fitsF at h
  split at h
  · rename_i h1; injection h with h; subst h; exact ⟨_, h1, rfl⟩
  · cases h
theorem fitsT_of {als : List At} (h : f_fits als = some [.b true]) : f_fitsT als = some [.kb true] := by unfold f_fitsT; rw [h]
theorem fitsF_of {als : List At} (h : f_fits als = some [.b false]) : f_fitsF als = some [.kb false] := by unfold f_fitsF; rw [h]
def g_same : List QA → Option (List QA)
  | [.q a, .q b, .n e, .q c, .q d, .n f] => if e = 0 ∧ f = 0 then some [.b (decide (a = c ∧ b = d))] else none
  | [.z, .z, .n e, .z, .z, .n f] => if e = f ∧ ¬ e = 0 then some [.b true] else none
  | _ => none
def GP3 : Gam := gamOf [(74, ct_dadd), (83, ct_dradd), (71, ct_dsub), (84, ct_drsub), (65, ct_dmul), (67, ct_drmul), (73, ct_dneg), (86, ct_drneg), (63, ct_dof), (60, ct_drof), (32, ct_drfrac), (70, ct_dsign), (37, ct_drsign), (77, ct_dcmp), (52, ct_drcmp), (42, ct_dequal), (15, ct_drequal), (14, ct_drright), (9, ct_pequal), (10, ct_rpequal), (11, ct_ppdot), (16, ct_rpdot), (12, ct_ppcross), (17, ct_rpcross), (13, ct_ppnorm), (18, ct_rpnorm), (20, ct_divide), (21, ct_rdivide), (22, ct_shiftp), (23, ct_rshiftp), (24, ct_turn), (25, ct_rturn), (26, ct_oncircle), (27, ct_roncircle), (28, ct_foot), (31, ct_mirror), (33, ct_meet), (34, ct_other), (35, ct_center), (36, ct_cut), (38, ct_intersect)]
theorem GP3_ok : GamOk Try.prog GP3 := gamOk_of ⟨ok_dadd, ok_dradd, ok_dsub, ok_drsub, ok_dmul, ok_drmul, ok_dneg, ok_drneg, ok_dof, ok_drof, ok_drfrac, ok_dsign, ok_drsign, ok_dcmp, ok_drcmp, ok_dequal, ok_drequal, ok_drright, ok_pequal, ok_rpequal, ok_ppdot, ok_rpdot, ok_ppcross, ok_rpcross, ok_ppnorm, ok_rpnorm, ok_divide, ok_rdivide, ok_shiftp, ok_rshiftp, ok_turn, ok_rturn, ok_oncircle, ok_roncircle, ok_foot, ok_mirror, ok_meet, ok_other, ok_center, ok_cut, ok_intersect, trivial⟩
theorem GP3_dadd : GP3 74 = some ct_dadd := rfl
theorem GP3_dradd : GP3 83 = some ct_dradd := rfl
theorem GP3_dsub : GP3 71 = some ct_dsub := rfl
theorem GP3_drsub : GP3 84 = some ct_drsub := rfl
theorem GP3_dmul : GP3 65 = some ct_dmul := rfl
theorem GP3_drmul : GP3 67 = some ct_drmul := rfl
theorem GP3_dneg : GP3 73 = some ct_dneg := rfl
theorem GP3_drneg : GP3 86 = some ct_drneg := rfl
theorem GP3_dof : GP3 63 = some ct_dof := rfl
theorem GP3_drof : GP3 60 = some ct_drof := rfl
theorem GP3_drfrac : GP3 32 = some ct_drfrac := rfl
theorem GP3_dsign : GP3 70 = some ct_dsign := rfl
theorem GP3_drsign : GP3 37 = some ct_drsign := rfl
theorem GP3_dcmp : GP3 77 = some ct_dcmp := rfl
theorem GP3_drcmp : GP3 52 = some ct_drcmp := rfl
theorem GP3_dequal : GP3 42 = some ct_dequal := rfl
theorem GP3_drequal : GP3 15 = some ct_drequal := rfl
theorem GP3_drright : GP3 14 = some ct_drright := rfl
theorem GP3_pequal : GP3 9 = some ct_pequal := rfl
theorem GP3_rpequal : GP3 10 = some ct_rpequal := rfl
theorem GP3_ppdot : GP3 11 = some ct_ppdot := rfl
theorem GP3_rpdot : GP3 16 = some ct_rpdot := rfl
theorem GP3_ppcross : GP3 12 = some ct_ppcross := rfl
theorem GP3_rpcross : GP3 17 = some ct_rpcross := rfl
theorem GP3_ppnorm : GP3 13 = some ct_ppnorm := rfl
theorem GP3_rpnorm : GP3 18 = some ct_rpnorm := rfl
theorem GP3_divide : GP3 20 = some ct_divide := rfl
theorem GP3_rdivide : GP3 21 = some ct_rdivide := rfl
theorem GP3_shiftp : GP3 22 = some ct_shiftp := rfl
theorem GP3_rshiftp : GP3 23 = some ct_rshiftp := rfl
theorem GP3_turn : GP3 24 = some ct_turn := rfl
theorem GP3_rturn : GP3 25 = some ct_rturn := rfl
theorem GP3_oncircle : GP3 26 = some ct_oncircle := rfl
theorem GP3_roncircle : GP3 27 = some ct_roncircle := rfl
theorem GP3_foot : GP3 28 = some ct_foot := rfl
theorem GP3_mirror : GP3 31 = some ct_mirror := rfl
theorem GP3_meet : GP3 33 = some ct_meet := rfl
theorem GP3_other : GP3 34 = some ct_other := rfl
theorem GP3_center : GP3 35 = some ct_center := rfl
theorem GP3_cut : GP3 36 = some ct_cut := rfl
theorem GP3_intersect : GP3 38 = some ct_intersect := rfl
def tr_samep : Tr (List SA) := (.br (.not (.eq (.var 2) (.var 5))) (.leaf [(.b (.lit false))]) (.br (.not (.eq (.var 2) (.lit 0))) (.br (.eq (.len 0 2) (.lit 0)) (.br (.eq (.len 1 2) (.lit 0)) (.br (.eq (.len 0 1) (.lit 0)) (.leaf [(.b (.eq (.len 1 1) (.lit 0)))]) (.leaf [(.b (.lit false))])) (.leaf [(.b (.lit false))])) (.leaf [(.b (.lit false))])) (.call 14 [(.ob 0)] 6 (.br (.not (.var 6)) (.leaf [(.b (.lit false))]) (.call 14 [(.ob 1)] 7 (.br (.not (.var 7)) (.leaf [(.b (.lit false))]) (.call 10 [(.ob 0), (.ob 1), (.ob 3), (.ob 4)] 8 (.leaf [(.b (.var 8))]))))))))
theorem ev_samep : Ct.ok Try.prog 19 { args := [[.r, .r], [.n], [.r, .r], [.n]], res := [[.b]], F := fun als => tr_samep.den GP3 (env0 als), L := 100000, A := 0, B := 0 } :=
  top_ok (by kernel_rfl) GP3_ok (plans := planF) (lf := 60) (k := 20) (by kernel_rfl)
theorem samep_den (l r : List QA) (h : g_same l = some r) : tr_samep.den GP3 (env0 (l.map QA.at)) = some (r.map QA.at) := by
  unfold g_same at h
  split at h
  · rename_i a b e c d f
    split at h
    · rename_i h0
      obtain ⟨rfl, rfl⟩ := h0
      injection h with h; subst h
      simp only [tr_samep, Tr.den, evAll, SA.ev, BE.ev, IE.ev, SE.ev, LE.ev, env0, extE_eq, pickO, op1, op2, op3, Nat.reduceLeDiff, Nat.reduceSub, Nat.reduceEqDiff, if_true, if_false, ite_true, ite_false, decide_true, decide_false, Bool.not_true, Bool.not_false, Nat.zero_le, Nat.sub_zero, List.getElem?_cons_zero, List.getElem?_cons_succ, List.getElem?_nil, cq0, cq1, cq2, cq3, cq4, cq5, cq6, cq7, cq8, cq9, cq10, cq12, cq16, outQ1, outQ2, outQ3, outQ4, outQ5, evN_at, evB_at, evS_at, evLen_z1, evLen_z2, evBit_z, at_n, at_b, at_s, at_z, at_k, at_kb, kG, kQ, kQ1, List.map_cons, List.map_nil, List.cons_append, List.nil_append, decide_eq_true_eq, Bool.false_eq_true, GP3_dadd, ctF_dadd, GP3_dradd, ctF_dradd, GP3_dsub, ctF_dsub, GP3_drsub, ctF_drsub, GP3_dmul, ctF_dmul, GP3_drmul, ctF_drmul, GP3_dneg, ctF_dneg, GP3_drneg, ctF_drneg, GP3_dof, ctF_dof, GP3_drof, ctF_drof, GP3_drfrac, ctF_drfrac, GP3_dsign, ctF_dsign, GP3_drsign, ctF_drsign, GP3_dcmp, ctF_dcmp, GP3_drcmp, ctF_drcmp, GP3_dequal, ctF_dequal, GP3_drequal, ctF_drequal, GP3_drright, ctF_drright, GP3_pequal, ctF_pequal, GP3_rpequal, ctF_rpequal, GP3_ppdot, ctF_ppdot, GP3_rpdot, ctF_rpdot, GP3_ppcross, ctF_ppcross, GP3_rpcross, ctF_rpcross, GP3_ppnorm, ctF_ppnorm, GP3_rpnorm, ctF_rpnorm, GP3_divide, ctF_divide, GP3_rdivide, ctF_rdivide, GP3_shiftp, ctF_shiftp, GP3_rshiftp, ctF_rshiftp, GP3_turn, ctF_turn, GP3_rturn, ctF_rturn, GP3_oncircle, ctF_oncircle, GP3_roncircle, ctF_roncircle, GP3_foot, ctF_foot, GP3_mirror, ctF_mirror, GP3_meet, ctF_meet, GP3_other, ctF_other, GP3_center, ctF_center, GP3_cut, ctF_cut, GP3_intersect, ctF_intersect, g_right, g_pequal]
    · cases h
  · rename_i e f
    split at h
    · rename_i h0
      obtain ⟨rfl, h1⟩ := h0
      injection h with h; subst h
      simp only [tr_samep, Tr.den, evAll, SA.ev, BE.ev, IE.ev, SE.ev, LE.ev, env0, extE_eq, pickO, op1, op2, op3, Nat.reduceLeDiff, Nat.reduceSub, Nat.reduceEqDiff, if_true, if_false, ite_true, ite_false, decide_true, decide_false, Bool.not_true, Bool.not_false, Nat.zero_le, Nat.sub_zero, List.getElem?_cons_zero, List.getElem?_cons_succ, List.getElem?_nil, cq0, cq1, cq2, cq3, cq4, cq5, cq6, cq7, cq8, cq9, cq10, cq12, cq16, outQ1, outQ2, outQ3, outQ4, outQ5, evN_at, evB_at, evS_at, evLen_z1, evLen_z2, evBit_z, at_n, at_b, at_s, at_z, at_k, at_kb, kG, kQ, kQ1, List.map_cons, List.map_nil, List.cons_append, List.nil_append, decide_eq_true_eq, Bool.false_eq_true, GP3_dadd, ctF_dadd, GP3_dradd, ctF_dradd, GP3_dsub, ctF_dsub, GP3_drsub, ctF_drsub, GP3_dmul, ctF_dmul, GP3_drmul, ctF_drmul, GP3_dneg, ctF_dneg, GP3_drneg, ctF_drneg, GP3_dof, ctF_dof, GP3_drof, ctF_drof, GP3_drfrac, ctF_drfrac, GP3_dsign, ctF_dsign, GP3_drsign, ctF_drsign, GP3_dcmp, ctF_dcmp, GP3_drcmp, ctF_drcmp, GP3_dequal, ctF_dequal, GP3_drequal, ctF_drequal, GP3_drright, ctF_drright, GP3_pequal, ctF_pequal, GP3_rpequal, ctF_rpequal, GP3_ppdot, ctF_ppdot, GP3_rpdot, ctF_rpdot, GP3_ppcross, ctF_ppcross, GP3_rpcross, ctF_rpcross, GP3_ppnorm, ctF_ppnorm, GP3_rpnorm, ctF_rpnorm, GP3_divide, ctF_divide, GP3_rdivide, ctF_rdivide, GP3_shiftp, ctF_shiftp, GP3_rshiftp, ctF_rshiftp, GP3_turn, ctF_turn, GP3_rturn, ctF_rturn, GP3_oncircle, ctF_oncircle, GP3_roncircle, ctF_roncircle, GP3_foot, ctF_foot, GP3_mirror, ctF_mirror, GP3_meet, ctF_meet, GP3_other, ctF_other, GP3_center, ctF_center, GP3_cut, ctF_cut, GP3_intersect, ctF_intersect, h1]
    · cases h
  · cases h
def ct_samep : Ct := { args := [[.r, .r], [.n], [.r, .r], [.n]], res := [[.b]], F := cq g_same, L := 100000, A := 0, B := 0 }
theorem ctF_samep : ct_samep.F = cq g_same := rfl
theorem ok_samep : ct_samep.ok Try.prog 19 := ev_samep.weaken (of_cq (g := g_same) samep_den)
theorem qShort_can {a : Bool} {l m : List Nat} (hl : Ok l) (hm : Ok m) (h : qShort a l m = true) : At.r a l m = QA.at (.q (qv a l m)) ∧ l.length ≤ 2 ∧ m.length ≤ 2 := by
  unfold qShort at h
  simp only [Bool.and_eq_true, decide_eq_true_eq] at h
  exact ⟨can_qa hl hm h.1, by omega, by omega⟩
theorem szM_cons {D : Nat} {x : At} {r : List At} (h : x.sz ≤ D) (h' : szM r ≤ D) : szM (x :: r) ≤ D := Nat.max_le.2 ⟨h, h'⟩
theorem sz_r {D : Nat} {a : Bool} {l m : List Nat} (h : l.length ≤ D ∧ m.length ≤ D) : (At.r a l m).sz ≤ D := Nat.max_le.2 h
def shC : List Sh := [.r, .r, .r, .r, .r, .r, .r, .r, .r, .b]
/-- a law of points -/
theorem case_law {f0 A2 B2 : Nat} {FB : List At → Option (List At)} (evB : Ct.ok Try.prog f0 { args := [[.r, .r, .r, .r, .r, .r, .r, .r, .r, .b]], res := [[.b]], F := FB, L := 1048576, A := A2, B := B2 })
    (hA : ∀ (x1 x2 x3 x4 x5 x6 x7 x8 x9 : Rat) (f : Bool), f_fits (List.map QA.at [.q x1, .q x2, .q x3, .q x4, .q x5, .q x6, .q x7, .q x8, .q x9, .b f]) = some [.b true] → ∃ FA A1 B1, Ct.ok Try.prog f0 { args := [[.r, .r, .r, .r, .r, .r, .r, .r, .r, .b]], res := [[.b]], F := FA, L := 2, A := A1, B := B1 } ∧ FA (List.map QA.at [.q x1, .q x2, .q x3, .q x4, .q x5, .q x6, .q x7, .q x8, .q x9, .b f]) = some [.b true])
    (hB : ∀ a1 l1 m1 a2 l2 m2 a3 l3 m3 a4 l4 m4 a5 l5 m5 a6 l6 m6 a7 l7 m7 a8 l8 m8 a9 l9 m9 f, f_fits [.r a1 l1 m1, .r a2 l2 m2, .r a3 l3 m3, .r a4 l4 m4, .r a5 l5 m5, .r a6 l6 m6, .r a7 l7 m7, .r a8 l8 m8, .r a9 l9 m9, .b f] = some [.b false] → FB [.r a1 l1 m1, .r a2 l2 m2, .r a3 l3 m3, .r a4 l4 m4, .r a5 l5 m5, .r a6 l6 m6, .r a7 l7 m7, .r a8 l8 m8, .r a9 l9 m9, .b f] = some [.b true])
    {w : World} {als : List At} {v : Value} (hr : RepV w [.r, .r, .r, .r, .r, .r, .r, .r, .r, .b] als v) {B : Nat} (hg : ∀ a ∈ als, a.rngB B) (hB' : B ≤ 1048576) :
    Calls Try.prog f0 #[v] w fun e w' => e = .returned (.bool true) ∧ Below w.heap.size w w' := by
  have hrs : RepVs w [[.r, .r, .r, .r, .r, .r, .r, .r, .r, .b]] als [v] := ⟨als, _, _, _, by simp, rfl, hr, rfl, rfl⟩
  obtain ⟨ho, hs⟩ := RepV_okA hr
  obtain ⟨e1, e2, e3, e4, e5, e6, e7, e8, e9, e10, rfl⟩ : ∃ e1 e2 e3 e4 e5 e6 e7 e8 e9 e10, als = [e1, e2, e3, e4, e5, e6, e7, e8, e9, e10] := by
    have hl : als.length = 10 := by have := congrArg List.length hs; simpa using this
    match als, hl with
    | [e1, e2, e3, e4, e5, e6, e7, e8, e9, e10], _ => exact ⟨_, _, _, _, _, _, _, _, _, _, rfl⟩
  simp only [List.map_cons, List.map_nil, List.cons.injEq, and_true] at hs
  obtain ⟨s1, s2, s3, s4, s5, s6, s7, s8, s9, s10⟩ := hs
  obtain ⟨a1, l1, m1, rfl⟩ := sh_r s1
  obtain ⟨a2, l2, m2, rfl⟩ := sh_r s2
  obtain ⟨a3, l3, m3, rfl⟩ := sh_r s3
  obtain ⟨a4, l4, m4, rfl⟩ := sh_r s4
  obtain ⟨a5, l5, m5, rfl⟩ := sh_r s5
  obtain ⟨a6, l6, m6, rfl⟩ := sh_r s6
  obtain ⟨a7, l7, m7, rfl⟩ := sh_r s7
  obtain ⟨a8, l8, m8, rfl⟩ := sh_r s8
  obtain ⟨a9, l9, m9, rfl⟩ := sh_r s9
  obtain ⟨f', rfl⟩ := sh_b s10
  have hz : ∀ a ∈ ([.r a1 l1 m1, .r a2 l2 m2, .r a3 l3 m3, .r a4 l4 m4, .r a5 l5 m5, .r a6 l6 m6, .r a7 l7 m7, .r a8 l8 m8, .r a9 l9 m9, .b f'] : List At), a.sz ≤ 1048576 := fun a ha => Nat.le_trans (hg a ha).2 hB'
  have o1 : Ok l1 ∧ Ok m1 := ho (.r a1 l1 m1) (by simp)
  have o2 : Ok l2 ∧ Ok m2 := ho (.r a2 l2 m2) (by simp)
  have o3 : Ok l3 ∧ Ok m3 := ho (.r a3 l3 m3) (by simp)
  have o4 : Ok l4 ∧ Ok m4 := ho (.r a4 l4 m4) (by simp)
  have o5 : Ok l5 ∧ Ok m5 := ho (.r a5 l5 m5) (by simp)
  have o6 : Ok l6 ∧ Ok m6 := ho (.r a6 l6 m6) (by simp)
  have o7 : Ok l7 ∧ Ok m7 := ho (.r a7 l7 m7) (by simp)
  have o8 : Ok l8 ∧ Ok m8 := ho (.r a8 l8 m8) (by simp)
  have o9 : Ok l9 ∧ Ok m9 := ho (.r a9 l9 m9) (by simp)
  cases hq : (qShort a1 l1 m1 && qShort a2 l2 m2 && qShort a3 l3 m3 && qShort a4 l4 m4 && qShort a5 l5 m5 && qShort a6 l6 m6 && qShort a7 l7 m7 && qShort a8 l8 m8 && qShort a9 l9 m9) with
  | false => exact law_two evB evB hrs hz (.inr (hB _ _ _ _ _ _ _ _ _ _ _ _ _ _ _ _ _ _ _ _ _ _ _ _ _ _ _ _ (by simp only [f_fits, hq])))
  | true =>
    have hfit : f_fits [.r a1 l1 m1, .r a2 l2 m2, .r a3 l3 m3, .r a4 l4 m4, .r a5 l5 m5, .r a6 l6 m6, .r a7 l7 m7, .r a8 l8 m8, .r a9 l9 m9, .b f'] = some [.b true] := by simp only [f_fits, hq]
    simp only [Bool.and_eq_true] at hq
    obtain ⟨⟨⟨⟨⟨⟨⟨⟨q1, q2⟩, q3⟩, q4⟩, q5⟩, q6⟩, q7⟩, q8⟩, q9⟩ := hq
    obtain ⟨c1, u1, v1⟩ := qShort_can o1.1 o1.2 q1
    obtain ⟨c2, u2, v2⟩ := qShort_can o2.1 o2.2 q2
    obtain ⟨c3, u3, v3⟩ := qShort_can o3.1 o3.2 q3
    obtain ⟨c4, u4, v4⟩ := qShort_can o4.1 o4.2 q4
    obtain ⟨c5, u5, v5⟩ := qShort_can o5.1 o5.2 q5
    obtain ⟨c6, u6, v6⟩ := qShort_can o6.1 o6.2 q6
    obtain ⟨c7, u7, v7⟩ := qShort_can o7.1 o7.2 q7
    obtain ⟨c8, u8, v8⟩ := qShort_can o8.1 o8.2 q8
    obtain ⟨c9, u9, v9⟩ := qShort_can o9.1 o9.2 q9
    have hzz : szM [.r a1 l1 m1, .r a2 l2 m2, .r a3 l3 m3, .r a4 l4 m4, .r a5 l5 m5, .r a6 l6 m6, .r a7 l7 m7, .r a8 l8 m8, .r a9 l9 m9, .b f'] ≤ 2 := szM_cons (sz_r ⟨u1, v1⟩) (szM_cons (sz_r ⟨u2, v2⟩) (szM_cons (sz_r ⟨u3, v3⟩) (szM_cons (sz_r ⟨u4, v4⟩) (szM_cons (sz_r ⟨u5, v5⟩) (szM_cons (sz_r ⟨u6, v6⟩) (szM_cons (sz_r ⟨u7, v7⟩) (szM_cons (sz_r ⟨u8, v8⟩) (szM_cons (sz_r ⟨u9, v9⟩) (szM_cons (Nat.zero_le _) (Nat.zero_le _))))))))))
    rw [c1, c2, c3, c4, c5, c6, c7, c8, c9, show At.b f' = QA.at (.b f') from rfl] at hfit hrs hz hzz
    obtain ⟨FA, A1, B1, evA, hFA⟩ := hA _ _ _ _ _ _ _ _ _ _ hfit
    exact law_two evA evB hrs hz (.inl ⟨hzz, hFA⟩)
end Go.Proofs.Ytnfchljiicniiaa
