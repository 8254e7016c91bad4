/- Points: the law of similarity. -/
import Derived.Test.YtnfchljiicniiaaPlK
namespace Go.Proofs.Ytnfchljiicniiaa
open Go Go.RowKit Go.V Go.ChangeMaps
set_option linter.unusedSimpArgs false
set_option linter.unusedVariables false
set_option maxRecDepth 20000
def g_moved : List QA → Option (List QA)
  | [.q x1, .q x2, .q x3, .q x4, .q x5, .q x6, .q x7, .q x8, .q x9, .b f, .q a, .q b] => some [.q (x7 + -(b - x6)), .q (x8 + (a - x5))]
  | _ => none
def g_agrees : List QA → Option (List QA)
  | [.q x1, .q x2, .q x3, .q x4, .q x5, .q x6, .q x7, .q x8, .q x9, .b fl, .q p1, .q p2, .n e, .q q1, .q q2, .n f] => if e = 0 ∧ f = 0 then some [.b (decide (x7 + -(p2 - x6) = q1 ∧ x8 + (p1 - x5) = q2))] else none
  | [.q x1, .q x2, .q x3, .q x4, .q x5, .q x6, .q x7, .q x8, .q x9, .b fl, .z, .z, .n e, .z, .z, .n f] => if e = f ∧ ¬ e = 0 then some [.b true] else none
  | _ => none
def tr_moved : Tr (List SA) := (.call 24 [(.ob 6), (.ob 7), (.ob 4), (.ob 5), (.ob 10), (.ob 11)] 12 (.leaf [(.ob 12), (.ob 13)]))
theorem ev_moved : Ct.ok Try.prog 39 { args := [[.r, .r, .r, .r, .r, .r, .r, .r, .r, .b], [.r, .r]], res := [[.r, .r]], F := fun als => tr_moved.den GP3 (env0 als), L := 200000, A := 4, B := 26 } :=
  top_ok (by kernel_rfl) GP3_ok (plans := planF) (lf := 60) (k := 20) (by kernel_rfl)
theorem moved_den (l r : List QA) (h : g_moved l = some r) : tr_moved.den GP3 (env0 (l.map QA.at)) = some (r.map QA.at) := by
  unfold g_moved at h
  split at h
  · injection h with h; subst h
    simp only [tr_moved, Tr.den, evAll, SA.ev, BE.ev, IE.ev, SE.ev, LE.ev, env0, extE_eq, pickO, op1, op2, op3, Nat.reduceLeDiff, Nat.reduceSub, Nat.reduceEqDiff, if_true, if_false, ite_true, ite_false, decide_true, decide_false, Bool.not_true, Bool.not_false, Nat.zero_le, Nat.sub_zero, List.getElem?_cons_zero, List.getElem?_cons_succ, List.getElem?_nil, cq0, cq1, cq2, cq3, cq4, cq5, cq6, cq7, cq8, cq9, cq10, cq12, cq16, outQ1, outQ2, outQ3, outQ4, outQ5, evN_at, evB_at, evS_at, evLen_z1, evLen_z2, evBit_z, at_n, at_b, at_s, at_z, at_k, at_kb, kG, kQ, kQ1, List.map_cons, List.map_nil, List.cons_append, List.nil_append, decide_eq_true_eq, Bool.false_eq_true, GP3_dadd, ctF_dadd, GP3_dradd, ctF_dradd, GP3_dsub, ctF_dsub, GP3_drsub, ctF_drsub, GP3_dmul, ctF_dmul, GP3_drmul, ctF_drmul, GP3_dneg, ctF_dneg, GP3_drneg, ctF_drneg, GP3_dof, ctF_dof, GP3_drof, ctF_drof, GP3_drfrac, ctF_drfrac, GP3_dsign, ctF_dsign, GP3_drsign, ctF_drsign, GP3_dcmp, ctF_dcmp, GP3_drcmp, ctF_drcmp, GP3_dequal, ctF_dequal, GP3_drequal, ctF_drequal, GP3_drright, ctF_drright, GP3_pequal, ctF_pequal, GP3_rpequal, ctF_rpequal, GP3_ppdot, ctF_ppdot, GP3_rpdot, ctF_rpdot, GP3_ppcross, ctF_ppcross, GP3_rpcross, ctF_rpcross, GP3_ppnorm, ctF_ppnorm, GP3_rpnorm, ctF_rpnorm, GP3_divide, ctF_divide, GP3_rdivide, ctF_rdivide, GP3_shiftp, ctF_shiftp, GP3_rshiftp, ctF_rshiftp, GP3_turn, ctF_turn, GP3_rturn, ctF_rturn, GP3_oncircle, ctF_oncircle, GP3_roncircle, ctF_roncircle, GP3_foot, ctF_foot, GP3_mirror, ctF_mirror, GP3_meet, ctF_meet, GP3_other, ctF_other, GP3_center, ctF_center, GP3_cut, ctF_cut, GP3_intersect, ctF_intersect, g_turn]
  · cases h
def ct_moved : Ct := { args := [[.r, .r, .r, .r, .r, .r, .r, .r, .r, .b], [.r, .r]], res := [[.r, .r]], F := cq g_moved, L := 200000, A := 4, B := 26 }
theorem ctF_moved : ct_moved.F = cq g_moved := rfl
theorem ok_moved : ct_moved.ok Try.prog 39 := ev_moved.weaken (of_cq (g := g_moved) moved_den)
def GP4 : Gam := gamOf [(9, ct_pequal), (39, ct_moved)]
theorem GP4_ok : GamOk Try.prog GP4 := gamOk_of ⟨ok_pequal, ok_moved, trivial⟩
theorem GP4_pequal : GP4 9 = some ct_pequal := rfl
theorem GP4_moved : GP4 39 = some ct_moved := rfl
def tr_agrees : Tr (List SA) := (.br (.eq (.var 12) (.var 15)) (.br (.not (.eq (.var 12) (.lit 0))) (.leaf [(.b (.lit true))]) (.call 39 [(.ob 0), (.ob 1), (.ob 2), (.ob 3), (.ob 4), (.ob 5), (.ob 6), (.ob 7), (.ob 8), (.b (.var 9)), (.ob 10), (.ob 11)] 16 (.call 9 [(.ob 16), (.ob 17), (.ob 13), (.ob 14)] 18 (.leaf [(.b (.var 18))])))) (.leaf [(.b (.lit false))]))
theorem ev_agrees : Ct.ok Try.prog 40 { args := [[.r, .r, .r, .r, .r, .r, .r, .r, .r, .b], [.r, .r], [.n], [.r, .r], [.n]], res := [[.b]], F := fun als => tr_agrees.den GP4 (env0 als), L := 150000, A := 0, B := 0 } :=
  top_ok (by kernel_rfl) GP4_ok (plans := planF) (lf := 60) (k := 20) (by kernel_rfl)
theorem agrees_den (l r : List QA) (h : g_agrees l = some r) : tr_agrees.den GP4 (env0 (l.map QA.at)) = some (r.map QA.at) := by
  unfold g_agrees at h
  split at h
  · rename_i x1 x2 x3 x4 x5 x6 x7 x8 x9 fl p1 p2 e q1 q2 f
    split at h
    · rename_i h0
      obtain ⟨rfl, rfl⟩ := h0
      injection h with h; subst h
      simp only [tr_agrees, Tr.den, evAll, SA.ev, BE.ev, IE.ev, SE.ev, LE.ev, env0, extE_eq, pickO, op1, op2, op3, Nat.reduceLeDiff, Nat.reduceSub, Nat.reduceEqDiff, if_true, if_false, ite_true, ite_false, decide_true, decide_false, Bool.not_true, Bool.not_false, Nat.zero_le, Nat.sub_zero, List.getElem?_cons_zero, List.getElem?_cons_succ, List.getElem?_nil, cq0, cq1, cq2, cq3, cq4, cq5, cq6, cq7, cq8, cq9, cq10, cq12, cq16, outQ1, outQ2, outQ3, outQ4, outQ5, evN_at, evB_at, evS_at, evLen_z1, evLen_z2, evBit_z, at_n, at_b, at_s, at_z, at_k, at_kb, kG, kQ, kQ1, List.map_cons, List.map_nil, List.cons_append, List.nil_append, decide_eq_true_eq, Bool.false_eq_true, GP4_pequal, ctF_pequal, GP4_moved, ctF_moved, g_moved, g_pequal]
    · cases h
  · rename_i x1 x2 x3 x4 x5 x6 x7 x8 x9 fl e f
    split at h
    · rename_i h0
      obtain ⟨rfl, h1⟩ := h0
      injection h with h; subst h
      simp only [tr_agrees, Tr.den, evAll, SA.ev, BE.ev, IE.ev, SE.ev, LE.ev, env0, extE_eq, pickO, op1, op2, op3, Nat.reduceLeDiff, Nat.reduceSub, Nat.reduceEqDiff, if_true, if_false, ite_true, ite_false, decide_true, decide_false, Bool.not_true, Bool.not_false, Nat.zero_le, Nat.sub_zero, List.getElem?_cons_zero, List.getElem?_cons_succ, List.getElem?_nil, cq0, cq1, cq2, cq3, cq4, cq5, cq6, cq7, cq8, cq9, cq10, cq12, cq16, outQ1, outQ2, outQ3, outQ4, outQ5, evN_at, evB_at, evS_at, evLen_z1, evLen_z2, evBit_z, at_n, at_b, at_s, at_z, at_k, at_kb, kG, kQ, kQ1, List.map_cons, List.map_nil, List.cons_append, List.nil_append, decide_eq_true_eq, Bool.false_eq_true, GP4_pequal, ctF_pequal, GP4_moved, ctF_moved, h1]
    · cases h
  · cases h
def ct_agrees : Ct := { args := [[.r, .r, .r, .r, .r, .r, .r, .r, .r, .b], [.r, .r], [.n], [.r, .r], [.n]], res := [[.b]], F := cq g_agrees, L := 150000, A := 0, B := 0 }
theorem ctF_agrees : ct_agrees.F = cq g_agrees := rfl
theorem ok_agrees : ct_agrees.ok Try.prog 40 := ev_agrees.weaken (of_cq (g := g_agrees) agrees_den)
def ct_agreesT : Ct := { args := [[.r, .r, .r, .r, .r, .r, .r, .r, .r, .b], [.r, .r], [.n], [.r, .r], [.n]], res := [[(.kb true)]], F := cq (kG g_agrees [[(.kb true)]].flatten), L := 150000, A := 0, B := 0 }
theorem ctF_agreesT : ct_agreesT.F = cq (kG g_agrees [(.kb true)]) := rfl
theorem ok_agreesT : ct_agreesT.ok Try.prog 40 := ok_kq ok_agrees rfl
/-! ### What a rotation by a right angle and a shift does -/
section
variable {ax ay bx by' cx cy dx dy px py qx qy u v s t : Rat}
theorem mv_eq : (s + -(ay - v) = s + -(by' - v) ∧ t + (ax - u) = t + (bx - u)) = (ax = bx ∧ ay = by') := by
  apply propext
  constructor
  · rintro ⟨h1, h2⟩; exact ⟨by grind, by grind⟩
  · rintro ⟨rfl, rfl⟩; exact ⟨rfl, rfl⟩
theorem mv_dot : pdot (s + -(ay - v)) (t + (ax - u)) (s + -(by' - v)) (t + (bx - u)) (s + -(cy - v)) (t + (cx - u)) (s + -(dy - v)) (t + (dx - u)) = pdot ax ay bx by' cx cy dx dy := by
  unfold pdot; grind
theorem mv_cross : pcross (s + -(ay - v)) (t + (ax - u)) (s + -(by' - v)) (t + (bx - u)) (s + -(cy - v)) (t + (cx - u)) (s + -(dy - v)) (t + (dx - u)) = pcross ax ay bx by' cx cy dx dy := by
  unfold pcross; grind
theorem mv_norm : pnorm (s + -(ay - v)) (t + (ax - u)) (s + -(by' - v)) (t + (bx - u)) = pnorm ax ay bx by' := by
  unfold pnorm; grind
theorem mv_footT : footT (s + -(py - v)) (t + (px - u)) (s + -(ay - v)) (t + (ax - u)) (s + -(by' - v)) (t + (bx - u)) = footT px py ax ay bx by' := by
  unfold footT; rw [mv_dot, mv_norm]
theorem mv_meetT : meetT (s + -(ay - v)) (t + (ax - u)) (s + -(by' - v)) (t + (bx - u)) (s + -(cy - v)) (t + (cx - u)) (s + -(dy - v)) (t + (dx - u)) = meetT ax ay bx by' cx cy dx dy := by
  unfold meetT; rw [mv_cross, mv_cross]
theorem mv_otherT : otherT (s + -(py - v)) (t + (px - u)) (s + -(qy - v)) (t + (qx - u)) (s + -(ay - v)) (t + (ax - u)) = otherT px py qx qy ax ay := by
  unfold otherT; rw [mv_dot, mv_norm]
theorem mv_cenX : cenX (s + -(ay - v)) (t + (ax - u)) (s + -(by' - v)) (t + (bx - u)) (s + -(cy - v)) (t + (cx - u)) = - cenY ax ay bx by' cx cy := by
  unfold cenX cenY
  rw [mv_cross, mv_norm, mv_norm]
  generalize pnorm ax ay bx by' = m
  generalize pnorm ax ay cx cy = n
  rw [Rat.div_def, Rat.div_def]
  grind
theorem mv_cenY : cenY (s + -(ay - v)) (t + (ax - u)) (s + -(by' - v)) (t + (bx - u)) (s + -(cy - v)) (t + (cx - u)) = cenX ax ay bx by' cx cy := by
  unfold cenX cenY
  rw [mv_cross, mv_norm, mv_norm]
  generalize pnorm ax ay bx by' = m
  generalize pnorm ax ay cx cy = n
  rw [Rat.div_def, Rat.div_def]
  grind
theorem mv_cutM : cutM (s + -(ay - v)) (t + (ax - u)) (s + -(by' - v)) (t + (bx - u)) (s + -(cy - v)) (t + (cx - u)) = cutM ax ay bx by' cx cy := by
  unfold cutM; rw [mv_dot, mv_norm]
theorem mv_cutD : cutD (s + -(ay - v)) (t + (ax - u)) (s + -(by' - v)) (t + (bx - u)) (s + -(cy - v)) (t + (cx - u)) (s + -(dy - v)) (t + (dx - u)) = cutD ax ay bx by' cx cy dx dy := by
  unfold cutD; rw [mv_cutM, mv_norm, mv_norm, mv_norm]
theorem mv_intM : intM (s + -(ay - v)) (t + (ax - u)) (s + -(by' - v)) (t + (bx - u)) (s + -(cy - v)) (t + (cx - u)) (s + -(dy - v)) (t + (dx - u)) = intM ax ay bx by' cx cy dx dy := by
  unfold intM; rw [mv_norm, mv_norm, mv_norm]
theorem mv_intD : intD (s + -(ay - v)) (t + (ax - u)) (s + -(by' - v)) (t + (bx - u)) (s + -(cy - v)) (t + (cx - u)) (s + -(dy - v)) (t + (dx - u)) = intD ax ay bx by' cx cy dx dy := by
  unfold intD; rw [mv_intM, mv_norm, mv_norm]
end
theorem n11' : ¬ (11 : Int) = 0 := by decide
section
variable {x1 x2 x3 x4 x5 x6 x7 x8 x9 : Rat} {f : Bool}
/-- a result for points, and the one for their images -/
def Agree (x1 x2 x3 x4 x5 x6 x7 x8 x9 : Rat) (f : Bool) (A B : Option (List QA)) : Prop := ∃ (p q : QA) (e : Int) (p' q' : QA) (e' : Int), A = some [p, q, .n e] ∧ B = some [p', q', .n e'] ∧ g_agrees [.q x1, .q x2, .q x3, .q x4, .q x5, .q x6, .q x7, .q x8, .q x9, .b f, p, q, .n e, p', q', .n e'] = some [.b true]
theorem agree_err {A B : Option (List QA)} {e : Int} (hA : A = some [.z, .z, .n e]) (hB : B = some [.z, .z, .n e]) (he : ¬ e = 0) : Agree x1 x2 x3 x4 x5 x6 x7 x8 x9 f A B :=
  ⟨_, _, _, _, _, _, hA, hB, by simp only [g_agrees]; rw [if_pos ⟨trivial, he⟩]⟩
theorem agree_ok {A B : Option (List QA)} {p q p' q' : Rat} (hA : A = some [.q p, .q q, .n 0]) (hB : B = some [.q p', .q q', .n 0]) (h1 : x7 + -(q - x6) = p') (h2 : x8 + (p - x5) = q') : Agree x1 x2 x3 x4 x5 x6 x7 x8 x9 f A B :=
  ⟨_, _, _, _, _, _, hA, hB, by simp only [g_agrees, and_self, if_true]; rw [decide_eq_true ⟨h1, h2⟩]⟩
theorem ag_foot (px py ax ay bx by' : Rat) : Agree x1 x2 x3 x4 x5 x6 x7 x8 x9 f (g_foot [.q px, .q py, .q ax, .q ay, .q bx, .q by']) (g_foot [.q (x7 + -(py - x6)), .q (x8 + (px - x5)), .q (x7 + -(ay - x6)), .q (x8 + (ax - x5)), .q (x7 + -(by' - x6)), .q (x8 + (bx - x5))]) := by
  by_cases h : ax = bx ∧ ay = by'
  · refine agree_err (e := 11) ?_ ?_ n11'
    · simp only [g_foot, if_pos h]
    · simp only [g_foot, mv_eq, if_pos h]
  · refine agree_ok (by simp only [g_foot, if_neg h]; rfl) (by simp only [g_foot, mv_eq, if_neg h]; rfl) ?_ ?_
    · unfold footX footY; rw [mv_footT]; grind
    · unfold footX footY; rw [mv_footT]; grind
theorem ag_other (px py qx qy ox oy : Rat) : Agree x1 x2 x3 x4 x5 x6 x7 x8 x9 f (g_other [.q px, .q py, .q qx, .q qy, .q ox, .q oy]) (g_other [.q (x7 + -(py - x6)), .q (x8 + (px - x5)), .q (x7 + -(qy - x6)), .q (x8 + (qx - x5)), .q (x7 + -(oy - x6)), .q (x8 + (ox - x5))]) := by
  by_cases h : px = qx ∧ py = qy
  · refine agree_err (e := 11) ?_ ?_ n11'
    · simp only [g_other, if_pos h]
    · simp only [g_other, mv_eq, if_pos h]
  · refine agree_ok (by simp only [g_other, if_neg h]; rfl) (by simp only [g_other, mv_eq, if_neg h]; rfl) ?_ ?_
    · rw [mv_otherT]; grind
    · rw [mv_otherT]; grind
theorem ag_meet (ax ay bx by' cx cy dx dy : Rat) : Agree x1 x2 x3 x4 x5 x6 x7 x8 x9 f (g_meet [.q ax, .q ay, .q bx, .q by', .q cx, .q cy, .q dx, .q dy]) (g_meet [.q (x7 + -(ay - x6)), .q (x8 + (ax - x5)), .q (x7 + -(by' - x6)), .q (x8 + (bx - x5)), .q (x7 + -(cy - x6)), .q (x8 + (cx - x5)), .q (x7 + -(dy - x6)), .q (x8 + (dx - x5))]) := by
  by_cases h : pcross ax ay bx by' cx cy dx dy = 0
  · refine agree_err (e := 11) ?_ ?_ n11'
    · simp only [g_meet, if_pos h]
    · simp only [g_meet, mv_cross, if_pos h]
  · refine agree_ok (by simp only [g_meet, if_neg h]; rfl) (by simp only [g_meet, mv_cross, if_neg h]; rfl) ?_ ?_
    · rw [mv_meetT]; grind
    · rw [mv_meetT]; grind
theorem ag_center (ax ay bx by' cx cy : Rat) : Agree x1 x2 x3 x4 x5 x6 x7 x8 x9 f (g_center [.q ax, .q ay, .q bx, .q by', .q cx, .q cy]) (g_center [.q (x7 + -(ay - x6)), .q (x8 + (ax - x5)), .q (x7 + -(by' - x6)), .q (x8 + (bx - x5)), .q (x7 + -(cy - x6)), .q (x8 + (cx - x5))]) := by
  by_cases h : pcross ax ay bx by' ax ay cx cy = 0
  · refine agree_err (e := 11) ?_ ?_ n11'
    · simp only [g_center, if_pos h]
    · simp only [g_center, mv_cross, if_pos h]
  · refine agree_ok (by simp only [g_center, if_neg h]; rfl) (by simp only [g_center, mv_cross, if_neg h]; rfl) ?_ ?_
    · rw [mv_cenX]; grind
    · rw [mv_cenY]; grind
theorem ag_cut (ax ay bx by' ox oy px py : Rat) (g : Bool) : Agree x1 x2 x3 x4 x5 x6 x7 x8 x9 f (g_cut [.q ax, .q ay, .q bx, .q by', .q ox, .q oy, .q px, .q py, .b g]) (g_cut [.q (x7 + -(ay - x6)), .q (x8 + (ax - x5)), .q (x7 + -(by' - x6)), .q (x8 + (bx - x5)), .q (x7 + -(oy - x6)), .q (x8 + (ox - x5)), .q (x7 + -(py - x6)), .q (x8 + (px - x5)), .b g]) := by
  by_cases h : ax = bx ∧ ay = by'
  · refine agree_err (e := 11) ?_ ?_ n11'
    · simp only [g_cut, if_pos h]
    · simp only [g_cut, mv_eq, if_pos h]
  · by_cases h0 : rootE (cutD ax ay bx by' ox oy px py) = 0
    · refine agree_ok (by simp only [g_cut, if_neg h, if_pos h0]; rfl) (by simp only [g_cut, mv_eq, if_neg h, mv_cutD, if_pos h0]; rfl) ?_ ?_
      · rw [mv_cutM]; grind
      · rw [mv_cutM]; grind
    · refine agree_err (e := rootE (cutD ax ay bx by' ox oy px py)) ?_ ?_ h0
      · simp only [g_cut, if_neg h, if_neg h0]
      · simp only [g_cut, mv_eq, mv_cutD, if_neg h, if_neg h0]
theorem ag_intersect (ax ay bx by' ox oy px py : Rat) (g : Bool) : Agree x1 x2 x3 x4 x5 x6 x7 x8 x9 f (g_intersect [.q ax, .q ay, .q bx, .q by', .q ox, .q oy, .q px, .q py, .b g]) (g_intersect [.q (x7 + -(ay - x6)), .q (x8 + (ax - x5)), .q (x7 + -(by' - x6)), .q (x8 + (bx - x5)), .q (x7 + -(oy - x6)), .q (x8 + (ox - x5)), .q (x7 + -(py - x6)), .q (x8 + (px - x5)), .b g]) := by
  by_cases h : ax = ox ∧ ay = oy
  · refine agree_err (e := 11) ?_ ?_ n11'
    · simp only [g_intersect, if_pos h]
    · simp only [g_intersect, mv_eq, if_pos h]
  · by_cases h0 : rootE (intD ax ay bx by' ox oy px py) = 0
    · refine agree_ok (by simp only [g_intersect, if_neg h, if_pos h0]; rfl) (by simp only [g_intersect, mv_eq, if_neg h, mv_intD, if_pos h0]; rfl) ?_ ?_
      · rw [mv_intM]; grind
      · rw [mv_intM]; grind
    · refine agree_err (e := rootE (intD ax ay bx by' ox oy px py)) ?_ ?_ h0
      · simp only [g_intersect, if_neg h, if_neg h0]
      · simp only [g_intersect, mv_eq, mv_intD, if_neg h, if_neg h0]
end
def GB_planeSimilar : Gam := gamOf [(8, ct_fitsF)]
theorem GB_planeSimilar_ok : GamOk Try.prog GB_planeSimilar := gamOk_of ⟨ok_fitsF, trivial⟩
theorem GB_planeSimilar_fitsF : GB_planeSimilar 8 = some ct_fitsF := rfl
def tr_planeSimilarB : Tr (List SA) := (.call 8 [(.ob 0), (.ob 1), (.ob 2), (.ob 3), (.ob 4), (.ob 5), (.ob 6), (.ob 7), (.ob 8), (.b (.var 9))] 10 (.leaf [(.b (.lit true))]))
theorem ev_planeSimilarB : Ct.ok Try.prog 7 { args := [[.r, .r, .r, .r, .r, .r, .r, .r, .r, .b]], res := [[.b]], F := fun als => tr_planeSimilarB.den GB_planeSimilar (env0 als), L := 1048576, A := 0, B := 0 } :=
  top_ok (by kernel_rfl) GB_planeSimilar_ok (plans := planF) (lf := 60) (k := 20) (by kernel_rfl)
theorem planeSimilarB_den (a1 : Bool) (l1 m1 : List Nat) (a2 : Bool) (l2 m2 : List Nat) (a3 : Bool) (l3 m3 : List Nat) (a4 : Bool) (l4 m4 : List Nat) (a5 : Bool) (l5 m5 : List Nat) (a6 : Bool) (l6 m6 : List Nat) (a7 : Bool) (l7 m7 : List Nat) (a8 : Bool) (l8 m8 : List Nat) (a9 : Bool) (l9 m9 : List Nat) (f : Bool) (h : f_fits [.r a1 l1 m1, .r a2 l2 m2, .r a3 l3 m3, .r a4 l4 m4, .r a5 l5 m5, .r a6 l6 m6, .r a7 l7 m7, .r a8 l8 m8, .r a9 l9 m9, .b f] = some [.b false]) : tr_planeSimilarB.den GB_planeSimilar (env0 [.r a1 l1 m1, .r a2 l2 m2, .r a3 l3 m3, .r a4 l4 m4, .r a5 l5 m5, .r a6 l6 m6, .r a7 l7 m7, .r a8 l8 m8, .r a9 l9 m9, .b f]) = some [.b true] := by
  have h := fitsF_of h
  simp only [tr_planeSimilarB, Tr.den, evAll, SA.ev, BE.ev, IE.ev, SE.ev, LE.ev, env0, extE_eq, pickO, evN, evB, evS, evLen, evBit, evLst, At.len, At.bit, At.lst, op1, op2, op3, Nat.reduceLeDiff, Nat.reduceSub, Nat.reduceEqDiff, if_true, if_false, ite_true, ite_false, decide_true, decide_false, Bool.not_true, Bool.not_false, Nat.zero_le, Nat.sub_zero, List.getElem?_cons_zero, List.getElem?_cons_succ, List.getElem?_nil, GB_planeSimilar_fitsF, ctF_fitsF, h]
def G_planeSimilar0 : Gam := gamOf [(8, ct_fitsT), (39, ct_moved), (11, ct_ppdot), (12, ct_ppcross), (28, ct_foot), (33, ct_meet), (35, ct_center), (34, ct_other), (36, ct_cut), (38, ct_intersect), (40, ct_agreesT), (15, ct_drequalT)]
theorem G_planeSimilar0_ok : GamOk Try.prog G_planeSimilar0 := gamOk_of ⟨ok_fitsT, ok_moved, ok_ppdot, ok_ppcross, ok_foot, ok_meet, ok_center, ok_other, ok_cut, ok_intersect, ok_agreesT, ok_drequalT, trivial⟩
theorem G_planeSimilar0_fitsT : G_planeSimilar0 8 = some ct_fitsT := rfl
theorem G_planeSimilar0_moved : G_planeSimilar0 39 = some ct_moved := rfl
theorem G_planeSimilar0_ppdot : G_planeSimilar0 11 = some ct_ppdot := rfl
theorem G_planeSimilar0_ppcross : G_planeSimilar0 12 = some ct_ppcross := rfl
theorem G_planeSimilar0_foot : G_planeSimilar0 28 = some ct_foot := rfl
theorem G_planeSimilar0_meet : G_planeSimilar0 33 = some ct_meet := rfl
theorem G_planeSimilar0_center : G_planeSimilar0 35 = some ct_center := rfl
theorem G_planeSimilar0_other : G_planeSimilar0 34 = some ct_other := rfl
theorem G_planeSimilar0_cut : G_planeSimilar0 36 = some ct_cut := rfl
theorem G_planeSimilar0_intersect : G_planeSimilar0 38 = some ct_intersect := rfl
theorem G_planeSimilar0_agreesT : G_planeSimilar0 40 = some ct_agreesT := rfl
theorem G_planeSimilar0_drequalT : G_planeSimilar0 15 = some ct_drequalT := rfl
def tr_planeSimilar0 : Tr (List SA) := (.call 8 [(.ob 0), (.ob 1), (.ob 2), (.ob 3), (.ob 4), (.ob 5), (.ob 6), (.ob 7), (.ob 8), (.b (.var 9))] 10 (.call 39 [(.ob 0), (.ob 1), (.ob 2), (.ob 3), (.ob 4), (.ob 5), (.ob 6), (.ob 7), (.ob 8), (.b (.var 9)), (.ob 0), (.ob 1)] 34 (.call 39 [(.ob 0), (.ob 1), (.ob 2), (.ob 3), (.ob 4), (.ob 5), (.ob 6), (.ob 7), (.ob 8), (.b (.var 9)), (.ob 2), (.ob 3)] 36 (.call 39 [(.ob 0), (.ob 1), (.ob 2), (.ob 3), (.ob 4), (.ob 5), (.ob 6), (.ob 7), (.ob 8), (.b (.var 9)), (.ob 4), (.ob 5)] 38 (.call 39 [(.ob 0), (.ob 1), (.ob 2), (.ob 3), (.ob 4), (.ob 5), (.ob 6), (.ob 7), (.ob 8), (.b (.var 9)), (.ob 6), (.ob 7)] 40 (.call 11 [(.ob 0), (.ob 1), (.ob 2), (.ob 3), (.ob 4), (.ob 5), (.ob 6), (.ob 7)] 42 (.call 11 [(.ob 34), (.ob 35), (.ob 36), (.ob 37), (.ob 38), (.ob 39), (.ob 40), (.ob 41)] 43 (.call 15 [(.ob 42), (.ob 43)] 44 (.call 12 [(.ob 0), (.ob 1), (.ob 2), (.ob 3), (.ob 4), (.ob 5), (.ob 6), (.ob 7)] 45 (.call 12 [(.ob 34), (.ob 35), (.ob 36), (.ob 37), (.ob 38), (.ob 39), (.ob 40), (.ob 41)] 46 (.call 15 [(.ob 45), (.ob 46)] 47 (.call 28 [(.ob 6), (.ob 7), (.ob 0), (.ob 1), (.ob 2), (.ob 3)] 48 (.call 28 [(.ob 40), (.ob 41), (.ob 34), (.ob 35), (.ob 36), (.ob 37)] 51 (.call 40 [(.ob 0), (.ob 1), (.ob 2), (.ob 3), (.ob 4), (.ob 5), (.ob 6), (.ob 7), (.ob 8), (.b (.var 9)), (.ob 48), (.ob 49), (.n (.var 50)), (.ob 51), (.ob 52), (.n (.var 53))] 54 (.call 33 [(.ob 0), (.ob 1), (.ob 2), (.ob 3), (.ob 4), (.ob 5), (.ob 6), (.ob 7)] 55 (.call 33 [(.ob 34), (.ob 35), (.ob 36), (.ob 37), (.ob 38), (.ob 39), (.ob 40), (.ob 41)] 58 (.call 40 [(.ob 0), (.ob 1), (.ob 2), (.ob 3), (.ob 4), (.ob 5), (.ob 6), (.ob 7), (.ob 8), (.b (.var 9)), (.ob 55), (.ob 56), (.n (.var 57)), (.ob 58), (.ob 59), (.n (.var 60))] 61 (.call 35 [(.ob 0), (.ob 1), (.ob 2), (.ob 3), (.ob 4), (.ob 5)] 62 (.call 35 [(.ob 34), (.ob 35), (.ob 36), (.ob 37), (.ob 38), (.ob 39)] 65 (.call 40 [(.ob 0), (.ob 1), (.ob 2), (.ob 3), (.ob 4), (.ob 5), (.ob 6), (.ob 7), (.ob 8), (.b (.var 9)), (.ob 62), (.ob 63), (.n (.var 64)), (.ob 65), (.ob 66), (.n (.var 67))] 68 (.call 34 [(.ob 0), (.ob 1), (.ob 2), (.ob 3), (.ob 6), (.ob 7)] 69 (.call 34 [(.ob 34), (.ob 35), (.ob 36), (.ob 37), (.ob 40), (.ob 41)] 72 (.call 40 [(.ob 0), (.ob 1), (.ob 2), (.ob 3), (.ob 4), (.ob 5), (.ob 6), (.ob 7), (.ob 8), (.b (.var 9)), (.ob 69), (.ob 70), (.n (.var 71)), (.ob 72), (.ob 73), (.n (.var 74))] 75 (.call 36 [(.ob 0), (.ob 1), (.ob 2), (.ob 3), (.ob 4), (.ob 5), (.ob 6), (.ob 7), (.b (.var 9))] 76 (.call 36 [(.ob 34), (.ob 35), (.ob 36), (.ob 37), (.ob 38), (.ob 39), (.ob 40), (.ob 41), (.b (.var 9))] 79 (.call 40 [(.ob 0), (.ob 1), (.ob 2), (.ob 3), (.ob 4), (.ob 5), (.ob 6), (.ob 7), (.ob 8), (.b (.var 9)), (.ob 76), (.ob 77), (.n (.var 78)), (.ob 79), (.ob 80), (.n (.var 81))] 82 (.call 38 [(.ob 0), (.ob 1), (.ob 2), (.ob 3), (.ob 4), (.ob 5), (.ob 6), (.ob 7), (.b (.var 9))] 83 (.call 38 [(.ob 34), (.ob 35), (.ob 36), (.ob 37), (.ob 38), (.ob 39), (.ob 40), (.ob 41), (.b (.var 9))] 86 (.call 40 [(.ob 0), (.ob 1), (.ob 2), (.ob 3), (.ob 4), (.ob 5), (.ob 6), (.ob 7), (.ob 8), (.b (.var 9)), (.ob 83), (.ob 84), (.n (.var 85)), (.ob 86), (.ob 87), (.n (.var 88))] 89 (.leaf [(.b (.lit true))]))))))))))))))))))))))))))))))
theorem ev_planeSimilar0 : Ct.ok Try.prog 7 { args := [[.r, .r, .r, .r, .r, .r, .r, .r, .r, .b]], res := [[.b]], F := fun als => tr_planeSimilar0.den G_planeSimilar0 (env0 als), L := 2, A := 0, B := 0 } :=
  top_ok (by kernel_rfl) G_planeSimilar0_ok (plans := planF) (lf := 60) (k := 20) (by kernel_rfl)
set_option maxHeartbeats 1000000 in
theorem planeSimilar0_den (x1 x2 x3 x4 x5 x6 x7 x8 x9 : Rat) (f : Bool) (h : f_fits (List.map QA.at [.q x1, .q x2, .q x3, .q x4, .q x5, .q x6, .q x7, .q x8, .q x9, .b f]) = some [.b true]) : tr_planeSimilar0.den G_planeSimilar0 (env0 (List.map QA.at [.q x1, .q x2, .q x3, .q x4, .q x5, .q x6, .q x7, .q x8, .q x9, .b f])) = some [.b true] := by
  have h := fitsT_of h
  simp only [List.map_cons, List.map_nil] at h
  obtain ⟨p1, q1, e1, r1, s1, i1, ha1, hb1, hc1⟩ := ag_foot (x1 := x1) (x2 := x2) (x3 := x3) (x4 := x4) (x5 := x5) (x6 := x6) (x7 := x7) (x8 := x8) (x9 := x9) (f := f) x7 x8 x1 x2 x3 x4
  obtain ⟨p2, q2, e2, r2, s2, i2, ha2, hb2, hc2⟩ := ag_meet (x1 := x1) (x2 := x2) (x3 := x3) (x4 := x4) (x5 := x5) (x6 := x6) (x7 := x7) (x8 := x8) (x9 := x9) (f := f) x1 x2 x3 x4 x5 x6 x7 x8
  obtain ⟨p3, q3, e3, r3, s3, i3, ha3, hb3, hc3⟩ := ag_center (x1 := x1) (x2 := x2) (x3 := x3) (x4 := x4) (x5 := x5) (x6 := x6) (x7 := x7) (x8 := x8) (x9 := x9) (f := f) x1 x2 x3 x4 x5 x6
  obtain ⟨p4, q4, e4, r4, s4, i4, ha4, hb4, hc4⟩ := ag_other (x1 := x1) (x2 := x2) (x3 := x3) (x4 := x4) (x5 := x5) (x6 := x6) (x7 := x7) (x8 := x8) (x9 := x9) (f := f) x1 x2 x3 x4 x7 x8
  obtain ⟨p5, q5, e5, r5, s5, i5, ha5, hb5, hc5⟩ := ag_cut (x1 := x1) (x2 := x2) (x3 := x3) (x4 := x4) (x5 := x5) (x6 := x6) (x7 := x7) (x8 := x8) (x9 := x9) (f := f) x1 x2 x3 x4 x5 x6 x7 x8 f
  obtain ⟨p6, q6, e6, r6, s6, i6, ha6, hb6, hc6⟩ := ag_intersect (x1 := x1) (x2 := x2) (x3 := x3) (x4 := x4) (x5 := x5) (x6 := x6) (x7 := x7) (x8 := x8) (x9 := x9) (f := f) x1 x2 x3 x4 x5 x6 x7 x8 f
  simp only [tr_planeSimilar0, Tr.den, evAll, SA.ev, BE.ev, IE.ev, SE.ev, LE.ev, env0, extE_eq, pickO, op1, op2, op3, Nat.reduceLeDiff, Nat.reduceSub, Nat.reduceEqDiff, if_true, if_false, ite_true, ite_false, decide_true, decide_false, Bool.not_true, Bool.not_false, Nat.zero_le, Nat.sub_zero, List.getElem?_cons_zero, List.getElem?_cons_succ, List.getElem?_nil, cq0, cq1, cq2, cq3, cq4, cq5, cq6, cq7, cq8, cq9, cq10, cq12, cq16, outQ1, outQ2, outQ3, outQ4, outQ5, evN_at, evB_at, evS_at, evLen_z1, evLen_z2, evBit_z, at_n, at_b, at_s, at_z, at_k, at_kb, kG, kQ, kQ1, List.map_cons, List.map_nil, List.cons_append, List.nil_append, decide_eq_true_eq, Bool.false_eq_true, G_planeSimilar0_fitsT, ctF_fitsT, G_planeSimilar0_moved, ctF_moved, G_planeSimilar0_ppdot, ctF_ppdot, G_planeSimilar0_ppcross, ctF_ppcross, G_planeSimilar0_foot, ctF_foot, G_planeSimilar0_meet, ctF_meet, G_planeSimilar0_center, ctF_center, G_planeSimilar0_other, ctF_other, G_planeSimilar0_cut, ctF_cut, G_planeSimilar0_intersect, ctF_intersect, G_planeSimilar0_agreesT, ctF_agreesT, G_planeSimilar0_drequalT, ctF_drequalT, h, g_moved, g_pdot, g_pcross, g_equal, mv_dot, mv_cross, ha1, hb1, hc1, ha2, hb2, hc2, ha3, hb3, hc3, ha4, hb4, hc4, ha5, hb5, hc5, ha6, hb6, hc6, eq_self]
theorem planeSimilarA_any (x1 x2 x3 x4 x5 x6 x7 x8 x9 : Rat) (f : Bool) (h : f_fits (List.map QA.at [.q x1, .q x2, .q x3, .q x4, .q x5, .q x6, .q x7, .q x8, .q x9, .b f]) = some [.b true]) : ∃ FA A1 B1, Ct.ok Try.prog 7 { args := [[.r, .r, .r, .r, .r, .r, .r, .r, .r, .b]], res := [[.b]], F := FA, L := 2, A := A1, B := B1 } ∧ FA (List.map QA.at [.q x1, .q x2, .q x3, .q x4, .q x5, .q x6, .q x7, .q x8, .q x9, .b f]) = some [.b true] := by
  exact ⟨_, _, _, ev_planeSimilar0, planeSimilar0_den _ _ _ _ _ _ _ _ _ _ h⟩
set_option maxRecDepth 100000 in
theorem planeSimilar_liftedU (os : Os) (started : os.Started) (H : Type) (enc : TypeId × Value → H) (F : Stop.Interp) :
    ReturnsInHanded {} Try.checked os 7 .any ((Rows.OpenSpec.upto Rows.planeSimilarSpec).pre6 enc Try.prog Try.f7 Rows.planeSimilarUptoRow.domain false) (((Rows.OpenSpec.upto Rows.planeSimilarSpec).at F).post enc Try.prog Try.f7 false true false false) := by
  refine law_liftedU (C := Try.checked) (s := Rows.planeSimilarSpec) Try.own Try.laidOut (by kernel_rfl) Try.func7 rfl 4 rfl Try.underlying4 (by kernel_rfl) enc ?_ ?_ os started F
    (OpenSpec.witness (enc := enc) (C := Try.checked) (s := Rows.OpenSpec.upto Rows.planeSimilarSpec) (k := Rows.uptoSmall) rfl false ⟨#[], #[.agg #[.bool false, .slice none 0 0, .slice none 0 0, .bool false, .slice none 0 0, .slice none 0 0, .bool false, .slice none 0 0, .slice none 0 0, .bool false, .slice none 0 0, .slice none 0 0, .bool false, .slice none 0 0, .slice none 0 0, .bool false, .slice none 0 0, .slice none 0 0, .bool false, .slice none 0 0, .slice none 0 0, .bool false, .slice none 0 0, .slice none 0 0, .bool false, .slice none 0 0, .slice none 0 0, .bool false]], []⟩ 8 (by kernel_rfl) (by kernel_rfl) (by kernel_rfl) (x := ([.agg [.agg [.agg [.agg [.lit (.bool false), .nil], .nil], .agg [.agg [.lit (.bool false), .nil], .nil]], .agg [.agg [.agg [.lit (.bool false), .nil], .nil], .agg [.agg [.lit (.bool false), .nil], .nil]], .agg [.agg [.agg [.lit (.bool false), .nil], .nil], .agg [.agg [.lit (.bool false), .nil], .nil]], .agg [.agg [.agg [.lit (.bool false), .nil], .nil], .agg [.agg [.lit (.bool false), .nil], .nil]], .agg [.agg [.lit (.bool false), .nil], .nil], .lit (.bool false)]], [], [])) (by kernel_rfl) rfl (by kernel_rfl))
  · intro ds hl
    match ds, hl with
    | [d0], _ => rfl
  · intro W base args ds ps hval hA hlt hk
    have hA' : DataW.TrodAll enc Try.prog W 0 (fun _ => true) true [31] args.toList ds ps := hA
    have hval' : ∀ (j : Nat) t v, Try.f7.params[j]? = some t → args[j]? = some v → Value.okWide Try.prog W .any base t v := hval
    obtain ⟨v0, d0, rfl, rfl, h0⟩ := Go.ChangeShapes.trodAll_one hA'
    simp only [Rows.uptoBulkAll] at hk
    have hb_x : Rows.uptoBulk d0 ≤ 1048576 := by omega
    obtain ⟨als_x, hr_x, hg_x⟩ := open_Case (hval' 0 31 v0 rfl rfl) h0
    exact case_law ev_planeSimilarB planeSimilarA_any (fun _ _ _ _ _ _ _ _ _ _ _ _ _ _ _ _ _ _ _ _ _ _ _ _ _ _ _ _ h => planeSimilarB_den _ _ _ _ _ _ _ _ _ _ _ _ _ _ _ _ _ _ _ _ _ _ _ _ _ _ _ _ h) hr_x hg_x hb_x

theorem planeSimilarUpto_holds : Rows.PlaneSimilarUptoSaid :=
  OpenClaim.holds_of_cond 7 Try.f7 rfl rfl rfl rfl rfl rfl rfl ⟨rfl, rfl, rfl, rfl, rfl⟩ rfl rfl rfl rfl rfl (by kernel_rfl) Try.func7 (by kernel_rfl)
    (of_decide_eq_true (by kernel_rfl)) (by unfold Func.isWrapper; first | (rw [if_pos (by decide +kernel)]; kernel_rfl) | (rw [if_neg (by decide +kernel)]; exact ⟨rfl, rfl⟩))
    (fun os started H enc _ F => planeSimilar_liftedU os started H enc F)
end Go.Proofs.Ytnfchljiicniiaa
