/- PredicateMakes: what is constructed has the properties that it should have. -/
import Derived.Test.YtkampmdekonjmaaFe4
import Derived.Test.YtkampmdekonjmaaPl4
namespace Go.Proofs.Ytkampmdekonjmaa
open Go Go.RowKit Go.V Go.ChangeMaps
set_option linter.unusedSimpArgs false
set_option linter.unusedVariables false
set_option maxRecDepth 20000
set_option maxHeartbeats 1000000
def ct_short14 : Ct := { args := [[.r]], res := [[.b]], F := f_sh, L := 1048576, A := 0, B := 0 }
theorem ctF_short14 : ct_short14.F = f_sh := rfl
theorem ok_short14 : ct_short14.ok Try.prog 15 := by
  refine ev_short14.weaken fun als r h => ?_
  have h' := h
  unfold f_sh at h
  split at h <;> first | exact (short14_den _ _ _).trans h' | cases h
def f_shT (als : List At) : Option (List At) := match f_sh als with
  | some [.b true] => some [.kb true]
  | _ => none
def ct_shT : Ct := { args := [[.r]], res := [[(.kb true)]], F := f_shT, L := 1048576, A := 0, B := 0 }
theorem ctF_shT : ct_shT.F = f_shT := rfl
theorem ok_shT : ct_shT.ok Try.prog 15 := Ct.ok.konst ok_short14 rfl fun als r h => by
  unfold f_shT at h
  split at h
  · rename_i h1; injection h with h; subst h; exact ⟨_, h1, rfl⟩
  · cases h
section
variable (ax ay bx by' cx cy : Rat)
theorem mk1 : hB 5 [0, 1, 2] [(ax + 1 / 2 * (bx - ax), ay + 1 / 2 * (by' - ay)), (ax, ay), (bx, by')] = true := by
  rw [h5_of (a := (ax + 1 / 2 * (bx - ax), ay + 1 / 2 * (by' - ay))) (b := (ax, ay)) (c := (bx, by')) (by rfl) rfl]
  rw [decide_eq_true (show (ax, ay).1 + (bx, by').1 - 2 * (ax + 1 / 2 * (bx - ax), ay + 1 / 2 * (by' - ay)).1 = 0 by show ax + bx - 2 * (ax + 1 / 2 * (bx - ax)) = 0; grind),
    decide_eq_true (show (ax, ay).2 + (bx, by').2 - 2 * (ax + 1 / 2 * (bx - ax), ay + 1 / 2 * (by' - ay)).2 = 0 by show ay + by' - 2 * (ay + 1 / 2 * (by' - ay)) = 0; grind)]
  rfl
theorem footT_mul (h : ¬ (ax = bx ∧ ay = by')) : footT cx cy ax ay bx by' * pnorm ax ay bx by' = pdot ax ay bx by' ax ay cx cy := by
  unfold footT
  exact Rat.div_mul_cancel (pnorm_ne h)
theorem mk2 (h : ¬ (ax = bx ∧ ay = by')) : hB 4 [0, 1, 0, 2] [(ax, ay), (cx, cy), (footX cx cy ax ay bx by' + (footX cx cy ax ay bx by' - cx), footY cx cy ax ay bx by' + (footY cx cy ax ay bx by' - cy))] = true := by
  have ht := footT_mul ax ay bx by' cx cy h
  rw [h4_of (a := (ax, ay)) (b := (cx, cy)) (c := (ax, ay)) (d := (footX cx cy ax ay bx by' + (footX cx cy ax ay bx by' - cx), footY cx cy ax ay bx by' + (footY cx cy ax ay bx by' - cy))) (by rfl) rfl]
  refine decide_eq_true ?_
  unfold nmP footX footY
  generalize footT cx cy ax ay bx by' = t at ht
  unfold pnorm pdot at *
  simp only at *
  grind
theorem mk3 (h : ¬ (ax = bx ∧ ay = by')) : hB 3 [0, 1, 2, 3] [(ax, ay), (bx, by'), (cx, cy), (footX cx cy ax ay bx by' + (footX cx cy ax ay bx by' - cx), footY cx cy ax ay bx by' + (footY cx cy ax ay bx by' - cy))] = true := by
  have ht := footT_mul ax ay bx by' cx cy h
  rw [h3_of (a := (ax, ay)) (b := (bx, by')) (c := (cx, cy)) (d := (footX cx cy ax ay bx by' + (footX cx cy ax ay bx by' - cx), footY cx cy ax ay bx by' + (footY cx cy ax ay bx by' - cy))) (by rfl) rfl]
  refine decide_eq_true ?_
  unfold dtP footX footY
  generalize footT cx cy ax ay bx by' = t at ht
  unfold pnorm pdot at *
  simp only at *
  grind
theorem cen_mul (h : ¬ pcross ax ay bx by' ax ay cx cy = 0) : cenX ax ay bx by' cx cy * (2 * pcross ax ay bx by' ax ay cx cy) = pnorm ax ay bx by' * (cy - ay) - pnorm ax ay cx cy * (by' - ay) ∧ cenY ax ay bx by' cx cy * (2 * pcross ax ay bx by' ax ay cx cy) = pnorm ax ay cx cy * (bx - ax) - pnorm ax ay bx by' * (cx - ax) := by
  have h2 : ¬ 2 * pcross ax ay bx by' ax ay cx cy = 0 := fun e => h (by grind)
  unfold cenX cenY
  exact ⟨Rat.div_mul_cancel h2, Rat.div_mul_cancel h2⟩
theorem mk4 (h : ¬ pcross ax ay bx by' ax ay cx cy = 0) : hB 4 [0, 1, 0, 2] [(ax + cenX ax ay bx by' cx cy, ay + cenY ax ay bx by' cx cy), (ax, ay), (bx, by')] = true := by
  obtain ⟨e1, e2⟩ := cen_mul ax ay bx by' cx cy h
  rw [h4_of (a := (ax + cenX ax ay bx by' cx cy, ay + cenY ax ay bx by' cx cy)) (b := (ax, ay)) (c := (ax + cenX ax ay bx by' cx cy, ay + cenY ax ay bx by' cx cy)) (d := (bx, by')) (by rfl) rfl]
  refine decide_eq_true ?_
  unfold nmP
  generalize cenX ax ay bx by' cx cy = X at *
  generalize cenY ax ay bx by' cx cy = Y at *
  have key : pcross ax ay bx by' ax ay cx cy * (pnorm (ax + X) (ay + Y) ax ay - pnorm (ax + X) (ay + Y) bx by') = 0 := by
    unfold pnorm pcross at *
    grind
  exact (Rat.mul_eq_zero.1 key).resolve_left h
end
/-- four points of a circle, relative to the first -/
theorem con4 {x1 y1 x2 y2 x3 y3 u v ax ay : Rat} (h1 : x1 * x1 + y1 * y1 = 2 * (u * x1 + v * y1)) (h2 : x2 * x2 + y2 * y2 = 2 * (u * x2 + v * y2)) (h3 : x3 * x3 + y3 * y3 = 2 * (u * x3 + v * y3)) :
    lnP (ax + x1, ay + y1) (ax, ay) (ax + x1, ay + y1) (ax + x2, ay + y2) (ax + x3, ay + y3) (ax, ay) (ax + x3, ay + y3) (ax + x2, ay + y2) = 0 := by
  have key : lnP (ax + x1, ay + y1) (ax, ay) (ax + x1, ay + y1) (ax + x2, ay + y2) (ax + x3, ay + y3) (ax, ay) (ax + x3, ay + y3) (ax + x2, ay + y2) =
      (x1 * x1 + y1 * y1) * (x2 * y3 - x3 * y2) - (x2 * x2 + y2 * y2) * (x1 * y3 - x3 * y1) + (x3 * x3 + y3 * y3) * (x1 * y2 - x2 * y1) := by
    unfold lnP crP dtP pcross pdot; grind
  have key' : lnP (ax + x1, ay + y1) (ax, ay) (ax + x1, ay + y1) (ax + x2, ay + y2) (ax + x3, ay + y3) (ax, ay) (ax + x3, ay + y3) (ax + x2, ay + y2) = 0 := by
    rw [key, h1, h2, h3]; grind
  exact key'
theorem oc_on (ox oy ax ay t : Rat) : (ocS ox oy ax ay t * 1) * (ocS ox oy ax ay t * 1) + (ocS ox oy ax ay t * t) * (ocS ox oy ax ay t * t) = 2 * ((ox - ax) * (ocS ox oy ax ay t * 1) + (oy - ay) * (ocS ox oy ax ay t * t)) := by
  have h : ocS ox oy ax ay t * (1 * 1 + t * t) = 2 * ((ox - ax) * 1 + (oy - ay) * t) := by unfold ocS; exact Rat.div_mul_cancel (one_sq_ne t)
  generalize ocS ox oy ax ay t = s at h
  grind
theorem mk5 (ax ay cx cy t0 t1 t2 : Rat) : hB 6 [0, 1, 2, 3] [(ax, ay), (ax + ocS cx cy ax ay t0 * 1, ay + ocS cx cy ax ay t0 * t0), (ax + ocS cx cy ax ay t1 * 1, ay + ocS cx cy ax ay t1 * t1), (ax + ocS cx cy ax ay t2 * 1, ay + ocS cx cy ax ay t2 * t2)] = true := by
  rw [h6_of (a := (ax, ay)) (b := (ax + ocS cx cy ax ay t0 * 1, ay + ocS cx cy ax ay t0 * t0)) (c := (ax + ocS cx cy ax ay t1 * 1, ay + ocS cx cy ax ay t1 * t1)) (d := (ax + ocS cx cy ax ay t2 * 1, ay + ocS cx cy ax ay t2 * t2)) (by rfl) rfl]
  exact decide_eq_true (con4 (oc_on cx cy ax ay t0) (oc_on cx cy ax ay t1) (oc_on cx cy ax ay t2))
def GMk0 : Gam := gamOf [(14, ct_fits3F)]
theorem GMk0_ok : GamOk Try.prog GMk0 := gamOk_of ⟨ok_fits3F, trivial⟩
theorem GMk0_fits3F : GMk0 14 = some ct_fits3F := rfl
def tr_mkF : Tr (List SA) := (.call 14 [(.ob 0), (.ob 1), (.ob 2), (.ob 3), (.ob 4), (.ob 5)] 9 (.leaf [(.b (.lit true))]))
theorem ev_mkF : Ct.ok Try.prog 7 { args := [[.r, .r, .r, .r, .r, .r], [.r, .r, .r]], res := [[.b]], F := fun als => tr_mkF.den GMk0 (env0 als), L := 1048576, A := 0, B := 0 } :=
  top_ok (by kernel_rfl) GMk0_ok (plans := planF) (lf := 60) (k := 20) (by kernel_rfl)
def ct_sfrac14 : Ct := { args := [[.n], [.n]], res := [[.r]], F := fun _ => none, L := 0, A := 0, B := 0 }
theorem ctF_sfrac14 : ct_sfrac14.F = fun _ => none := rfl
theorem ok_sfrac14 : ct_sfrac14.ok Try.prog 24 := fun s w vs als r h1 h2 h3 h4 => by cases h4
def ct_sdiv14 : Ct := { args := [[.r, .r], [.r, .r], [.r]], res := [[.r, .r]], F := fun _ => none, L := 0, A := 0, B := 0 }
theorem ctF_sdiv14 : ct_sdiv14.F = fun _ => none := rfl
theorem ok_sdiv14 : ct_sdiv14.ok Try.prog 23 := fun s w vs als r h1 h2 h3 h4 => by cases h4
def ct_sholds14 : Ct := { args := [[(.sl 3), .r, .r, .r, .r, .r, .r], [.n], [(.sl 3), .n, .n, .n]], res := [[(.kb false)]], F := fun _ => none, L := 0, A := 0, B := 0 }
theorem ctF_sholds14 : ct_sholds14.F = fun _ => none := rfl
theorem ok_sholds14 : ct_sholds14.ok Try.prog 22 := fun s w vs als r h1 h2 h3 h4 => by cases h4
def GMk1 : Gam := gamOf [(14, ct_fits3T), (15, ct_short14), (24, ct_sfrac14), (23, ct_sdiv14), (22, ct_sholds14)]
theorem GMk1_ok : GamOk Try.prog GMk1 := gamOk_of ⟨ok_fits3T, ok_short14, ok_sfrac14, ok_sdiv14, ok_sholds14, trivial⟩
theorem GMk1_fits3T : GMk1 14 = some ct_fits3T := rfl
theorem GMk1_short14 : GMk1 15 = some ct_short14 := rfl
theorem GMk1_sfrac14 : GMk1 24 = some ct_sfrac14 := rfl
theorem GMk1_sdiv14 : GMk1 23 = some ct_sdiv14 := rfl
theorem GMk1_sholds14 : GMk1 22 = some ct_sholds14 := rfl
def tr_mkS : Tr (List SA) := (.call 14 [(.ob 0), (.ob 1), (.ob 2), (.ob 3), (.ob 4), (.ob 5)] 9 (.call 15 [(.ob 6)] 10 (.br (.not (.var 10)) (.leaf [(.b (.lit true))]) (.call 15 [(.ob 7)] 11 (.br (.not (.var 11)) (.leaf [(.b (.lit true))]) (.call 15 [(.ob 8)] 12 (.br (.not (.var 12)) (.leaf [(.b (.lit true))]) .bad)))))))
theorem ev_mkS : Ct.ok Try.prog 7 { args := [[.r, .r, .r, .r, .r, .r], [.r, .r, .r]], res := [[.b]], F := fun als => tr_mkS.den GMk1 (env0 als), L := 1048576, A := 0, B := 0 } :=
  top_ok (by kernel_rfl) GMk1_ok (plans := planF) (lf := 60) (k := 20) (by kernel_rfl)
def GMk2 : Gam := gamOf [(14, ct_fits3T), (15, ct_shT), (24, ct_drfrac), (23, ct_divide), (25, ct_mirror), (26, ct_center), (27, ct_oncircle), (22, ct_h33), (8214, ct_h34), (16406, ct_h43), (24598, ct_h44)]
theorem GMk2_ok : GamOk Try.prog GMk2 := gamOk_of ⟨ok_fits3T, ok_shT, ok_drfrac, ok_divide, ok_mirror, ok_center, ok_oncircle, ok_h33, ok_h34, ok_h43, ok_h44, trivial⟩
theorem GMk2_fits3T : GMk2 14 = some ct_fits3T := rfl
theorem GMk2_shT : GMk2 15 = some ct_shT := rfl
theorem GMk2_drfrac : GMk2 24 = some ct_drfrac := rfl
theorem GMk2_divide : GMk2 23 = some ct_divide := rfl
theorem GMk2_mirror : GMk2 25 = some ct_mirror := rfl
theorem GMk2_center : GMk2 26 = some ct_center := rfl
theorem GMk2_oncircle : GMk2 27 = some ct_oncircle := rfl
theorem GMk2_h33 : GMk2 22 = some ct_h33 := rfl
theorem GMk2_h34 : GMk2 8214 = some ct_h34 := rfl
theorem GMk2_h43 : GMk2 16406 = some ct_h43 := rfl
theorem GMk2_h44 : GMk2 24598 = some ct_h44 := rfl
def tr_mkA : Tr (List SA) := (.call 14 [(.ob 0), (.ob 1), (.ob 2), (.ob 3), (.ob 4), (.ob 5)] 9 (.call 15 [(.ob 6)] 10 (.call 15 [(.ob 7)] 11 (.call 15 [(.ob 8)] 12 (.call 24 [(.n (.lit 1)), (.n (.lit 2))] 35 (.call 23 [(.ob 0), (.ob 1), (.ob 2), (.ob 3), (.ob 35)] 36 (.call 22 [(.ob 36), (.ob 37), (.ob 0), (.ob 1), (.ob 2), (.ob 3), (.n (.lit 5)), (.n (.lit 0)), (.n (.lit 1)), (.n (.lit 2))] 38 (.br (.not (.var 38)) (.leaf [(.b (.lit false))]) (.call 25 [(.ob 4), (.ob 5), (.ob 0), (.ob 1), (.ob 2), (.ob 3)] 39 (.br (.eq (.var 41) (.lit 0)) (.call 8214 [(.ob 0), (.ob 1), (.ob 4), (.ob 5), (.ob 39), (.ob 40), (.n (.lit 4)), (.n (.lit 0)), (.n (.lit 1)), (.n (.lit 0)), (.n (.lit 2))] 42 (.br (.not (.var 42)) (.leaf [(.b (.lit false))]) (.call 24598 [(.ob 0), (.ob 1), (.ob 2), (.ob 3), (.ob 4), (.ob 5), (.ob 39), (.ob 40), (.n (.lit 3)), (.n (.lit 0)), (.n (.lit 1)), (.n (.lit 2)), (.n (.lit 3))] 43 (.br (.not (.var 43)) (.leaf [(.b (.lit false))]) (.call 26 [(.ob 0), (.ob 1), (.ob 2), (.ob 3), (.ob 4), (.ob 5)] 44 (.br (.eq (.var 46) (.lit 0)) (.call 8214 [(.ob 44), (.ob 45), (.ob 0), (.ob 1), (.ob 2), (.ob 3), (.n (.lit 4)), (.n (.lit 0)), (.n (.lit 1)), (.n (.lit 0)), (.n (.lit 2))] 47 (.br (.not (.var 47)) (.leaf [(.b (.lit false))]) (.call 27 [(.ob 4), (.ob 5), (.ob 0), (.ob 1), (.ob 6)] 48 (.call 27 [(.ob 4), (.ob 5), (.ob 0), (.ob 1), (.ob 7)] 50 (.call 27 [(.ob 4), (.ob 5), (.ob 0), (.ob 1), (.ob 8)] 52 (.call 24598 [(.ob 0), (.ob 1), (.ob 48), (.ob 49), (.ob 50), (.ob 51), (.ob 52), (.ob 53), (.n (.lit 6)), (.n (.lit 0)), (.n (.lit 1)), (.n (.lit 2)), (.n (.lit 3))] 54 (.leaf [(.b (.var 54))]))))))) (.call 27 [(.ob 4), (.ob 5), (.ob 0), (.ob 1), (.ob 6)] 47 (.call 27 [(.ob 4), (.ob 5), (.ob 0), (.ob 1), (.ob 7)] 49 (.call 27 [(.ob 4), (.ob 5), (.ob 0), (.ob 1), (.ob 8)] 51 (.call 24598 [(.ob 0), (.ob 1), (.ob 47), (.ob 48), (.ob 49), (.ob 50), (.ob 51), (.ob 52), (.n (.lit 6)), (.n (.lit 0)), (.n (.lit 1)), (.n (.lit 2)), (.n (.lit 3))] 53 (.leaf [(.b (.var 53))]))))))))))) (.call 26 [(.ob 0), (.ob 1), (.ob 2), (.ob 3), (.ob 4), (.ob 5)] 42 (.br (.eq (.var 44) (.lit 0)) (.call 8214 [(.ob 42), (.ob 43), (.ob 0), (.ob 1), (.ob 2), (.ob 3), (.n (.lit 4)), (.n (.lit 0)), (.n (.lit 1)), (.n (.lit 0)), (.n (.lit 2))] 45 (.br (.not (.var 45)) (.leaf [(.b (.lit false))]) (.call 27 [(.ob 4), (.ob 5), (.ob 0), (.ob 1), (.ob 6)] 46 (.call 27 [(.ob 4), (.ob 5), (.ob 0), (.ob 1), (.ob 7)] 48 (.call 27 [(.ob 4), (.ob 5), (.ob 0), (.ob 1), (.ob 8)] 50 (.call 24598 [(.ob 0), (.ob 1), (.ob 46), (.ob 47), (.ob 48), (.ob 49), (.ob 50), (.ob 51), (.n (.lit 6)), (.n (.lit 0)), (.n (.lit 1)), (.n (.lit 2)), (.n (.lit 3))] 52 (.leaf [(.b (.var 52))]))))))) (.call 27 [(.ob 4), (.ob 5), (.ob 0), (.ob 1), (.ob 6)] 45 (.call 27 [(.ob 4), (.ob 5), (.ob 0), (.ob 1), (.ob 7)] 47 (.call 27 [(.ob 4), (.ob 5), (.ob 0), (.ob 1), (.ob 8)] 49 (.call 24598 [(.ob 0), (.ob 1), (.ob 45), (.ob 46), (.ob 47), (.ob 48), (.ob 49), (.ob 50), (.n (.lit 6)), (.n (.lit 0)), (.n (.lit 1)), (.n (.lit 2)), (.n (.lit 3))] 51 (.leaf [(.b (.var 51))])))))))))))))))))
theorem ev_mkA : Ct.ok Try.prog 7 { args := [[.r, .r, .r, .r, .r, .r], [.r, .r, .r]], res := [[.b]], F := fun als => tr_mkA.den GMk2 (env0 als), L := 2, A := 0, B := 0 } :=
  top_ok (by kernel_rfl) GMk2_ok (plans := planF) (lf := 60) (k := 20) (by kernel_rfl)
theorem mkF_den (a1 : Bool) (l1 m1 : List Nat) (a2 : Bool) (l2 m2 : List Nat) (a3 : Bool) (l3 m3 : List Nat) (a4 : Bool) (l4 m4 : List Nat) (a5 : Bool) (l5 m5 : List Nat) (a6 : Bool) (l6 m6 : List Nat) (t1 t2 t3 : At)
    (h : fitB (chunk2 [.r a1 l1 m1, .r a2 l2 m2, .r a3 l3 m3, .r a4 l4 m4, .r a5 l5 m5, .r a6 l6 m6]) = false) : tr_mkF.den GMk0 (env0 [.r a1 l1 m1, .r a2 l2 m2, .r a3 l3 m3, .r a4 l4 m4, .r a5 l5 m5, .r a6 l6 m6, t1, t2, t3]) = some [.b true] := by
  have h' : f_fF [.r a1 l1 m1, .r a2 l2 m2, .r a3 l3 m3, .r a4 l4 m4, .r a5 l5 m5, .r a6 l6 m6] = some [.kb false] := by unfold f_fF; rw [if_pos h]
  simp only [tr_mkF, Tr.den, evAll, SA.ev, BE.ev, IE.ev, SE.ev, LE.ev, env0, extE_eq, pickO, evN, evB, evS, evLen, evBit, evLst, At.len, At.bit, At.lst, op1, op2, op3, Nat.reduceLeDiff, Nat.reduceSub, Nat.reduceEqDiff, if_true, if_false, ite_true, ite_false, decide_true, decide_false, Bool.not_true, Bool.not_false, Nat.zero_le, Nat.sub_zero, List.getElem?_cons_zero, List.getElem?_cons_succ, List.getElem?_nil, GMk0_fits3F, ctF_fits3F, h']
theorem mkS_den (a1 : Bool) (l1 m1 : List Nat) (a2 : Bool) (l2 m2 : List Nat) (a3 : Bool) (l3 m3 : List Nat) (a4 : Bool) (l4 m4 : List Nat) (a5 : Bool) (l5 m5 : List Nat) (a6 : Bool) (l6 m6 : List Nat) (a7 : Bool) (l7 m7 : List Nat) (a8 : Bool) (l8 m8 : List Nat) (a9 : Bool) (l9 m9 : List Nat)
    (h : fitB (chunk2 [.r a1 l1 m1, .r a2 l2 m2, .r a3 l3 m3, .r a4 l4 m4, .r a5 l5 m5, .r a6 l6 m6]) = true) (ht : (qSh a7 l7 m7 && qSh a8 l8 m8 && qSh a9 l9 m9) = false) : tr_mkS.den GMk1 (env0 [.r a1 l1 m1, .r a2 l2 m2, .r a3 l3 m3, .r a4 l4 m4, .r a5 l5 m5, .r a6 l6 m6, .r a7 l7 m7, .r a8 l8 m8, .r a9 l9 m9]) = some [.b true] := by
  have h' : f_fT [.r a1 l1 m1, .r a2 l2 m2, .r a3 l3 m3, .r a4 l4 m4, .r a5 l5 m5, .r a6 l6 m6] = some [.kb true] := by unfold f_fT; rw [if_pos h]
  cases h7 : qSh a7 l7 m7 with
  | false => 
    simp only [tr_mkS, Tr.den, evAll, SA.ev, BE.ev, IE.ev, SE.ev, LE.ev, env0, extE_eq, pickO, evN, evB, evS, evLen, evBit, evLst, At.len, At.bit, At.lst, op1, op2, op3, Nat.reduceLeDiff, Nat.reduceSub, Nat.reduceEqDiff, if_true, if_false, ite_true, ite_false, decide_true, decide_false, Bool.not_true, Bool.not_false, Nat.zero_le, Nat.sub_zero, List.getElem?_cons_zero, List.getElem?_cons_succ, List.getElem?_nil, GMk1_fits3T, ctF_fits3T, GMk1_short14, ctF_short14, GMk1_sfrac14, ctF_sfrac14, GMk1_sdiv14, ctF_sdiv14, GMk1_sholds14, ctF_sholds14, h', f_sh, h7]
  | true =>
    cases h8 : qSh a8 l8 m8 with
    | false =>
      simp only [tr_mkS, Tr.den, evAll, SA.ev, BE.ev, IE.ev, SE.ev, LE.ev, env0, extE_eq, pickO, evN, evB, evS, evLen, evBit, evLst, At.len, At.bit, At.lst, op1, op2, op3, Nat.reduceLeDiff, Nat.reduceSub, Nat.reduceEqDiff, if_true, if_false, ite_true, ite_false, decide_true, decide_false, Bool.not_true, Bool.not_false, Nat.zero_le, Nat.sub_zero, List.getElem?_cons_zero, List.getElem?_cons_succ, List.getElem?_nil, GMk1_fits3T, ctF_fits3T, GMk1_short14, ctF_short14, GMk1_sfrac14, ctF_sfrac14, GMk1_sdiv14, ctF_sdiv14, GMk1_sholds14, ctF_sholds14, h', f_sh, h7, h8]
    | true =>
      have h9 : qSh a9 l9 m9 = false := by rw [h7, h8] at ht; simpa using ht
      simp only [tr_mkS, Tr.den, evAll, SA.ev, BE.ev, IE.ev, SE.ev, LE.ev, env0, extE_eq, pickO, evN, evB, evS, evLen, evBit, evLst, At.len, At.bit, At.lst, op1, op2, op3, Nat.reduceLeDiff, Nat.reduceSub, Nat.reduceEqDiff, if_true, if_false, ite_true, ite_false, decide_true, decide_false, Bool.not_true, Bool.not_false, Nat.zero_le, Nat.sub_zero, List.getElem?_cons_zero, List.getElem?_cons_succ, List.getElem?_nil, GMk1_fits3T, ctF_fits3T, GMk1_short14, ctF_short14, GMk1_sfrac14, ctF_sfrac14, GMk1_sdiv14, ctF_sdiv14, GMk1_sholds14, ctF_sholds14, h', f_sh, h7, h8, h9]
theorem mkA_den (x1 x2 x3 x4 x5 x6 t1 t2 t3 : Rat) (h : fitB (chunk2 [QA.at (.q x1), QA.at (.q x2), QA.at (.q x3), QA.at (.q x4), QA.at (.q x5), QA.at (.q x6)]) = true)
    (h7 : f_shT [QA.at (.q t1)] = some [.kb true]) (h8 : f_shT [QA.at (.q t2)] = some [.kb true]) (h9 : f_shT [QA.at (.q t3)] = some [.kb true]) : tr_mkA.den GMk2 (env0 [QA.at (.q x1), QA.at (.q x2), QA.at (.q x3), QA.at (.q x4), QA.at (.q x5), QA.at (.q x6), QA.at (.q t1), QA.at (.q t2), QA.at (.q t3)]) = some [.b true] := by
  have h' : f_fT [QA.at (.q x1), QA.at (.q x2), QA.at (.q x3), QA.at (.q x4), QA.at (.q x5), QA.at (.q x6)] = some [.kb true] := by unfold f_fT; rw [if_pos h]
  have n11 : ¬ (11 : Int) = 0 := by decide
  by_cases h1 : x1 = x3 ∧ x2 = x4
  · obtain ⟨rfl, rfl⟩ := h1
    by_cases h2 : pcross x1 x2 x1 x2 x1 x2 x5 x6 = 0
    · simp only [tr_mkA, Tr.den, evAll, SA.ev, BE.ev, IE.ev, SE.ev, LE.ev, env0, extE_eq, pickO, op1, op2, op3, Nat.reduceLeDiff, Nat.reduceSub, Nat.reduceEqDiff, if_true, if_false, ite_true, ite_false, decide_true, decide_false, Bool.not_true, Bool.not_false, Nat.zero_le, Nat.sub_zero, List.getElem?_cons_zero, List.getElem?_cons_succ, List.getElem?_nil, cq0, cq1, cq2, cq3, cq4, cq5, cq6, cq7, cq8, cq9, cq10, cq12, cq16, outQ1, outQ2, outQ3, outQ4, outQ5, evN_at, evB_at, evS_at, evLen_z1, evLen_z2, evBit_z, at_n, at_b, at_s, at_z, at_k, at_kb, kG, kQ, kQ1, List.map_cons, List.map_nil, List.cons_append, List.nil_append, decide_eq_true_eq, Bool.false_eq_true, GMk2_fits3T, ctF_fits3T, GMk2_shT, ctF_shT, GMk2_drfrac, ctF_drfrac, GMk2_divide, ctF_divide, GMk2_mirror, ctF_mirror, GMk2_center, ctF_center, GMk2_oncircle, ctF_oncircle, GMk2_h33, ctF_h33, GMk2_h34, ctF_h34, GMk2_h43, ctF_h43, GMk2_h44, ctF_h44, h', h7, h8, h9, n11, h2, g_divide, g_frac, g_mirror, g_center, g_oncircle, g_h33, g_h34, g_h44, cq11, cq13, inI1, inI2, cast1, cast2, mk1, mk5, and_self, eq_self]
    · simp only [tr_mkA, Tr.den, evAll, SA.ev, BE.ev, IE.ev, SE.ev, LE.ev, env0, extE_eq, pickO, op1, op2, op3, Nat.reduceLeDiff, Nat.reduceSub, Nat.reduceEqDiff, if_true, if_false, ite_true, ite_false, decide_true, decide_false, Bool.not_true, Bool.not_false, Nat.zero_le, Nat.sub_zero, List.getElem?_cons_zero, List.getElem?_cons_succ, List.getElem?_nil, cq0, cq1, cq2, cq3, cq4, cq5, cq6, cq7, cq8, cq9, cq10, cq12, cq16, outQ1, outQ2, outQ3, outQ4, outQ5, evN_at, evB_at, evS_at, evLen_z1, evLen_z2, evBit_z, at_n, at_b, at_s, at_z, at_k, at_kb, kG, kQ, kQ1, List.map_cons, List.map_nil, List.cons_append, List.nil_append, decide_eq_true_eq, Bool.false_eq_true, GMk2_fits3T, ctF_fits3T, GMk2_shT, ctF_shT, GMk2_drfrac, ctF_drfrac, GMk2_divide, ctF_divide, GMk2_mirror, ctF_mirror, GMk2_center, ctF_center, GMk2_oncircle, ctF_oncircle, GMk2_h33, ctF_h33, GMk2_h34, ctF_h34, GMk2_h43, ctF_h43, GMk2_h44, ctF_h44, h', h7, h8, h9, n11, h2, g_divide, g_frac, g_mirror, g_center, g_oncircle, g_h33, g_h34, g_h44, cq11, cq13, inI1, inI2, cast1, cast2, mk1, mk4 _ _ _ _ _ _ h2, mk5, and_self, eq_self]
  · by_cases h2 : pcross x1 x2 x3 x4 x1 x2 x5 x6 = 0
    · simp only [tr_mkA, Tr.den, evAll, SA.ev, BE.ev, IE.ev, SE.ev, LE.ev, env0, extE_eq, pickO, op1, op2, op3, Nat.reduceLeDiff, Nat.reduceSub, Nat.reduceEqDiff, if_true, if_false, ite_true, ite_false, decide_true, decide_false, Bool.not_true, Bool.not_false, Nat.zero_le, Nat.sub_zero, List.getElem?_cons_zero, List.getElem?_cons_succ, List.getElem?_nil, cq0, cq1, cq2, cq3, cq4, cq5, cq6, cq7, cq8, cq9, cq10, cq12, cq16, outQ1, outQ2, outQ3, outQ4, outQ5, evN_at, evB_at, evS_at, evLen_z1, evLen_z2, evBit_z, at_n, at_b, at_s, at_z, at_k, at_kb, kG, kQ, kQ1, List.map_cons, List.map_nil, List.cons_append, List.nil_append, decide_eq_true_eq, Bool.false_eq_true, GMk2_fits3T, ctF_fits3T, GMk2_shT, ctF_shT, GMk2_drfrac, ctF_drfrac, GMk2_divide, ctF_divide, GMk2_mirror, ctF_mirror, GMk2_center, ctF_center, GMk2_oncircle, ctF_oncircle, GMk2_h33, ctF_h33, GMk2_h34, ctF_h34, GMk2_h43, ctF_h43, GMk2_h44, ctF_h44, h', h7, h8, h9, n11, h1, h2, g_divide, g_frac, g_mirror, g_center, g_oncircle, g_h33, g_h34, g_h44, cq11, cq13, inI1, inI2, cast1, cast2, mk1, mk2 _ _ _ _ _ _ h1, mk3 _ _ _ _ _ _ h1, mk5, and_self, eq_self]
    · simp only [tr_mkA, Tr.den, evAll, SA.ev, BE.ev, IE.ev, SE.ev, LE.ev, env0, extE_eq, pickO, op1, op2, op3, Nat.reduceLeDiff, Nat.reduceSub, Nat.reduceEqDiff, if_true, if_false, ite_true, ite_false, decide_true, decide_false, Bool.not_true, Bool.not_false, Nat.zero_le, Nat.sub_zero, List.getElem?_cons_zero, List.getElem?_cons_succ, List.getElem?_nil, cq0, cq1, cq2, cq3, cq4, cq5, cq6, cq7, cq8, cq9, cq10, cq12, cq16, outQ1, outQ2, outQ3, outQ4, outQ5, evN_at, evB_at, evS_at, evLen_z1, evLen_z2, evBit_z, at_n, at_b, at_s, at_z, at_k, at_kb, kG, kQ, kQ1, List.map_cons, List.map_nil, List.cons_append, List.nil_append, decide_eq_true_eq, Bool.false_eq_true, GMk2_fits3T, ctF_fits3T, GMk2_shT, ctF_shT, GMk2_drfrac, ctF_drfrac, GMk2_divide, ctF_divide, GMk2_mirror, ctF_mirror, GMk2_center, ctF_center, GMk2_oncircle, ctF_oncircle, GMk2_h33, ctF_h33, GMk2_h34, ctF_h34, GMk2_h43, ctF_h43, GMk2_h44, ctF_h44, h', h7, h8, h9, n11, h1, h2, g_divide, g_frac, g_mirror, g_center, g_oncircle, g_h33, g_h34, g_h44, cq11, cq13, inI1, inI2, cast1, cast2, mk1, mk2 _ _ _ _ _ _ h1, mk3 _ _ _ _ _ _ h1, mk4 _ _ _ _ _ _ h2, mk5, and_self, eq_self]
theorem f_shT_of {x : Rat} {a : Bool} {l m : List Nat} (e : At.r a l m = QA.at (.q x)) (h : qSh a l m = true) : f_shT [QA.at (.q x)] = some [.kb true] := by
  rw [← e]
  show (match some [At.b (qSh a l m)] with
    | some [.b true] => some [At.kb true]
    | _ => none) = some [At.kb true]
  rw [h]
theorem predicateMakes_any {v u : Value} {B C : Nat} {w : World} {als bls : List At} (hr : RepV w [.r, .r, .r, .r, .r, .r] als v) (hg : ∀ a ∈ als, a.rngB B) (hs : RepV w [.r, .r, .r] bls u) (hh : ∀ a ∈ bls, a.rngB C) (hB : B ≤ 1048576) (hC : C ≤ 1048576) :
    Calls Try.prog 7 #[v, u] w fun e w' => e = .returned (.bool true) ∧ Below w.heap.size w w' := by
  have hrs : RepVs w [[.r, .r, .r, .r, .r, .r], [.r, .r, .r]] (als ++ bls) [v, u] := ⟨als, bls, _, _, rfl, rfl, hr, bls, [], _, [], by simp, rfl, hs, rfl, rfl⟩
  obtain ⟨ho, hsa⟩ := RepV_okA hr
  obtain ⟨hp, hsb⟩ := RepV_okA hs
  have hz : ∀ a ∈ als ++ bls, a.sz ≤ 1048576 := fun a ha => ((List.mem_append.1 ha).elim (fun h => Nat.le_trans (hg a h).2 hB) (fun h => Nat.le_trans (hh a h).2 hC))
  have hsr : ∀ a ∈ als, a.sh = .r := by
    intro a ha
    have : a.sh ∈ als.map At.sh := List.mem_map_of_mem ha
    rw [hsa] at this
    simp only [List.mem_cons, List.not_mem_nil, or_false, or_self] at this
    exact this
  have hsq : ∀ a ∈ bls, a.sh = .r := by
    intro a ha
    have : a.sh ∈ bls.map At.sh := List.mem_map_of_mem ha
    rw [hsb] at this
    simp only [List.mem_cons, List.not_mem_nil, or_false, or_self] at this
    exact this
  have hl6 : als.length = 6 := by have := congrArg List.length hsa; simpa using this
  have hl3 : bls.length = 3 := by have := congrArg List.length hsb; simpa using this
  obtain ⟨e7, e8, e9, rfl⟩ : ∃ x y z, bls = [x, y, z] := by
    match bls, hl3 with
    | [x, y, z], _ => exact ⟨x, y, z, rfl⟩
  obtain ⟨a7, l7, m7, rfl⟩ := sh_r (hsq e7 (by simp))
  obtain ⟨a8, l8, m8, rfl⟩ := sh_r (hsq e8 (by simp))
  obtain ⟨a9, l9, m9, rfl⟩ := sh_r (hsq e9 (by simp))
  cases hf : fitB (chunk2 als) with
  | false =>
    obtain ⟨e1, e2, e3, e4, e5, e6, rfl⟩ := len6 hl6
    obtain ⟨a1, l1, m1, rfl⟩ := sh_r (hsr e1 (by simp))
    obtain ⟨a2, l2, m2, rfl⟩ := sh_r (hsr e2 (by simp))
    obtain ⟨a3, l3, m3, rfl⟩ := sh_r (hsr e3 (by simp))
    obtain ⟨a4, l4, m4, rfl⟩ := sh_r (hsr e4 (by simp))
    obtain ⟨a5, l5, m5, rfl⟩ := sh_r (hsr e5 (by simp))
    obtain ⟨a6, l6, m6, rfl⟩ := sh_r (hsr e6 (by simp))
    exact law_two ev_mkF ev_mkF hrs hz (.inr (mkF_den _ _ _ _ _ _ _ _ _ _ _ _ _ _ _ _ _ _ _ _ _ hf))
  | true =>
    cases ht : (qSh a7 l7 m7 && qSh a8 l8 m8 && qSh a9 l9 m9) with
    | false =>
      obtain ⟨e1, e2, e3, e4, e5, e6, rfl⟩ := len6 hl6
      obtain ⟨a1, l1, m1, rfl⟩ := sh_r (hsr e1 (by simp))
      obtain ⟨a2, l2, m2, rfl⟩ := sh_r (hsr e2 (by simp))
      obtain ⟨a3, l3, m3, rfl⟩ := sh_r (hsr e3 (by simp))
      obtain ⟨a4, l4, m4, rfl⟩ := sh_r (hsr e4 (by simp))
      obtain ⟨a5, l5, m5, rfl⟩ := sh_r (hsr e5 (by simp))
      obtain ⟨a6, l6, m6, rfl⟩ := sh_r (hsr e6 (by simp))
      exact law_two ev_mkS ev_mkS hrs hz (.inr (mkS_den _ _ _ _ _ _ _ _ _ _ _ _ _ _ _ _ _ _ _ _ _ _ _ _ _ _ _ hf ht))
    | true =>
      simp only [Bool.and_eq_true] at ht
      obtain ⟨⟨t7, t8⟩, t9⟩ := ht
      have o7 := hp (.r a7 l7 m7) (by simp)
      have o8 := hp (.r a8 l8 m8) (by simp)
      have o9 := hp (.r a9 l9 m9) (by simp)
      obtain ⟨q7, z7, y7⟩ := qSh_can o7.1 o7.2 t7
      obtain ⟨q8, z8, y8⟩ := qSh_can o8.1 o8.2 t8
      obtain ⟨q9, z9, y9⟩ := qSh_can o9.1 o9.2 t9
      have w7 := f_shT_of q7 t7
      have w8 := f_shT_of q8 t8
      have w9 := f_shT_of q9 t9
      have hf' := hf
      unfold fitB at hf'
      rw [Bool.and_eq_true] at hf'
      obtain ⟨qs, rfl, hq2⟩ := short2 hsr ho rfl hf'.1 (by rw [hl6])
      have hq6 : qs.length = 6 := by simpa using hl6
      obtain ⟨x1, x2, x3, x4, x5, x6, rfl⟩ := len6 hq6
      have hsz : szM ([x1, x2, x3, x4, x5, x6].map (fun x => QA.at (.q x)) ++ [At.r a7 l7 m7, At.r a8 l8 m8, At.r a9 l9 m9]) ≤ 2 := szM_of (fun a ha => by
        rcases List.mem_append.1 ha with ha | ha
        · obtain ⟨x, hx, rfl⟩ := List.mem_map.1 ha
          exact hq2 x hx
        · simp only [List.mem_cons, List.not_mem_nil, or_false] at ha
          rcases ha with rfl | rfl | rfl
          · exact Nat.max_le.2 ⟨z7, y7⟩
          · exact Nat.max_le.2 ⟨z8, y8⟩
          · exact Nat.max_le.2 ⟨z9, y9⟩)
      rw [q7, q8, q9] at hrs hz hsz
      exact law_two ev_mkA ev_mkS hrs hz (.inl ⟨hsz, mkA_den _ _ _ _ _ _ _ _ _ hf w7 w8 w9⟩)
set_option maxRecDepth 100000 in
theorem predicateMakes_liftedU (os : Os) (started : os.Started) (H : Type) (enc : TypeId × Value → H) (F : Stop.Interp) :
    ReturnsInHanded {} Try.checked os 7 .any ((Rows.OpenSpec.upto Rows.predicateMakesSpec).pre6 enc Try.prog Try.f7 Rows.predicateMakesUptoRow.domain false) (((Rows.OpenSpec.upto Rows.predicateMakesSpec).at F).post enc Try.prog Try.f7 false true false false) := by
  refine law_liftedU (C := Try.checked) (s := Rows.predicateMakesSpec) Try.own Try.laidOut (by kernel_rfl) Try.func7 rfl 4 rfl Try.underlying4 (by kernel_rfl) enc ?_ ?_ os started F
    (OpenSpec.witness (enc := enc) (C := Try.checked) (s := Rows.OpenSpec.upto Rows.predicateMakesSpec) (k := Rows.uptoSmall) rfl false ⟨#[], #[.agg #[.bool false, .slice none 0 0, .slice none 0 0, .bool false, .slice none 0 0, .slice none 0 0, .bool false, .slice none 0 0, .slice none 0 0, .bool false, .slice none 0 0, .slice none 0 0, .bool false, .slice none 0 0, .slice none 0 0, .bool false, .slice none 0 0, .slice none 0 0], .agg #[.bool false, .slice none 0 0, .slice none 0 0, .bool false, .slice none 0 0, .slice none 0 0, .bool false, .slice none 0 0, .slice none 0 0]], []⟩ 8 (by kernel_rfl) (by kernel_rfl) (by kernel_rfl) (x := ([.agg [.agg [.agg [.agg [.lit (.bool false), .nil], .nil], .agg [.agg [.lit (.bool false), .nil], .nil]], .agg [.agg [.agg [.lit (.bool false), .nil], .nil], .agg [.agg [.lit (.bool false), .nil], .nil]], .agg [.agg [.agg [.lit (.bool false), .nil], .nil], .agg [.agg [.lit (.bool false), .nil], .nil]]], .agg [.agg [.agg [.lit (.bool false), .nil], .nil], .agg [.agg [.lit (.bool false), .nil], .nil], .agg [.agg [.lit (.bool false), .nil], .nil]]], [], [])) (by kernel_rfl) rfl (by kernel_rfl))
  · intro ds hl
    match ds, hl with
    | [d0, d1], _ => rfl
  · intro W base args ds ps hval hA hlt hk
    have hA' : DataW.TrodAll enc Try.prog W 0 (fun _ => true) true [57, 58] args.toList ds ps := hA
    have hval' : ∀ (j : Nat) t v, Try.f7.params[j]? = some t → args[j]? = some v → Value.okWide Try.prog W .any base t v := hval
    obtain ⟨v0, v1, d0, d1, p0, p1, rfl, rfl, rfl, h0, h1⟩ := Go.ChangeShapes.trodAll_two hA'
    simp only [Rows.uptoBulkAll] at hk
    have hb_p : Rows.uptoBulk d0 ≤ 1048576 := by omega
    obtain ⟨als_p, hr_p, hg_p⟩ := open_P3 (hval' 0 57 v0 rfl rfl) h0
    have hb_t : Rows.uptoBulk d1 ≤ 1048576 := by omega
    obtain ⟨als_t, hr_t, hg_t⟩ := open_Q3 (hval' 1 58 v1 rfl rfl) h1
    exact predicateMakes_any hr_p hg_p hr_t hg_t hb_p hb_t

theorem predicateMakesUpto_holds : Rows.PredicateMakesUptoSaid :=
  OpenClaim.holds_of_cond 7 Try.f7 rfl rfl rfl rfl rfl rfl rfl ⟨rfl, rfl, rfl, rfl, rfl⟩ rfl rfl rfl rfl rfl (by kernel_rfl) Try.func7 (by kernel_rfl)
    (of_decide_eq_true (by kernel_rfl)) (by unfold Func.isWrapper; first | (rw [if_pos (by decide +kernel)]; kernel_rfl) | (rw [if_neg (by decide +kernel)]; exact ⟨rfl, rfl⟩))
    (fun os started H enc _ F => predicateMakes_liftedU os started H enc F)
end Go.Proofs.Ytkampmdekonjmaa
