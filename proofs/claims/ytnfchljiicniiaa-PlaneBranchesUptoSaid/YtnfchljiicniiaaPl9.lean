/- Points: the law of branches. -/
import Derived.Test.YtnfchljiicniiaaPlK
namespace Go.Proofs.Ytnfchljiicniiaa
open Go Go.RowKit Go.V Go.ChangeMaps
set_option linter.unusedSimpArgs false
set_option linter.unusedVariables false
set_option maxRecDepth 20000
def ct_cutD : Ct := { args := [[.r, .r], [.r, .r], [.r, .r], [.r, .r], [.b]], res := [[.r, .r], [(.k (11))]], F := cq (kG g_cut [[.r, .r], [(.k (11))]].flatten), L := 100, A := 512, B := 2838 }
theorem ctF_cutD : ct_cutD.F = cq (kG g_cut [.r, .r, (.k (11))]) := rfl
theorem ok_cutD : ct_cutD.ok Try.prog 36 := ok_kq ok_cut rfl
def ct_cutN : Ct := { args := [[.r, .r], [.r, .r], [.r, .r], [.r, .r], [.b]], res := [[.r, .r], [(.k (0))]], F := cq (kG g_cut [[.r, .r], [(.k (0))]].flatten), L := 100, A := 512, B := 2838 }
theorem ctF_cutN : ct_cutN.F = cq (kG g_cut [.r, .r, (.k (0))]) := rfl
theorem ok_cutN : ct_cutN.ok Try.prog 36 := ok_kq ok_cut rfl
def ct_cutI : Ct := { args := [[.r, .r], [.r, .r], [.r, .r], [.r, .r], [.b]], res := [[.r, .r], [(.k (12))]], F := cq (kG g_cut [[.r, .r], [(.k (12))]].flatten), L := 100, A := 512, B := 2838 }
theorem ctF_cutI : ct_cutI.F = cq (kG g_cut [.r, .r, (.k (12))]) := rfl
theorem ok_cutI : ct_cutI.ok Try.prog 36 := ok_kq ok_cut rfl
def ct_cutX : Ct := { args := [[.r, .r], [.r, .r], [.r, .r], [.r, .r], [.b]], res := [[.r, .r], [(.k (13))]], F := cq (kG g_cut [[.r, .r], [(.k (13))]].flatten), L := 100, A := 512, B := 2838 }
theorem ctF_cutX : ct_cutX.F = cq (kG g_cut [.r, .r, (.k (13))]) := rfl
theorem ok_cutX : ct_cutX.ok Try.prog 36 := ok_kq ok_cut rfl
def ct_intersectD : Ct := { args := [[.r, .r], [.r, .r], [.r, .r], [.r, .r], [.b]], res := [[.r, .r], [(.k (11))]], F := cq (kG g_intersect [[.r, .r], [(.k (11))]].flatten), L := 100, A := 1024, B := 5606 }
theorem ctF_intersectD : ct_intersectD.F = cq (kG g_intersect [.r, .r, (.k (11))]) := rfl
theorem ok_intersectD : ct_intersectD.ok Try.prog 38 := ok_kq ok_intersect rfl
def ct_intersectN : Ct := { args := [[.r, .r], [.r, .r], [.r, .r], [.r, .r], [.b]], res := [[.r, .r], [(.k (0))]], F := cq (kG g_intersect [[.r, .r], [(.k (0))]].flatten), L := 100, A := 1024, B := 5606 }
theorem ctF_intersectN : ct_intersectN.F = cq (kG g_intersect [.r, .r, (.k (0))]) := rfl
theorem ok_intersectN : ct_intersectN.ok Try.prog 38 := ok_kq ok_intersect rfl
def ct_intersectI : Ct := { args := [[.r, .r], [.r, .r], [.r, .r], [.r, .r], [.b]], res := [[.r, .r], [(.k (12))]], F := cq (kG g_intersect [[.r, .r], [(.k (12))]].flatten), L := 100, A := 1024, B := 5606 }
theorem ctF_intersectI : ct_intersectI.F = cq (kG g_intersect [.r, .r, (.k (12))]) := rfl
theorem ok_intersectI : ct_intersectI.ok Try.prog 38 := ok_kq ok_intersect rfl
def ct_intersectX : Ct := { args := [[.r, .r], [.r, .r], [.r, .r], [.r, .r], [.b]], res := [[.r, .r], [(.k (13))]], F := cq (kG g_intersect [[.r, .r], [(.k (13))]].flatten), L := 100, A := 1024, B := 5606 }
theorem ctF_intersectX : ct_intersectX.F = cq (kG g_intersect [.r, .r, (.k (13))]) := rfl
theorem ok_intersectX : ct_intersectX.ok Try.prog 38 := ok_kq ok_intersect rfl
theorem rootE_3 (d : Rat) : rootE d = 0 ∨ rootE d = 12 ∨ rootE d = 13 := by
  unfold rootE
  split
  · exact .inr (.inr rfl)
  · split
    · exact .inl rfl
    · exact .inr (.inl rfl)
theorem rootV_sq {d : Rat} (h : rootE d = 0) (b : Bool) : rootV d b * rootV d b = d := by
  have hq := qroot_sq (root_ok h)
  cases b
  · show -qroot d * -qroot d = d
    grind
  · exact hq
theorem rootV_t (d : Rat) : rootV d true = qroot d := rfl
theorem rootV_f (d : Rat) : rootV d false = - qroot d := rfl
theorem cut_sign (ax ay bx by' m d : Rat) : ¬ qsg (pdot ax ay bx by' (ax + (m + rootV d false) * (bx - ax)) (ay + (m + rootV d false) * (by' - ay)) (ax + (m + rootV d true) * (bx - ax)) (ay + (m + rootV d true) * (by' - ay))) < 0 := by
  rw [rootV_t, rootV_f]
  exact qsg_nn (cut_dot _ _ (qroot_nonneg _))
theorem cut_normV {ax ay bx by' ox oy px py : Rat} (h : ¬ (ax = bx ∧ ay = by')) (hE : rootE (cutD ax ay bx by' ox oy px py) = 0) (b : Bool) :
    pnorm ox oy (ax + (cutM ax ay bx by' ox oy + rootV (cutD ax ay bx by' ox oy px py) b) * (bx - ax)) (ay + (cutM ax ay bx by' ox oy + rootV (cutD ax ay bx by' ox oy px py) b) * (by' - ay)) = pnorm ox oy px py := by
  refine cut_norm h ?_
  have := rootV_sq hE b
  generalize rootV (cutD ax ay bx by' ox oy px py) b = r at *
  generalize cutM ax ay bx by' ox oy = m at *
  rw [← this]
  grind
theorem int_normV1 {ox oy px py qx qy rx ry : Rat} (h : ¬ (ox = qx ∧ oy = qy)) (hE : rootE (intD ox oy px py qx qy rx ry) = 0) (b : Bool) :
    pnorm ox oy (ox + intM ox oy px py qx qy rx ry * (qx - ox) + rootV (intD ox oy px py qx qy rx ry) b * -(qy - oy)) (oy + intM ox oy px py qx qy rx ry * (qy - oy) + rootV (intD ox oy px py qx qy rx ry) b * (qx - ox)) = pnorm ox oy px py :=
  int_norm1 (rootV_sq hE b) h
theorem int_normV2 {ox oy px py qx qy rx ry : Rat} (h : ¬ (ox = qx ∧ oy = qy)) (hE : rootE (intD ox oy px py qx qy rx ry) = 0) (b : Bool) :
    pnorm qx qy (ox + intM ox oy px py qx qy rx ry * (qx - ox) + rootV (intD ox oy px py qx qy rx ry) b * -(qy - oy)) (oy + intM ox oy px py qx qy rx ry * (qy - oy) + rootV (intD ox oy px py qx qy rx ry) b * (qx - ox)) = pnorm qx qy rx ry :=
  int_norm2 (rootV_sq hE b) h
theorem int_signL (ox oy qx qy m d : Rat) : ¬ qsg (pcross ox oy qx qy ox oy (ox + m * (qx - ox) + rootV d true * -(qy - oy)) (oy + m * (qy - oy) + rootV d true * (qx - ox))) < 0 := qsg_nn (int_cross _ _ (qroot_nonneg _))
theorem int_signR (ox oy qx qy m d : Rat) : ¬ 0 < qsg (pcross ox oy qx qy ox oy (ox + m * (qx - ox) + rootV d false * -(qy - oy)) (oy + m * (qy - oy) + rootV d false * (qx - ox))) := qsg_np (int_cross' _ _ (qroot_nonneg _))
theorem int_imageX {ox oy qx qy : Rat} (h : ¬ (ox = qx ∧ oy = qy)) (m d : Rat) : footX (ox + m * (qx - ox) + rootV d true * -(qy - oy)) (oy + m * (qy - oy) + rootV d true * (qx - ox)) ox oy qx qy + (footX (ox + m * (qx - ox) + rootV d true * -(qy - oy)) (oy + m * (qy - oy) + rootV d true * (qx - ox)) ox oy qx qy - (ox + m * (qx - ox) + rootV d true * -(qy - oy))) = ox + m * (qx - ox) + rootV d false * -(qy - oy) := (int_image m _ h).1
theorem int_imageY {ox oy qx qy : Rat} (h : ¬ (ox = qx ∧ oy = qy)) (m d : Rat) : footY (ox + m * (qx - ox) + rootV d true * -(qy - oy)) (oy + m * (qy - oy) + rootV d true * (qx - ox)) ox oy qx qy + (footY (ox + m * (qx - ox) + rootV d true * -(qy - oy)) (oy + m * (qy - oy) + rootV d true * (qx - ox)) ox oy qx qy - (oy + m * (qy - oy) + rootV d true * (qx - ox))) = oy + m * (qy - oy) + rootV d false * (qx - ox) := (int_image m _ h).2
theorem n12 : ¬ (12 : Int) = 0 := by decide
theorem n13 : ¬ (13 : Int) = 0 := by decide
def GB_planeBranches : Gam := gamOf [(8, ct_fitsF)]
theorem GB_planeBranches_ok : GamOk Try.prog GB_planeBranches := gamOk_of ⟨ok_fitsF, trivial⟩
theorem GB_planeBranches_fitsF : GB_planeBranches 8 = some ct_fitsF := rfl
def tr_planeBranchesB : Tr (List SA) := (.call 8 [(.ob 0), (.ob 1), (.ob 2), (.ob 3), (.ob 4), (.ob 5), (.ob 6), (.ob 7), (.ob 8), (.b (.var 9))] 10 (.leaf [(.b (.lit true))]))
theorem ev_planeBranchesB : Ct.ok Try.prog 6 { args := [[.r, .r, .r, .r, .r, .r, .r, .r, .r, .b]], res := [[.b]], F := fun als => tr_planeBranchesB.den GB_planeBranches (env0 als), L := 1048576, A := 0, B := 0 } :=
  top_ok (by kernel_rfl) GB_planeBranches_ok (plans := planF) (lf := 60) (k := 20) (by kernel_rfl)
theorem planeBranchesB_den (a1 : Bool) (l1 m1 : List Nat) (a2 : Bool) (l2 m2 : List Nat) (a3 : Bool) (l3 m3 : List Nat) (a4 : Bool) (l4 m4 : List Nat) (a5 : Bool) (l5 m5 : List Nat) (a6 : Bool) (l6 m6 : List Nat) (a7 : Bool) (l7 m7 : List Nat) (a8 : Bool) (l8 m8 : List Nat) (a9 : Bool) (l9 m9 : List Nat) (f : Bool) (h : f_fits [.r a1 l1 m1, .r a2 l2 m2, .r a3 l3 m3, .r a4 l4 m4, .r a5 l5 m5, .r a6 l6 m6, .r a7 l7 m7, .r a8 l8 m8, .r a9 l9 m9, .b f] = some [.b false]) : tr_planeBranchesB.den GB_planeBranches (env0 [.r a1 l1 m1, .r a2 l2 m2, .r a3 l3 m3, .r a4 l4 m4, .r a5 l5 m5, .r a6 l6 m6, .r a7 l7 m7, .r a8 l8 m8, .r a9 l9 m9, .b f]) = some [.b true] := by
  have h := fitsF_of h
  simp only [tr_planeBranchesB, Tr.den, evAll, SA.ev, BE.ev, IE.ev, SE.ev, LE.ev, env0, extE_eq, pickO, evN, evB, evS, evLen, evBit, evLst, At.len, At.bit, At.lst, op1, op2, op3, Nat.reduceLeDiff, Nat.reduceSub, Nat.reduceEqDiff, if_true, if_false, ite_true, ite_false, decide_true, decide_false, Bool.not_true, Bool.not_false, Nat.zero_le, Nat.sub_zero, List.getElem?_cons_zero, List.getElem?_cons_succ, List.getElem?_nil, GB_planeBranches_fitsF, ctF_fitsF, h]
def G_planeBranchesDD : Gam := gamOf [(8, ct_fitsT), (36, ct_cutD), (38, ct_intersectD)]
theorem G_planeBranchesDD_ok : GamOk Try.prog G_planeBranchesDD := gamOk_of ⟨ok_fitsT, ok_cutD, ok_intersectD, trivial⟩
theorem G_planeBranchesDD_fitsT : G_planeBranchesDD 8 = some ct_fitsT := rfl
theorem G_planeBranchesDD_cutD : G_planeBranchesDD 36 = some ct_cutD := rfl
theorem G_planeBranchesDD_intersectD : G_planeBranchesDD 38 = some ct_intersectD := rfl
def tr_planeBranchesDD : Tr (List SA) := (.call 8 [(.ob 0), (.ob 1), (.ob 2), (.ob 3), (.ob 4), (.ob 5), (.ob 6), (.ob 7), (.ob 8), (.b (.var 9))] 10 (.call 36 [(.ob 0), (.ob 1), (.ob 2), (.ob 3), (.ob 4), (.ob 5), (.ob 6), (.ob 7), (.b (.lit false))] 11 (.call 36 [(.ob 0), (.ob 1), (.ob 2), (.ob 3), (.ob 4), (.ob 5), (.ob 6), (.ob 7), (.b (.lit true))] 14 (.call 38 [(.ob 0), (.ob 1), (.ob 2), (.ob 3), (.ob 4), (.ob 5), (.ob 6), (.ob 7), (.b (.lit true))] 17 (.call 38 [(.ob 0), (.ob 1), (.ob 2), (.ob 3), (.ob 4), (.ob 5), (.ob 6), (.ob 7), (.b (.lit false))] 20 (.leaf [(.b (.lit true))]))))))
theorem ev_planeBranchesDD : Ct.ok Try.prog 6 { args := [[.r, .r, .r, .r, .r, .r, .r, .r, .r, .b]], res := [[.b]], F := fun als => tr_planeBranchesDD.den G_planeBranchesDD (env0 als), L := 2, A := 0, B := 0 } :=
  top_ok (by kernel_rfl) G_planeBranchesDD_ok (plans := planF) (lf := 60) (k := 20) (by kernel_rfl)
set_option maxHeartbeats 1000000 in
theorem planeBranchesDD_den (x1 x2 x3 x4 x5 x6 x7 x8 x9 : Rat) (f : Bool) (h : f_fits (List.map QA.at [.q x1, .q x2, .q x3, .q x4, .q x5, .q x6, .q x7, .q x8, .q x9, .b f]) = some [.b true]) (h1 : x1 = x3 ∧ x2 = x4) (h3 : x1 = x5 ∧ x2 = x6) : tr_planeBranchesDD.den G_planeBranchesDD (env0 (List.map QA.at [.q x1, .q x2, .q x3, .q x4, .q x5, .q x6, .q x7, .q x8, .q x9, .b f])) = some [.b true] := by
  have h := fitsT_of h
  simp only [List.map_cons, List.map_nil] at h
  have n11 : ¬ (11 : Int) = 0 := by decide
  simp only [tr_planeBranchesDD, Tr.den, evAll, SA.ev, BE.ev, IE.ev, SE.ev, LE.ev, env0, extE_eq, pickO, op1, op2, op3, Nat.reduceLeDiff, Nat.reduceSub, Nat.reduceEqDiff, if_true, if_false, ite_true, ite_false, decide_true, decide_false, Bool.not_true, Bool.not_false, Nat.zero_le, Nat.sub_zero, List.getElem?_cons_zero, List.getElem?_cons_succ, List.getElem?_nil, cq0, cq1, cq2, cq3, cq4, cq5, cq6, cq7, cq8, cq9, cq10, cq12, cq16, outQ1, outQ2, outQ3, outQ4, outQ5, evN_at, evB_at, evS_at, evLen_z1, evLen_z2, evBit_z, at_n, at_b, at_s, at_z, at_k, at_kb, kG, kQ, kQ1, List.map_cons, List.map_nil, List.cons_append, List.nil_append, decide_eq_true_eq, Bool.false_eq_true, G_planeBranchesDD_fitsT, ctF_fitsT, G_planeBranchesDD_cutD, ctF_cutD, G_planeBranchesDD_intersectD, ctF_intersectD, h, n11, eq_self, and_self, g_cut, g_intersect, eq_true h1, eq_true h3]
def G_planeBranchesDN : Gam := gamOf [(8, ct_fitsT), (36, ct_cutD), (38, ct_intersectN), (29, ct_onlineT), (11, ct_ppdot), (12, ct_ppcross), (13, ct_ppnorm), (37, ct_drsign), (15, ct_drequalT), (31, ct_mirrorN), (9, ct_pequalT)]
theorem G_planeBranchesDN_ok : GamOk Try.prog G_planeBranchesDN := gamOk_of ⟨ok_fitsT, ok_cutD, ok_intersectN, ok_onlineT, ok_ppdot, ok_ppcross, ok_ppnorm, ok_drsign, ok_drequalT, ok_mirrorN, ok_pequalT, trivial⟩
theorem G_planeBranchesDN_fitsT : G_planeBranchesDN 8 = some ct_fitsT := rfl
theorem G_planeBranchesDN_cutD : G_planeBranchesDN 36 = some ct_cutD := rfl
theorem G_planeBranchesDN_intersectN : G_planeBranchesDN 38 = some ct_intersectN := rfl
theorem G_planeBranchesDN_onlineT : G_planeBranchesDN 29 = some ct_onlineT := rfl
theorem G_planeBranchesDN_ppdot : G_planeBranchesDN 11 = some ct_ppdot := rfl
theorem G_planeBranchesDN_ppcross : G_planeBranchesDN 12 = some ct_ppcross := rfl
theorem G_planeBranchesDN_ppnorm : G_planeBranchesDN 13 = some ct_ppnorm := rfl
theorem G_planeBranchesDN_drsign : G_planeBranchesDN 37 = some ct_drsign := rfl
theorem G_planeBranchesDN_drequalT : G_planeBranchesDN 15 = some ct_drequalT := rfl
theorem G_planeBranchesDN_mirrorN : G_planeBranchesDN 31 = some ct_mirrorN := rfl
theorem G_planeBranchesDN_pequalT : G_planeBranchesDN 9 = some ct_pequalT := rfl
def tr_planeBranchesDN : Tr (List SA) := (.call 8 [(.ob 0), (.ob 1), (.ob 2), (.ob 3), (.ob 4), (.ob 5), (.ob 6), (.ob 7), (.ob 8), (.b (.var 9))] 10 (.call 36 [(.ob 0), (.ob 1), (.ob 2), (.ob 3), (.ob 4), (.ob 5), (.ob 6), (.ob 7), (.b (.lit false))] 11 (.call 36 [(.ob 0), (.ob 1), (.ob 2), (.ob 3), (.ob 4), (.ob 5), (.ob 6), (.ob 7), (.b (.lit true))] 14 (.call 38 [(.ob 0), (.ob 1), (.ob 2), (.ob 3), (.ob 4), (.ob 5), (.ob 6), (.ob 7), (.b (.lit true))] 17 (.call 38 [(.ob 0), (.ob 1), (.ob 2), (.ob 3), (.ob 4), (.ob 5), (.ob 6), (.ob 7), (.b (.lit false))] 20 (.call 31 [(.ob 17), (.ob 18), (.ob 0), (.ob 1), (.ob 4), (.ob 5)] 23 (.call 9 [(.ob 23), (.ob 24), (.ob 20), (.ob 21)] 26 (.call 12 [(.ob 0), (.ob 1), (.ob 4), (.ob 5), (.ob 0), (.ob 1), (.ob 17), (.ob 18)] 27 (.call 37 [(.ob 27)] 28 (.br (.lt (.var 28) (.lit 0)) (.leaf [(.b (.lit false))]) (.call 12 [(.ob 0), (.ob 1), (.ob 4), (.ob 5), (.ob 0), (.ob 1), (.ob 20), (.ob 21)] 29 (.call 37 [(.ob 29)] 30 (.br (.lt (.lit 0) (.var 30)) (.leaf [(.b (.lit false))]) (.call 13 [(.ob 0), (.ob 1), (.ob 17), (.ob 18)] 31 (.call 13 [(.ob 0), (.ob 1), (.ob 2), (.ob 3)] 32 (.call 15 [(.ob 31), (.ob 32)] 33 (.call 13 [(.ob 4), (.ob 5), (.ob 17), (.ob 18)] 34 (.call 13 [(.ob 4), (.ob 5), (.ob 6), (.ob 7)] 35 (.call 15 [(.ob 34), (.ob 35)] 36 (.leaf [(.b (.lit true))]))))))))))))))))))))
theorem ev_planeBranchesDN : Ct.ok Try.prog 6 { args := [[.r, .r, .r, .r, .r, .r, .r, .r, .r, .b]], res := [[.b]], F := fun als => tr_planeBranchesDN.den G_planeBranchesDN (env0 als), L := 2, A := 0, B := 0 } :=
  top_ok (by kernel_rfl) G_planeBranchesDN_ok (plans := planF) (lf := 60) (k := 20) (by kernel_rfl)
set_option maxHeartbeats 1000000 in
theorem planeBranchesDN_den (x1 x2 x3 x4 x5 x6 x7 x8 x9 : Rat) (f : Bool) (h : f_fits (List.map QA.at [.q x1, .q x2, .q x3, .q x4, .q x5, .q x6, .q x7, .q x8, .q x9, .b f]) = some [.b true]) (h1 : x1 = x3 ∧ x2 = x4) (h3 : ¬ (x1 = x5 ∧ x2 = x6)) (h4 : rootE (intD x1 x2 x3 x4 x5 x6 x7 x8) = 0) : tr_planeBranchesDN.den G_planeBranchesDN (env0 (List.map QA.at [.q x1, .q x2, .q x3, .q x4, .q x5, .q x6, .q x7, .q x8, .q x9, .b f])) = some [.b true] := by
  have h := fitsT_of h
  simp only [List.map_cons, List.map_nil] at h
  have n11 : ¬ (11 : Int) = 0 := by decide
  simp only [tr_planeBranchesDN, Tr.den, evAll, SA.ev, BE.ev, IE.ev, SE.ev, LE.ev, env0, extE_eq, pickO, op1, op2, op3, Nat.reduceLeDiff, Nat.reduceSub, Nat.reduceEqDiff, if_true, if_false, ite_true, ite_false, decide_true, decide_false, Bool.not_true, Bool.not_false, Nat.zero_le, Nat.sub_zero, List.getElem?_cons_zero, List.getElem?_cons_succ, List.getElem?_nil, cq0, cq1, cq2, cq3, cq4, cq5, cq6, cq7, cq8, cq9, cq10, cq12, cq16, outQ1, outQ2, outQ3, outQ4, outQ5, evN_at, evB_at, evS_at, evLen_z1, evLen_z2, evBit_z, at_n, at_b, at_s, at_z, at_k, at_kb, kG, kQ, kQ1, List.map_cons, List.map_nil, List.cons_append, List.nil_append, decide_eq_true_eq, Bool.false_eq_true, G_planeBranchesDN_fitsT, ctF_fitsT, G_planeBranchesDN_cutD, ctF_cutD, G_planeBranchesDN_intersectN, ctF_intersectN, G_planeBranchesDN_onlineT, ctF_onlineT, G_planeBranchesDN_ppdot, ctF_ppdot, G_planeBranchesDN_ppcross, ctF_ppcross, G_planeBranchesDN_ppnorm, ctF_ppnorm, G_planeBranchesDN_drsign, ctF_drsign, G_planeBranchesDN_drequalT, ctF_drequalT, G_planeBranchesDN_mirrorN, ctF_mirrorN, G_planeBranchesDN_pequalT, ctF_pequalT, h, n11, eq_self, and_self, g_cut, g_intersect, eq_true h1, h3, h4, g_mirror, g_pequal, g_pcross, g_sign, g_pnorm, g_equal, int_normV1 h3 h4, int_normV2 h3 h4, int_signL, int_signR, int_imageX h3, int_imageY h3]
def G_planeBranchesDI : Gam := gamOf [(8, ct_fitsT), (36, ct_cutD), (38, ct_intersectI)]
theorem G_planeBranchesDI_ok : GamOk Try.prog G_planeBranchesDI := gamOk_of ⟨ok_fitsT, ok_cutD, ok_intersectI, trivial⟩
theorem G_planeBranchesDI_fitsT : G_planeBranchesDI 8 = some ct_fitsT := rfl
theorem G_planeBranchesDI_cutD : G_planeBranchesDI 36 = some ct_cutD := rfl
theorem G_planeBranchesDI_intersectI : G_planeBranchesDI 38 = some ct_intersectI := rfl
def tr_planeBranchesDI : Tr (List SA) := (.call 8 [(.ob 0), (.ob 1), (.ob 2), (.ob 3), (.ob 4), (.ob 5), (.ob 6), (.ob 7), (.ob 8), (.b (.var 9))] 10 (.call 36 [(.ob 0), (.ob 1), (.ob 2), (.ob 3), (.ob 4), (.ob 5), (.ob 6), (.ob 7), (.b (.lit false))] 11 (.call 36 [(.ob 0), (.ob 1), (.ob 2), (.ob 3), (.ob 4), (.ob 5), (.ob 6), (.ob 7), (.b (.lit true))] 14 (.call 38 [(.ob 0), (.ob 1), (.ob 2), (.ob 3), (.ob 4), (.ob 5), (.ob 6), (.ob 7), (.b (.lit true))] 17 (.call 38 [(.ob 0), (.ob 1), (.ob 2), (.ob 3), (.ob 4), (.ob 5), (.ob 6), (.ob 7), (.b (.lit false))] 20 (.leaf [(.b (.lit true))]))))))
theorem ev_planeBranchesDI : Ct.ok Try.prog 6 { args := [[.r, .r, .r, .r, .r, .r, .r, .r, .r, .b]], res := [[.b]], F := fun als => tr_planeBranchesDI.den G_planeBranchesDI (env0 als), L := 2, A := 0, B := 0 } :=
  top_ok (by kernel_rfl) G_planeBranchesDI_ok (plans := planF) (lf := 60) (k := 20) (by kernel_rfl)
set_option maxHeartbeats 1000000 in
theorem planeBranchesDI_den (x1 x2 x3 x4 x5 x6 x7 x8 x9 : Rat) (f : Bool) (h : f_fits (List.map QA.at [.q x1, .q x2, .q x3, .q x4, .q x5, .q x6, .q x7, .q x8, .q x9, .b f]) = some [.b true]) (h1 : x1 = x3 ∧ x2 = x4) (h3 : ¬ (x1 = x5 ∧ x2 = x6)) (h4 : rootE (intD x1 x2 x3 x4 x5 x6 x7 x8) = 12) : tr_planeBranchesDI.den G_planeBranchesDI (env0 (List.map QA.at [.q x1, .q x2, .q x3, .q x4, .q x5, .q x6, .q x7, .q x8, .q x9, .b f])) = some [.b true] := by
  have h := fitsT_of h
  simp only [List.map_cons, List.map_nil] at h
  have n11 : ¬ (11 : Int) = 0 := by decide
  simp only [tr_planeBranchesDI, Tr.den, evAll, SA.ev, BE.ev, IE.ev, SE.ev, LE.ev, env0, extE_eq, pickO, op1, op2, op3, Nat.reduceLeDiff, Nat.reduceSub, Nat.reduceEqDiff, if_true, if_false, ite_true, ite_false, decide_true, decide_false, Bool.not_true, Bool.not_false, Nat.zero_le, Nat.sub_zero, List.getElem?_cons_zero, List.getElem?_cons_succ, List.getElem?_nil, cq0, cq1, cq2, cq3, cq4, cq5, cq6, cq7, cq8, cq9, cq10, cq12, cq16, outQ1, outQ2, outQ3, outQ4, outQ5, evN_at, evB_at, evS_at, evLen_z1, evLen_z2, evBit_z, at_n, at_b, at_s, at_z, at_k, at_kb, kG, kQ, kQ1, List.map_cons, List.map_nil, List.cons_append, List.nil_append, decide_eq_true_eq, Bool.false_eq_true, G_planeBranchesDI_fitsT, ctF_fitsT, G_planeBranchesDI_cutD, ctF_cutD, G_planeBranchesDI_intersectI, ctF_intersectI, h, n11, eq_self, and_self, g_cut, g_intersect, eq_true h1, h3, h4, n12]
def G_planeBranchesDX : Gam := gamOf [(8, ct_fitsT), (36, ct_cutD), (38, ct_intersectX)]
theorem G_planeBranchesDX_ok : GamOk Try.prog G_planeBranchesDX := gamOk_of ⟨ok_fitsT, ok_cutD, ok_intersectX, trivial⟩
theorem G_planeBranchesDX_fitsT : G_planeBranchesDX 8 = some ct_fitsT := rfl
theorem G_planeBranchesDX_cutD : G_planeBranchesDX 36 = some ct_cutD := rfl
theorem G_planeBranchesDX_intersectX : G_planeBranchesDX 38 = some ct_intersectX := rfl
def tr_planeBranchesDX : Tr (List SA) := (.call 8 [(.ob 0), (.ob 1), (.ob 2), (.ob 3), (.ob 4), (.ob 5), (.ob 6), (.ob 7), (.ob 8), (.b (.var 9))] 10 (.call 36 [(.ob 0), (.ob 1), (.ob 2), (.ob 3), (.ob 4), (.ob 5), (.ob 6), (.ob 7), (.b (.lit false))] 11 (.call 36 [(.ob 0), (.ob 1), (.ob 2), (.ob 3), (.ob 4), (.ob 5), (.ob 6), (.ob 7), (.b (.lit true))] 14 (.call 38 [(.ob 0), (.ob 1), (.ob 2), (.ob 3), (.ob 4), (.ob 5), (.ob 6), (.ob 7), (.b (.lit true))] 17 (.call 38 [(.ob 0), (.ob 1), (.ob 2), (.ob 3), (.ob 4), (.ob 5), (.ob 6), (.ob 7), (.b (.lit false))] 20 (.leaf [(.b (.lit true))]))))))
theorem ev_planeBranchesDX : Ct.ok Try.prog 6 { args := [[.r, .r, .r, .r, .r, .r, .r, .r, .r, .b]], res := [[.b]], F := fun als => tr_planeBranchesDX.den G_planeBranchesDX (env0 als), L := 2, A := 0, B := 0 } :=
  top_ok (by kernel_rfl) G_planeBranchesDX_ok (plans := planF) (lf := 60) (k := 20) (by kernel_rfl)
set_option maxHeartbeats 1000000 in
theorem planeBranchesDX_den (x1 x2 x3 x4 x5 x6 x7 x8 x9 : Rat) (f : Bool) (h : f_fits (List.map QA.at [.q x1, .q x2, .q x3, .q x4, .q x5, .q x6, .q x7, .q x8, .q x9, .b f]) = some [.b true]) (h1 : x1 = x3 ∧ x2 = x4) (h3 : ¬ (x1 = x5 ∧ x2 = x6)) (h4 : rootE (intD x1 x2 x3 x4 x5 x6 x7 x8) = 13) : tr_planeBranchesDX.den G_planeBranchesDX (env0 (List.map QA.at [.q x1, .q x2, .q x3, .q x4, .q x5, .q x6, .q x7, .q x8, .q x9, .b f])) = some [.b true] := by
  have h := fitsT_of h
  simp only [List.map_cons, List.map_nil] at h
  have n11 : ¬ (11 : Int) = 0 := by decide
  simp only [tr_planeBranchesDX, Tr.den, evAll, SA.ev, BE.ev, IE.ev, SE.ev, LE.ev, env0, extE_eq, pickO, op1, op2, op3, Nat.reduceLeDiff, Nat.reduceSub, Nat.reduceEqDiff, if_true, if_false, ite_true, ite_false, decide_true, decide_false, Bool.not_true, Bool.not_false, Nat.zero_le, Nat.sub_zero, List.getElem?_cons_zero, List.getElem?_cons_succ, List.getElem?_nil, cq0, cq1, cq2, cq3, cq4, cq5, cq6, cq7, cq8, cq9, cq10, cq12, cq16, outQ1, outQ2, outQ3, outQ4, outQ5, evN_at, evB_at, evS_at, evLen_z1, evLen_z2, evBit_z, at_n, at_b, at_s, at_z, at_k, at_kb, kG, kQ, kQ1, List.map_cons, List.map_nil, List.cons_append, List.nil_append, decide_eq_true_eq, Bool.false_eq_true, G_planeBranchesDX_fitsT, ctF_fitsT, G_planeBranchesDX_cutD, ctF_cutD, G_planeBranchesDX_intersectX, ctF_intersectX, h, n11, eq_self, and_self, g_cut, g_intersect, eq_true h1, h3, h4, n13]
def G_planeBranchesND : Gam := gamOf [(8, ct_fitsT), (36, ct_cutN), (38, ct_intersectD), (29, ct_onlineT), (11, ct_ppdot), (12, ct_ppcross), (13, ct_ppnorm), (37, ct_drsign), (15, ct_drequalT), (31, ct_mirrorN), (9, ct_pequalT)]
theorem G_planeBranchesND_ok : GamOk Try.prog G_planeBranchesND := gamOk_of ⟨ok_fitsT, ok_cutN, ok_intersectD, ok_onlineT, ok_ppdot, ok_ppcross, ok_ppnorm, ok_drsign, ok_drequalT, ok_mirrorN, ok_pequalT, trivial⟩
theorem G_planeBranchesND_fitsT : G_planeBranchesND 8 = some ct_fitsT := rfl
theorem G_planeBranchesND_cutN : G_planeBranchesND 36 = some ct_cutN := rfl
theorem G_planeBranchesND_intersectD : G_planeBranchesND 38 = some ct_intersectD := rfl
theorem G_planeBranchesND_onlineT : G_planeBranchesND 29 = some ct_onlineT := rfl
theorem G_planeBranchesND_ppdot : G_planeBranchesND 11 = some ct_ppdot := rfl
theorem G_planeBranchesND_ppcross : G_planeBranchesND 12 = some ct_ppcross := rfl
theorem G_planeBranchesND_ppnorm : G_planeBranchesND 13 = some ct_ppnorm := rfl
theorem G_planeBranchesND_drsign : G_planeBranchesND 37 = some ct_drsign := rfl
theorem G_planeBranchesND_drequalT : G_planeBranchesND 15 = some ct_drequalT := rfl
theorem G_planeBranchesND_mirrorN : G_planeBranchesND 31 = some ct_mirrorN := rfl
theorem G_planeBranchesND_pequalT : G_planeBranchesND 9 = some ct_pequalT := rfl
def tr_planeBranchesND : Tr (List SA) := (.call 8 [(.ob 0), (.ob 1), (.ob 2), (.ob 3), (.ob 4), (.ob 5), (.ob 6), (.ob 7), (.ob 8), (.b (.var 9))] 10 (.call 36 [(.ob 0), (.ob 1), (.ob 2), (.ob 3), (.ob 4), (.ob 5), (.ob 6), (.ob 7), (.b (.lit false))] 11 (.call 36 [(.ob 0), (.ob 1), (.ob 2), (.ob 3), (.ob 4), (.ob 5), (.ob 6), (.ob 7), (.b (.lit true))] 14 (.call 29 [(.ob 11), (.ob 12), (.ob 0), (.ob 1), (.ob 2), (.ob 3)] 17 (.call 29 [(.ob 14), (.ob 15), (.ob 0), (.ob 1), (.ob 2), (.ob 3)] 18 (.call 11 [(.ob 0), (.ob 1), (.ob 2), (.ob 3), (.ob 11), (.ob 12), (.ob 14), (.ob 15)] 19 (.call 37 [(.ob 19)] 20 (.br (.lt (.var 20) (.lit 0)) (.leaf [(.b (.lit false))]) (.call 13 [(.ob 4), (.ob 5), (.ob 11), (.ob 12)] 21 (.call 13 [(.ob 4), (.ob 5), (.ob 6), (.ob 7)] 22 (.call 15 [(.ob 21), (.ob 22)] 23 (.call 13 [(.ob 4), (.ob 5), (.ob 14), (.ob 15)] 24 (.call 13 [(.ob 4), (.ob 5), (.ob 6), (.ob 7)] 25 (.call 15 [(.ob 24), (.ob 25)] 26 (.call 38 [(.ob 0), (.ob 1), (.ob 2), (.ob 3), (.ob 4), (.ob 5), (.ob 6), (.ob 7), (.b (.lit true))] 27 (.call 38 [(.ob 0), (.ob 1), (.ob 2), (.ob 3), (.ob 4), (.ob 5), (.ob 6), (.ob 7), (.b (.lit false))] 30 (.leaf [(.b (.lit true))])))))))))))))))))
theorem ev_planeBranchesND : Ct.ok Try.prog 6 { args := [[.r, .r, .r, .r, .r, .r, .r, .r, .r, .b]], res := [[.b]], F := fun als => tr_planeBranchesND.den G_planeBranchesND (env0 als), L := 2, A := 0, B := 0 } :=
  top_ok (by kernel_rfl) G_planeBranchesND_ok (plans := planF) (lf := 60) (k := 20) (by kernel_rfl)
set_option maxHeartbeats 1000000 in
theorem planeBranchesND_den (x1 x2 x3 x4 x5 x6 x7 x8 x9 : Rat) (f : Bool) (h : f_fits (List.map QA.at [.q x1, .q x2, .q x3, .q x4, .q x5, .q x6, .q x7, .q x8, .q x9, .b f]) = some [.b true]) (h1 : ¬ (x1 = x3 ∧ x2 = x4)) (h2 : rootE (cutD x1 x2 x3 x4 x5 x6 x7 x8) = 0) (h3 : x1 = x5 ∧ x2 = x6) : tr_planeBranchesND.den G_planeBranchesND (env0 (List.map QA.at [.q x1, .q x2, .q x3, .q x4, .q x5, .q x6, .q x7, .q x8, .q x9, .b f])) = some [.b true] := by
  have h := fitsT_of h
  simp only [List.map_cons, List.map_nil] at h
  have n11 : ¬ (11 : Int) = 0 := by decide
  simp only [tr_planeBranchesND, Tr.den, evAll, SA.ev, BE.ev, IE.ev, SE.ev, LE.ev, env0, extE_eq, pickO, op1, op2, op3, Nat.reduceLeDiff, Nat.reduceSub, Nat.reduceEqDiff, if_true, if_false, ite_true, ite_false, decide_true, decide_false, Bool.not_true, Bool.not_false, Nat.zero_le, Nat.sub_zero, List.getElem?_cons_zero, List.getElem?_cons_succ, List.getElem?_nil, cq0, cq1, cq2, cq3, cq4, cq5, cq6, cq7, cq8, cq9, cq10, cq12, cq16, outQ1, outQ2, outQ3, outQ4, outQ5, evN_at, evB_at, evS_at, evLen_z1, evLen_z2, evBit_z, at_n, at_b, at_s, at_z, at_k, at_kb, kG, kQ, kQ1, List.map_cons, List.map_nil, List.cons_append, List.nil_append, decide_eq_true_eq, Bool.false_eq_true, G_planeBranchesND_fitsT, ctF_fitsT, G_planeBranchesND_cutN, ctF_cutN, G_planeBranchesND_intersectD, ctF_intersectD, G_planeBranchesND_onlineT, ctF_onlineT, G_planeBranchesND_ppdot, ctF_ppdot, G_planeBranchesND_ppcross, ctF_ppcross, G_planeBranchesND_ppnorm, ctF_ppnorm, G_planeBranchesND_drsign, ctF_drsign, G_planeBranchesND_drequalT, ctF_drequalT, G_planeBranchesND_mirrorN, ctF_mirrorN, G_planeBranchesND_pequalT, ctF_pequalT, h, n11, eq_self, and_self, g_cut, g_intersect, h1, h2, g_online, on_line, g_pdot, g_sign, cut_sign, g_pnorm, g_equal, cut_normV h1 h2, eq_true h3]
def G_planeBranchesNN : Gam := gamOf [(8, ct_fitsT), (36, ct_cutN), (38, ct_intersectN), (29, ct_onlineT), (11, ct_ppdot), (12, ct_ppcross), (13, ct_ppnorm), (37, ct_drsign), (15, ct_drequalT), (31, ct_mirrorN), (9, ct_pequalT)]
theorem G_planeBranchesNN_ok : GamOk Try.prog G_planeBranchesNN := gamOk_of ⟨ok_fitsT, ok_cutN, ok_intersectN, ok_onlineT, ok_ppdot, ok_ppcross, ok_ppnorm, ok_drsign, ok_drequalT, ok_mirrorN, ok_pequalT, trivial⟩
theorem G_planeBranchesNN_fitsT : G_planeBranchesNN 8 = some ct_fitsT := rfl
theorem G_planeBranchesNN_cutN : G_planeBranchesNN 36 = some ct_cutN := rfl
theorem G_planeBranchesNN_intersectN : G_planeBranchesNN 38 = some ct_intersectN := rfl
theorem G_planeBranchesNN_onlineT : G_planeBranchesNN 29 = some ct_onlineT := rfl
theorem G_planeBranchesNN_ppdot : G_planeBranchesNN 11 = some ct_ppdot := rfl
theorem G_planeBranchesNN_ppcross : G_planeBranchesNN 12 = some ct_ppcross := rfl
theorem G_planeBranchesNN_ppnorm : G_planeBranchesNN 13 = some ct_ppnorm := rfl
theorem G_planeBranchesNN_drsign : G_planeBranchesNN 37 = some ct_drsign := rfl
theorem G_planeBranchesNN_drequalT : G_planeBranchesNN 15 = some ct_drequalT := rfl
theorem G_planeBranchesNN_mirrorN : G_planeBranchesNN 31 = some ct_mirrorN := rfl
theorem G_planeBranchesNN_pequalT : G_planeBranchesNN 9 = some ct_pequalT := rfl
def tr_planeBranchesNN : Tr (List SA) := (.call 8 [(.ob 0), (.ob 1), (.ob 2), (.ob 3), (.ob 4), (.ob 5), (.ob 6), (.ob 7), (.ob 8), (.b (.var 9))] 10 (.call 36 [(.ob 0), (.ob 1), (.ob 2), (.ob 3), (.ob 4), (.ob 5), (.ob 6), (.ob 7), (.b (.lit false))] 11 (.call 36 [(.ob 0), (.ob 1), (.ob 2), (.ob 3), (.ob 4), (.ob 5), (.ob 6), (.ob 7), (.b (.lit true))] 14 (.call 29 [(.ob 11), (.ob 12), (.ob 0), (.ob 1), (.ob 2), (.ob 3)] 17 (.call 29 [(.ob 14), (.ob 15), (.ob 0), (.ob 1), (.ob 2), (.ob 3)] 18 (.call 11 [(.ob 0), (.ob 1), (.ob 2), (.ob 3), (.ob 11), (.ob 12), (.ob 14), (.ob 15)] 19 (.call 37 [(.ob 19)] 20 (.br (.lt (.var 20) (.lit 0)) (.leaf [(.b (.lit false))]) (.call 13 [(.ob 4), (.ob 5), (.ob 11), (.ob 12)] 21 (.call 13 [(.ob 4), (.ob 5), (.ob 6), (.ob 7)] 22 (.call 15 [(.ob 21), (.ob 22)] 23 (.call 13 [(.ob 4), (.ob 5), (.ob 14), (.ob 15)] 24 (.call 13 [(.ob 4), (.ob 5), (.ob 6), (.ob 7)] 25 (.call 15 [(.ob 24), (.ob 25)] 26 (.call 38 [(.ob 0), (.ob 1), (.ob 2), (.ob 3), (.ob 4), (.ob 5), (.ob 6), (.ob 7), (.b (.lit true))] 27 (.call 38 [(.ob 0), (.ob 1), (.ob 2), (.ob 3), (.ob 4), (.ob 5), (.ob 6), (.ob 7), (.b (.lit false))] 30 (.call 31 [(.ob 27), (.ob 28), (.ob 0), (.ob 1), (.ob 4), (.ob 5)] 33 (.call 9 [(.ob 33), (.ob 34), (.ob 30), (.ob 31)] 36 (.call 12 [(.ob 0), (.ob 1), (.ob 4), (.ob 5), (.ob 0), (.ob 1), (.ob 27), (.ob 28)] 37 (.call 37 [(.ob 37)] 38 (.br (.lt (.var 38) (.lit 0)) (.leaf [(.b (.lit false))]) (.call 12 [(.ob 0), (.ob 1), (.ob 4), (.ob 5), (.ob 0), (.ob 1), (.ob 30), (.ob 31)] 39 (.call 37 [(.ob 39)] 40 (.br (.lt (.lit 0) (.var 40)) (.leaf [(.b (.lit false))]) (.call 13 [(.ob 0), (.ob 1), (.ob 27), (.ob 28)] 41 (.call 13 [(.ob 0), (.ob 1), (.ob 2), (.ob 3)] 42 (.call 15 [(.ob 41), (.ob 42)] 43 (.call 13 [(.ob 4), (.ob 5), (.ob 27), (.ob 28)] 44 (.call 13 [(.ob 4), (.ob 5), (.ob 6), (.ob 7)] 45 (.call 15 [(.ob 44), (.ob 45)] 46 (.leaf [(.b (.lit true))])))))))))))))))))))))))))))))))
theorem ev_planeBranchesNN : Ct.ok Try.prog 6 { args := [[.r, .r, .r, .r, .r, .r, .r, .r, .r, .b]], res := [[.b]], F := fun als => tr_planeBranchesNN.den G_planeBranchesNN (env0 als), L := 2, A := 0, B := 0 } :=
  top_ok (by kernel_rfl) G_planeBranchesNN_ok (plans := planF) (lf := 60) (k := 20) (by kernel_rfl)
set_option maxHeartbeats 1000000 in
theorem planeBranchesNN_den (x1 x2 x3 x4 x5 x6 x7 x8 x9 : Rat) (f : Bool) (h : f_fits (List.map QA.at [.q x1, .q x2, .q x3, .q x4, .q x5, .q x6, .q x7, .q x8, .q x9, .b f]) = some [.b true]) (h1 : ¬ (x1 = x3 ∧ x2 = x4)) (h2 : rootE (cutD x1 x2 x3 x4 x5 x6 x7 x8) = 0) (h3 : ¬ (x1 = x5 ∧ x2 = x6)) (h4 : rootE (intD x1 x2 x3 x4 x5 x6 x7 x8) = 0) : tr_planeBranchesNN.den G_planeBranchesNN (env0 (List.map QA.at [.q x1, .q x2, .q x3, .q x4, .q x5, .q x6, .q x7, .q x8, .q x9, .b f])) = some [.b true] := by
  have h := fitsT_of h
  simp only [List.map_cons, List.map_nil] at h
  have n11 : ¬ (11 : Int) = 0 := by decide
  simp only [tr_planeBranchesNN, Tr.den, evAll, SA.ev, BE.ev, IE.ev, SE.ev, LE.ev, env0, extE_eq, pickO, op1, op2, op3, Nat.reduceLeDiff, Nat.reduceSub, Nat.reduceEqDiff, if_true, if_false, ite_true, ite_false, decide_true, decide_false, Bool.not_true, Bool.not_false, Nat.zero_le, Nat.sub_zero, List.getElem?_cons_zero, List.getElem?_cons_succ, List.getElem?_nil, cq0, cq1, cq2, cq3, cq4, cq5, cq6, cq7, cq8, cq9, cq10, cq12, cq16, outQ1, outQ2, outQ3, outQ4, outQ5, evN_at, evB_at, evS_at, evLen_z1, evLen_z2, evBit_z, at_n, at_b, at_s, at_z, at_k, at_kb, kG, kQ, kQ1, List.map_cons, List.map_nil, List.cons_append, List.nil_append, decide_eq_true_eq, Bool.false_eq_true, G_planeBranchesNN_fitsT, ctF_fitsT, G_planeBranchesNN_cutN, ctF_cutN, G_planeBranchesNN_intersectN, ctF_intersectN, G_planeBranchesNN_onlineT, ctF_onlineT, G_planeBranchesNN_ppdot, ctF_ppdot, G_planeBranchesNN_ppcross, ctF_ppcross, G_planeBranchesNN_ppnorm, ctF_ppnorm, G_planeBranchesNN_drsign, ctF_drsign, G_planeBranchesNN_drequalT, ctF_drequalT, G_planeBranchesNN_mirrorN, ctF_mirrorN, G_planeBranchesNN_pequalT, ctF_pequalT, h, n11, eq_self, and_self, g_cut, g_intersect, h1, h2, g_online, on_line, g_pdot, g_sign, cut_sign, g_pnorm, g_equal, cut_normV h1 h2, h3, h4, g_mirror, g_pequal, g_pcross, g_sign, g_pnorm, g_equal, int_normV1 h3 h4, int_normV2 h3 h4, int_signL, int_signR, int_imageX h3, int_imageY h3]
def G_planeBranchesNI : Gam := gamOf [(8, ct_fitsT), (36, ct_cutN), (38, ct_intersectI), (29, ct_onlineT), (11, ct_ppdot), (12, ct_ppcross), (13, ct_ppnorm), (37, ct_drsign), (15, ct_drequalT), (31, ct_mirrorN), (9, ct_pequalT)]
theorem G_planeBranchesNI_ok : GamOk Try.prog G_planeBranchesNI := gamOk_of ⟨ok_fitsT, ok_cutN, ok_intersectI, ok_onlineT, ok_ppdot, ok_ppcross, ok_ppnorm, ok_drsign, ok_drequalT, ok_mirrorN, ok_pequalT, trivial⟩
theorem G_planeBranchesNI_fitsT : G_planeBranchesNI 8 = some ct_fitsT := rfl
theorem G_planeBranchesNI_cutN : G_planeBranchesNI 36 = some ct_cutN := rfl
theorem G_planeBranchesNI_intersectI : G_planeBranchesNI 38 = some ct_intersectI := rfl
theorem G_planeBranchesNI_onlineT : G_planeBranchesNI 29 = some ct_onlineT := rfl
theorem G_planeBranchesNI_ppdot : G_planeBranchesNI 11 = some ct_ppdot := rfl
theorem G_planeBranchesNI_ppcross : G_planeBranchesNI 12 = some ct_ppcross := rfl
theorem G_planeBranchesNI_ppnorm : G_planeBranchesNI 13 = some ct_ppnorm := rfl
theorem G_planeBranchesNI_drsign : G_planeBranchesNI 37 = some ct_drsign := rfl
theorem G_planeBranchesNI_drequalT : G_planeBranchesNI 15 = some ct_drequalT := rfl
theorem G_planeBranchesNI_mirrorN : G_planeBranchesNI 31 = some ct_mirrorN := rfl
theorem G_planeBranchesNI_pequalT : G_planeBranchesNI 9 = some ct_pequalT := rfl
def tr_planeBranchesNI : Tr (List SA) := (.call 8 [(.ob 0), (.ob 1), (.ob 2), (.ob 3), (.ob 4), (.ob 5), (.ob 6), (.ob 7), (.ob 8), (.b (.var 9))] 10 (.call 36 [(.ob 0), (.ob 1), (.ob 2), (.ob 3), (.ob 4), (.ob 5), (.ob 6), (.ob 7), (.b (.lit false))] 11 (.call 36 [(.ob 0), (.ob 1), (.ob 2), (.ob 3), (.ob 4), (.ob 5), (.ob 6), (.ob 7), (.b (.lit true))] 14 (.call 29 [(.ob 11), (.ob 12), (.ob 0), (.ob 1), (.ob 2), (.ob 3)] 17 (.call 29 [(.ob 14), (.ob 15), (.ob 0), (.ob 1), (.ob 2), (.ob 3)] 18 (.call 11 [(.ob 0), (.ob 1), (.ob 2), (.ob 3), (.ob 11), (.ob 12), (.ob 14), (.ob 15)] 19 (.call 37 [(.ob 19)] 20 (.br (.lt (.var 20) (.lit 0)) (.leaf [(.b (.lit false))]) (.call 13 [(.ob 4), (.ob 5), (.ob 11), (.ob 12)] 21 (.call 13 [(.ob 4), (.ob 5), (.ob 6), (.ob 7)] 22 (.call 15 [(.ob 21), (.ob 22)] 23 (.call 13 [(.ob 4), (.ob 5), (.ob 14), (.ob 15)] 24 (.call 13 [(.ob 4), (.ob 5), (.ob 6), (.ob 7)] 25 (.call 15 [(.ob 24), (.ob 25)] 26 (.call 38 [(.ob 0), (.ob 1), (.ob 2), (.ob 3), (.ob 4), (.ob 5), (.ob 6), (.ob 7), (.b (.lit true))] 27 (.call 38 [(.ob 0), (.ob 1), (.ob 2), (.ob 3), (.ob 4), (.ob 5), (.ob 6), (.ob 7), (.b (.lit false))] 30 (.leaf [(.b (.lit true))])))))))))))))))))
theorem ev_planeBranchesNI : Ct.ok Try.prog 6 { args := [[.r, .r, .r, .r, .r, .r, .r, .r, .r, .b]], res := [[.b]], F := fun als => tr_planeBranchesNI.den G_planeBranchesNI (env0 als), L := 2, A := 0, B := 0 } :=
  top_ok (by kernel_rfl) G_planeBranchesNI_ok (plans := planF) (lf := 60) (k := 20) (by kernel_rfl)
set_option maxHeartbeats 1000000 in
theorem planeBranchesNI_den (x1 x2 x3 x4 x5 x6 x7 x8 x9 : Rat) (f : Bool) (h : f_fits (List.map QA.at [.q x1, .q x2, .q x3, .q x4, .q x5, .q x6, .q x7, .q x8, .q x9, .b f]) = some [.b true]) (h1 : ¬ (x1 = x3 ∧ x2 = x4)) (h2 : rootE (cutD x1 x2 x3 x4 x5 x6 x7 x8) = 0) (h3 : ¬ (x1 = x5 ∧ x2 = x6)) (h4 : rootE (intD x1 x2 x3 x4 x5 x6 x7 x8) = 12) : tr_planeBranchesNI.den G_planeBranchesNI (env0 (List.map QA.at [.q x1, .q x2, .q x3, .q x4, .q x5, .q x6, .q x7, .q x8, .q x9, .b f])) = some [.b true] := by
  have h := fitsT_of h
  simp only [List.map_cons, List.map_nil] at h
  have n11 : ¬ (11 : Int) = 0 := by decide
  simp only [tr_planeBranchesNI, Tr.den, evAll, SA.ev, BE.ev, IE.ev, SE.ev, LE.ev, env0, extE_eq, pickO, op1, op2, op3, Nat.reduceLeDiff, Nat.reduceSub, Nat.reduceEqDiff, if_true, if_false, ite_true, ite_false, decide_true, decide_false, Bool.not_true, Bool.not_false, Nat.zero_le, Nat.sub_zero, List.getElem?_cons_zero, List.getElem?_cons_succ, List.getElem?_nil, cq0, cq1, cq2, cq3, cq4, cq5, cq6, cq7, cq8, cq9, cq10, cq12, cq16, outQ1, outQ2, outQ3, outQ4, outQ5, evN_at, evB_at, evS_at, evLen_z1, evLen_z2, evBit_z, at_n, at_b, at_s, at_z, at_k, at_kb, kG, kQ, kQ1, List.map_cons, List.map_nil, List.cons_append, List.nil_append, decide_eq_true_eq, Bool.false_eq_true, G_planeBranchesNI_fitsT, ctF_fitsT, G_planeBranchesNI_cutN, ctF_cutN, G_planeBranchesNI_intersectI, ctF_intersectI, G_planeBranchesNI_onlineT, ctF_onlineT, G_planeBranchesNI_ppdot, ctF_ppdot, G_planeBranchesNI_ppcross, ctF_ppcross, G_planeBranchesNI_ppnorm, ctF_ppnorm, G_planeBranchesNI_drsign, ctF_drsign, G_planeBranchesNI_drequalT, ctF_drequalT, G_planeBranchesNI_mirrorN, ctF_mirrorN, G_planeBranchesNI_pequalT, ctF_pequalT, h, n11, eq_self, and_self, g_cut, g_intersect, h1, h2, g_online, on_line, g_pdot, g_sign, cut_sign, g_pnorm, g_equal, cut_normV h1 h2, h3, h4, n12]
def G_planeBranchesNX : Gam := gamOf [(8, ct_fitsT), (36, ct_cutN), (38, ct_intersectX), (29, ct_onlineT), (11, ct_ppdot), (12, ct_ppcross), (13, ct_ppnorm), (37, ct_drsign), (15, ct_drequalT), (31, ct_mirrorN), (9, ct_pequalT)]
theorem G_planeBranchesNX_ok : GamOk Try.prog G_planeBranchesNX := gamOk_of ⟨ok_fitsT, ok_cutN, ok_intersectX, ok_onlineT, ok_ppdot, ok_ppcross, ok_ppnorm, ok_drsign, ok_drequalT, ok_mirrorN, ok_pequalT, trivial⟩
theorem G_planeBranchesNX_fitsT : G_planeBranchesNX 8 = some ct_fitsT := rfl
theorem G_planeBranchesNX_cutN : G_planeBranchesNX 36 = some ct_cutN := rfl
theorem G_planeBranchesNX_intersectX : G_planeBranchesNX 38 = some ct_intersectX := rfl
theorem G_planeBranchesNX_onlineT : G_planeBranchesNX 29 = some ct_onlineT := rfl
theorem G_planeBranchesNX_ppdot : G_planeBranchesNX 11 = some ct_ppdot := rfl
theorem G_planeBranchesNX_ppcross : G_planeBranchesNX 12 = some ct_ppcross := rfl
theorem G_planeBranchesNX_ppnorm : G_planeBranchesNX 13 = some ct_ppnorm := rfl
theorem G_planeBranchesNX_drsign : G_planeBranchesNX 37 = some ct_drsign := rfl
theorem G_planeBranchesNX_drequalT : G_planeBranchesNX 15 = some ct_drequalT := rfl
theorem G_planeBranchesNX_mirrorN : G_planeBranchesNX 31 = some ct_mirrorN := rfl
theorem G_planeBranchesNX_pequalT : G_planeBranchesNX 9 = some ct_pequalT := rfl
def tr_planeBranchesNX : Tr (List SA) := (.call 8 [(.ob 0), (.ob 1), (.ob 2), (.ob 3), (.ob 4), (.ob 5), (.ob 6), (.ob 7), (.ob 8), (.b (.var 9))] 10 (.call 36 [(.ob 0), (.ob 1), (.ob 2), (.ob 3), (.ob 4), (.ob 5), (.ob 6), (.ob 7), (.b (.lit false))] 11 (.call 36 [(.ob 0), (.ob 1), (.ob 2), (.ob 3), (.ob 4), (.ob 5), (.ob 6), (.ob 7), (.b (.lit true))] 14 (.call 29 [(.ob 11), (.ob 12), (.ob 0), (.ob 1), (.ob 2), (.ob 3)] 17 (.call 29 [(.ob 14), (.ob 15), (.ob 0), (.ob 1), (.ob 2), (.ob 3)] 18 (.call 11 [(.ob 0), (.ob 1), (.ob 2), (.ob 3), (.ob 11), (.ob 12), (.ob 14), (.ob 15)] 19 (.call 37 [(.ob 19)] 20 (.br (.lt (.var 20) (.lit 0)) (.leaf [(.b (.lit false))]) (.call 13 [(.ob 4), (.ob 5), (.ob 11), (.ob 12)] 21 (.call 13 [(.ob 4), (.ob 5), (.ob 6), (.ob 7)] 22 (.call 15 [(.ob 21), (.ob 22)] 23 (.call 13 [(.ob 4), (.ob 5), (.ob 14), (.ob 15)] 24 (.call 13 [(.ob 4), (.ob 5), (.ob 6), (.ob 7)] 25 (.call 15 [(.ob 24), (.ob 25)] 26 (.call 38 [(.ob 0), (.ob 1), (.ob 2), (.ob 3), (.ob 4), (.ob 5), (.ob 6), (.ob 7), (.b (.lit true))] 27 (.call 38 [(.ob 0), (.ob 1), (.ob 2), (.ob 3), (.ob 4), (.ob 5), (.ob 6), (.ob 7), (.b (.lit false))] 30 (.leaf [(.b (.lit true))])))))))))))))))))
theorem ev_planeBranchesNX : Ct.ok Try.prog 6 { args := [[.r, .r, .r, .r, .r, .r, .r, .r, .r, .b]], res := [[.b]], F := fun als => tr_planeBranchesNX.den G_planeBranchesNX (env0 als), L := 2, A := 0, B := 0 } :=
  top_ok (by kernel_rfl) G_planeBranchesNX_ok (plans := planF) (lf := 60) (k := 20) (by kernel_rfl)
set_option maxHeartbeats 1000000 in
theorem planeBranchesNX_den (x1 x2 x3 x4 x5 x6 x7 x8 x9 : Rat) (f : Bool) (h : f_fits (List.map QA.at [.q x1, .q x2, .q x3, .q x4, .q x5, .q x6, .q x7, .q x8, .q x9, .b f]) = some [.b true]) (h1 : ¬ (x1 = x3 ∧ x2 = x4)) (h2 : rootE (cutD x1 x2 x3 x4 x5 x6 x7 x8) = 0) (h3 : ¬ (x1 = x5 ∧ x2 = x6)) (h4 : rootE (intD x1 x2 x3 x4 x5 x6 x7 x8) = 13) : tr_planeBranchesNX.den G_planeBranchesNX (env0 (List.map QA.at [.q x1, .q x2, .q x3, .q x4, .q x5, .q x6, .q x7, .q x8, .q x9, .b f])) = some [.b true] := by
  have h := fitsT_of h
  simp only [List.map_cons, List.map_nil] at h
  have n11 : ¬ (11 : Int) = 0 := by decide
  simp only [tr_planeBranchesNX, Tr.den, evAll, SA.ev, BE.ev, IE.ev, SE.ev, LE.ev, env0, extE_eq, pickO, op1, op2, op3, Nat.reduceLeDiff, Nat.reduceSub, Nat.reduceEqDiff, if_true, if_false, ite_true, ite_false, decide_true, decide_false, Bool.not_true, Bool.not_false, Nat.zero_le, Nat.sub_zero, List.getElem?_cons_zero, List.getElem?_cons_succ, List.getElem?_nil, cq0, cq1, cq2, cq3, cq4, cq5, cq6, cq7, cq8, cq9, cq10, cq12, cq16, outQ1, outQ2, outQ3, outQ4, outQ5, evN_at, evB_at, evS_at, evLen_z1, evLen_z2, evBit_z, at_n, at_b, at_s, at_z, at_k, at_kb, kG, kQ, kQ1, List.map_cons, List.map_nil, List.cons_append, List.nil_append, decide_eq_true_eq, Bool.false_eq_true, G_planeBranchesNX_fitsT, ctF_fitsT, G_planeBranchesNX_cutN, ctF_cutN, G_planeBranchesNX_intersectX, ctF_intersectX, G_planeBranchesNX_onlineT, ctF_onlineT, G_planeBranchesNX_ppdot, ctF_ppdot, G_planeBranchesNX_ppcross, ctF_ppcross, G_planeBranchesNX_ppnorm, ctF_ppnorm, G_planeBranchesNX_drsign, ctF_drsign, G_planeBranchesNX_drequalT, ctF_drequalT, G_planeBranchesNX_mirrorN, ctF_mirrorN, G_planeBranchesNX_pequalT, ctF_pequalT, h, n11, eq_self, and_self, g_cut, g_intersect, h1, h2, g_online, on_line, g_pdot, g_sign, cut_sign, g_pnorm, g_equal, cut_normV h1 h2, h3, h4, n13]
def G_planeBranchesID : Gam := gamOf [(8, ct_fitsT), (36, ct_cutI), (38, ct_intersectD)]
theorem G_planeBranchesID_ok : GamOk Try.prog G_planeBranchesID := gamOk_of ⟨ok_fitsT, ok_cutI, ok_intersectD, trivial⟩
theorem G_planeBranchesID_fitsT : G_planeBranchesID 8 = some ct_fitsT := rfl
theorem G_planeBranchesID_cutI : G_planeBranchesID 36 = some ct_cutI := rfl
theorem G_planeBranchesID_intersectD : G_planeBranchesID 38 = some ct_intersectD := rfl
def tr_planeBranchesID : Tr (List SA) := (.call 8 [(.ob 0), (.ob 1), (.ob 2), (.ob 3), (.ob 4), (.ob 5), (.ob 6), (.ob 7), (.ob 8), (.b (.var 9))] 10 (.call 36 [(.ob 0), (.ob 1), (.ob 2), (.ob 3), (.ob 4), (.ob 5), (.ob 6), (.ob 7), (.b (.lit false))] 11 (.call 36 [(.ob 0), (.ob 1), (.ob 2), (.ob 3), (.ob 4), (.ob 5), (.ob 6), (.ob 7), (.b (.lit true))] 14 (.call 38 [(.ob 0), (.ob 1), (.ob 2), (.ob 3), (.ob 4), (.ob 5), (.ob 6), (.ob 7), (.b (.lit true))] 17 (.call 38 [(.ob 0), (.ob 1), (.ob 2), (.ob 3), (.ob 4), (.ob 5), (.ob 6), (.ob 7), (.b (.lit false))] 20 (.leaf [(.b (.lit true))]))))))
theorem ev_planeBranchesID : Ct.ok Try.prog 6 { args := [[.r, .r, .r, .r, .r, .r, .r, .r, .r, .b]], res := [[.b]], F := fun als => tr_planeBranchesID.den G_planeBranchesID (env0 als), L := 2, A := 0, B := 0 } :=
  top_ok (by kernel_rfl) G_planeBranchesID_ok (plans := planF) (lf := 60) (k := 20) (by kernel_rfl)
set_option maxHeartbeats 1000000 in
theorem planeBranchesID_den (x1 x2 x3 x4 x5 x6 x7 x8 x9 : Rat) (f : Bool) (h : f_fits (List.map QA.at [.q x1, .q x2, .q x3, .q x4, .q x5, .q x6, .q x7, .q x8, .q x9, .b f]) = some [.b true]) (h1 : ¬ (x1 = x3 ∧ x2 = x4)) (h2 : rootE (cutD x1 x2 x3 x4 x5 x6 x7 x8) = 12) (h3 : x1 = x5 ∧ x2 = x6) : tr_planeBranchesID.den G_planeBranchesID (env0 (List.map QA.at [.q x1, .q x2, .q x3, .q x4, .q x5, .q x6, .q x7, .q x8, .q x9, .b f])) = some [.b true] := by
  have h := fitsT_of h
  simp only [List.map_cons, List.map_nil] at h
  have n11 : ¬ (11 : Int) = 0 := by decide
  simp only [tr_planeBranchesID, Tr.den, evAll, SA.ev, BE.ev, IE.ev, SE.ev, LE.ev, env0, extE_eq, pickO, op1, op2, op3, Nat.reduceLeDiff, Nat.reduceSub, Nat.reduceEqDiff, if_true, if_false, ite_true, ite_false, decide_true, decide_false, Bool.not_true, Bool.not_false, Nat.zero_le, Nat.sub_zero, List.getElem?_cons_zero, List.getElem?_cons_succ, List.getElem?_nil, cq0, cq1, cq2, cq3, cq4, cq5, cq6, cq7, cq8, cq9, cq10, cq12, cq16, outQ1, outQ2, outQ3, outQ4, outQ5, evN_at, evB_at, evS_at, evLen_z1, evLen_z2, evBit_z, at_n, at_b, at_s, at_z, at_k, at_kb, kG, kQ, kQ1, List.map_cons, List.map_nil, List.cons_append, List.nil_append, decide_eq_true_eq, Bool.false_eq_true, G_planeBranchesID_fitsT, ctF_fitsT, G_planeBranchesID_cutI, ctF_cutI, G_planeBranchesID_intersectD, ctF_intersectD, h, n11, eq_self, and_self, g_cut, g_intersect, h1, h2, n12, eq_true h3]
def G_planeBranchesIN : Gam := gamOf [(8, ct_fitsT), (36, ct_cutI), (38, ct_intersectN), (29, ct_onlineT), (11, ct_ppdot), (12, ct_ppcross), (13, ct_ppnorm), (37, ct_drsign), (15, ct_drequalT), (31, ct_mirrorN), (9, ct_pequalT)]
theorem G_planeBranchesIN_ok : GamOk Try.prog G_planeBranchesIN := gamOk_of ⟨ok_fitsT, ok_cutI, ok_intersectN, ok_onlineT, ok_ppdot, ok_ppcross, ok_ppnorm, ok_drsign, ok_drequalT, ok_mirrorN, ok_pequalT, trivial⟩
theorem G_planeBranchesIN_fitsT : G_planeBranchesIN 8 = some ct_fitsT := rfl
theorem G_planeBranchesIN_cutI : G_planeBranchesIN 36 = some ct_cutI := rfl
theorem G_planeBranchesIN_intersectN : G_planeBranchesIN 38 = some ct_intersectN := rfl
theorem G_planeBranchesIN_onlineT : G_planeBranchesIN 29 = some ct_onlineT := rfl
theorem G_planeBranchesIN_ppdot : G_planeBranchesIN 11 = some ct_ppdot := rfl
theorem G_planeBranchesIN_ppcross : G_planeBranchesIN 12 = some ct_ppcross := rfl
theorem G_planeBranchesIN_ppnorm : G_planeBranchesIN 13 = some ct_ppnorm := rfl
theorem G_planeBranchesIN_drsign : G_planeBranchesIN 37 = some ct_drsign := rfl
theorem G_planeBranchesIN_drequalT : G_planeBranchesIN 15 = some ct_drequalT := rfl
theorem G_planeBranchesIN_mirrorN : G_planeBranchesIN 31 = some ct_mirrorN := rfl
theorem G_planeBranchesIN_pequalT : G_planeBranchesIN 9 = some ct_pequalT := rfl
def tr_planeBranchesIN : Tr (List SA) := (.call 8 [(.ob 0), (.ob 1), (.ob 2), (.ob 3), (.ob 4), (.ob 5), (.ob 6), (.ob 7), (.ob 8), (.b (.var 9))] 10 (.call 36 [(.ob 0), (.ob 1), (.ob 2), (.ob 3), (.ob 4), (.ob 5), (.ob 6), (.ob 7), (.b (.lit false))] 11 (.call 36 [(.ob 0), (.ob 1), (.ob 2), (.ob 3), (.ob 4), (.ob 5), (.ob 6), (.ob 7), (.b (.lit true))] 14 (.call 38 [(.ob 0), (.ob 1), (.ob 2), (.ob 3), (.ob 4), (.ob 5), (.ob 6), (.ob 7), (.b (.lit true))] 17 (.call 38 [(.ob 0), (.ob 1), (.ob 2), (.ob 3), (.ob 4), (.ob 5), (.ob 6), (.ob 7), (.b (.lit false))] 20 (.call 31 [(.ob 17), (.ob 18), (.ob 0), (.ob 1), (.ob 4), (.ob 5)] 23 (.call 9 [(.ob 23), (.ob 24), (.ob 20), (.ob 21)] 26 (.call 12 [(.ob 0), (.ob 1), (.ob 4), (.ob 5), (.ob 0), (.ob 1), (.ob 17), (.ob 18)] 27 (.call 37 [(.ob 27)] 28 (.br (.lt (.var 28) (.lit 0)) (.leaf [(.b (.lit false))]) (.call 12 [(.ob 0), (.ob 1), (.ob 4), (.ob 5), (.ob 0), (.ob 1), (.ob 20), (.ob 21)] 29 (.call 37 [(.ob 29)] 30 (.br (.lt (.lit 0) (.var 30)) (.leaf [(.b (.lit false))]) (.call 13 [(.ob 0), (.ob 1), (.ob 17), (.ob 18)] 31 (.call 13 [(.ob 0), (.ob 1), (.ob 2), (.ob 3)] 32 (.call 15 [(.ob 31), (.ob 32)] 33 (.call 13 [(.ob 4), (.ob 5), (.ob 17), (.ob 18)] 34 (.call 13 [(.ob 4), (.ob 5), (.ob 6), (.ob 7)] 35 (.call 15 [(.ob 34), (.ob 35)] 36 (.leaf [(.b (.lit true))]))))))))))))))))))))
theorem ev_planeBranchesIN : Ct.ok Try.prog 6 { args := [[.r, .r, .r, .r, .r, .r, .r, .r, .r, .b]], res := [[.b]], F := fun als => tr_planeBranchesIN.den G_planeBranchesIN (env0 als), L := 2, A := 0, B := 0 } :=
  top_ok (by kernel_rfl) G_planeBranchesIN_ok (plans := planF) (lf := 60) (k := 20) (by kernel_rfl)
set_option maxHeartbeats 1000000 in
theorem planeBranchesIN_den (x1 x2 x3 x4 x5 x6 x7 x8 x9 : Rat) (f : Bool) (h : f_fits (List.map QA.at [.q x1, .q x2, .q x3, .q x4, .q x5, .q x6, .q x7, .q x8, .q x9, .b f]) = some [.b true]) (h1 : ¬ (x1 = x3 ∧ x2 = x4)) (h2 : rootE (cutD x1 x2 x3 x4 x5 x6 x7 x8) = 12) (h3 : ¬ (x1 = x5 ∧ x2 = x6)) (h4 : rootE (intD x1 x2 x3 x4 x5 x6 x7 x8) = 0) : tr_planeBranchesIN.den G_planeBranchesIN (env0 (List.map QA.at [.q x1, .q x2, .q x3, .q x4, .q x5, .q x6, .q x7, .q x8, .q x9, .b f])) = some [.b true] := by
  have h := fitsT_of h
  simp only [List.map_cons, List.map_nil] at h
  have n11 : ¬ (11 : Int) = 0 := by decide
  simp only [tr_planeBranchesIN, Tr.den, evAll, SA.ev, BE.ev, IE.ev, SE.ev, LE.ev, env0, extE_eq, pickO, op1, op2, op3, Nat.reduceLeDiff, Nat.reduceSub, Nat.reduceEqDiff, if_true, if_false, ite_true, ite_false, decide_true, decide_false, Bool.not_true, Bool.not_false, Nat.zero_le, Nat.sub_zero, List.getElem?_cons_zero, List.getElem?_cons_succ, List.getElem?_nil, cq0, cq1, cq2, cq3, cq4, cq5, cq6, cq7, cq8, cq9, cq10, cq12, cq16, outQ1, outQ2, outQ3, outQ4, outQ5, evN_at, evB_at, evS_at, evLen_z1, evLen_z2, evBit_z, at_n, at_b, at_s, at_z, at_k, at_kb, kG, kQ, kQ1, List.map_cons, List.map_nil, List.cons_append, List.nil_append, decide_eq_true_eq, Bool.false_eq_true, G_planeBranchesIN_fitsT, ctF_fitsT, G_planeBranchesIN_cutI, ctF_cutI, G_planeBranchesIN_intersectN, ctF_intersectN, G_planeBranchesIN_onlineT, ctF_onlineT, G_planeBranchesIN_ppdot, ctF_ppdot, G_planeBranchesIN_ppcross, ctF_ppcross, G_planeBranchesIN_ppnorm, ctF_ppnorm, G_planeBranchesIN_drsign, ctF_drsign, G_planeBranchesIN_drequalT, ctF_drequalT, G_planeBranchesIN_mirrorN, ctF_mirrorN, G_planeBranchesIN_pequalT, ctF_pequalT, h, n11, eq_self, and_self, g_cut, g_intersect, h1, h2, n12, h3, h4, g_mirror, g_pequal, g_pcross, g_sign, g_pnorm, g_equal, int_normV1 h3 h4, int_normV2 h3 h4, int_signL, int_signR, int_imageX h3, int_imageY h3]
def G_planeBranchesII : Gam := gamOf [(8, ct_fitsT), (36, ct_cutI), (38, ct_intersectI)]
theorem G_planeBranchesII_ok : GamOk Try.prog G_planeBranchesII := gamOk_of ⟨ok_fitsT, ok_cutI, ok_intersectI, trivial⟩
theorem G_planeBranchesII_fitsT : G_planeBranchesII 8 = some ct_fitsT := rfl
theorem G_planeBranchesII_cutI : G_planeBranchesII 36 = some ct_cutI := rfl
theorem G_planeBranchesII_intersectI : G_planeBranchesII 38 = some ct_intersectI := rfl
def tr_planeBranchesII : Tr (List SA) := (.call 8 [(.ob 0), (.ob 1), (.ob 2), (.ob 3), (.ob 4), (.ob 5), (.ob 6), (.ob 7), (.ob 8), (.b (.var 9))] 10 (.call 36 [(.ob 0), (.ob 1), (.ob 2), (.ob 3), (.ob 4), (.ob 5), (.ob 6), (.ob 7), (.b (.lit false))] 11 (.call 36 [(.ob 0), (.ob 1), (.ob 2), (.ob 3), (.ob 4), (.ob 5), (.ob 6), (.ob 7), (.b (.lit true))] 14 (.call 38 [(.ob 0), (.ob 1), (.ob 2), (.ob 3), (.ob 4), (.ob 5), (.ob 6), (.ob 7), (.b (.lit true))] 17 (.call 38 [(.ob 0), (.ob 1), (.ob 2), (.ob 3), (.ob 4), (.ob 5), (.ob 6), (.ob 7), (.b (.lit false))] 20 (.leaf [(.b (.lit true))]))))))
theorem ev_planeBranchesII : Ct.ok Try.prog 6 { args := [[.r, .r, .r, .r, .r, .r, .r, .r, .r, .b]], res := [[.b]], F := fun als => tr_planeBranchesII.den G_planeBranchesII (env0 als), L := 2, A := 0, B := 0 } :=
  top_ok (by kernel_rfl) G_planeBranchesII_ok (plans := planF) (lf := 60) (k := 20) (by kernel_rfl)
set_option maxHeartbeats 1000000 in
theorem planeBranchesII_den (x1 x2 x3 x4 x5 x6 x7 x8 x9 : Rat) (f : Bool) (h : f_fits (List.map QA.at [.q x1, .q x2, .q x3, .q x4, .q x5, .q x6, .q x7, .q x8, .q x9, .b f]) = some [.b true]) (h1 : ¬ (x1 = x3 ∧ x2 = x4)) (h2 : rootE (cutD x1 x2 x3 x4 x5 x6 x7 x8) = 12) (h3 : ¬ (x1 = x5 ∧ x2 = x6)) (h4 : rootE (intD x1 x2 x3 x4 x5 x6 x7 x8) = 12) : tr_planeBranchesII.den G_planeBranchesII (env0 (List.map QA.at [.q x1, .q x2, .q x3, .q x4, .q x5, .q x6, .q x7, .q x8, .q x9, .b f])) = some [.b true] := by
  have h := fitsT_of h
  simp only [List.map_cons, List.map_nil] at h
  have n11 : ¬ (11 : Int) = 0 := by decide
  simp only [tr_planeBranchesII, Tr.den, evAll, SA.ev, BE.ev, IE.ev, SE.ev, LE.ev, env0, extE_eq, pickO, op1, op2, op3, Nat.reduceLeDiff, Nat.reduceSub, Nat.reduceEqDiff, if_true, if_false, ite_true, ite_false, decide_true, decide_false, Bool.not_true, Bool.not_false, Nat.zero_le, Nat.sub_zero, List.getElem?_cons_zero, List.getElem?_cons_succ, List.getElem?_nil, cq0, cq1, cq2, cq3, cq4, cq5, cq6, cq7, cq8, cq9, cq10, cq12, cq16, outQ1, outQ2, outQ3, outQ4, outQ5, evN_at, evB_at, evS_at, evLen_z1, evLen_z2, evBit_z, at_n, at_b, at_s, at_z, at_k, at_kb, kG, kQ, kQ1, List.map_cons, List.map_nil, List.cons_append, List.nil_append, decide_eq_true_eq, Bool.false_eq_true, G_planeBranchesII_fitsT, ctF_fitsT, G_planeBranchesII_cutI, ctF_cutI, G_planeBranchesII_intersectI, ctF_intersectI, h, n11, eq_self, and_self, g_cut, g_intersect, h1, h2, n12, h3, h4, n12]
def G_planeBranchesIX : Gam := gamOf [(8, ct_fitsT), (36, ct_cutI), (38, ct_intersectX)]
theorem G_planeBranchesIX_ok : GamOk Try.prog G_planeBranchesIX := gamOk_of ⟨ok_fitsT, ok_cutI, ok_intersectX, trivial⟩
theorem G_planeBranchesIX_fitsT : G_planeBranchesIX 8 = some ct_fitsT := rfl
theorem G_planeBranchesIX_cutI : G_planeBranchesIX 36 = some ct_cutI := rfl
theorem G_planeBranchesIX_intersectX : G_planeBranchesIX 38 = some ct_intersectX := rfl
def tr_planeBranchesIX : Tr (List SA) := (.call 8 [(.ob 0), (.ob 1), (.ob 2), (.ob 3), (.ob 4), (.ob 5), (.ob 6), (.ob 7), (.ob 8), (.b (.var 9))] 10 (.call 36 [(.ob 0), (.ob 1), (.ob 2), (.ob 3), (.ob 4), (.ob 5), (.ob 6), (.ob 7), (.b (.lit false))] 11 (.call 36 [(.ob 0), (.ob 1), (.ob 2), (.ob 3), (.ob 4), (.ob 5), (.ob 6), (.ob 7), (.b (.lit true))] 14 (.call 38 [(.ob 0), (.ob 1), (.ob 2), (.ob 3), (.ob 4), (.ob 5), (.ob 6), (.ob 7), (.b (.lit true))] 17 (.call 38 [(.ob 0), (.ob 1), (.ob 2), (.ob 3), (.ob 4), (.ob 5), (.ob 6), (.ob 7), (.b (.lit false))] 20 (.leaf [(.b (.lit true))]))))))
theorem ev_planeBranchesIX : Ct.ok Try.prog 6 { args := [[.r, .r, .r, .r, .r, .r, .r, .r, .r, .b]], res := [[.b]], F := fun als => tr_planeBranchesIX.den G_planeBranchesIX (env0 als), L := 2, A := 0, B := 0 } :=
  top_ok (by kernel_rfl) G_planeBranchesIX_ok (plans := planF) (lf := 60) (k := 20) (by kernel_rfl)
set_option maxHeartbeats 1000000 in
theorem planeBranchesIX_den (x1 x2 x3 x4 x5 x6 x7 x8 x9 : Rat) (f : Bool) (h : f_fits (List.map QA.at [.q x1, .q x2, .q x3, .q x4, .q x5, .q x6, .q x7, .q x8, .q x9, .b f]) = some [.b true]) (h1 : ¬ (x1 = x3 ∧ x2 = x4)) (h2 : rootE (cutD x1 x2 x3 x4 x5 x6 x7 x8) = 12) (h3 : ¬ (x1 = x5 ∧ x2 = x6)) (h4 : rootE (intD x1 x2 x3 x4 x5 x6 x7 x8) = 13) : tr_planeBranchesIX.den G_planeBranchesIX (env0 (List.map QA.at [.q x1, .q x2, .q x3, .q x4, .q x5, .q x6, .q x7, .q x8, .q x9, .b f])) = some [.b true] := by
  have h := fitsT_of h
  simp only [List.map_cons, List.map_nil] at h
  have n11 : ¬ (11 : Int) = 0 := by decide
  simp only [tr_planeBranchesIX, Tr.den, evAll, SA.ev, BE.ev, IE.ev, SE.ev, LE.ev, env0, extE_eq, pickO, op1, op2, op3, Nat.reduceLeDiff, Nat.reduceSub, Nat.reduceEqDiff, if_true, if_false, ite_true, ite_false, decide_true, decide_false, Bool.not_true, Bool.not_false, Nat.zero_le, Nat.sub_zero, List.getElem?_cons_zero, List.getElem?_cons_succ, List.getElem?_nil, cq0, cq1, cq2, cq3, cq4, cq5, cq6, cq7, cq8, cq9, cq10, cq12, cq16, outQ1, outQ2, outQ3, outQ4, outQ5, evN_at, evB_at, evS_at, evLen_z1, evLen_z2, evBit_z, at_n, at_b, at_s, at_z, at_k, at_kb, kG, kQ, kQ1, List.map_cons, List.map_nil, List.cons_append, List.nil_append, decide_eq_true_eq, Bool.false_eq_true, G_planeBranchesIX_fitsT, ctF_fitsT, G_planeBranchesIX_cutI, ctF_cutI, G_planeBranchesIX_intersectX, ctF_intersectX, h, n11, eq_self, and_self, g_cut, g_intersect, h1, h2, n12, h3, h4, n13]
def G_planeBranchesXD : Gam := gamOf [(8, ct_fitsT), (36, ct_cutX), (38, ct_intersectD)]
theorem G_planeBranchesXD_ok : GamOk Try.prog G_planeBranchesXD := gamOk_of ⟨ok_fitsT, ok_cutX, ok_intersectD, trivial⟩
theorem G_planeBranchesXD_fitsT : G_planeBranchesXD 8 = some ct_fitsT := rfl
theorem G_planeBranchesXD_cutX : G_planeBranchesXD 36 = some ct_cutX := rfl
theorem G_planeBranchesXD_intersectD : G_planeBranchesXD 38 = some ct_intersectD := rfl
def tr_planeBranchesXD : Tr (List SA) := (.call 8 [(.ob 0), (.ob 1), (.ob 2), (.ob 3), (.ob 4), (.ob 5), (.ob 6), (.ob 7), (.ob 8), (.b (.var 9))] 10 (.call 36 [(.ob 0), (.ob 1), (.ob 2), (.ob 3), (.ob 4), (.ob 5), (.ob 6), (.ob 7), (.b (.lit false))] 11 (.call 36 [(.ob 0), (.ob 1), (.ob 2), (.ob 3), (.ob 4), (.ob 5), (.ob 6), (.ob 7), (.b (.lit true))] 14 (.call 38 [(.ob 0), (.ob 1), (.ob 2), (.ob 3), (.ob 4), (.ob 5), (.ob 6), (.ob 7), (.b (.lit true))] 17 (.call 38 [(.ob 0), (.ob 1), (.ob 2), (.ob 3), (.ob 4), (.ob 5), (.ob 6), (.ob 7), (.b (.lit false))] 20 (.leaf [(.b (.lit true))]))))))
theorem ev_planeBranchesXD : Ct.ok Try.prog 6 { args := [[.r, .r, .r, .r, .r, .r, .r, .r, .r, .b]], res := [[.b]], F := fun als => tr_planeBranchesXD.den G_planeBranchesXD (env0 als), L := 2, A := 0, B := 0 } :=
  top_ok (by kernel_rfl) G_planeBranchesXD_ok (plans := planF) (lf := 60) (k := 20) (by kernel_rfl)
set_option maxHeartbeats 1000000 in
theorem planeBranchesXD_den (x1 x2 x3 x4 x5 x6 x7 x8 x9 : Rat) (f : Bool) (h : f_fits (List.map QA.at [.q x1, .q x2, .q x3, .q x4, .q x5, .q x6, .q x7, .q x8, .q x9, .b f]) = some [.b true]) (h1 : ¬ (x1 = x3 ∧ x2 = x4)) (h2 : rootE (cutD x1 x2 x3 x4 x5 x6 x7 x8) = 13) (h3 : x1 = x5 ∧ x2 = x6) : tr_planeBranchesXD.den G_planeBranchesXD (env0 (List.map QA.at [.q x1, .q x2, .q x3, .q x4, .q x5, .q x6, .q x7, .q x8, .q x9, .b f])) = some [.b true] := by
  have h := fitsT_of h
  simp only [List.map_cons, List.map_nil] at h
  have n11 : ¬ (11 : Int) = 0 := by decide
  simp only [tr_planeBranchesXD, Tr.den, evAll, SA.ev, BE.ev, IE.ev, SE.ev, LE.ev, env0, extE_eq, pickO, op1, op2, op3, Nat.reduceLeDiff, Nat.reduceSub, Nat.reduceEqDiff, if_true, if_false, ite_true, ite_false, decide_true, decide_false, Bool.not_true, Bool.not_false, Nat.zero_le, Nat.sub_zero, List.getElem?_cons_zero, List.getElem?_cons_succ, List.getElem?_nil, cq0, cq1, cq2, cq3, cq4, cq5, cq6, cq7, cq8, cq9, cq10, cq12, cq16, outQ1, outQ2, outQ3, outQ4, outQ5, evN_at, evB_at, evS_at, evLen_z1, evLen_z2, evBit_z, at_n, at_b, at_s, at_z, at_k, at_kb, kG, kQ, kQ1, List.map_cons, List.map_nil, List.cons_append, List.nil_append, decide_eq_true_eq, Bool.false_eq_true, G_planeBranchesXD_fitsT, ctF_fitsT, G_planeBranchesXD_cutX, ctF_cutX, G_planeBranchesXD_intersectD, ctF_intersectD, h, n11, eq_self, and_self, g_cut, g_intersect, h1, h2, n13, eq_true h3]
def G_planeBranchesXN : Gam := gamOf [(8, ct_fitsT), (36, ct_cutX), (38, ct_intersectN), (29, ct_onlineT), (11, ct_ppdot), (12, ct_ppcross), (13, ct_ppnorm), (37, ct_drsign), (15, ct_drequalT), (31, ct_mirrorN), (9, ct_pequalT)]
theorem G_planeBranchesXN_ok : GamOk Try.prog G_planeBranchesXN := gamOk_of ⟨ok_fitsT, ok_cutX, ok_intersectN, ok_onlineT, ok_ppdot, ok_ppcross, ok_ppnorm, ok_drsign, ok_drequalT, ok_mirrorN, ok_pequalT, trivial⟩
theorem G_planeBranchesXN_fitsT : G_planeBranchesXN 8 = some ct_fitsT := rfl
theorem G_planeBranchesXN_cutX : G_planeBranchesXN 36 = some ct_cutX := rfl
theorem G_planeBranchesXN_intersectN : G_planeBranchesXN 38 = some ct_intersectN := rfl
theorem G_planeBranchesXN_onlineT : G_planeBranchesXN 29 = some ct_onlineT := rfl
theorem G_planeBranchesXN_ppdot : G_planeBranchesXN 11 = some ct_ppdot := rfl
theorem G_planeBranchesXN_ppcross : G_planeBranchesXN 12 = some ct_ppcross := rfl
theorem G_planeBranchesXN_ppnorm : G_planeBranchesXN 13 = some ct_ppnorm := rfl
theorem G_planeBranchesXN_drsign : G_planeBranchesXN 37 = some ct_drsign := rfl
theorem G_planeBranchesXN_drequalT : G_planeBranchesXN 15 = some ct_drequalT := rfl
theorem G_planeBranchesXN_mirrorN : G_planeBranchesXN 31 = some ct_mirrorN := rfl
theorem G_planeBranchesXN_pequalT : G_planeBranchesXN 9 = some ct_pequalT := rfl
def tr_planeBranchesXN : Tr (List SA) := (.call 8 [(.ob 0), (.ob 1), (.ob 2), (.ob 3), (.ob 4), (.ob 5), (.ob 6), (.ob 7), (.ob 8), (.b (.var 9))] 10 (.call 36 [(.ob 0), (.ob 1), (.ob 2), (.ob 3), (.ob 4), (.ob 5), (.ob 6), (.ob 7), (.b (.lit false))] 11 (.call 36 [(.ob 0), (.ob 1), (.ob 2), (.ob 3), (.ob 4), (.ob 5), (.ob 6), (.ob 7), (.b (.lit true))] 14 (.call 38 [(.ob 0), (.ob 1), (.ob 2), (.ob 3), (.ob 4), (.ob 5), (.ob 6), (.ob 7), (.b (.lit true))] 17 (.call 38 [(.ob 0), (.ob 1), (.ob 2), (.ob 3), (.ob 4), (.ob 5), (.ob 6), (.ob 7), (.b (.lit false))] 20 (.call 31 [(.ob 17), (.ob 18), (.ob 0), (.ob 1), (.ob 4), (.ob 5)] 23 (.call 9 [(.ob 23), (.ob 24), (.ob 20), (.ob 21)] 26 (.call 12 [(.ob 0), (.ob 1), (.ob 4), (.ob 5), (.ob 0), (.ob 1), (.ob 17), (.ob 18)] 27 (.call 37 [(.ob 27)] 28 (.br (.lt (.var 28) (.lit 0)) (.leaf [(.b (.lit false))]) (.call 12 [(.ob 0), (.ob 1), (.ob 4), (.ob 5), (.ob 0), (.ob 1), (.ob 20), (.ob 21)] 29 (.call 37 [(.ob 29)] 30 (.br (.lt (.lit 0) (.var 30)) (.leaf [(.b (.lit false))]) (.call 13 [(.ob 0), (.ob 1), (.ob 17), (.ob 18)] 31 (.call 13 [(.ob 0), (.ob 1), (.ob 2), (.ob 3)] 32 (.call 15 [(.ob 31), (.ob 32)] 33 (.call 13 [(.ob 4), (.ob 5), (.ob 17), (.ob 18)] 34 (.call 13 [(.ob 4), (.ob 5), (.ob 6), (.ob 7)] 35 (.call 15 [(.ob 34), (.ob 35)] 36 (.leaf [(.b (.lit true))]))))))))))))))))))))
theorem ev_planeBranchesXN : Ct.ok Try.prog 6 { args := [[.r, .r, .r, .r, .r, .r, .r, .r, .r, .b]], res := [[.b]], F := fun als => tr_planeBranchesXN.den G_planeBranchesXN (env0 als), L := 2, A := 0, B := 0 } :=
  top_ok (by kernel_rfl) G_planeBranchesXN_ok (plans := planF) (lf := 60) (k := 20) (by kernel_rfl)
set_option maxHeartbeats 1000000 in
theorem planeBranchesXN_den (x1 x2 x3 x4 x5 x6 x7 x8 x9 : Rat) (f : Bool) (h : f_fits (List.map QA.at [.q x1, .q x2, .q x3, .q x4, .q x5, .q x6, .q x7, .q x8, .q x9, .b f]) = some [.b true]) (h1 : ¬ (x1 = x3 ∧ x2 = x4)) (h2 : rootE (cutD x1 x2 x3 x4 x5 x6 x7 x8) = 13) (h3 : ¬ (x1 = x5 ∧ x2 = x6)) (h4 : rootE (intD x1 x2 x3 x4 x5 x6 x7 x8) = 0) : tr_planeBranchesXN.den G_planeBranchesXN (env0 (List.map QA.at [.q x1, .q x2, .q x3, .q x4, .q x5, .q x6, .q x7, .q x8, .q x9, .b f])) = some [.b true] := by
  have h := fitsT_of h
  simp only [List.map_cons, List.map_nil] at h
  have n11 : ¬ (11 : Int) = 0 := by decide
  simp only [tr_planeBranchesXN, Tr.den, evAll, SA.ev, BE.ev, IE.ev, SE.ev, LE.ev, env0, extE_eq, pickO, op1, op2, op3, Nat.reduceLeDiff, Nat.reduceSub, Nat.reduceEqDiff, if_true, if_false, ite_true, ite_false, decide_true, decide_false, Bool.not_true, Bool.not_false, Nat.zero_le, Nat.sub_zero, List.getElem?_cons_zero, List.getElem?_cons_succ, List.getElem?_nil, cq0, cq1, cq2, cq3, cq4, cq5, cq6, cq7, cq8, cq9, cq10, cq12, cq16, outQ1, outQ2, outQ3, outQ4, outQ5, evN_at, evB_at, evS_at, evLen_z1, evLen_z2, evBit_z, at_n, at_b, at_s, at_z, at_k, at_kb, kG, kQ, kQ1, List.map_cons, List.map_nil, List.cons_append, List.nil_append, decide_eq_true_eq, Bool.false_eq_true, G_planeBranchesXN_fitsT, ctF_fitsT, G_planeBranchesXN_cutX, ctF_cutX, G_planeBranchesXN_intersectN, ctF_intersectN, G_planeBranchesXN_onlineT, ctF_onlineT, G_planeBranchesXN_ppdot, ctF_ppdot, G_planeBranchesXN_ppcross, ctF_ppcross, G_planeBranchesXN_ppnorm, ctF_ppnorm, G_planeBranchesXN_drsign, ctF_drsign, G_planeBranchesXN_drequalT, ctF_drequalT, G_planeBranchesXN_mirrorN, ctF_mirrorN, G_planeBranchesXN_pequalT, ctF_pequalT, h, n11, eq_self, and_self, g_cut, g_intersect, h1, h2, n13, h3, h4, g_mirror, g_pequal, g_pcross, g_sign, g_pnorm, g_equal, int_normV1 h3 h4, int_normV2 h3 h4, int_signL, int_signR, int_imageX h3, int_imageY h3]
def G_planeBranchesXI : Gam := gamOf [(8, ct_fitsT), (36, ct_cutX), (38, ct_intersectI)]
theorem G_planeBranchesXI_ok : GamOk Try.prog G_planeBranchesXI := gamOk_of ⟨ok_fitsT, ok_cutX, ok_intersectI, trivial⟩
theorem G_planeBranchesXI_fitsT : G_planeBranchesXI 8 = some ct_fitsT := rfl
theorem G_planeBranchesXI_cutX : G_planeBranchesXI 36 = some ct_cutX := rfl
theorem G_planeBranchesXI_intersectI : G_planeBranchesXI 38 = some ct_intersectI := rfl
def tr_planeBranchesXI : Tr (List SA) := (.call 8 [(.ob 0), (.ob 1), (.ob 2), (.ob 3), (.ob 4), (.ob 5), (.ob 6), (.ob 7), (.ob 8), (.b (.var 9))] 10 (.call 36 [(.ob 0), (.ob 1), (.ob 2), (.ob 3), (.ob 4), (.ob 5), (.ob 6), (.ob 7), (.b (.lit false))] 11 (.call 36 [(.ob 0), (.ob 1), (.ob 2), (.ob 3), (.ob 4), (.ob 5), (.ob 6), (.ob 7), (.b (.lit true))] 14 (.call 38 [(.ob 0), (.ob 1), (.ob 2), (.ob 3), (.ob 4), (.ob 5), (.ob 6), (.ob 7), (.b (.lit true))] 17 (.call 38 [(.ob 0), (.ob 1), (.ob 2), (.ob 3), (.ob 4), (.ob 5), (.ob 6), (.ob 7), (.b (.lit false))] 20 (.leaf [(.b (.lit true))]))))))
theorem ev_planeBranchesXI : Ct.ok Try.prog 6 { args := [[.r, .r, .r, .r, .r, .r, .r, .r, .r, .b]], res := [[.b]], F := fun als => tr_planeBranchesXI.den G_planeBranchesXI (env0 als), L := 2, A := 0, B := 0 } :=
  top_ok (by kernel_rfl) G_planeBranchesXI_ok (plans := planF) (lf := 60) (k := 20) (by kernel_rfl)
set_option maxHeartbeats 1000000 in
theorem planeBranchesXI_den (x1 x2 x3 x4 x5 x6 x7 x8 x9 : Rat) (f : Bool) (h : f_fits (List.map QA.at [.q x1, .q x2, .q x3, .q x4, .q x5, .q x6, .q x7, .q x8, .q x9, .b f]) = some [.b true]) (h1 : ¬ (x1 = x3 ∧ x2 = x4)) (h2 : rootE (cutD x1 x2 x3 x4 x5 x6 x7 x8) = 13) (h3 : ¬ (x1 = x5 ∧ x2 = x6)) (h4 : rootE (intD x1 x2 x3 x4 x5 x6 x7 x8) = 12) : tr_planeBranchesXI.den G_planeBranchesXI (env0 (List.map QA.at [.q x1, .q x2, .q x3, .q x4, .q x5, .q x6, .q x7, .q x8, .q x9, .b f])) = some [.b true] := by
  have h := fitsT_of h
  simp only [List.map_cons, List.map_nil] at h
  have n11 : ¬ (11 : Int) = 0 := by decide
  simp only [tr_planeBranchesXI, Tr.den, evAll, SA.ev, BE.ev, IE.ev, SE.ev, LE.ev, env0, extE_eq, pickO, op1, op2, op3, Nat.reduceLeDiff, Nat.reduceSub, Nat.reduceEqDiff, if_true, if_false, ite_true, ite_false, decide_true, decide_false, Bool.not_true, Bool.not_false, Nat.zero_le, Nat.sub_zero, List.getElem?_cons_zero, List.getElem?_cons_succ, List.getElem?_nil, cq0, cq1, cq2, cq3, cq4, cq5, cq6, cq7, cq8, cq9, cq10, cq12, cq16, outQ1, outQ2, outQ3, outQ4, outQ5, evN_at, evB_at, evS_at, evLen_z1, evLen_z2, evBit_z, at_n, at_b, at_s, at_z, at_k, at_kb, kG, kQ, kQ1, List.map_cons, List.map_nil, List.cons_append, List.nil_append, decide_eq_true_eq, Bool.false_eq_true, G_planeBranchesXI_fitsT, ctF_fitsT, G_planeBranchesXI_cutX, ctF_cutX, G_planeBranchesXI_intersectI, ctF_intersectI, h, n11, eq_self, and_self, g_cut, g_intersect, h1, h2, n13, h3, h4, n12]
def G_planeBranchesXX : Gam := gamOf [(8, ct_fitsT), (36, ct_cutX), (38, ct_intersectX)]
theorem G_planeBranchesXX_ok : GamOk Try.prog G_planeBranchesXX := gamOk_of ⟨ok_fitsT, ok_cutX, ok_intersectX, trivial⟩
theorem G_planeBranchesXX_fitsT : G_planeBranchesXX 8 = some ct_fitsT := rfl
theorem G_planeBranchesXX_cutX : G_planeBranchesXX 36 = some ct_cutX := rfl
theorem G_planeBranchesXX_intersectX : G_planeBranchesXX 38 = some ct_intersectX := rfl
def tr_planeBranchesXX : Tr (List SA) := (.call 8 [(.ob 0), (.ob 1), (.ob 2), (.ob 3), (.ob 4), (.ob 5), (.ob 6), (.ob 7), (.ob 8), (.b (.var 9))] 10 (.call 36 [(.ob 0), (.ob 1), (.ob 2), (.ob 3), (.ob 4), (.ob 5), (.ob 6), (.ob 7), (.b (.lit false))] 11 (.call 36 [(.ob 0), (.ob 1), (.ob 2), (.ob 3), (.ob 4), (.ob 5), (.ob 6), (.ob 7), (.b (.lit true))] 14 (.call 38 [(.ob 0), (.ob 1), (.ob 2), (.ob 3), (.ob 4), (.ob 5), (.ob 6), (.ob 7), (.b (.lit true))] 17 (.call 38 [(.ob 0), (.ob 1), (.ob 2), (.ob 3), (.ob 4), (.ob 5), (.ob 6), (.ob 7), (.b (.lit false))] 20 (.leaf [(.b (.lit true))]))))))
theorem ev_planeBranchesXX : Ct.ok Try.prog 6 { args := [[.r, .r, .r, .r, .r, .r, .r, .r, .r, .b]], res := [[.b]], F := fun als => tr_planeBranchesXX.den G_planeBranchesXX (env0 als), L := 2, A := 0, B := 0 } :=
  top_ok (by kernel_rfl) G_planeBranchesXX_ok (plans := planF) (lf := 60) (k := 20) (by kernel_rfl)
set_option maxHeartbeats 1000000 in
theorem planeBranchesXX_den (x1 x2 x3 x4 x5 x6 x7 x8 x9 : Rat) (f : Bool) (h : f_fits (List.map QA.at [.q x1, .q x2, .q x3, .q x4, .q x5, .q x6, .q x7, .q x8, .q x9, .b f]) = some [.b true]) (h1 : ¬ (x1 = x3 ∧ x2 = x4)) (h2 : rootE (cutD x1 x2 x3 x4 x5 x6 x7 x8) = 13) (h3 : ¬ (x1 = x5 ∧ x2 = x6)) (h4 : rootE (intD x1 x2 x3 x4 x5 x6 x7 x8) = 13) : tr_planeBranchesXX.den G_planeBranchesXX (env0 (List.map QA.at [.q x1, .q x2, .q x3, .q x4, .q x5, .q x6, .q x7, .q x8, .q x9, .b f])) = some [.b true] := by
  have h := fitsT_of h
  simp only [List.map_cons, List.map_nil] at h
  have n11 : ¬ (11 : Int) = 0 := by decide
  simp only [tr_planeBranchesXX, Tr.den, evAll, SA.ev, BE.ev, IE.ev, SE.ev, LE.ev, env0, extE_eq, pickO, op1, op2, op3, Nat.reduceLeDiff, Nat.reduceSub, Nat.reduceEqDiff, if_true, if_false, ite_true, ite_false, decide_true, decide_false, Bool.not_true, Bool.not_false, Nat.zero_le, Nat.sub_zero, List.getElem?_cons_zero, List.getElem?_cons_succ, List.getElem?_nil, cq0, cq1, cq2, cq3, cq4, cq5, cq6, cq7, cq8, cq9, cq10, cq12, cq16, outQ1, outQ2, outQ3, outQ4, outQ5, evN_at, evB_at, evS_at, evLen_z1, evLen_z2, evBit_z, at_n, at_b, at_s, at_z, at_k, at_kb, kG, kQ, kQ1, List.map_cons, List.map_nil, List.cons_append, List.nil_append, decide_eq_true_eq, Bool.false_eq_true, G_planeBranchesXX_fitsT, ctF_fitsT, G_planeBranchesXX_cutX, ctF_cutX, G_planeBranchesXX_intersectX, ctF_intersectX, h, n11, eq_self, and_self, g_cut, g_intersect, h1, h2, n13, h3, h4, n13]
theorem planeBranchesA_any (x1 x2 x3 x4 x5 x6 x7 x8 x9 : Rat) (f : Bool) (h : f_fits (List.map QA.at [.q x1, .q x2, .q x3, .q x4, .q x5, .q x6, .q x7, .q x8, .q x9, .b f]) = some [.b true]) : ∃ FA A1 B1, Ct.ok Try.prog 6 { args := [[.r, .r, .r, .r, .r, .r, .r, .r, .r, .b]], res := [[.b]], F := FA, L := 2, A := A1, B := B1 } ∧ FA (List.map QA.at [.q x1, .q x2, .q x3, .q x4, .q x5, .q x6, .q x7, .q x8, .q x9, .b f]) = some [.b true] := by
  by_cases h1 : x1 = x3 ∧ x2 = x4
  · skip
    by_cases h3 : x1 = x5 ∧ x2 = x6
    · exact ⟨_, _, _, ev_planeBranchesDD, planeBranchesDD_den _ _ _ _ _ _ _ _ _ _ h h1 h3⟩
    · rcases rootE_3 (intD x1 x2 x3 x4 x5 x6 x7 x8) with h4 | h4 | h4
      · exact ⟨_, _, _, ev_planeBranchesDN, planeBranchesDN_den _ _ _ _ _ _ _ _ _ _ h h1 h3 h4⟩
      · exact ⟨_, _, _, ev_planeBranchesDI, planeBranchesDI_den _ _ _ _ _ _ _ _ _ _ h h1 h3 h4⟩
      · exact ⟨_, _, _, ev_planeBranchesDX, planeBranchesDX_den _ _ _ _ _ _ _ _ _ _ h h1 h3 h4⟩
  · rcases rootE_3 (cutD x1 x2 x3 x4 x5 x6 x7 x8) with h2 | h2 | h2
    · skip
      by_cases h3 : x1 = x5 ∧ x2 = x6
      · exact ⟨_, _, _, ev_planeBranchesND, planeBranchesND_den _ _ _ _ _ _ _ _ _ _ h h1 h2 h3⟩
      · rcases rootE_3 (intD x1 x2 x3 x4 x5 x6 x7 x8) with h4 | h4 | h4
        · exact ⟨_, _, _, ev_planeBranchesNN, planeBranchesNN_den _ _ _ _ _ _ _ _ _ _ h h1 h2 h3 h4⟩
        · exact ⟨_, _, _, ev_planeBranchesNI, planeBranchesNI_den _ _ _ _ _ _ _ _ _ _ h h1 h2 h3 h4⟩
        · exact ⟨_, _, _, ev_planeBranchesNX, planeBranchesNX_den _ _ _ _ _ _ _ _ _ _ h h1 h2 h3 h4⟩
    · skip
      by_cases h3 : x1 = x5 ∧ x2 = x6
      · exact ⟨_, _, _, ev_planeBranchesID, planeBranchesID_den _ _ _ _ _ _ _ _ _ _ h h1 h2 h3⟩
      · rcases rootE_3 (intD x1 x2 x3 x4 x5 x6 x7 x8) with h4 | h4 | h4
        · exact ⟨_, _, _, ev_planeBranchesIN, planeBranchesIN_den _ _ _ _ _ _ _ _ _ _ h h1 h2 h3 h4⟩
        · exact ⟨_, _, _, ev_planeBranchesII, planeBranchesII_den _ _ _ _ _ _ _ _ _ _ h h1 h2 h3 h4⟩
        · exact ⟨_, _, _, ev_planeBranchesIX, planeBranchesIX_den _ _ _ _ _ _ _ _ _ _ h h1 h2 h3 h4⟩
    · skip
      by_cases h3 : x1 = x5 ∧ x2 = x6
      · exact ⟨_, _, _, ev_planeBranchesXD, planeBranchesXD_den _ _ _ _ _ _ _ _ _ _ h h1 h2 h3⟩
      · rcases rootE_3 (intD x1 x2 x3 x4 x5 x6 x7 x8) with h4 | h4 | h4
        · exact ⟨_, _, _, ev_planeBranchesXN, planeBranchesXN_den _ _ _ _ _ _ _ _ _ _ h h1 h2 h3 h4⟩
        · exact ⟨_, _, _, ev_planeBranchesXI, planeBranchesXI_den _ _ _ _ _ _ _ _ _ _ h h1 h2 h3 h4⟩
        · exact ⟨_, _, _, ev_planeBranchesXX, planeBranchesXX_den _ _ _ _ _ _ _ _ _ _ h h1 h2 h3 h4⟩
set_option maxRecDepth 100000 in
theorem planeBranches_liftedU (os : Os) (started : os.Started) (H : Type) (enc : TypeId × Value → H) (F : Stop.Interp) :
    ReturnsInHanded {} Try.checked os 6 .any ((Rows.OpenSpec.upto Rows.planeBranchesSpec).pre6 enc Try.prog Try.f6 Rows.planeBranchesUptoRow.domain false) (((Rows.OpenSpec.upto Rows.planeBranchesSpec).at F).post enc Try.prog Try.f6 false true false false) := by
  refine law_liftedU (C := Try.checked) (s := Rows.planeBranchesSpec) Try.own Try.laidOut (by kernel_rfl) Try.func6 rfl 4 rfl Try.underlying4 (by kernel_rfl) enc ?_ ?_ os started F
    (OpenSpec.witness (enc := enc) (C := Try.checked) (s := Rows.OpenSpec.upto Rows.planeBranchesSpec) (k := Rows.uptoSmall) rfl false ⟨#[], #[.agg #[.bool false, .slice none 0 0, .slice none 0 0, .bool false, .slice none 0 0, .slice none 0 0, .bool false, .slice none 0 0, .slice none 0 0, .bool false, .slice none 0 0, .slice none 0 0, .bool false, .slice none 0 0, .slice none 0 0, .bool false, .slice none 0 0, .slice none 0 0, .bool false, .slice none 0 0, .slice none 0 0, .bool false, .slice none 0 0, .slice none 0 0, .bool false, .slice none 0 0, .slice none 0 0, .bool false]], []⟩ 8 (by kernel_rfl) (by kernel_rfl) (by kernel_rfl) (x := ([.agg [.agg [.agg [.agg [.lit (.bool false), .nil], .nil], .agg [.agg [.lit (.bool false), .nil], .nil]], .agg [.agg [.agg [.lit (.bool false), .nil], .nil], .agg [.agg [.lit (.bool false), .nil], .nil]], .agg [.agg [.agg [.lit (.bool false), .nil], .nil], .agg [.agg [.lit (.bool false), .nil], .nil]], .agg [.agg [.agg [.lit (.bool false), .nil], .nil], .agg [.agg [.lit (.bool false), .nil], .nil]], .agg [.agg [.lit (.bool false), .nil], .nil], .lit (.bool false)]], [], [])) (by kernel_rfl) rfl (by kernel_rfl))
  · intro ds hl
    match ds, hl with
    | [d0], _ => rfl
  · intro W base args ds ps hval hA hlt hk
    have hA' : DataW.TrodAll enc Try.prog W 0 (fun _ => true) true [31] args.toList ds ps := hA
    have hval' : ∀ (j : Nat) t v, Try.f6.params[j]? = some t → args[j]? = some v → Value.okWide Try.prog W .any base t v := hval
    obtain ⟨v0, d0, rfl, rfl, h0⟩ := Go.ChangeShapes.trodAll_one hA'
    simp only [Rows.uptoBulkAll] at hk
    have hb_x : Rows.uptoBulk d0 ≤ 1048576 := by omega
    obtain ⟨als_x, hr_x, hg_x⟩ := open_Case (hval' 0 31 v0 rfl rfl) h0
    exact case_law ev_planeBranchesB planeBranchesA_any (fun _ _ _ _ _ _ _ _ _ _ _ _ _ _ _ _ _ _ _ _ _ _ _ _ _ _ _ _ h => planeBranchesB_den _ _ _ _ _ _ _ _ _ _ _ _ _ _ _ _ _ _ _ _ _ _ _ _ _ _ _ _ h) hr_x hg_x hb_x

theorem planeBranchesUpto_holds : Rows.PlaneBranchesUptoSaid :=
  OpenClaim.holds_of_cond 6 Try.f6 rfl rfl rfl rfl rfl rfl rfl ⟨rfl, rfl, rfl, rfl, rfl⟩ rfl rfl rfl rfl rfl (by kernel_rfl) Try.func6 (by kernel_rfl)
    (of_decide_eq_true (by kernel_rfl)) (by unfold Func.isWrapper; first | (rw [if_pos (by decide +kernel)]; kernel_rfl) | (rw [if_neg (by decide +kernel)]; exact ⟨rfl, rfl⟩))
    (fun os started H enc _ F => planeBranches_liftedU os started H enc F)
end Go.Proofs.Ytnfchljiicniiaa
