/- Facts: PredicateValues. -/
import Derived.Test.YtkampmdekonjmaaGreatFd7
import Derived.Test.YtkampmdekonjmaaGreatFc2
namespace Go.Proofs.YtkampmdekonjmaaGreat
open Go Go.RowKit Go.V Go.ChangeMaps
set_option linter.unusedSimpArgs false
set_option linter.unusedVariables false
set_option maxRecDepth 20000
theorem rrightC_any (x : Rat) (a b : Option Addr) (c d s : Nat) (w : World) (hr : RD w a c (lim x.num.natAbs)) (hs : RD w b d (lim x.den)) (hz : (QA.at (.q x)).sz ≤ s) (hL : s ≤ 100000000) :
    Calls Tryz.prog 15 #[.agg #[.bool (decide (x.num < 0)), .slice a (lim x.num.natAbs).length c, .slice b (lim x.den).length d]] w fun e w' => e = .returned (.bool true) ∧ Below w.heap.size w w' :=
  ct_b ok_drright rfl (s := s) (Nat.le_trans hL (by decide)) (rats1 hr hs) (fun y hy => by rw [List.mem_singleton.1 hy]; exact hz) (by show cq g_right [QA.at (.q x)] = _; exact (cq1 _ _).trans rfl)
theorem requalC_any (x y : Rat) (a b a' b' : Option Addr) (c d c' d' s : Nat) (w : World) (hr : RD w a c (lim x.num.natAbs)) (hs : RD w b d (lim x.den)) (hr' : RD w a' c' (lim y.num.natAbs)) (hs' : RD w b' d' (lim y.den)) (hz : (QA.at (.q x)).sz ≤ s) (hz' : (QA.at (.q y)).sz ≤ s) (hL : s ≤ 100000000) :
    Calls Tryz.prog 16 #[.agg #[.bool (decide (x.num < 0)), .slice a (lim x.num.natAbs).length c, .slice b (lim x.den).length d], .agg #[.bool (decide (y.num < 0)), .slice a' (lim y.num.natAbs).length c', .slice b' (lim y.den).length d']] w fun e w' => e = .returned (.bool (decide (x = y))) ∧ Below w.heap.size w w' :=
  ct_b ok_drequal rfl (s := s) hL (als := [QA.at (.q x), QA.at (.q y)]) ⟨_, _, _, _, rfl, rfl, repV_r.2 ⟨_, _, _, _, _, _, _, rfl, rfl, hr, hs⟩, _, [], _, _, rfl, rfl, repV_r.2 ⟨_, _, _, _, _, _, _, rfl, rfl, hr', hs'⟩, rfl, rfl⟩ (fun z hz2 => by
    simp only [List.mem_cons, List.not_mem_nil, or_false] at hz2
    rcases hz2 with rfl | rfl
    · exact hz
    · exact hz') (by show cq g_equal [QA.at (.q x), QA.at (.q y)] = _; exact (cq2 _ _ _).trans rfl)
set_option maxHeartbeats 1000000 in
theorem sameRats_any (w0 : World) (xs : List Rat) (v v' : Value) (s : Nat) (w : World) (h : RetV w0 s xs v w) (h' : RetV w0 s xs v' w) (hx : xs.length ≤ 2) (hL : s ≤ 100000000) :
    Calls Tryz.prog 7 #[v, v'] w fun e w' => e = .returned (.bool true) ∧ Below w.heap.size w w' := by
  obtain ⟨pa, cp, rfl, hP, hz⟩ := h
  obtain ⟨qa', cq', rfl, hQ, _⟩ := h'
  refine calls_of_W (args := [.slice pa xs.length cp, .slice qa' xs.length cq']) (rs := [.tmp 4]) (n := 35) Tryz.func7 rfl rfl rfl (by kernel_rfl) ?_
  have hA0 := Below.refl w.heap.size w
  first | refine W_rt (by kernel_rfl) (fun K hK => ?_) | refine W_text (by kernel_rfl) (fun K hK => ?_)
  simp [go_sem, add_mk, rowV, rowOk]
  refine hK _ _ ?_; clear hK K
  refine W_seq (fun K1 hK1 => ?_)
  first | refine W_rt (by kernel_rfl) (fun K hK => ?_) | refine W_text (by kernel_rfl) (fun K hK => ?_)
  simp [go_sem, add_mk, rowV, rowOk]
  refine hK _ _ ?_; clear hK K
  refine W_if (t := false) (by simp [go_sem, add_mk, rowV, rowOk]) rfl ?_
  refine W_skip ?_
  refine hK1 _ _ ?_
  refine W_seq (fun K2 hK2 => ?_)
  first | refine W_rt (by kernel_rfl) (fun K hK => ?_) | refine W_text (by kernel_rfl) (fun K hK => ?_)
  simp [go_sem, add_mk, rowV, rowOk]
  refine hK _ _ ?_; clear hK K
  refine W_block ?_
  refine W_loop (fun m' g w' => Below w.heap.size w w' ∧ ∃ (i : Nat), i ≤ xs.length ∧ m' = xs.length - i ∧ g 0 = .slice pa xs.length cp ∧ g 1 = .slice qa' xs.length cq' ∧ g 12 = .int .i64 xs.length ∧ g 13 = .int .i64 i) xs.length ?_ ?_
  · exact ⟨hA0, 0, by omega, rfl, by simp [go_sem], by simp [go_sem], by simp [go_sem], by simp [go_sem]⟩
  clear hA0
  rintro m' g w' ⟨hA0, i, hi, rfl, g0, g1, g12, g13⟩
  first | refine W_rt (by kernel_rfl) (fun K hK => ?_) | refine W_text (by kernel_rfl) (fun K hK => ?_)
  simp [go_sem, add_mk, rowV, rowOk, g0, g1, g12, g13]
  refine hK _ _ ?_; clear hK K
  refine W_seq (fun K3 hK3 => ?_)
  by_cases hlt : i < xs.length
  · have c1 : (i : Int) < xs.length := by omega
    have hw1 : IntKind.i64.wrap ((i : Int) + 1) = (i : Int) + 1 := IntWalk.i64_in _ (by omega)
    have hxi : (xs.map fun x => [QA.at (.q x)])[i]? = some [QA.at (.q (xs[i]'hlt))] := by simp [hlt]
    have hxz := hz _ (List.getElem_mem hlt)
    generalize xs[i]'hlt = x at *
    refine W_if (t := true) (by simp [go_sem, add_mk, rowV, rowOk, g0, g1, g12, g13, c1, hlt]) rfl ?_
    refine W_skip ?_
    refine hK3 _ _ ?_
    refine W_seq (fun K4 hK4 => ?_)
    refine W_block ?_
    first | refine W_rt (by kernel_rfl) (fun K hK => ?_) | refine W_text (by kernel_rfl) (fun K hK => ?_)
    simp [go_sem, add_mk, rowV, rowOk, g0, g1, g12, g13,  c1, hlt]
    refine hK _ _ ?_; clear hK K
    obtain ⟨Rw, r1, r2, r3, r4, r5⟩ := hP.row2 (hA0.next (Below.drew1 _)) (by decide) hxi
    obtain ⟨Rx, t1, t2, t3, t4, t5⟩ := hQ.row2 (hA0.next (Below.drew1 _)) (by decide) hxi
    obtain ⟨a5, c5, b5, d5, rfl, hr5, hs5⟩ := RepV_r r5
    obtain ⟨a6, c6, b6, d6, rfl, hr6, hs6⟩ := RepV_r t5
    have hD21 := Below.drew1 w'
    replace hA0 := hA0.next hD21
    first | refine W_rd [(0, 0), (1, 0), (2, 0), (3, 0), (4, 1), (5, 0), (6, 0), (7, 0), (8, 0), (9, 0), (10, 0), (11, 0), (12, 0), (13, 0), (14, 0), (15, 1), (16, 0), (17, 0)] (by kernel_rfl) (by kernel_rfl) (fun K hK => ?_) | refine W_draw [(0, 0), (1, 0), (2, 0), (3, 0), (4, 1), (5, 0), (6, 0), (7, 0), (8, 0), (9, 0), (10, 0), (11, 0), (12, 0), (13, 0), (14, 0), (15, 1), (16, 0), (17, 0)] (by kernel_rfl) (by kernel_rfl) (fun K hK => ?_)
    simp [go_sem, add_mk, g0, g1, g12, g13,  c1, hlt, r1, r2, r3]
    refine hv_call (by simp [go_sem, add_mk, g0, g1, g12, g13, c1, hlt]) rfl Tryz.call15 (fun R hR => ?_)
    simp [go_sem, add_mk, g0, g1, g12, g13, c1, hlt]
    refine (rrightC_any x a5 b5 c5 d5 s _ (hr5.ext hA0) (hs5.ext hA0) hxz (by omega)).mono ?_
    rintro e w22 ⟨rfl, hE22⟩
    refine ⟨_, rfl, (by assumption), hR _ _ ?_⟩
    clear hR R
    replace hA0 := hA0.next hE22
    simp [go_sem, add_mk, g0, g1, g12, g13, c1, hlt]
    obtain ⟨Rw', r1', r2', r3', r4', r5'⟩ := hP.row2 hA0 (by decide) hxi
    obtain ⟨Rx', t1', t2', t3', t4', t5'⟩ := hQ.row2 hA0 (by decide) hxi
    obtain ⟨a7, c7, b7, d7, rfl, hr7, hs7⟩ := RepV_r r5'
    obtain ⟨a8, c8, b8, d8, rfl, hr8, hs8⟩ := RepV_r t5'
    simp [go_sem, add_mk, g0, g1, g12, g13, c1, hlt, r1', r2', r3', t1', t2', t3']
    refine hv_call (by simp [go_sem, add_mk, g0, g1, g12, g13, c1, hlt]) rfl Tryz.call16 (fun R hR => ?_)
    simp [go_sem, add_mk, g0, g1, g12, g13, c1, hlt]
    refine (requalC_any x x a7 b7 a8 b8 c7 d7 c8 d8 s _ (hr7.ext hA0) (hs7.ext hA0) (hr8.ext hA0) (hs8.ext hA0) hxz hxz (by omega)).mono ?_
    rintro e w23 ⟨rfl, hE23⟩
    refine ⟨_, rfl, (by assumption), hR _ _ ?_⟩
    clear hR R
    replace hA0 := hA0.next hE23
    simp [go_sem, add_mk, g0, g1, g12, g13, c1, hlt]
    refine hK _ _ ?_; clear hK K
    refine W_if (t := false) (by simp [go_sem, add_mk, g0, g1, g12, g13]) rfl ?_
    refine W_skip ?_
    refine hK4 _ _ ?_
    refine W_text (by kernel_rfl) (fun K hK => ?_)
    simp [go_sem, g13, hw1]
    refine hK _ _ ⟨xs.length - (i + 1), by omega, hA0, i + 1, by omega, rfl, by simp [go_sem, g0], by simp [go_sem, g1], by simp [go_sem, g12], by simp [go_sem]⟩
  · have c1 : ¬ (i : Int) < xs.length := by omega
    refine W_if (t := false) (by simp [go_sem, add_mk, rowV, rowOk, g0, g1, g12, g13, c1, hlt]) rfl ?_
    refine W_exit ?_
    repeat (first | refine thenG_exit ?_ | refine inBlock_other rfl ?_ | refine inBlock_same ?_)
    refine hK2 _ _ ?_
    first | refine W_rt (by kernel_rfl) (fun K hK => ?_) | refine W_text (by kernel_rfl) (fun K hK => ?_)
    simp [go_sem, add_mk, rowV, rowOk, g0, g1, g12, g13]
    refine hK _ _ ?_; clear hK K
    refine W_ret ?_
    repeat (first | refine thenG_ret ?_ | refine inBlock_ret ?_)
    refine ⟨trivial, ?_, hA0⟩
    simp [go_sem, pack, resL]
set_option maxHeartbeats 2000000 in
theorem predicateValues_any {v u : Value} {B C : Nat} {w : World} (hv : FactV w v B) (hu : PtsV w u C) (hB : B ≤ 1048576) (hC : C ≤ 1048576) :
    Calls Tryz.prog 3 #[v, u] w fun e w' => e = .returned (.bool true) ∧ Below w.heap.size w w' := by
  obtain ⟨k, args, neg, l, m, ad, a, b, cap, c, d, rfl, ha, hn, hr, hs, hl, hm, _⟩ := hv
  obtain ⟨pa, cap2, xs, rfl, hX, hxn, hxB, hxz⟩ := hu
  refine calls_of_W (args := [.agg #[.int .i64 k, .slice ad args.length cap, .bool neg, .slice a l.length c, .slice b m.length d], .slice pa xs.length cap2]) (rs := [.tmp 4]) (n := 70) Tryz.func3 rfl rfl rfl (by kernel_rfl) ?_
  have hA0 := Below.refl w.heap.size w
  first | refine W_rt (by kernel_rfl) (fun K hK => ?_) | refine W_text (by kernel_rfl) (fun K hK => ?_)
  simp [go_sem, add_mk, rowV, rowOk]
  refine hv_box #[.int .i64 k, .slice ad args.length cap, .bool neg, .slice a l.length c, .slice b m.length d] (by simp [go_sem, add_mk, rowV, rowOk]) rfl (by simp [go_sem, Value.cells, add_mk, rowV, rowOk]) (fun w1 b1 hE1 hle1 hB1 => ?_)
  have hb1_0 := Nat.le_trans hA0.size hle1
  replace hA0 := hA0.next hE1
  simp [go_sem, add_mk, rowV, rowOk, hB1.cell]
  refine hK _ _ ?_; clear hK K
  refine W_seq (fun K1 hK1 => ?_)
  first | refine W_rt (by kernel_rfl) (fun K hK => ?_) | refine W_text (by kernel_rfl) (fun K hK => ?_)
  simp [go_sem, add_mk, rowV, rowOk, hB1.cell]
  refine hv_call (by simp [go_sem, add_mk, rowV, rowOk, hB1.cell]) rfl Tryz.call4 (fun R hR => ?_)
  simp [go_sem, add_mk, rowV, rowOk, hB1.cell]
  refine (fits_any pa cap2 xs _ (hX.ext hA0) hxn (fun y hy z hz => by have := (hxz y hy z hz).2; omega)).mono ?_
  rintro e w2 ⟨rfl, hE2⟩
  refine ⟨_, rfl, hR _ _ ?_⟩
  clear hR R
  replace hA0 := hA0.next hE2
  replace hB1 := hB1.keep hE2
  simp [go_sem, add_mk, rowV, rowOk, hB1.cell]
  cases hf : fitB xs with
  | false =>
    simp [go_sem, add_mk, rowV, rowOk, hB1.cell, hf]
    refine hK _ _ ?_; clear hK K
    refine W_if (t := true) (by simp [go_sem, add_mk, rowV, rowOk, hB1.cell, hf]) rfl ?_
    first | refine W_rt (by kernel_rfl) (fun K hK => ?_) | refine W_text (by kernel_rfl) (fun K hK => ?_)
    simp [go_sem, add_mk, rowV, rowOk, hB1.cell]
    refine hK _ _ ?_; clear hK K
    refine W_ret ?_
    repeat (first | refine thenG_ret ?_ | refine inBlock_ret ?_)
    refine ⟨trivial, ?_, hA0⟩
    simp [go_sem, pack, resL]
  | true =>
    obtain ⟨ps, rfl, hpz, hp8⟩ := fit_pts hX hf
    by_cases h1 : (2 : Int) < l.length
    · simp [go_sem, add_mk, rowV, rowOk, hB1.cell, hf, h1]
      refine hK _ _ ?_; clear hK K
      refine W_if (t := true) (by simp [go_sem, add_mk, rowV, rowOk, hB1.cell, hf, h1]) rfl ?_
      first | refine W_rt (by kernel_rfl) (fun K hK => ?_) | refine W_text (by kernel_rfl) (fun K hK => ?_)
      simp [go_sem, add_mk, rowV, rowOk, hB1.cell]
      refine hK _ _ ?_; clear hK K
      refine W_ret ?_
      repeat (first | refine thenG_ret ?_ | refine inBlock_ret ?_)
      refine ⟨trivial, ?_, hA0⟩
      simp [go_sem, pack, resL]
    by_cases h2 : (2 : Int) < m.length
    · simp [go_sem, add_mk, rowV, rowOk, hB1.cell, hf, h1, h2]
      refine hK _ _ ?_; clear hK K
      refine W_if (t := true) (by simp [go_sem, add_mk, rowV, rowOk, hB1.cell, hf, h1, h2]) rfl ?_
      first | refine W_rt (by kernel_rfl) (fun K hK => ?_) | refine W_text (by kernel_rfl) (fun K hK => ?_)
      simp [go_sem, add_mk, rowV, rowOk, hB1.cell]
      refine hK _ _ ?_; clear hK K
      refine W_ret ?_
      repeat (first | refine thenG_ret ?_ | refine inBlock_ret ?_)
      refine ⟨trivial, ?_, hA0⟩
      simp [go_sem, pack, resL]
    have hpm : ps.length ≤ maxLen := by unfold maxLen; omega
    rw [List.length_map] at *
    simp [go_sem, add_mk, rowV, rowOk, hB1.cell, hf, h1, h2]
    refine hK _ _ ?_; clear hK K
    refine W_if (t := false) (by simp [go_sem, add_mk, rowV, rowOk, hB1.cell,  hf, h1, h2]) rfl ?_
    refine W_skip ?_
    refine hK1 _ _ ?_
    first | refine W_rt (by kernel_rfl) (fun K hK => ?_) | refine W_text (by kernel_rfl) (fun K hK => ?_)
    simp [go_sem, add_mk, rowV, rowOk, hB1.cell]
    refine hv_call (by simp [go_sem, add_mk, rowV, rowOk, hB1.cell]) rfl Tryz.call5 (fun R hR => ?_)
    simp [go_sem, add_mk, rowV, rowOk, hB1.cell]
    refine (fValues_any k args neg l m ad a b pa cap c d cap2 2 ps _ (ha.ext hA0) hn (hr.ext hA0) (hs.ext hA0) (by omega) (by omega) (hX.ext hA0) hpm hpz (by decide)).mono ?_
    rintro e w3 ⟨v3, rfl, hv3, hE3⟩
    refine ⟨_, rfl, hR _ _ ?_⟩
    clear hR R
    replace hA0 := hA0.next hE3
    replace hB1 := hB1.keep hE3
    simp [go_sem, add_mk, rowV, rowOk, hB1.cell]
    refine hK _ _ ?_; clear hK K
    first | refine W_rt (by kernel_rfl) (fun K hK => ?_) | refine W_text (by kernel_rfl) (fun K hK => ?_)
    simp [go_sem, add_mk, rowV, rowOk, hB1.cell]
    refine hv_call (by simp [go_sem, add_mk, rowV, rowOk, hB1.cell]) rfl Tryz.call6 (fun R hR => ?_)
    simp [go_sem, add_mk, rowV, rowOk, hB1.cell]
    refine (gValues_any k args neg l m ad a b pa cap c d cap2 2 ps _ (ha.ext hA0) hn (hr.ext hA0) (hs.ext hA0) (by omega) (by omega) (hX.ext hA0) hpm hpz (by decide)).mono ?_
    rintro e w4 ⟨v4, rfl, hv4, hE4⟩
    refine ⟨_, rfl, hR _ _ ?_⟩
    clear hR R
    replace hA0 := hA0.next hE4
    replace hB1 := hB1.keep hE4
    simp [go_sem, add_mk, rowV, rowOk, hB1.cell]
    replace hv3 := hv3.keep hE4
    refine hK _ _ ?_; clear hK K
    refine W_seq (fun K2 hK2 => ?_)
    first | refine W_rt (by kernel_rfl) (fun K hK => ?_) | refine W_text (by kernel_rfl) (fun K hK => ?_)
    simp [go_sem, add_mk, rowV, rowOk, hB1.cell]
    refine hv_call (by simp [go_sem, add_mk, rowV, rowOk, hB1.cell]) rfl Tryz.call7 (fun R hR => ?_)
    simp [go_sem, add_mk, rowV, rowOk, hB1.cell]
    refine (sameRats_any _ _ _ _ (vSz 2) _ hv3 hv4 (by split; exact fVals_len _ _ _; exact Nat.zero_le _) (by decide)).mono ?_
    rintro e w5 ⟨rfl, hE5⟩
    refine ⟨_, rfl, hR _ _ ?_⟩
    clear hR R
    replace hA0 := hA0.next hE5
    replace hB1 := hB1.keep hE5
    simp [go_sem, add_mk, rowV, rowOk, hB1.cell]
    refine hK _ _ ?_; clear hK K
    refine W_if (t := false) (by simp [go_sem, add_mk, rowV, rowOk, hB1.cell]) rfl ?_
    refine W_skip ?_
    refine hK2 _ _ ?_
    first | refine W_rt (by kernel_rfl) (fun K hK => ?_) | refine W_text (by kernel_rfl) (fun K hK => ?_)
    simp [go_sem, add_mk, rowV, rowOk, hB1.cell]
    refine hv_call (by simp [go_sem, add_mk, rowV, rowOk, hB1.cell]) rfl Tryz.call8 (fun R hR => ?_)
    simp [go_sem, add_mk, rowV, rowOk, hB1.cell]
    refine (fHolds_any k args neg l m ad a b pa cap c d cap2 2 ps _ (ha.ext hA0) hn (hr.ext hA0) (hs.ext hA0) (by omega) (by omega) (hX.ext hA0) hpm hpz (by decide)).mono ?_
    rintro e w6 ⟨rfl, hE6⟩
    refine ⟨_, rfl, hR _ _ ?_⟩
    clear hR R
    replace hA0 := hA0.next hE6
    replace hB1 := hB1.keep hE6
    simp [go_sem, add_mk, rowV, rowOk, hB1.cell]
    refine hK _ _ ?_; clear hK K
    first | refine W_rt (by kernel_rfl) (fun K hK => ?_) | refine W_text (by kernel_rfl) (fun K hK => ?_)
    simp [go_sem, add_mk, rowV, rowOk, hB1.cell]
    refine hv_call (by simp [go_sem, add_mk, rowV, rowOk, hB1.cell]) rfl Tryz.call9 (fun R hR => ?_)
    simp [go_sem, add_mk, rowV, rowOk, hB1.cell]
    refine (gHolds_any k args neg l m ad a b pa cap c d cap2 2 ps _ (ha.ext hA0) hn (hr.ext hA0) (hs.ext hA0) (by omega) (by omega) (hX.ext hA0) hpm hpz (by decide)).mono ?_
    rintro e w7 ⟨rfl, hE7⟩
    refine ⟨_, rfl, hR _ _ ?_⟩
    clear hR R
    replace hA0 := hA0.next hE7
    replace hB1 := hB1.keep hE7
    simp [go_sem, add_mk, rowV, rowOk, hB1.cell]
    refine hK _ _ ?_; clear hK K
    first | refine W_rt (by kernel_rfl) (fun K hK => ?_) | refine W_text (by kernel_rfl) (fun K hK => ?_)
    simp [go_sem, add_mk, rowV, rowOk, hB1.cell]
    refine hK _ _ ?_; clear hK K
    refine W_ret ?_
    repeat (first | refine thenG_ret ?_ | refine inBlock_ret ?_)
    refine ⟨trivial, ?_, hA0⟩
    simp [go_sem, pack, resL]
set_option maxRecDepth 100000 in
theorem predicateValues_liftedU (os : Os) (started : os.Started) (H : Type) (enc : TypeId × Value → H) (F : Stop.Interp) :
    ReturnsInHanded {} Tryz.checked os 3 .any ((Rows.OpenSpec.upto Rows.predicateValuesSpec).pre6 enc Tryz.prog Tryz.f3 Rows.predicateValuesUptoRow.domain false) (((Rows.OpenSpec.upto Rows.predicateValuesSpec).at F).post enc Tryz.prog Tryz.f3 false true false false) := by
  refine law_liftedU (C := Tryz.checked) (s := Rows.predicateValuesSpec) Tryz.own Tryz.laidOut (by kernel_rfl) Tryz.func3 rfl 4 rfl Tryz.underlying4 (by kernel_rfl) enc ?_ ?_ os started F
    (OpenSpec.witness (enc := enc) (C := Tryz.checked) (s := Rows.OpenSpec.upto Rows.predicateValuesSpec) (k := Rows.uptoSmall) rfl false ⟨#[], #[.agg #[.int .i64 0, .slice none 0 0, .bool false, .slice none 0 0, .slice none 0 0], .slice none 0 0], []⟩ 8 (by kernel_rfl) (by kernel_rfl) (by kernel_rfl) (x := ([.agg [.lit (.int .i64 0), .nil, .agg [.agg [.lit (.bool false), .nil], .nil]], .nil], [], [])) (by kernel_rfl) rfl (by kernel_rfl))
  · intro ds hl
    match ds, hl with
    | [d0, d1], _ => rfl
  · intro W base args ds ps hval hA hlt hk
    have hA' : DataW.TrodAll enc Tryz.prog W 0 (fun _ => true) true [30, 31] args.toList ds ps := hA
    have hval' : ∀ (j : Nat) t v, Tryz.f3.params[j]? = some t → args[j]? = some v → Value.okWide Tryz.prog W .any base t v := hval
    obtain ⟨v0, v1, d0, d1, p0, p1, rfl, rfl, rfl, h0, h1⟩ := Go.ChangeShapes.trodAll_two hA'
    simp only [Rows.uptoBulkAll] at hk
    have hb_f : Rows.uptoBulk d0 ≤ 1048576 := by omega
    obtain ⟨als_f, hr_f, hg_f⟩ := open_Fact (hval' 0 30 v0 rfl rfl) h0
    have hb_l : Rows.uptoBulk d1 ≤ 1048576 := by omega
    obtain ⟨als_l, hr_l, hg_l⟩ := open_Points (hval' 1 31 v1 rfl rfl) h1
    exact predicateValues_any hg_f hg_l hb_f hb_l

theorem predicateValuesUpto_holds : Rows.PredicateValuesUptoSaid :=
  OpenClaim.holds_of_cond 3 Tryz.f3 rfl rfl rfl rfl rfl rfl rfl ⟨rfl, rfl, rfl, rfl, rfl⟩ rfl rfl rfl rfl rfl (by kernel_rfl) Tryz.func3 (by kernel_rfl)
    (of_decide_eq_true (by kernel_rfl)) (by unfold Func.isWrapper; first | (rw [if_pos (by decide +kernel)]; kernel_rfl) | (rw [if_neg (by decide +kernel)]; exact ⟨rfl, rfl⟩))
    (fun os started H enc _ F => predicateValues_liftedU os started H enc F)
end Go.Proofs.YtkampmdekonjmaaGreat
