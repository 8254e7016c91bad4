/- PredicateSymmetric: which arguments of a fact may be exchanged. -/
import Derived.Test.YtkampmdekonjmaaFd7
import Derived.Test.YtkampmdekonjmaaPl2
import Derived.Test.YtkampmdekonjmaaFc2
namespace Go.Proofs.Ytkampmdekonjmaa
open Go Go.RowKit Go.V
set_option linter.unusedSimpArgs false
set_option linter.unusedVariables false
set_option maxRecDepth 20000
/-- whether the arguments are as many as they should be, and in range -/
def okA (k : Int) (args : List Int) (N : Nat) : Bool := decide (fAr k ≠ 0) && (decide (args.length = fAr k) && args.all fun z => decide (0 ≤ z ∧ z < N))
def hB (k : Int) (args : List Int) (ps : List PT) : Bool := okA k args ps.length && fHolds k (ptOf (gath ps args)) 1
theorem fRt_ok {k : Int} {args : List Int} {N : Nat} {neg : Bool} {l m : List Nat} (h : fRat k neg l m = true) : decide (fRt k args N neg l m = 0) = okA k args N := by
  unfold fRt okA
  by_cases h1 : fAr k = 0
  · rw [if_pos h1]; simp [h1]
  rw [if_neg h1]
  by_cases h2 : ¬ args.length = fAr k
  · rw [if_pos h2]; simp [h2]
  rw [if_neg h2]
  have h2' := Decidable.not_not.1 h2
  by_cases h3 : args.any (badA N) = true
  · rw [if_pos h3]
    obtain ⟨z, hz, hb⟩ := List.any_eq_true.1 h3
    have : (args.all fun z => decide (0 ≤ z ∧ z < (N : Int))) = false := by
      rw [List.all_eq_false]
      refine ⟨z, hz, ?_⟩
      unfold badA at hb
      simp only [Bool.or_eq_true, decide_eq_true_eq] at hb
      simp only [decide_eq_true_eq]; omega
    rw [this]; simp
  · rw [if_neg h3, if_pos h]
    have : (args.all fun z => decide (0 ≤ z ∧ z < (N : Int))) = true := by
      rw [List.all_eq_true]
      intro z hz
      have hb : badA N z = false := by
        cases hb : badA N z with
        | false => rfl
        | true => exact absurd (List.any_eq_true.2 ⟨z, hz, hb⟩) h3
      unfold badA at hb
      simp only [Bool.or_eq_false_iff, decide_eq_false_iff_not] at hb
      simp only [decide_eq_true_eq]; omega
    rw [this]; simp [h1, h2']
theorem fVals_r {k : Int} (h : ¬ k = 9) (p : Nat → PT) (r r' : Rat) (h0 : fAr k ≠ 0) : fVals k p r = fVals k p r' := by
  unfold fVals
  by_cases h1 : k = 1
  · rw [if_pos h1, if_pos h1]
  by_cases h2 : k = 2
  · rw [if_neg h1, if_pos h2, if_neg h1, if_pos h2]
  by_cases h3 : k = 3
  · rw [if_neg h1, if_neg h2, if_pos h3, if_neg h1, if_neg h2, if_pos h3]
  by_cases h4 : k = 4
  · rw [if_neg h1, if_neg h2, if_neg h3, if_pos h4, if_neg h1, if_neg h2, if_neg h3, if_pos h4]
  by_cases h5 : k = 5
  · rw [if_neg h1, if_neg h2, if_neg h3, if_neg h4, if_pos h5, if_neg h1, if_neg h2, if_neg h3, if_neg h4, if_pos h5]
  by_cases h6 : k = 6
  · rw [if_neg h1, if_neg h2, if_neg h3, if_neg h4, if_neg h5, if_pos h6, if_neg h1, if_neg h2, if_neg h3, if_neg h4, if_neg h5, if_pos h6]
  by_cases h7 : k = 7
  · rw [if_neg h1, if_neg h2, if_neg h3, if_neg h4, if_neg h5, if_neg h6, if_pos h7, if_neg h1, if_neg h2, if_neg h3, if_neg h4, if_neg h5, if_neg h6, if_pos h7]
  by_cases h8 : k = 8
  · rw [if_neg h1, if_neg h2, if_neg h3, if_neg h4, if_neg h5, if_neg h6, if_neg h7, if_pos h8, if_neg h1, if_neg h2, if_neg h3, if_neg h4, if_neg h5, if_neg h6, if_neg h7, if_pos h8]
  · have := fAr_kind (k := k) rfl h0
    omega
theorem hB_of {k : Int} {args : List Int} {ps : List PT} {neg : Bool} {l m : List Nat} (hf : fRat k neg l m = true) (h9 : k = 9 → qv neg l m = 1) : (decide (fRt k args ps.length neg l m = 0) && fHolds k (ptOf (gath ps args)) (qv neg l m)) = hB k args ps := by
  rw [fRt_ok hf]
  unfold hB
  cases ho : okA k args ps.length with
  | false => rfl
  | true =>
    rw [Bool.true_and, Bool.true_and]
    by_cases hk : k = 9
    · rw [h9 hk]
    · unfold fHolds
      have h0 : fAr k ≠ 0 := by
        unfold okA at ho
        simp only [Bool.and_eq_true, decide_eq_true_eq] at ho
        exact ho.1
      rw [fVals_r hk _ _ 1 h0]
theorem ofOne_any (w : World) : Calls Try.prog 39 #[.int .i64 1] w (RetR w 100 1) := by
  refine ct_r ok_drof rfl (s := 0) (Nat.zero_le _) (als := [.n 1]) (ints1 1) (zs1 1 0) ?_ (by decide)
  show cq g_of [QA.at (.n 1)] = _
  refine (cq1 _ _).trans ?_
  simp only [g_of, inI1, if_true, outQ1, cast1]
set_option maxHeartbeats 2000000 in
theorem lholds_any (k : Int) (args : List Int) (ad pa : Option Addr) (cap cap2 s : Nat) (ps : List PT) (w : World) (ha : SL w ad (intC args)) (hn : args.length ≤ maxLen) (hP : RowsR w pa 6 [.r, .r] (ps.map ptA)) (hpl : ps.length ≤ maxLen) (hz : ∀ p ∈ ps, ptSz p s) (hL : s ≤ 2900) :
    Calls Try.prog 22 #[.slice pa ps.length cap2, .int .i64 k, .slice ad args.length cap] w fun e w' => e = .returned (.bool (hB k args ps)) ∧ Below w.heap.size w w' := by
  refine calls_of_W (args := [.slice pa ps.length cap2, .int .i64 k, .slice ad args.length cap]) (rs := [.tmp 6]) (n := 28) Try.func22 rfl rfl rfl (by kernel_rfl) ?_
  have hA0 := Below.refl w.heap.size w
  first | refine W_rt (by kernel_rfl) (fun K hK => ?_) | refine W_text (by kernel_rfl) (fun K hK => ?_)
  simp [go_sem, add_mk, rowV, rowOk]
  refine hK _ _ ?_; clear hK K
  first | refine W_rt (by kernel_rfl) (fun K hK => ?_) | refine W_text (by kernel_rfl) (fun K hK => ?_)
  simp [go_sem, add_mk, rowV, rowOk]
  refine hv_build #[.int .i64 k, .slice ad args.length cap, .bool false, .slice none 0 0, .slice none 0 0] (by simp [go_sem]) rfl ty_stZ30 [(0, .int .i64 k), (1, .slice ad args.length cap)] (by simp [go_sem]) rfl ?_
  simp [go_sem, add_mk, rowV, rowOk]
  refine hv_alloc (by simp [go_sem, add_mk, rowV, rowOk]) rfl ty_zeroC30 (fun w1 b1 hE1 hle1 hB1 => ?_)
  have hb1_0 := Nat.le_trans hA0.size hle1
  replace hA0 := hA0.next hE1
  simp [go_sem, add_mk, rowV, rowOk, hB1.cell]
  refine hv_store (b := b1) (off := 0) [.int .i64 k, .slice ad args.length cap, .bool false, .slice none 0 0, .slice none 0 0] (by simp [go_sem, add_mk, rowV, rowOk, hB1.cell]) rfl (by simp [go_sem, add_mk, rowV, rowOk, hB1.cell]) (by simp [go_sem, Value.cells, add_mk, rowV, rowOk, hB1.cell]) ty_size30 hB1 (by simp) (by simp [Value.oneCell']) (by decide) (fun w2 hS2 hB2 => ?_)
  simp [putC] at hB2
  replace hA0 := hA0.nextS hS2 (by first | exact hb1_0 | omega)
  simp [go_sem, add_mk, rowV, rowOk, hB2.cell]
  refine hK _ _ ?_; clear hK K
  refine W_seq (fun K1 hK1 => ?_)
  first | refine W_rt (by kernel_rfl) (fun K hK => ?_) | refine W_text (by kernel_rfl) (fun K hK => ?_)
  simp [go_sem, add_mk, rowV, rowOk, hB2.cell]
  refine hK _ _ ?_; clear hK K
  by_cases h9 : k = 9
  · subst h9
    refine W_if (t := true) (by simp [go_sem, add_mk, rowV, rowOk, hB2.cell]) rfl ?_
    first | refine W_rt (by kernel_rfl) (fun K hK => ?_) | refine W_text (by kernel_rfl) (fun K hK => ?_)
    simp [go_sem, add_mk, rowV, rowOk, hB2.cell]
    refine hv_call (by simp [go_sem, add_mk, rowV, rowOk, hB2.cell]) rfl Try.call39 (fun R hR => ?_)
    simp [go_sem, add_mk, rowV, rowOk, hB2.cell]
    refine (ofOne_any _).mono ?_
    rintro e w3 ⟨a3, c3, b3, d3, rfl, hr3, hs3, hl3, hm3, hE3⟩
    refine ⟨_, rfl, hR _ _ ?_⟩
    clear hR R
    replace hA0 := hA0.next hE3
    replace hB2 := hB2.keep hE3
    simp [go_sem, add_mk, rowV, rowOk, hB2.cell]
    have q1 := hr3.off16 (vs := [.int .i64 9, .slice ad args.length cap, .bool false, .slice none 0 0, .slice none 0 0]) hB2 (by simp [no16])
    have q2 := hs3.off16 (vs := [.int .i64 9, .slice ad args.length cap, .bool false, .slice none 0 0, .slice none 0 0]) hB2 (by simp [no16])
    refine hv_store (b := b1) (off := 2) [.bool (decide ((1 : Rat).num < 0)), .slice a3 (lim (1 : Rat).num.natAbs).length c3, .slice b3 (lim (1 : Rat).den).length d3] (by simp [go_sem, add_mk, rowV, rowOk, hB2.cell]) rfl (by simp [go_sem, add_mk, rowV, rowOk, hB2.cell]) (by simp [go_sem, Value.cells, add_mk, rowV, rowOk, hB2.cell]) ty_size28 hB2 (by simp) (by simp [Value.oneCell']) (by decide) (fun w4 hS4 hB4 => ?_)
    simp [putC] at hB4
    replace hA0 := hA0.nextS hS4 (by first | exact hb1_0 | omega)
    simp [go_sem, add_mk, rowV, rowOk, hB4.cell]
    replace hr3 := hr3.sto hS4 q1
    replace hs3 := hs3.sto hS4 q2
    refine hK _ _ ?_; clear hK K
    refine hK1 _ _ ?_
    have hcall := fun w1 q1 q2 q3 q4 => fHolds_any 9 args (decide ((1 : Rat).num < 0)) (lim (1 : Rat).num.natAbs) (lim (1 : Rat).den) ad a3 b3 pa cap c3 d3 cap2 (s + 100) ps w1 q1 hn q2 q3 (by omega) (by omega) q4 hpl (fun p hp => ⟨Nat.le_trans (hz p hp).1 (by omega), Nat.le_trans (hz p hp).2 (by omega)⟩) (by omega)
    have hh := hB_of (k := 9) (args := args) (ps := ps) (neg := decide ((1 : Rat).num < 0)) (l := lim (1 : Rat).num.natAbs) (m := lim (1 : Rat).den) (by unfold fRat; rw [if_pos rfl]; exact qRight_can 1) (fun _ => (qv_can (1 : Rat).num (1 : Rat).den).trans (Rat.mkRat_self 1))
    rw [hh] at hcall
    have hR0 : hB 9 args ps = true → fRt 9 args ps.length (decide ((1 : Rat).num < 0)) (lim (1 : Rat).num.natAbs) (lim (1 : Rat).den) = 0 := by
      intro hx
      rw [← hh] at hx
      simp only [Bool.and_eq_true, decide_eq_true_eq] at hx
      exact hx.1
    generalize fRt 9 args ps.length (decide ((1 : Rat).num < 0)) (lim (1 : Rat).num.natAbs) (lim (1 : Rat).den) = R at hcall hR0
    first | refine W_rt (by kernel_rfl) (fun K hK => ?_) | refine W_text (by kernel_rfl) (fun K hK => ?_)
    simp [go_sem, add_mk, rowV, rowOk, hB4.cell]
    refine hv_call (by simp [go_sem, add_mk, rowV, rowOk, hB4.cell]) rfl Try.call20 (fun R hR => ?_)
    simp [go_sem, add_mk, rowV, rowOk, hB4.cell]
    refine (hcall _ (ha.ext hA0) hr3 hs3 (hP.ext hA0)).mono ?_
    rintro e w5 ⟨rfl, hE5⟩
    refine ⟨_, rfl, hR _ _ ?_⟩
    clear hR R
    replace hA0 := hA0.next hE5
    replace hB4 := hB4.keep hE5
    simp [go_sem, add_mk, rowV, rowOk, hB4.cell]
    refine hK _ _ ?_; clear hK K
    cases hX : hB 9 args ps with
    | true =>
      have hR1 := hR0 hX
      first | refine W_rt (by kernel_rfl) (fun K hK => ?_) | refine W_text (by kernel_rfl) (fun K hK => ?_)
      simp [go_sem, add_mk, rowV, rowOk, hB4.cell,  hX, hR1]
      refine hK _ _ ?_; clear hK K
      refine W_ret ?_
      repeat (first | refine thenG_ret ?_ | refine inBlock_ret ?_)
      refine ⟨trivial, ?_, hA0⟩
      simp [go_sem, pack, resL, hX, hR1]
    | false =>
      first | refine W_rt (by kernel_rfl) (fun K hK => ?_) | refine W_text (by kernel_rfl) (fun K hK => ?_)
      simp [go_sem, add_mk, rowV, rowOk, hB4.cell,  hX]
      refine hK _ _ ?_; clear hK K
      refine W_ret ?_
      repeat (first | refine thenG_ret ?_ | refine inBlock_ret ?_)
      refine ⟨trivial, ?_, hA0⟩
      simp [go_sem, pack, resL, hX]
  · refine W_if (t := false) (by simp [go_sem, add_mk, rowV, rowOk, hB2.cell,  h9]) rfl ?_
    refine W_skip ?_
    refine hK1 _ _ ?_
    have hcall := fun w1 q1 q4 => fHolds_any k args false [] [] ad none none pa cap 0 0 cap2 s ps w1 q1 hn (RD.nil _ _ _) (RD.nil _ _ _) (Nat.zero_le _) (Nat.zero_le _) q4 hpl hz (by omega)
    have hh := hB_of (k := k) (args := args) (ps := ps) (neg := false) (l := []) (m := []) (by unfold fRat; rw [if_neg h9]; rfl) (fun e => absurd e h9)
    rw [hh] at hcall
    have hR0 : hB k args ps = true → fRt k args ps.length false [] [] = 0 := by
      intro hx
      rw [← hh] at hx
      simp only [Bool.and_eq_true, decide_eq_true_eq] at hx
      exact hx.1
    generalize fRt k args ps.length false [] [] = R at hcall hR0
    first | refine W_rt (by kernel_rfl) (fun K hK => ?_) | refine W_text (by kernel_rfl) (fun K hK => ?_)
    simp [go_sem, add_mk, rowV, rowOk, hB2.cell]
    refine hv_call (by simp [go_sem, add_mk, rowV, rowOk, hB2.cell]) rfl Try.call20 (fun R hR => ?_)
    simp [go_sem, add_mk, rowV, rowOk, hB2.cell]
    refine (hcall _ (ha.ext hA0) (hP.ext hA0)).mono ?_
    rintro e w6 ⟨rfl, hE6⟩
    refine ⟨_, rfl, hR _ _ ?_⟩
    clear hR R
    replace hA0 := hA0.next hE6
    replace hB2 := hB2.keep hE6
    simp [go_sem, add_mk, rowV, rowOk, hB2.cell]
    refine hK _ _ ?_; clear hK K
    cases hX : hB k args ps with
    | true =>
      have hR1 := hR0 hX
      first | refine W_rt (by kernel_rfl) (fun K hK => ?_) | refine W_text (by kernel_rfl) (fun K hK => ?_)
      simp [go_sem, add_mk, rowV, rowOk, hB2.cell,  hX, hR1]
      refine hK _ _ ?_; clear hK K
      refine W_ret ?_
      repeat (first | refine thenG_ret ?_ | refine inBlock_ret ?_)
      refine ⟨trivial, ?_, hA0⟩
      simp [go_sem, pack, resL, hX, hR1]
    | false =>
      first | refine W_rt (by kernel_rfl) (fun K hK => ?_) | refine W_text (by kernel_rfl) (fun K hK => ?_)
      simp [go_sem, add_mk, rowV, rowOk, hB2.cell,  hX]
      refine hK _ _ ?_; clear hK K
      refine W_ret ?_
      repeat (first | refine thenG_ret ?_ | refine inBlock_ret ?_)
      refine ⟨trivial, ?_, hA0⟩
      simp [go_sem, pack, resL, hX]
end Go.Proofs.Ytkampmdekonjmaa
namespace Go.Proofs.Ytkampmdekonjmaa
open Go Go.RowKit Go.V
set_option linter.unusedSimpArgs false
set_option linter.unusedVariables false
set_option maxRecDepth 20000
theorem Reps_alen {w : World} : ∀ {shs : List Sh} {als : List At} {cs : List Value}, Reps w shs als cs → als.length = shs.length
  | [], _, _, h => by obtain ⟨rfl, rfl⟩ := h; rfl
  | sh :: r, _, _, h => by
    obtain ⟨a, l, c1, c2, rfl, rfl, h1, h2, h3⟩ := h
    rw [List.length_cons, List.length_cons, Reps_alen h3]
theorem repVs_sl {w : World} {n : Nat} {shs : List Sh} {r : List (List Sh)} {als : List At} {vs : List Value} (h : RepVs w ((.sl n :: shs) :: r) als vs) :
    ∃ q ad c cs, vs = .slice ad n c :: q ∧ SL w ad cs ∧ Reps w shs (als.take shs.length) cs ∧ RepVs w r (als.drop shs.length) q := by
  obtain ⟨a1, a2, v, q, rfl, rfl, ⟨ad, c, cs, rfl, h1, h2⟩, h3⟩ := h
  have hl := Reps_alen h2
  exact ⟨q, ad, c, cs, rfl, h1, by rw [← hl, List.take_left]; exact h2, by rw [← hl, List.drop_left]; exact h3⟩
theorem repVs_n {w : World} {r : List (List Sh)} {als : List At} {vs : List Value} (h : RepVs w ([.n] :: r) als vs) : ∃ k a2 q, als = .n k :: a2 ∧ vs = .int .i64 k :: q ∧ RepVs w r a2 q := by
  obtain ⟨a1, a2, v, q, rfl, rfl, h1, h3⟩ := h
  obtain ⟨z, rfl, rfl⟩ := repV_n.1 h1
  exact ⟨z, a2, q, rfl, rfl, h3⟩
theorem rows_of_reps {w : World} {ad : Option Addr} : ∀ {ps : List PT} {cs : List Value}, Reps w (ps.flatMap fun _ => [Sh.r, .r]) (ps.flatMap ptA) cs → ∃ rows : List (List Value), rows.flatten = cs ∧ rows.length = ps.length ∧ ∀ (i : Nat) (R : List Value) (p : PT), rows[i]? = some R → ps[i]? = some p → R.length = 6 ∧ RepV w [.r, .r] (ptA p) (.agg R.toArray)
  | [], cs, h => by obtain ⟨_, rfl⟩ := h; exact ⟨[], rfl, rfl, fun i R p h => by simp at h⟩
  | p :: r, cs, h => by
    simp only [List.flatMap_cons] at h
    obtain ⟨x, l, c1, c2, e1, rfl, h1, h2, y, l', c3, c4, e2, rfl, h3, h4, h5⟩ := h
    simp only [ptA, List.cons_append, List.nil_append, List.cons.injEq] at e1
    obtain ⟨rfl, rfl⟩ := e1
    simp only [List.cons.injEq] at e2
    obtain ⟨rfl, rfl⟩ := e2
    obtain ⟨rows, q1, q2, q3⟩ := rows_of_reps (ad := ad) h5
    obtain ⟨a1, b1, a2, b2, g1, g2, g3⟩ := h2
    obtain ⟨a3, b3, a4, b4, g4, g5, g6⟩ := h4
    refine ⟨(c1 ++ c3) :: rows, by rw [List.flatten_cons, q1, List.append_assoc], by simp [q2], fun i R u hR hu => ?_⟩
    rcases i with _ | i
    · simp only [List.getElem?_cons_zero, Option.some.injEq] at hR hu
      subst hR; subst hu
      refine ⟨by rw [g1, g4]; rfl, (RepV_of rfl).2 ⟨c1 ++ c3, ⟨_, [QA.at (.q p.2)], c1, c3, rfl, rfl, h1, ⟨a1, b1, a2, b2, g1, g2, g3⟩, _, [], c3, [], rfl, by simp, h3, ⟨a3, b3, a4, b4, g4, g5, g6⟩, rfl, rfl⟩, rfl⟩⟩
    · exact q3 i R u (by simpa using hR) (by simpa using hu)
theorem rowsR_of {w : World} {ad : Option Addr} {ps : List PT} {cs : List Value} (h : Reps w (ps.flatMap fun _ => [Sh.r, .r]) (ps.flatMap ptA) cs) (hs : SL w ad cs) : RowsR w ad 6 [.r, .r] (ps.map ptA) := by
  obtain ⟨rows, h1, h2, h3⟩ := rows_of_reps (ad := ad) h
  refine ⟨rows, by rw [h1]; exact hs, by rw [h2, List.length_map], fun i R x hR hx => ?_⟩
  rw [List.getElem?_map] at hx
  obtain ⟨p, hp, rfl⟩ := Option.map_eq_some_iff.1 hx
  exact h3 i R p hR hp
theorem ints_of {w : World} : ∀ {l : List Int} {cs : List Value}, Reps w (l.map fun _ => Sh.n) (l.map At.n) cs → cs = intC l
  | [], cs, h => by obtain ⟨_, rfl⟩ := h; rfl
  | z :: r, cs, h => by
    obtain ⟨x, l, c1, c2, e1, rfl, h1, h2, h3⟩ := h
    simp only [List.map_cons, List.cons.injEq] at e1
    obtain ⟨rfl, rfl⟩ := e1
    simp only [At.Rep] at h2
    rw [h2, ints_of h3]; rfl
theorem cq_open {g : List QA → Option (List QA)} {als r : List At} (h : cq g als = some r) : ∃ l r', als = l.map QA.at ∧ g l = some r' ∧ r = r'.map QA.at := by
  unfold cq at h
  split at h
  · rename_i l hl
    refine ⟨l, ?_⟩
    cases hg : g l with
    | none => rw [hg] at h; cases h
    | some r' =>
      rw [hg] at h
      exact ⟨r', toQs_some hl, rfl, (Option.some.inj h).symm⟩
  · cases h
/-- holds, of so many points and arguments -/
theorem holdsC {s : Nat} {w : World} {vs : List Value} {ps : List PT} {k : Int} {args : List Int} (hs : s ≤ 2900)
    (hr : RepVs w [.sl ps.length :: (ps.flatMap fun _ => [Sh.r, .r]), [.n], .sl args.length :: (args.map fun _ => Sh.n)] (ps.flatMap ptA ++ .n k :: args.map At.n) vs) (hz : ∀ a ∈ ps.flatMap ptA ++ .n k :: args.map At.n, a.sz ≤ s) (hp : ps.length ≤ 8) (ha : args.length ≤ 8) :
    Calls Try.prog 22 vs.toArray w fun e w' => ∃ rvs, e = .returned (pack rvs) ∧ RepVs w' [[.b]] [.b (hB k args ps)] rvs ∧ (∀ a ∈ [At.b (hB k args ps)], a.sz ≤ 0 * s + 0) ∧ Below w.heap.size w w' := by
  have hlen : (ps.flatMap fun _ => [Sh.r, .r]).length = (ps.flatMap ptA).length := by
    clear hr hz hp
    induction ps with
    | nil => rfl
    | cons p r ih => simp only [List.flatMap_cons, List.length_append, ih]; rfl
  obtain ⟨q, ad, c, cs, rfl, h1, h2, h3⟩ := repVs_sl hr
  rw [hlen, List.take_left] at h2
  rw [hlen, List.drop_left] at h3
  obtain ⟨k', a2, q2, e1, rfl, h4⟩ := repVs_n h3
  simp only [List.cons.injEq, At.n.injEq] at e1
  obtain ⟨rfl, rfl⟩ := e1
  obtain ⟨q3, ad2, c2, cs2, rfl, h5, h6, h7⟩ := repVs_sl h4
  obtain ⟨_, rfl⟩ := h7
  rw [List.take_of_length_le (by simp)] at h6
  have hi := ints_of h6
  subst hi
  refine (lholds_any k args ad2 ad c2 c s ps w h5 (by unfold maxLen; omega) (rowsR_of h2 h1) (by unfold maxLen; omega) (fun p hp' => ⟨hz _ (List.mem_append_left _ (List.mem_flatMap.2 ⟨p, hp', by simp [ptA]⟩)), hz _ (List.mem_append_left _ (List.mem_flatMap.2 ⟨p, hp', by simp [ptA]⟩))⟩) hs).mono ?_
  rintro e w' ⟨rfl, hE⟩
  exact ⟨[.bool (hB k args ps)], rfl, ⟨_, [], _, [], by simp, rfl, repV_b.2 ⟨_, rfl, rfl⟩, rfl, rfl⟩, fun a ha => by rw [List.mem_singleton.1 ha]; exact Nat.zero_le _, hE⟩
def g_h33 : List QA → Option (List QA)
  | [.q a1, .q b1, .q a2, .q b2, .q a3, .q b3, .n k, .n i, .n j, .n l] => some [.b (hB k [i, j, l] [(a1, b1), (a2, b2), (a3, b3)])]
  | _ => none
def g_h34 : List QA → Option (List QA)
  | [.q a1, .q b1, .q a2, .q b2, .q a3, .q b3, .n k, .n i, .n j, .n l, .n m] => some [.b (hB k [i, j, l, m] [(a1, b1), (a2, b2), (a3, b3)])]
  | _ => none
def g_h43 : List QA → Option (List QA)
  | [.q a1, .q b1, .q a2, .q b2, .q a3, .q b3, .q a4, .q b4, .n k, .n i, .n j, .n l] => some [.b (hB k [i, j, l] [(a1, b1), (a2, b2), (a3, b3), (a4, b4)])]
  | _ => none
def g_h44 : List QA → Option (List QA)
  | [.q a1, .q b1, .q a2, .q b2, .q a3, .q b3, .q a4, .q b4, .n k, .n i, .n j, .n l, .n m] => some [.b (hB k [i, j, l, m] [(a1, b1), (a2, b2), (a3, b3), (a4, b4)])]
  | _ => none
def ct_h33 : Ct := { args := [[(.sl 3), .r, .r, .r, .r, .r, .r], [.n], [(.sl 3), .n, .n, .n]], res := [[.b]], F := cq g_h33, L := 2900, A := 0, B := 0 }
theorem ctF_h33 : ct_h33.F = cq g_h33 := rfl
theorem ok_h33 : ct_h33.ok Try.prog 22 := by
  intro s w vs als r hs hr hz hF
  obtain ⟨l, r', rfl, hg, rfl⟩ := cq_open hF
  unfold g_h33 at hg
  split at hg
  · rename_i a1 b1 a2 b2 a3 b3 k i j l
    injection hg with hg; subst hg
    exact holdsC (ps := [(a1, b1), (a2, b2), (a3, b3)]) (k := k) (args := [i, j, l]) hs hr hz (by simp) (by simp)
  · cases hg
def ct_h34 : Ct := { args := [[(.sl 3), .r, .r, .r, .r, .r, .r], [.n], [(.sl 4), .n, .n, .n, .n]], res := [[.b]], F := cq g_h34, L := 2900, A := 0, B := 0 }
theorem ctF_h34 : ct_h34.F = cq g_h34 := rfl
theorem ok_h34 : ct_h34.ok Try.prog 22 := by
  intro s w vs als r hs hr hz hF
  obtain ⟨l, r', rfl, hg, rfl⟩ := cq_open hF
  unfold g_h34 at hg
  split at hg
  · rename_i a1 b1 a2 b2 a3 b3 k i j l m
    injection hg with hg; subst hg
    exact holdsC (ps := [(a1, b1), (a2, b2), (a3, b3)]) (k := k) (args := [i, j, l, m]) hs hr hz (by simp) (by simp)
  · cases hg
def ct_h43 : Ct := { args := [[(.sl 4), .r, .r, .r, .r, .r, .r, .r, .r], [.n], [(.sl 3), .n, .n, .n]], res := [[.b]], F := cq g_h43, L := 2900, A := 0, B := 0 }
theorem ctF_h43 : ct_h43.F = cq g_h43 := rfl
theorem ok_h43 : ct_h43.ok Try.prog 22 := by
  intro s w vs als r hs hr hz hF
  obtain ⟨l, r', rfl, hg, rfl⟩ := cq_open hF
  unfold g_h43 at hg
  split at hg
  · rename_i a1 b1 a2 b2 a3 b3 a4 b4 k i j l
    injection hg with hg; subst hg
    exact holdsC (ps := [(a1, b1), (a2, b2), (a3, b3), (a4, b4)]) (k := k) (args := [i, j, l]) hs hr hz (by simp) (by simp)
  · cases hg
def ct_h44 : Ct := { args := [[(.sl 4), .r, .r, .r, .r, .r, .r, .r, .r], [.n], [(.sl 4), .n, .n, .n, .n]], res := [[.b]], F := cq g_h44, L := 2900, A := 0, B := 0 }
theorem ctF_h44 : ct_h44.F = cq g_h44 := rfl
theorem ok_h44 : ct_h44.ok Try.prog 22 := by
  intro s w vs als r hs hr hz hF
  obtain ⟨l, r', rfl, hg, rfl⟩ := cq_open hF
  unfold g_h44 at hg
  split at hg
  · rename_i a1 b1 a2 b2 a3 b3 a4 b4 k i j l m
    injection hg with hg; subst hg
    exact holdsC (ps := [(a1, b1), (a2, b2), (a3, b3), (a4, b4)]) (k := k) (args := [i, j, l, m]) hs hr hz (by simp) (by simp)
  · cases hg
/-! ### What is the same -/
theorem hB_in {k : Int} {args : List Int} {ps : List PT} (h : okA k args ps.length = true) : hB k args ps = fHolds k (ptOf (gath ps args)) 1 := by unfold hB; rw [h, Bool.true_and]
def GA14 : Gam := gamOf [(22, ct_h33), (8214, ct_h34), (16406, ct_h43), (24598, ct_h44), (39, ct_drof)]
theorem GA14_ok : GamOk Try.prog GA14 := gamOk_of ⟨ok_h33, ok_h34, ok_h43, ok_h44, ok_drof, trivial⟩
theorem GA14_h33 : GA14 22 = some ct_h33 := rfl
theorem GA14_h34 : GA14 8214 = some ct_h34 := rfl
theorem GA14_h43 : GA14 16406 = some ct_h43 := rfl
theorem GA14_h44 : GA14 24598 = some ct_h44 := rfl
theorem GA14_drof : GA14 39 = some ct_drof := rfl
def tr_awake14 : Tr (List SA) := (.call 39 [(.n (.lit 0))] 0 (.call 39 [(.n (.lit 0))] 1 (.call 39 [(.n (.lit 1))] 2 (.call 39 [(.n (.lit 1))] 3 (.call 39 [(.n (.lit 2))] 4 (.call 39 [(.n (.lit 2))] 5 (.call 39 [(.n (.lit 1))] 6 (.call 39 [(.n (.lit 0))] 7 (.call 16406 [(.ob 0), (.ob 1), (.ob 2), (.ob 3), (.ob 4), (.ob 5), (.ob 6), (.ob 7), (.n (.lit 1)), (.n (.lit 0)), (.n (.lit 1)), (.n (.lit 2))] 8 (.br (.var 8) (.call 16406 [(.ob 0), (.ob 1), (.ob 2), (.ob 3), (.ob 4), (.ob 5), (.ob 6), (.ob 7), (.n (.lit 1)), (.n (.lit 0)), (.n (.lit 1)), (.n (.lit 3))] 9 (.leaf [(.b (.not (.var 9)))])) (.leaf [(.b (.lit false))])))))))))))
theorem ev_awake14 : Ct.ok Try.prog 17 { args := [], res := [[.b]], F := fun als => tr_awake14.den GA14 (env0 als), L := 100, A := 0, B := 0 } :=
  top_ok (by kernel_rfl) GA14_ok (plans := planF) (lf := 60) (k := 20) (by kernel_rfl)
theorem inI0' : inI 0 = True := eq_true (by decide)
theorem cast0' : ((0 : Int) : Rat) = 0 := rfl
theorem aw1 : hB 1 [0, 1, 2] [(0, 0), (1, 1), (2, 2), (1, 0)] = true := by
  rw [hB_in (by rfl)]; unfold fHolds; rw [fv1]
  simp only [gath, ptOf, List.map_cons, List.map_nil, List.all_cons, List.all_nil, Bool.and_true, decide_eq_true_eq]
  show crP (0, 0) (1, 1) (0, 0) (2, 2) = 0
  unfold crP pcross; grind
theorem aw2 : hB 1 [0, 1, 3] [(0, 0), (1, 1), (2, 2), (1, 0)] = false := by
  rw [hB_in (by rfl)]; unfold fHolds; rw [fv1]
  simp only [gath, ptOf, List.map_cons, List.map_nil, List.all_cons, List.all_nil, Bool.and_true, decide_eq_false_iff_not]
  show ¬ crP (0, 0) (1, 1) (0, 0) (1, 0) = 0
  unfold crP pcross; grind
theorem awake14_den : tr_awake14.den GA14 (env0 []) = some [.b true] := by
  simp only [tr_awake14, Tr.den, evAll, SA.ev, BE.ev, IE.ev, SE.ev, LE.ev, env0, extE_eq, pickO, op1, op2, op3, Nat.reduceLeDiff, Nat.reduceSub, Nat.reduceEqDiff, if_true, if_false, ite_true, ite_false, decide_true, decide_false, Bool.not_true, Bool.not_false, Nat.zero_le, Nat.sub_zero, List.getElem?_cons_zero, List.getElem?_cons_succ, List.getElem?_nil, cq0, cq1, cq2, cq3, cq4, cq5, cq6, cq7, cq8, cq9, cq10, cq12, cq16, outQ1, outQ2, outQ3, outQ4, outQ5, evN_at, evB_at, evS_at, evLen_z1, evLen_z2, evBit_z, at_n, at_b, at_s, at_z, at_k, at_kb, kG, kQ, kQ1, List.map_cons, List.map_nil, List.cons_append, List.nil_append, decide_eq_true_eq, Bool.false_eq_true, GA14_h33, ctF_h33, GA14_h34, ctF_h34, GA14_h43, ctF_h43, GA14_h44, ctF_h44, GA14_drof, ctF_drof, g_of, inI0', inI1, inI2, cast0', cast1, cast2, g_h43, aw1, aw2]
def f_aw : List At → Option (List At)
  | [] => some [.kb true]
  | _ => none
theorem f_aw0 : f_aw [] = some [.kb true] := rfl
def ct_awake14 : Ct := { args := [], res := [[(.kb true)]], F := f_aw, L := 1048576, A := 0, B := 0 }
theorem ok_awake14 : ct_awake14.ok Try.prog 17 := by
  intro s w vs als r' hs hr hz hF
  cases als with
  | cons a r => cases hF
  | nil =>
    injection hF with hF; subst hF
    refine (ev_awake14 0 w vs [] _ (Nat.zero_le _) hr (fun a h => by cases h) awake14_den).mono ?_
    rintro e w' ⟨rvs, he, hrv, hsz, hE⟩
    refine ⟨rvs, he, ?_, fun a ha => by rw [List.mem_singleton.1 ha]; exact Nat.zero_le _, hE⟩
    obtain ⟨v, rfl, h1⟩ := vs1 hrv
    obtain ⟨z, e1, rfl⟩ := repV_b.1 h1
    simp only [List.cons.injEq, At.b.injEq, and_true] at e1
    subst e1
    exact ⟨_, [], _, [], by simp, rfl, (RepV_of rfl).2 ⟨[.bool true], ⟨.kb true, [], [.bool true], [], rfl, rfl, rfl, rfl, rfl, rfl⟩, rfl⟩, rfl, rfl⟩
/-! ### Whether points fit, as a contract -/
end Go.Proofs.Ytkampmdekonjmaa
namespace Go.Proofs.Ytkampmdekonjmaa
open Go Go.RowKit Go.V
set_option linter.unusedSimpArgs false
set_option linter.unusedVariables false
set_option maxRecDepth 20000
section
variable (a b c d : PT)
end
end Go.Proofs.Ytkampmdekonjmaa
