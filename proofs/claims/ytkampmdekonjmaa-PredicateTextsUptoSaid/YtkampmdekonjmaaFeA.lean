/- PredicateTexts. -/
import Derived.Test.YtkampmdekonjmaaFe9
namespace Go.Proofs.Ytkampmdekonjmaa
open Go Go.RowKit Go.V Go.ChangeMaps
set_option linter.unusedSimpArgs false
set_option linter.unusedVariables false
set_option maxRecDepth 20000
set_option maxHeartbeats 2000000 in
theorem predicateTexts_any {v u : Value} {B C : Nat} {w : World} (hv : FactV w v B) (hu : NamesV w u C) (hB : B ≤ 1048576) (hC : C ≤ 1048576) :
    Calls Try.prog 4 #[v, u] w fun e w' => e = .returned (.bool true) ∧ Below w.heap.size w w' := by
  obtain ⟨k, args, neg, l, m, ad, a, b, cap, c, d, rfl, ha, hn, hr, hs, hl, hm, _⟩ := hv
  obtain ⟨xs, pa, cap2, rfl, hX, hxn, hxz⟩ := hu
  have hxz' : ∀ x ∈ xs, x.length ≤ 1048576 := fun x hx => Nat.le_trans (hxz x hx) hC
  refine calls_of_W (args := [.agg #[.int .i64 k, .slice ad args.length cap, .bool neg, .slice a l.length c, .slice b m.length d], .slice pa xs.length cap2]) (rs := [.tmp 4]) (n := 47) Try.func4 rfl rfl rfl (by kernel_rfl) ?_
  have hA0 := Below.refl w.heap.size w
  first | refine W_rt (by kernel_rfl) (fun K hK => ?_) | refine W_text (by kernel_rfl) (fun K hK => ?_)
  simp [go_sem, add_mk, rowV, rowOk]
  refine hv_box #[.int .i64 k, .slice ad args.length cap, .bool neg, .slice a l.length c, .slice b m.length d] (by simp [go_sem, add_mk, rowV, rowOk]) rfl (by simp [go_sem, Value.cells, add_mk, rowV, rowOk]) (fun w1 b1 hE1 hle1 hB1 => ?_)
  have hb1_0 := Nat.le_trans hA0.size hle1
  replace hA0 := hA0.next hE1
  simp [go_sem, add_mk, rowV, rowOk, hB1.cell]
  refine hK _ _ ?_; clear hK K
  refine W_seq (fun K1 hK1 => ?_)
  by_cases h1 : (40 : Int) < xs.length
  · first | refine W_rt (by kernel_rfl) (fun K hK => ?_) | refine W_text (by kernel_rfl) (fun K hK => ?_)
    simp [go_sem, add_mk, rowV, rowOk, hB1.cell,  h1]
    refine hK _ _ ?_; clear hK K
    refine W_if (t := true) (by simp [go_sem, add_mk, rowV, rowOk, hB1.cell, h1]) rfl ?_
    first | refine W_rt (by kernel_rfl) (fun K hK => ?_) | refine W_text (by kernel_rfl) (fun K hK => ?_)
    simp [go_sem, add_mk, rowV, rowOk, hB1.cell]
    refine hK _ _ ?_; clear hK K
    refine W_ret ?_
    repeat (first | refine thenG_ret ?_ | refine inBlock_ret ?_)
    refine ⟨trivial, ?_, hA0⟩
    simp [go_sem, pack, resL]
  by_cases h2 : (8 : Int) < l.length
  · first | refine W_rt (by kernel_rfl) (fun K hK => ?_) | refine W_text (by kernel_rfl) (fun K hK => ?_)
    simp [go_sem, add_mk, rowV, rowOk, hB1.cell,  h1, h2]
    refine hK _ _ ?_; clear hK K
    refine W_if (t := true) (by simp [go_sem, add_mk, rowV, rowOk, hB1.cell, h1, h2]) rfl ?_
    first | refine W_rt (by kernel_rfl) (fun K hK => ?_) | refine W_text (by kernel_rfl) (fun K hK => ?_)
    simp [go_sem, add_mk, rowV, rowOk, hB1.cell]
    refine hK _ _ ?_; clear hK K
    refine W_ret ?_
    repeat (first | refine thenG_ret ?_ | refine inBlock_ret ?_)
    refine ⟨trivial, ?_, hA0⟩
    simp [go_sem, pack, resL]
  by_cases h3 : (8 : Int) < m.length
  · first | refine W_rt (by kernel_rfl) (fun K hK => ?_) | refine W_text (by kernel_rfl) (fun K hK => ?_)
    simp [go_sem, add_mk, rowV, rowOk, hB1.cell,  h1, h2, h3]
    refine hK _ _ ?_; clear hK K
    refine W_if (t := true) (by simp [go_sem, add_mk, rowV, rowOk, hB1.cell, h1, h2, h3]) rfl ?_
    first | refine W_rt (by kernel_rfl) (fun K hK => ?_) | refine W_text (by kernel_rfl) (fun K hK => ?_)
    simp [go_sem, add_mk, rowV, rowOk, hB1.cell]
    refine hK _ _ ?_; clear hK K
    refine W_ret ?_
    repeat (first | refine thenG_ret ?_ | refine inBlock_ret ?_)
    refine ⟨trivial, ?_, hA0⟩
    simp [go_sem, pack, resL]
  first | refine W_rt (by kernel_rfl) (fun K hK => ?_) | refine W_text (by kernel_rfl) (fun K hK => ?_)
  simp [go_sem, add_mk, rowV, rowOk, hB1.cell,  h1, h2, h3]
  refine hK _ _ ?_; clear hK K
  refine W_if (t := false) (by simp [go_sem, add_mk, rowV, rowOk, hB1.cell,  h1, h2, h3]) rfl ?_
  refine W_skip ?_
  refine hK1 _ _ ?_
  first | refine W_rt (by kernel_rfl) (fun K hK => ?_) | refine W_text (by kernel_rfl) (fun K hK => ?_)
  simp [go_sem, add_mk, rowV, rowOk, hB1.cell]
  refine hv_call (by simp [go_sem, add_mk, rowV, rowOk, hB1.cell]) rfl Try.call12 (fun R hR => ?_)
  simp [go_sem, add_mk, rowV, rowOk, hB1.cell]
  refine (fText_any k args neg l m ad a b pa cap c d cap2 xs _ (ha.ext hA0) hn (hr.ext hA0) (hs.ext hA0) (by omega) (by omega) (hX.ext hA0) hxn hxz').mono ?_
  rintro e w2 ⟨rfl, hE2⟩
  refine ⟨_, rfl, hR _ _ ?_⟩
  clear hR R
  replace hA0 := hA0.next hE2
  replace hB1 := hB1.keep hE2
  simp [go_sem, add_mk, rowV, rowOk, hB1.cell]
  refine hK _ _ ?_; clear hK K
  first | refine W_rt (by kernel_rfl) (fun K hK => ?_) | refine W_text (by kernel_rfl) (fun K hK => ?_)
  simp [go_sem, add_mk, rowV, rowOk, hB1.cell]
  refine hv_call (by simp [go_sem, add_mk, rowV, rowOk, hB1.cell]) rfl Try.call13 (fun R hR => ?_)
  simp [go_sem, add_mk, rowV, rowOk, hB1.cell]
  refine (gText_any k args neg l m ad a b pa cap c d cap2 xs _ (ha.ext hA0) hn (hr.ext hA0) (hs.ext hA0) (by omega) (by omega) (hX.ext hA0) hxn hxz').mono ?_
  rintro e w3 ⟨rfl, hE3⟩
  refine ⟨_, rfl, hR _ _ ?_⟩
  clear hR R
  replace hA0 := hA0.next hE3
  replace hB1 := hB1.keep hE3
  simp [go_sem, add_mk, rowV, rowOk, hB1.cell]
  refine hK _ _ ?_; clear hK K
  first | refine W_rt (by kernel_rfl) (fun K hK => ?_) | refine W_text (by kernel_rfl) (fun K hK => ?_)
  simp [go_sem, add_mk, rowV, rowOk, hB1.cell]
  refine hK _ _ ?_; clear hK K
  refine W_ret ?_
  repeat (first | refine thenG_ret ?_ | refine inBlock_ret ?_)
  refine ⟨trivial, ?_, hA0⟩
  simp [go_sem, pack, resL]
set_option maxRecDepth 100000 in
theorem predicateTexts_liftedU (os : Os) (started : os.Started) (H : Type) (enc : TypeId × Value → H) (F : Stop.Interp) :
    ReturnsInHanded {} Try.checked os 4 .any ((Rows.OpenSpec.upto Rows.predicateTextsSpec).pre6 enc Try.prog Try.f4 Rows.predicateTextsUptoRow.domain false) (((Rows.OpenSpec.upto Rows.predicateTextsSpec).at F).post enc Try.prog Try.f4 false true false false) := by
  refine law_liftedU (C := Try.checked) (s := Rows.predicateTextsSpec) Try.own Try.laidOut (by kernel_rfl) Try.func4 rfl 4 rfl Try.underlying4 (by kernel_rfl) enc ?_ ?_ os started F
    (OpenSpec.witness (enc := enc) (C := Try.checked) (s := Rows.OpenSpec.upto Rows.predicateTextsSpec) (k := Rows.uptoSmall) rfl false ⟨#[], #[.agg #[.int .i64 0, .slice none 0 0, .bool false, .slice none 0 0, .slice none 0 0], .slice none 0 0], []⟩ 8 (by kernel_rfl) (by kernel_rfl) (by kernel_rfl) (x := ([.agg [.lit (.int .i64 0), .nil, .agg [.agg [.lit (.bool false), .nil], .nil]], .nil], [], [])) (by kernel_rfl) rfl (by kernel_rfl))
  · intro ds hl
    match ds, hl with
    | [d0, d1], _ => rfl
  · intro W base args ds ps hval hA hlt hk
    have hA' : DataW.TrodAll enc Try.prog W 0 (fun _ => true) true [30, 35] args.toList ds ps := hA
    have hval' : ∀ (j : Nat) t v, Try.f4.params[j]? = some t → args[j]? = some v → Value.okWide Try.prog W .any base t v := hval
    obtain ⟨v0, v1, d0, d1, p0, p1, rfl, rfl, rfl, h0, h1⟩ := Go.ChangeShapes.trodAll_two hA'
    simp only [Rows.uptoBulkAll] at hk
    have hb_f : Rows.uptoBulk d0 ≤ 1048576 := by omega
    obtain ⟨als_f, hr_f, hg_f⟩ := open_Fact (hval' 0 30 v0 rfl rfl) h0
    have hb_n : Rows.uptoBulk d1 ≤ 1048576 := by omega
    obtain ⟨als_n, hr_n, hg_n⟩ := open_Names (hval' 1 35 v1 rfl rfl) h1
    exact predicateTexts_any hg_f hg_n hb_f hb_n

theorem predicateTextsUpto_holds : Rows.PredicateTextsUptoSaid :=
  OpenClaim.holds_of_cond 4 Try.f4 rfl rfl rfl rfl rfl rfl rfl ⟨rfl, rfl, rfl, rfl, rfl⟩ rfl rfl rfl rfl rfl (by kernel_rfl) Try.func4 (by kernel_rfl)
    (of_decide_eq_true (by kernel_rfl)) (by unfold Func.isWrapper; first | (rw [if_pos (by decide +kernel)]; kernel_rfl) | (rw [if_neg (by decide +kernel)]; exact ⟨rfl, rfl⟩))
    (fun os started H enc _ F => predicateTexts_liftedU os started H enc F)
end Go.Proofs.Ytkampmdekonjmaa
