/- LexerNames: the keywords are those of the reference, none of them is a name, each with a digit behind it is one, and whether a string is a name is answered alike, for every string. No condition. -/
import Derived.Test.YtdhomomiejebdaaLx3
import Derived.Test.YtdhomomiejebdaaRow
namespace Go.Proofs.Ytdhomomiejebdaa
open Go.RowKit Go.V Go.ChangeMaps
set_option linter.unusedSimpArgs false
set_option linter.unusedVariables false

theorem kw_one : ∀ k, k < 29 → nameB (kwAt k ++ [49]) = true ∧ (kwAt k).length ≤ 20 := by decide +kernel
theorem kw_not (k : Nat) (hk : k < 29) : nameB (kwAt k) = false := by simp [nameB, KW_hit _ k hk rfl]
theorem bs_app (s u : ByteArray) : bs (s ++ u) = bs s ++ bs u := by simp [bs]
theorem mk_size (l : List UInt8) : (⟨l.toArray⟩ : ByteArray).size = l.length := by simp [ByteArray.size]

set_option maxHeartbeats 1000000 in
theorem lexerNames_any (s : ByteArray) (w : World) (hs : s.size ≤ maxLen) :
    Calls Try.prog 3 #[.string s] w fun e w' => e = .returned (.bool true) ∧ Below w.heap.size w w' := by
  refine calls_of_W (args := [.string s]) (rs := [.tmp 2]) (n := 49) Try.func3 rfl rfl rfl (by kernel_rfl) ?_
  refine W_rt (by kernel_rfl) (fun K hK => ?_)
  simp [go_sem]
  refine hK _ _ ?_; clear hK K
  refine W_rt (by kernel_rfl) (fun K hK => ?_)
  simp [go_sem]
  refine hv_call (by simp [go_sem]) rfl Try.call8 (fun R hR => ?_)
  simp [go_sem]
  refine (kwr_any _).mono ?_
  rintro e w1 ⟨b1, rfl, hE1, hle1, hb1⟩
  refine ⟨_, rfl, hR _ _ ?_⟩
  clear hR R
  simp [go_sem]
  refine hK _ _ ?_; clear hK K
  refine W_rt (by kernel_rfl) (fun K hK => ?_)
  simp [go_sem]
  refine hv_call (by simp [go_sem]) rfl Try.call9 (fun R hR => ?_)
  simp [go_sem]
  refine (kw_any _).mono ?_
  rintro e w2 ⟨b2, rfl, hE2, hle2, hb2⟩
  refine ⟨_, rfl, hR _ _ ?_⟩
  clear hR R
  have hE : Below w.heap.size w w2 := hE1.next hE2
  replace hb1 := hb1.keep hE2
  simp [go_sem]
  refine hK _ _ ?_; clear hK K
  refine W_seq (fun K1 hK1 => ?_)
  refine W_rt (by kernel_rfl) (fun K hK => ?_)
  simp [go_sem]
  refine hK _ _ ?_; clear hK K
  refine W_if (by simp [go_sem]; rfl) rfl ?_
  refine W_skip (hK1 _ _ ?_); clear hK1 K1
  refine W_seq (fun K1 hK1 => ?_)
  refine W_rt (by kernel_rfl) (fun K hK => ?_)
  simp [go_sem]
  refine hK _ _ ?_; clear hK K
  refine W_block ?_
  refine W_loop (fun m g w' => Below w.heap.size w w' ∧ Bx w' b1 KWC 9 ∧ Bx w' b2 KWC 9 ∧ ∃ k : Nat, k ≤ 29 ∧ m = 29 - k ∧ g 0 = .string s ∧ g 3 = .slice (some ⟨b1, 0, none⟩) 29 29 ∧ g 4 = .slice (some ⟨b2, 0, none⟩) 29 29 ∧ g 14 = .int .i64 29 ∧ g 15 = .int .i64 k) 29 ?_ ?_
  · exact ⟨hE, hb1, hb2, 0, by omega, rfl, by simp [go_sem], by simp [go_sem], by simp [go_sem], by simp [go_sem], by simp [go_sem]⟩
  · rintro m g w' ⟨hE, hb1, hb2, k, h1, rfl, g0, g3, g4, g14, g15⟩
    by_cases hlt : k < 29
    · have hlt' : (k : Int) < 29 := by omega
      refine W_rt (by kernel_rfl) (fun K hK => ?_)
      simp [go_sem, g14, g15, hlt']
      refine hK _ _ ?_; clear hK K
      refine W_seq (fun K2 hK2 => ?_)
      refine W_if (by simp [go_sem]; rfl) rfl ?_
      refine W_skip (hK2 _ _ ?_); clear hK2 K2
      refine W_seq (fun K2 hK2 => ?_)
      refine W_block ?_
      refine W_rt (by kernel_rfl) (fun K hK => ?_)
      simp [go_sem, g15]
      refine hK _ _ ?_; clear hK K
      have hD := Below.drew1 w'
      have hd1 := (hb1.keep hD).cell k
      have hd2 := (hb2.keep hD).cell k
      rw [KWC_get k hlt] at hd1 hd2
      obtain ⟨hone, hlen⟩ := kw_one k hlt
      have ek : bs ⟨(kwAt k).toArray⟩ = kwAt k := bs_mk _
      have esz := mk_size (kwAt k)
      refine W_rdJ (fun g' w4 => Below w.heap.size w w4 ∧ Bx w4 b1 KWC 9 ∧ Bx w4 b2 KWC 9 ∧ g' 0 = .string s ∧ g' 3 = .slice (some ⟨b1, 0, none⟩) 29 29 ∧ g' 4 = .slice (some ⟨b2, 0, none⟩) 29 29 ∧ g' 14 = .int .i64 29 ∧ g' 15 = .int .i64 k ∧ g' 42 = .bool false) [(0, 0), (1, 0), (2, 0), (3, 0), (4, 0), (5, 0), (6, 0), (7, 0), (8, 0), (9, 0), (10, 0), (11, 0), (12, 0), (13, 0), (14, 1), (15, 0), (16, 0), (17, 0), (18, 0), (19, 0), (20, 0), (21, 0), (22, 1), (23, 0), (24, 0)] (by kernel_rfl) (by kernel_rfl) ?_ ?_
      · simp [go_sem, g3, g4, g15, hd1, hd2, strV, ek, hlt']
        refine hv_call (by simp [go_sem]) rfl Try.call10 (fun R hR => ?_)
        simp [go_sem]
        refine (isName_any _ _ (by rw [mk_size]; unfold maxLen; omega)).mono ?_
        rintro e w5 ⟨rfl, hE5⟩
        refine ⟨_, rfl, hE5, hR _ _ ?_⟩
        clear hR R
        replace hb1 := (hb1.keep hD).keep hE5
        replace hb2 := (hb2.keep hD).keep hE5
        replace hE := (hE.next hD).next hE5
        have hd1 := hb1.cell k
        rw [KWC_get k hlt] at hd1
        have enot := kw_not k hlt
        have ebig : (kwAt k).length + 1 ≤ 9223372036854775807 := by omega
        simp [go_sem, g3, g4, g15, hd1, strV, ek, hlt', enot, esz, ebig, mk_size]
        refine hv_call (by simp [go_sem]) rfl Try.call10 (fun R hR => ?_)
        simp [go_sem]
        refine (isName_any _ _ (by rw [ByteArray.size_append, mk_size]; unfold maxLen; simp [ByteArray.size]; omega)).mono ?_
        rintro e w6 ⟨rfl, hE6⟩
        refine ⟨_, rfl, hE6, hR _ _ ?_⟩
        clear hR R
        have eyes : nameB (bs (⟨(kwAt k).toArray⟩ ++ ⟨#[49]⟩)) = true := by
          rw [bs_app, bs_mk]; exact hone
        simp [go_sem, g0, g3, g4, g14, g15, eyes]
        exact ⟨hE.next hE6, hb1.keep hE6, hb2.keep hE6⟩
      · rintro g' w4 ⟨hE, hb1, hb2, g0, g3, g4, g14, g15, g42⟩
        refine W_if g42 rfl ?_
        refine W_skip ?_
        refine hK2 _ _ ?_; clear hK2 K2
        refine W_text (by kernel_rfl) (fun K hK => ?_)
        simp [go_sem, g15]
        refine hK _ _ ⟨29 - (k + 1), by omega, hE, hb1, hb2, k + 1, by omega, rfl, ?_, ?_, ?_, ?_, ?_⟩
        all_goals simp (disch := omega) [go_sem, g0, g3, g4, g14, g15, IntWalk.i64_in]
    · have hlt' : ¬ (k : Int) < 29 := by omega
      refine W_rt (by kernel_rfl) (fun K hK => ?_)
      simp [go_sem, g14, g15, hlt']
      refine hK _ _ ?_; clear hK K
      refine W_seq (fun K2 hK2 => ?_)
      refine W_if (by simp [go_sem]; rfl) rfl ?_
      refine W_exit ?_
      repeat (first | refine thenG_exit ?_ | refine inBlock_other rfl ?_ | refine inBlock_same ?_)
      refine hK1 _ _ ?_; clear hK1 K1 hK2 K2
      refine W_rt (by kernel_rfl) (fun K hK => ?_)
      simp [go_sem, g0]
      refine hv_call (by simp [go_sem]) rfl Try.call10 (fun R hR => ?_)
      simp [go_sem]
      refine (isName_any s _ hs).mono ?_
      rintro e w5 ⟨rfl, hE5⟩
      refine ⟨_, rfl, hR _ _ ?_⟩
      clear hR R
      simp [go_sem, g0]
      refine hv_call (by simp [go_sem]) rfl Try.call11 (fun R hR => ?_)
      simp [go_sem]
      refine (isNameR_any s _ hs).mono ?_
      rintro e w6 ⟨rfl, hE6⟩
      refine ⟨_, rfl, hR _ _ ?_⟩
      clear hR R
      simp [go_sem]
      refine hK _ _ ?_; clear hK K
      refine W_ret ⟨trivial, ?_, (hE.next hE5).next hE6⟩
      simp [go_sem, pack, resL]

theorem Try.own : ownKnob Try.prog.godebug = none := by kernel_rfl
theorem Try.laidOut : laidOutB Try.prog = true := by kernel_rfl

set_option maxRecDepth 100000 in
theorem lexerNames_lifted (os : Os) (started : os.Started) (H : Type) (enc : TypeId × Value → H) :
    ReturnsInHanded {} Try.checked os 3 .any (Rows.lexerNamesSpec.pre6 enc Try.prog Try.f3 Rows.lexerNamesRow.domain false) (Rows.lexerNamesSpec.post enc Try.prog Try.f3 false true false false) := by
  refine law_lifted (C := Try.checked) (s := Rows.lexerNamesSpec) Try.own Try.laidOut (by kernel_rfl) Try.func3 rfl 4 rfl Try.underlying4 (by kernel_rfl) enc ?_ ?_ os started
    (ChangeSpec.witness6 (enc := enc) (C := Try.checked) false ⟨#[], #[.string ⟨#[]⟩], []⟩ 8 (by kernel_rfl) (by kernel_rfl) (by kernel_rfl) (by kernel_rfl))
  · intro ds hl
    match ds, hl with
    | [d], _ => rfl
  · intro W base args ds ps hval hA hlt _
    have hA' : DataW.TrodAll enc Try.prog W 0 (fun _ => true) true [9] args.toList ds ps := hA
    have hval' : ∀ (j : Nat) t v, Try.f3.params[j]? = some t → args[j]? = some v → Value.okWide Try.prog W .any base t v := hval
    obtain ⟨v0, d0, rfl, rfl, h0⟩ := Go.ChangeShapes.trodAll_one hA'
    obtain ⟨s, rfl, rfl, rfl, hs⟩ := open_string Try.underlying9 (hval' 0 9 v0 rfl rfl) h0
    exact lexerNames_any s W hs

theorem lexerNames_holds : Rows.LexerNamesSaid :=
  OpenClaim.holds_of_wide 3 Try.f3 rfl rfl rfl rfl rfl rfl rfl ⟨rfl, rfl, rfl, rfl, rfl⟩ rfl rfl rfl rfl rfl (by kernel_rfl) Try.func3 (by kernel_rfl)
    (of_decide_eq_true (by kernel_rfl)) (by unfold Func.isWrapper; first | (rw [if_pos (by decide +kernel)]; kernel_rfl) | (rw [if_neg (by decide +kernel)]; exact ⟨rfl, rfl⟩))
    (fun os started H enc _ => lexerNames_lifted os started H enc)
end Go.Proofs.Ytdhomomiejebdaa
