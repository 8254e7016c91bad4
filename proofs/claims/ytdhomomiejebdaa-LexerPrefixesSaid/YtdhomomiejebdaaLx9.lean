/- The lexer, ninth part: LexerPrefixes. -/
import Derived.Test.YtdhomomiejebdaaLx7
import Derived.Test.YtdhomomiejebdaaLx8
namespace Go.Proofs.Ytdhomomiejebdaa
open Go.RowKit Go.V Go.ChangeMaps
set_option linter.unusedSimpArgs false
set_option linter.unusedVariables false

set_option maxHeartbeats 1000000 in
theorem lexerPrefixes_any (s : ByteArray) (w : World) (hs : s.size ≤ maxLen) :
    Calls Try.prog 7 #[.string s] w fun e w' => e = .returned (.bool true) ∧ Below w.heap.size w w' := by
  refine calls_of_W (args := [.string s]) (rs := [.tmp 2]) (n := 47) Try.func7 rfl rfl rfl (by kernel_rfl) ?_
  refine W_rt (by kernel_rfl) (fun K hK => ?_)
  simp [go_sem]
  refine hK _ _ ?_; clear hK K
  refine W_rt (by kernel_rfl) (fun K hK => ?_)
  simp [go_sem]
  refine hv_call (by simp [go_sem]) rfl Try.call12 (fun R hR => ?_)
  simp [go_sem]
  refine (all_any s _ hs).mono ?_
  rintro e w1 ⟨a, c, rfl, hsl, hE⟩
  refine ⟨_, rfl, hR _ _ ?_⟩
  clear hR R
  simp [go_sem]
  refine hK _ _ ?_; clear hK K
  rcases allR_cases s with ⟨l, hR, _⟩ | hR | ⟨p, e, hp, he, hR, l, hP⟩
  · simp only [hR]
    refine W_seq (fun K1 hK1 => ?_)
    refine W_rt (by kernel_rfl) (fun K hK => ?_)
    simp [go_sem]
    refine hK _ _ ?_; clear hK K
    refine W_if (by simp [go_sem]; rfl) rfl ?_
    refine W_rt (by kernel_rfl) (fun K hK => ?_)
    simp [go_sem]
    refine hv_call (by simp [go_sem]) rfl Try.call16 (fun R hR => ?_)
    simp [go_sem]
    refine (awake_any _).mono ?_
    rintro e w2 ⟨rfl, hE2⟩
    refine ⟨_, rfl, hR _ _ ?_⟩
    clear hR R
    simp [go_sem]
    refine hK _ _ ?_; clear hK K
    refine W_ret ?_
    repeat (first | refine thenG_ret ?_ | refine inBlock_ret ?_)
    refine ⟨trivial, ?_, hE.next hE2⟩
    simp [go_sem, pack, resL]
  · simp only [hR]
    refine W_seq (fun K1 hK1 => ?_)
    refine W_rt (by kernel_rfl) (fun K hK => ?_)
    simp [go_sem]
    refine hK _ _ ?_; clear hK K
    refine W_if (by simp [go_sem]; rfl) rfl ?_
    refine W_rt (by kernel_rfl) (fun K hK => ?_)
    simp [go_sem]
    refine hv_call (by simp [go_sem]) rfl Try.call16 (fun R hR => ?_)
    simp [go_sem]
    refine (awake_any _).mono ?_
    rintro e w2 ⟨rfl, hE2⟩
    refine ⟨_, rfl, hR _ _ ?_⟩
    clear hR R
    simp [go_sem]
    refine hK _ _ ?_; clear hK K
    refine W_ret ?_
    repeat (first | refine thenG_ret ?_ | refine inBlock_ret ?_)
    refine ⟨trivial, ?_, hE.next hE2⟩
    simp [go_sem, pack, resL]
  · simp only [hR]
    have he' : ¬ (e : Int) = 0 := by omega
    by_cases h0 : p = 0
    · subst h0
      refine W_seq (fun K1 hK1 => ?_)
      refine W_rt (by kernel_rfl) (fun K hK => ?_)
      simp [go_sem, he, he']
      refine hK _ _ ?_; clear hK K
      refine W_if (by simp [go_sem, he, he']; rfl) rfl ?_
      refine W_rt (by kernel_rfl) (fun K hK => ?_)
      simp [go_sem]
      refine hv_call (by simp [go_sem]) rfl Try.call16 (fun R hR => ?_)
      simp [go_sem]
      refine (awake_any _).mono ?_
      rintro e w2 ⟨rfl, hE2⟩
      refine ⟨_, rfl, hR _ _ ?_⟩
      clear hR R
      simp [go_sem]
      refine hK _ _ ?_; clear hK K
      refine W_ret ?_
      repeat (first | refine thenG_ret ?_ | refine inBlock_ret ?_)
      refine ⟨trivial, ?_, hE.next hE2⟩
      simp [go_sem, pack, resL]
    · have h0' : ¬ (p : Int) = 0 := by omega
      have h1 : ¬ (p : Int) < 0 := by omega
      have h2 : ¬ (s.size : Int) ≤ p := by omega
      have h2' : ¬ s.size ≤ p := by omega
      have h3 : p ≤ s.size := by omega
      refine W_seq (fun K1 hK1 => ?_)
      refine W_rt (by kernel_rfl) (fun K hK => ?_)
      simp [go_sem, he, he', h0, h0']
      refine hK _ _ ?_; clear hK K
      refine W_if (by simp [go_sem, he, he', h0, h0']; rfl) rfl ?_
      refine W_skip ?_
      refine hK1 _ _ ?_; clear hK1 K1
      refine W_seq (fun K1 hK1 => ?_)
      refine W_rt (by kernel_rfl) (fun K hK => ?_)
      simp [go_sem, h1, h2, h2']
      refine hK _ _ ?_; clear hK K
      refine W_if (by simp [go_sem, h1, h2, h2']; rfl) rfl ?_
      refine W_skip ?_
      refine hK1 _ _ ?_; clear hK1 K1
      refine W_rt (by kernel_rfl) (fun K hK => ?_)
      simp [go_sem, h1, h3]
      refine hv_call (by simp [go_sem, h3]) rfl Try.call12 (fun R hR => ?_)
      simp [go_sem, h3]
      refine (all_any _ _ (by rw [size_pre s p h3]; omega)).mono ?_
      rintro e w2 ⟨a2, c2, rfl, hsl2, hE2⟩
      refine ⟨_, rfl, hR _ _ ?_⟩
      clear hR R
      simp only [hP]
      simp [go_sem]
      refine hK _ _ ?_; clear hK K
      refine W_rt (by kernel_rfl) (fun K hK => ?_)
      simp [go_sem]
      refine hv_call (by simp [go_sem]) rfl Try.call16 (fun R hR => ?_)
      simp [go_sem]
      refine (awake_any _).mono ?_
      rintro e w3 ⟨rfl, hE3⟩
      refine ⟨_, rfl, hR _ _ ?_⟩
      clear hR R
      simp [go_sem]
      refine hK _ _ ?_; clear hK K
      refine W_ret ?_
      repeat (first | refine thenG_ret ?_ | refine inBlock_ret ?_)
      refine ⟨trivial, ?_, (hE.next hE2).next hE3⟩
      simp [go_sem, pack, resL]

set_option maxRecDepth 100000 in
theorem lexerPrefixes_lifted (os : Os) (started : os.Started) (H : Type) (enc : TypeId × Value → H) :
    ReturnsInHanded {} Try.checked os 7 .any (Rows.lexerPrefixesSpec.pre6 enc Try.prog Try.f7 Rows.lexerPrefixesRow.domain false) (Rows.lexerPrefixesSpec.post enc Try.prog Try.f7 false true false false) := by
  refine law_lifted (C := Try.checked) (s := Rows.lexerPrefixesSpec) Try.own Try.laidOut (by kernel_rfl) Try.func7 rfl 4 rfl Try.underlying4 (by kernel_rfl) enc ?_ ?_ os started
    (ChangeSpec.witness6 (enc := enc) (C := Try.checked) false ⟨#[], #[.string ⟨#[]⟩], []⟩ 8 (by kernel_rfl) (by kernel_rfl) (by kernel_rfl) (by kernel_rfl))
  · intro ds hl
    match ds, hl with
    | [d0], _ => rfl
  · intro W base args ds ps hval hA hlt _
    have hA' : DataW.TrodAll enc Try.prog W 0 (fun _ => true) true [9] args.toList ds ps := hA
    have hval' : ∀ (j : Nat) t v, Try.f7.params[j]? = some t → args[j]? = some v → Value.okWide Try.prog W .any base t v := hval
    obtain ⟨v0, d0, rfl, rfl, h0⟩ := Go.ChangeShapes.trodAll_one hA'
    obtain ⟨s, rfl, rfl, rfl, hs_s⟩ := open_string Try.underlying9 (hval' 0 9 v0 rfl rfl) h0
    exact lexerPrefixes_any s W hs_s

theorem lexerPrefixes_holds : Rows.LexerPrefixesSaid :=
  OpenClaim.holds_of_wide 7 Try.f7 rfl rfl rfl rfl rfl rfl rfl ⟨rfl, rfl, rfl, rfl, rfl⟩ rfl rfl rfl rfl rfl (by kernel_rfl) Try.func7 (by kernel_rfl)
    (of_decide_eq_true (by kernel_rfl)) (by unfold Func.isWrapper; first | (rw [if_pos (by decide +kernel)]; kernel_rfl) | (rw [if_neg (by decide +kernel)]; exact ⟨rfl, rfl⟩))
    (fun os started H enc _ => lexerPrefixes_lifted os started H enc)
end Go.Proofs.Ytdhomomiejebdaa
