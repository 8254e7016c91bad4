/- LexerTokens: the tokens of any string, or the first error and where it is. -/
import Derived.Test.YtdhomomiejebdaaLxJ
namespace Go.Proofs.Ytdhomomiejebdaa
open Go.RowKit Go.V Go.ChangeMaps
set_option linter.unusedSimpArgs false
set_option linter.unusedVariables false

theorem any_tok_v {w : World} {ev : Operand → Value} {ty : TypeId} {x y : Operand} {u : TypeId} (hx : isTok (ev x) = true) (hy : isTok (ev y) = true) :
    anyV Try.prog w ev ty (.binOp .neq 31 x y u) = neqTok (ev x) (ev y) := (any_tok_neq hx hy).1
theorem any_tok_ok {w : World} {ev : Operand → Value} {ty : TypeId} {x y : Operand} {u : TypeId} (hx : isTok (ev x) = true) (hy : isTok (ev y) = true) :
    anyOk Try.prog w ev ty (.binOp .neq 31 x y u) = True := eq_true (any_tok_neq hx hy).2
theorem binC_agg (P : Program) (t : TypeId) (xs ys : Array Value) : binC P .neq t (.agg xs) (.agg ys) = none := rfl
theorem outV_none (d : Value) : outV d none = d := rfl
theorem outOk_none (d : Prop) : outOk d none = d := rfl

set_option maxHeartbeats 2000000 in
theorem same_any (s : ByteArray) (l : List Tk) (a b : Option Addr) (c c' : Nat) (w : World) (hl : l.length ≤ maxLen) (ha : SL w a (tksC s l)) (hb : SL w b (tksC s l)) :
    Calls Try.prog 14 #[.slice a l.length c, .slice b l.length c'] w fun e w' => e = .returned (.bool true) ∧ Below w.heap.size w w' := by
  unfold maxLen at hl
  refine calls_of_W (args := [.slice a l.length c, .slice b l.length c']) (rs := [.tmp 4]) (n := 26) Try.func14 rfl rfl rfl (by kernel_rfl) ?_
  refine W_rt (by kernel_rfl) (fun K hK => ?_)
  simp [go_sem]
  refine hK _ _ ?_; clear hK K
  refine W_seq (fun K1 hK1 => ?_)
  refine W_rt (by kernel_rfl) (fun K hK => ?_)
  simp [go_sem]
  refine hK _ _ ?_; clear hK K
  refine W_if (by simp [go_sem]; rfl) rfl ?_
  refine W_skip ?_
  refine hK1 _ _ ?_; clear hK1 K1
  refine W_seq (fun K1 hK1 => ?_)
  refine W_rt (by kernel_rfl) (fun K hK => ?_)
  simp [go_sem]
  refine hK _ _ ?_; clear hK K
  refine W_block ?_
  refine W_loop (fun m g w' => Below w.heap.size w w' ∧ SL w' a (tksC s l) ∧ SL w' b (tksC s l) ∧ ∃ i : Nat, i ≤ l.length ∧ m = l.length - i ∧ g 0 = .slice a l.length c ∧ g 1 = .slice b l.length c' ∧ g 12 = .int .i64 l.length ∧ g 13 = .int .i64 i) l.length ?_ ?_
  · exact ⟨Below.refl _ _, ha, hb, 0, by omega, rfl, by simp [go_sem], by simp [go_sem], by simp [go_sem], by simp [go_sem]⟩
  · clear ha hb
    rintro m g w' ⟨hE, ha, hb, i, hi, rfl, g0, g1, g12, g13⟩
    refine W_rt (by kernel_rfl) (fun K hK => ?_)
    simp [go_sem, g12, g13]
    refine hK _ _ ?_; clear hK K
    refine W_seq (fun K2 hK2 => ?_)
    by_cases hlt : i < l.length
    · have hlt' : (i : Int) < l.length := by omega
      have hw1 : IntKind.i64.wrap (↑i + 1) = (i : Int) + 1 := IntWalk.i64_in _ (by omega)
      obtain ⟨t, ht⟩ : ∃ t, l[i]? = some t := ⟨_, List.getElem?_eq_getElem hlt⟩
      have hD : Below w'.heap.size w' w'.drew := Below.drew1 _
      replace hE := hE.next hD
      replace ha := ha.ext hD
      replace hb := hb.ext hD
      obtain ⟨r1, r2, r3⟩ := ha.row (i * 4) 4 (by rw [tksC_len]; omega) (by omega)
      obtain ⟨q1, q2, q3⟩ := hb.row (i * 4) 4 (by rw [tksC_len]; omega) (by omega)
      rw [tksC_row s l i _ ht] at r1 q1
      unfold tokC at r1 q1
      refine W_if (by simp [go_sem, hlt, hlt']; rfl) rfl ?_
      refine W_skip ?_
      refine hK2 _ _ ?_; clear hK2 K2
      refine W_seq (fun K2 hK2 => ?_)
      refine W_block ?_
      refine W_rt (by kernel_rfl) (fun K hK => ?_)
      simp [go_sem, g13]
      refine hK _ _ ?_; clear hK K
      refine W_rd [(0, 0), (1, 0), (2, 0), (3, 0), (4, 0), (5, 0), (6, 0), (7, 0), (8, 0)] (by kernel_rfl) (by kernel_rfl) (fun K hK => ?_)
      simp [go_sem, g0, g1, hlt, hlt', r1, r2, r3, q1, q2, q3, binC_agg, outV_none, outOk_none, any_tok_v, any_tok_ok]
      refine hK _ _ ?_; clear hK K
      refine W_if (by simp [go_sem]; rfl) rfl ?_
      refine W_skip ?_
      refine hK2 _ _ ?_; clear hK2 K2
      refine W_text (by kernel_rfl) (fun K hK => ?_)
      simp [go_sem, g13, hw1]
      refine hK _ _ ⟨l.length - (i + 1), by omega, hE, ha, hb, i + 1, by omega, rfl, by simp [go_sem, g0], by simp [go_sem, g1], by simp [go_sem, g12], by simp [go_sem]⟩
    · refine W_if (by simp [go_sem, hlt]; rfl) rfl ?_
      refine W_exit ?_
      repeat (first | refine thenG_exit ?_ | refine inBlock_other rfl ?_ | refine inBlock_same ?_)
      refine hK1 _ _ ?_; clear hK1 K1 hK2 K2
      refine W_rt (by kernel_rfl) (fun K hK => ?_)
      simp [go_sem]
      refine hK _ _ ?_; clear hK K
      refine W_ret ?_
      repeat (first | refine thenG_ret ?_ | refine inBlock_ret ?_)
      refine ⟨trivial, ?_, hE⟩
      simp [go_sem, pack, resL]

set_option maxHeartbeats 1000000 in
theorem lexerTokens_any (s : ByteArray) (w : World) (hs : s.size ≤ maxLen) :
    Calls Try.prog 4 #[.string s] w fun e w' => e = .returned (.bool true) ∧ Below w.heap.size w w' := by
  refine calls_of_W (args := [.string s]) (rs := [.tmp 2]) (n := 34) Try.func4 rfl rfl rfl (by kernel_rfl) ?_
  refine W_rt (by kernel_rfl) (fun K hK => ?_)
  simp [go_sem]
  refine hK _ _ ?_; clear hK K
  refine W_rt (by kernel_rfl) (fun K hK => ?_)
  simp [go_sem]
  refine hv_call (by simp [go_sem]) rfl Try.call12 (fun R hR => ?_)
  simp [go_sem]
  refine (all_any s _ hs).mono ?_
  rintro e w1 ⟨a, c, rfl, hsl, hE⟩
  refine ⟨_, rfl, hR _ _ ?_⟩
  clear hR R
  simp [go_sem]
  refine hK _ _ ?_; clear hK K
  refine W_rt (by kernel_rfl) (fun K hK => ?_)
  simp [go_sem]
  refine hv_call (by simp [go_sem]) rfl Try.call13 (fun R hR => ?_)
  simp [go_sem]
  refine (allRef_any s _ hs).mono ?_
  rintro e w2 ⟨a2, c2, rfl, hsl2, hE2⟩
  refine ⟨_, rfl, hR _ _ ?_⟩
  clear hR R
  simp [go_sem]
  refine hK _ _ ?_; clear hK K
  replace hsl := hsl.ext hE2
  replace hE := hE.next hE2
  clear hE2
  have hlen : (allR s).1.length ≤ maxLen := by
    unfold maxLen at hs ⊢
    rcases allR_cases s with ⟨l, hR, hl⟩ | hR | ⟨p, e, hp, he, hR, l, hP⟩
    · rw [hR]
      have := allR_small s l hR
      have := lexed_len s 0 l hl (by omega)
      show l.length ≤ _
      omega
    · rw [hR]; exact Nat.zero_le _
    · rw [hR]; exact Nat.zero_le _
  generalize allR s = r at *
  refine W_rt (by kernel_rfl) (fun K hK => ?_)
  simp [go_sem]
  refine hv_call (by simp [go_sem]) rfl Try.call14 (fun R hR => ?_)
  simp [go_sem]
  refine (same_any s r.1 a a2 c c2 _ hlen hsl hsl2).mono ?_
  rintro e w3 ⟨rfl, hE3⟩
  refine ⟨_, rfl, hR _ _ ?_⟩
  clear hR R
  simp [go_sem]
  refine hK _ _ ?_; clear hK K
  refine W_ret ?_
  repeat (first | refine thenG_ret ?_ | refine inBlock_ret ?_)
  refine ⟨trivial, ?_, hE.next hE3⟩
  simp [go_sem, pack, resL]
set_option maxRecDepth 100000 in
theorem lexerTokens_lifted (os : Os) (started : os.Started) (H : Type) (enc : TypeId × Value → H) :
    ReturnsInHanded {} Try.checked os 4 .any (Rows.lexerTokensSpec.pre6 enc Try.prog Try.f4 Rows.lexerTokensRow.domain false) (Rows.lexerTokensSpec.post enc Try.prog Try.f4 false true false false) := by
  refine law_lifted (C := Try.checked) (s := Rows.lexerTokensSpec) Try.own Try.laidOut (by kernel_rfl) Try.func4 rfl 4 rfl Try.underlying4 (by kernel_rfl) enc ?_ ?_ os started
    (ChangeSpec.witness6 (enc := enc) (C := Try.checked) false ⟨#[], #[.string ⟨#[]⟩], []⟩ 8 (by kernel_rfl) (by kernel_rfl) (by kernel_rfl) (by kernel_rfl))
  · intro ds hl
    match ds, hl with
    | [d0], _ => rfl
  · intro W base args ds ps hval hA hlt _
    have hA' : DataW.TrodAll enc Try.prog W 0 (fun _ => true) true [9] args.toList ds ps := hA
    have hval' : ∀ (j : Nat) t v, Try.f4.params[j]? = some t → args[j]? = some v → Value.okWide Try.prog W .any base t v := hval
    obtain ⟨v0, d0, rfl, rfl, h0⟩ := Go.ChangeShapes.trodAll_one hA'
    obtain ⟨s, rfl, rfl, rfl, hs_s⟩ := Go.ChangeMaps.open_string Try.underlying9 (hval' 0 9 v0 rfl rfl) h0
    exact lexerTokens_any s W hs_s

theorem lexerTokens_holds : Rows.LexerTokensSaid :=
  OpenClaim.holds_of_wide 4 Try.f4 rfl rfl rfl rfl rfl rfl rfl ⟨rfl, rfl, rfl, rfl, rfl⟩ rfl rfl rfl rfl rfl (by kernel_rfl) Try.func4 (by kernel_rfl)
    (of_decide_eq_true (by kernel_rfl)) (by unfold Func.isWrapper; first | (rw [if_pos (by decide +kernel)]; kernel_rfl) | (rw [if_neg (by decide +kernel)]; exact ⟨rfl, rfl⟩))
    (fun os started H enc _ => lexerTokens_lifted os started H enc)
end Go.Proofs.Ytdhomomiejebdaa
