/- The lexer: LexerCovers, the walk. -/
import Derived.Test.YtdhomomiejebdaaLxB
namespace Go.Proofs.Ytdhomomiejebdaa
open Go.RowKit Go.V Go.ChangeMaps
set_option linter.unusedSimpArgs false
set_option linter.unusedVariables false

theorem tksC_row (s : ByteArray) : ∀ (l : List Tk) (i : Nat) (t : Tk), l[i]? = some t → ((tksC s l).drop (i * 4)).take 4 = tokC s t
  | [], i, t, h => by simp at h
  | x :: l, 0, t, h => by
    simp at h; subst h
    simp [tksC, tokC]
  | x :: l, i + 1, t, h => by
    have e : tksC s (x :: l) = tokC s x ++ tksC s l := rfl
    have e2 : (i + 1) * 4 = (tokC s x).length + i * 4 := by simp [tokC]; omega
    rw [e, e2, List.drop_length_add_append, tksC_row s l i t (by simpa using h)]
theorem lexed_len (s : ByteArray) (k : Nat) (l : List Tk) (h : Lexed s k l) : k ≤ s.size → 0 < l.length ∧ l.length ≤ s.size - k + 1 := by
  induction h with
  | fin k h => intro _; simp
  | tok k l h he hl ih =>
    intro hk
    obtain ⟨t1, t2⟩ := tok_step s _ h he
    obtain ⟨n1, n2⟩ := nxt_bound s k hk
    have := ih t2
    simp; omega
theorem allR_small (s : ByteArray) (l : List Tk) (h : allR s = (l, 0, 0)) : s.size ≤ 20000 := by
  unfold allR at h
  split at h
  · assumption
  · injection h with _ e; injection e with _ e; cases e
theorem tokK_pos (s : ByteArray) (k : Nat) : tokK s k ≠ 0 := by unfold tokK; (repeat' split) <;> omega
theorem lexed_step (s : ByteArray) (k i : Nat) (l : List Tk) (hk : k ≤ s.size) (hi : i < l.length) (h : Lexed s k (l.drop i)) :
    ∃ K q z, l[i]? = some (K, q, z) ∧ k ≤ q ∧ q ≤ z ∧ z ≤ s.size ∧ bareB (bs (s.extract k q)) (decide ((K : Int) = 0)) = true ∧ ((K = 0) ↔ (i + 1 = l.length)) ∧ ((K = 0) ↔ bs (s.extract q z) = []) ∧
      (i + 1 < l.length ∧ Lexed s z (l.drop (i + 1)) ∨ i + 1 = l.length ∧ z = s.size) := by
  obtain ⟨n1, n2⟩ := nxt_bound s k hk
  generalize hm : l.drop i = m at h
  have hg : l[i]? = m[0]? := by rw [← hm]; simp
  have hd : l.drop (i + 1) = m.drop 1 := by rw [← hm]; simp
  have hlen : l.length = i + m.length := by rw [← hm, List.length_drop]; omega
  cases h with
  | fin _ h =>
    refine ⟨0, s.size, s.size, by rw [hg]; rfl, hk, Nat.le_refl _, Nat.le_refl _, ?_, ?_, ?_, .inr ⟨hlen.symm, rfl⟩⟩
    · have : nxt s k = s.size := by omega
      have := bare_nxt s k true (.inr rfl)
      simpa [‹nxt s k = s.size›] using this
    · simp [hlen]
    · simp [extract_nil]; rfl
  | tok _ l' h he hl =>
    obtain ⟨t1, t2⟩ := tok_step s _ h he
    obtain ⟨l1, l2⟩ := lexed_len s _ _ hl t2
    have hK := tokK_pos s (nxt s k)
    simp only [List.length_cons] at hlen
    refine ⟨_, _, _, by rw [hg]; rfl, n1, by omega, t2, bare_nxt s k _ (.inl h), ?_, ?_, .inl ⟨by omega, ?_⟩⟩
    · constructor
      · intro e; exact absurd e hK
      · intro e; omega
    · constructor
      · intro e; exact absurd e hK
      · intro e
        exfalso
        have := congrArg List.length e
        rw [bs_extract, List.length_take, List.length_drop, bs_len] at this
        simp at this; omega
    · rw [hd]; exact hl

set_option maxHeartbeats 2000000 in
theorem lexerCovers_any (s : ByteArray) (w : World) (hs : s.size ≤ maxLen) :
    Calls Try.prog 5 #[.string s] w fun e w' => e = .returned (.bool true) ∧ Below w.heap.size w w' := by
  have hs' := hs
  unfold maxLen at hs'
  refine calls_of_W (args := [.string s]) (rs := [.tmp 2]) (n := 98) Try.func5 rfl rfl rfl (by kernel_rfl) ?_
  refine W_rt (by kernel_rfl) (fun K hK => ?_)
  simp [go_sem]
  refine hK _ _ ?_; clear hK K
  refine W_rt (by kernel_rfl) (fun K hK => ?_)
  simp [go_sem]
  refine hv_call (by simp [go_sem]) rfl Try.call12 (fun R hR => ?_)
  simp [go_sem]
  refine (all_any s _ hs).mono ?_
  rintro e w1 ⟨a, c, rfl, hsl, hE⟩
  refine ⟨_, rfl, hR _ _ ?_⟩
  clear hR R
  simp [go_sem]
  refine hK _ _ ?_; clear hK K
  have hbad : ∀ p e, allR s = ([], p, e) → e ≠ 0 → (allR s).1.length = 0 := by intro p e h _; rw [h]; rfl
  rcases allR_cases s with ⟨l, hR, hl⟩ | hR | ⟨p, e, hp, he, hR, l, hP⟩
  · simp only [hR] at hsl ⊢
    obtain ⟨l1, l2⟩ := lexed_len s 0 l hl (by omega)
    have hsm := allR_small s l hR
    refine W_seq (fun K1 hK1 => ?_)
    refine W_rt (by kernel_rfl) (fun K hK => ?_)
    simp [go_sem]
    refine hK _ _ ?_; clear hK K
    refine W_if (by simp [go_sem]; rfl) rfl ?_
    refine W_skip ?_
    refine hK1 _ _ ?_; clear hK1 K1
    refine W_rt (by kernel_rfl) (fun K hK => ?_)
    simp [go_sem]
    refine hK _ _ ?_; clear hK K
    refine W_seq (fun K1 hK1 => ?_)
    refine W_rt (by kernel_rfl) (fun K hK => ?_)
    simp [go_sem]
    refine hK _ _ ?_; clear hK K
    refine W_block ?_
    refine W_loop (fun m g w' => Below w.heap.size w w' ∧ SL w' a (tksC s l) ∧ ∃ i k : Nat, i ≤ l.length ∧ k ≤ s.size ∧ m = l.length - i ∧ g 0 = .string s ∧ g 3 = .slice a l.length c ∧ g 6 = .int .i64 k ∧ g 20 = .slice a l.length c ∧ g 21 = .int .i64 l.length ∧ g 22 = .int .i64 i ∧ (i < l.length ∧ Lexed s k (l.drop i) ∨ i = l.length ∧ k = s.size)) l.length ?_ ?_
    · exact ⟨hE, hsl, 0, 0, by omega, by omega, rfl, by simp [go_sem], by simp [go_sem], by simp [go_sem], by simp [go_sem], by simp [go_sem], by simp [go_sem], .inl ⟨l1, hl⟩⟩
    · rintro m g w' ⟨hE, hsl, i, k, hi, hk, rfl, g0, g3, g6, g20, g21, g22, hcase⟩
      refine W_rt (by kernel_rfl) (fun K hK => ?_)
      simp [go_sem, g21, g22]
      refine hK _ _ ?_; clear hK K
      refine W_seq (fun K2 hK2 => ?_)
      rcases hcase with ⟨hlt, hlx⟩ | ⟨rfl, rfl⟩
      · have hlt' : (i : Int) < l.length := by omega
        have hw1 : IntKind.i64.wrap (↑i + 1) = (i : Int) + 1 := IntWalk.i64_in _ (by omega)
        have hwl : IntKind.i64.wrap (↑l.length - 1) = (l.length : Int) - 1 := IntWalk.i64_in _ (by omega)
        obtain ⟨T, q, z, hg, hkq, hqz, hz, hbare, hend, hempty, hnext⟩ := lexed_step s k i l hk hlt hlx
        obtain ⟨r1, r2, r3⟩ := hsl.row (i * 4) 4 (by rw [tksC_len]; omega) (by omega)
        rw [tksC_row s l i _ hg] at r1
        unfold tokC at r1
        refine W_if (by simp [go_sem, hlt, hlt']; rfl) rfl ?_
        refine W_skip ?_
        refine hK2 _ _ ?_; clear hK2 K2
        refine W_seq (fun K2 hK2 => ?_)
        refine W_block ?_
        refine W_rt (by kernel_rfl) (fun K hK => ?_)
        simp [go_sem, g20, g22, hlt, hlt', r1, r2, r3]
        refine hv_alloc (by simp [go_sem]) rfl ty_zeroC31 (fun w6 b6 hE6 hle6 hB6 => ?_)
        simp [go_sem]
        refine hv_store (b := b6) (off := 0) [.int .i64 T, .int .i64 q, .int .i64 z, .string (s.extract q z)] (by simp [go_sem]) rfl (by simp [go_sem]) (by simp [go_sem, Value.cells]) ty_size31 hB6 (by simp) (by simp [Value.oneCell']) (by decide) (fun w7 hS7 hB7 => ?_)
        simp [putC] at hB7
        have hb6 : w.heap.size ≤ b6 := by have := hE.size; omega
        have hsl7 : SL w7 a (tksC s l) := (hsl.ext hE6).sto hS7 (by
          intro ad ha hne
          obtain ⟨b, off, e, hlt⟩ := hsl.lt hne
          rw [ha] at e; injection e with e; subst e
          show b ≠ b6
          omega)
        have hE7 := (hE.next hE6).nextS hS7 hb6
        clear hB6 hS7 hE6 hE hsl r1 r2
        simp [go_sem]
        refine hK _ _ ?_; clear hK K
        have hb := hB7.cell
        have c1 : ¬ (q : Int) < k := by omega
        have c2 : ¬ (z : Int) < q := by omega
        have c3 : ¬ (s.size : Int) < z := by omega
        have hqs : q ≤ s.size := by omega
        refine W_seq (fun K3 hK3 => ?_)
        refine W_rd [(0, 0), (1, 0), (2, 0), (3, 0), (4, 0), (5, 0), (6, 0), (7, 0), (8, 0), (9, 0), (10, 0), (11, 0), (12, 0), (13, 0), (14, 0), (15, 0), (16, 0), (17, 0), (18, 0), (19, 0), (20, 0), (21, 0), (22, 0), (23, 0), (24, 0), (25, 0), (26, 0), (27, 0), (28, 0), (29, 0), (30, 0), (31, 0), (32, 0), (33, 0), (34, 0), (35, 0), (36, 0), (37, 0), (38, 1), (39, 0), (40, 0)] (by kernel_rfl) (by kernel_rfl) (fun K hK => ?_)
        simp [go_sem, g0, g6, hb, add_mk, c1, c2, c3, hkq, hqz, hz, hqs]
        refine hv_call (by simp [go_sem, g0, g6, hb, add_mk, c1, c2, c3, hkq, hqz, hz, hqs]) rfl Try.call15 (fun R hR => ?_)
        simp [go_sem, g0, g6, hb, add_mk, c1, c2, c3, hkq, hqz, hz, hqs]
        refine (bare_any _ _ _ (by rw [← bs_len, bs_extract, List.length_take, List.length_drop, bs_len]; unfold maxLen; omega)).mono ?_
        rintro e w8 ⟨rfl, rfl⟩
        refine ⟨_, rfl, Below.refl _ _, hR _ _ ?_⟩
        clear hR R
        have hD : Below w7.heap.size w7 w7.drew := Below.drew1 _
        replace hE7 := hE7.next hD
        replace hsl7 := hsl7.ext hD
        replace hB7 := hB7.keep hD
        replace hb := hB7.cell
        clear hD
        have hbare' : bareB (bs (s.extract k q)) (decide (T = 0)) = true := by simpa using hbare
        simp [go_sem, hbare', g0, g6, hb, add_mk, c1, c2, c3, hkq, hqz, hz, hqs]
        refine hK _ _ ?_; clear hK K
        refine W_if (by simp [go_sem, c1, c2, c3]; rfl) rfl ?_
        refine W_skip ?_
        refine hK3 _ _ ?_; clear hK3 K3
        refine W_seq (fun K3 hK3 => ?_)
        refine W_rtJ (fun g' w1 => w1 = w7.drew ∧ g' 0 = .string s ∧ g' 3 = .slice a l.length c ∧ g' 8 = .pointer (some ⟨b6, 0, none⟩) ∧ g' 20 = .slice a l.length c ∧ g' 21 = .int .i64 l.length ∧ g' 22 = .int .i64 i ∧ g' 85 = .bool false) (by kernel_rfl) ?_ ?_
        · by_cases hT : T = 0
          · have hT' : (T : Int) = 0 := by omega
            have d1 : (i : Int) = l.length - 1 := by have := hend.1 hT; omega
            have d2 := hempty.1 hT
            have d3 : bs ⟨#[]⟩ = [] := rfl
            simp [go_sem, g0, g3, g20, g21, g22, hb, add_mk, hwl, hT, hT', d1, d2, d3]
          · have hT' : ¬ (T : Int) = 0 := by omega
            have d1 : ¬ (i : Int) = l.length - 1 := by intro e; exact hT (hend.2 (by omega))
            have d2 : ¬ bs (s.extract q z) = [] := fun e => hT (hempty.2 e)
            have d3 : bs ⟨#[]⟩ = [] := rfl
            simp [go_sem, g0, g3, g20, g21, g22, hb, add_mk, hwl, hT, hT', d1, d2, d3]
        · rintro g' w8 ⟨rfl, q0, q3, q8, q20, q21, q22, q85⟩
          refine W_if q85 rfl ?_
          refine W_skip ?_
          refine hK3 _ _ ?_; clear hK3 K3
          refine W_text (by kernel_rfl) (fun K hK => ?_)
          simp [go_sem, q8, hb, add_mk]
          refine hK _ _ ?_; clear hK K
          refine hK2 _ _ ?_; clear hK2 K2
          refine W_text (by kernel_rfl) (fun K hK => ?_)
          simp [go_sem, q22, hw1]
          refine hK _ _ ⟨l.length - (i + 1), by omega, hE7, hsl7, i + 1, z, by omega, hz, rfl, by simp [go_sem, q0], by simp [go_sem, q3], by simp [go_sem], by simp [go_sem, q20], by simp [go_sem, q21], by simp [go_sem], hnext⟩
      · refine W_if (by simp [go_sem]; rfl) rfl ?_
        refine W_exit ?_
        repeat (first | refine thenG_exit ?_ | refine inBlock_other rfl ?_ | refine inBlock_same ?_)
        refine hK1 _ _ ?_; clear hK1 K1 hK2 K2
        have l3 : (0 : Int) < l.length := by omega
        refine W_rt (by kernel_rfl) (fun K hK => ?_)
        simp [go_sem, g3, g6, g0, l1, l3]
        refine hK _ _ ?_; clear hK K
        refine W_ret ?_
        repeat (first | refine thenG_ret ?_ | refine inBlock_ret ?_)
        refine ⟨trivial, ?_, hE⟩
        simp [go_sem, pack, resL]
  · simp only [hR] at hsl ⊢
    refine W_seq (fun K1 hK1 => ?_)
    refine W_rt (by kernel_rfl) (fun K hK => ?_)
    simp [go_sem]
    refine hK _ _ ?_; clear hK K
    refine W_if (by simp [go_sem]; rfl) rfl ?_
    refine W_rt (by kernel_rfl) (fun K hK => ?_)
    simp [go_sem]
    refine hK _ _ ?_; clear hK K
    refine W_ret ?_
    repeat (first | refine thenG_ret ?_ | refine inBlock_ret ?_)
    refine ⟨trivial, ?_, hE⟩
    simp [go_sem, pack, resL]
  · have he' : ¬ (e : Int) = 0 := by omega
    simp only [hR] at hsl ⊢
    refine W_seq (fun K1 hK1 => ?_)
    refine W_rt (by kernel_rfl) (fun K hK => ?_)
    simp [go_sem, he, he']
    refine hK _ _ ?_; clear hK K
    refine W_if (by simp [go_sem, he, he']; rfl) rfl ?_
    refine W_rt (by kernel_rfl) (fun K hK => ?_)
    simp [go_sem]
    refine hK _ _ ?_; clear hK K
    refine W_ret ?_
    repeat (first | refine thenG_ret ?_ | refine inBlock_ret ?_)
    refine ⟨trivial, ?_, hE⟩
    simp [go_sem, pack, resL]
set_option maxRecDepth 100000 in
theorem lexerCovers_lifted (os : Os) (started : os.Started) (H : Type) (enc : TypeId × Value → H) :
    ReturnsInHanded {} Try.checked os 5 .any (Rows.lexerCoversSpec.pre6 enc Try.prog Try.f5 Rows.lexerCoversRow.domain false) (Rows.lexerCoversSpec.post enc Try.prog Try.f5 false true false false) := by
  refine law_lifted (C := Try.checked) (s := Rows.lexerCoversSpec) Try.own Try.laidOut (by kernel_rfl) Try.func5 rfl 4 rfl Try.underlying4 (by kernel_rfl) enc ?_ ?_ os started
    (ChangeSpec.witness6 (enc := enc) (C := Try.checked) false ⟨#[], #[.string ⟨#[]⟩], []⟩ 8 (by kernel_rfl) (by kernel_rfl) (by kernel_rfl) (by kernel_rfl))
  · intro ds hl
    match ds, hl with
    | [d0], _ => rfl
  · intro W base args ds ps hval hA hlt _
    have hA' : DataW.TrodAll enc Try.prog W 0 (fun _ => true) true [9] args.toList ds ps := hA
    have hval' : ∀ (j : Nat) t v, Try.f5.params[j]? = some t → args[j]? = some v → Value.okWide Try.prog W .any base t v := hval
    obtain ⟨v0, d0, rfl, rfl, h0⟩ := Go.ChangeShapes.trodAll_one hA'
    obtain ⟨s, rfl, rfl, rfl, hs_s⟩ := open_string Try.underlying9 (hval' 0 9 v0 rfl rfl) h0
    exact lexerCovers_any s W hs_s

theorem lexerCovers_holds : Rows.LexerCoversSaid :=
  OpenClaim.holds_of_wide 5 Try.f5 rfl rfl rfl rfl rfl rfl rfl ⟨rfl, rfl, rfl, rfl, rfl⟩ rfl rfl rfl rfl rfl (by kernel_rfl) Try.func5 (by kernel_rfl)
    (of_decide_eq_true (by kernel_rfl)) (by unfold Func.isWrapper; first | (rw [if_pos (by decide +kernel)]; kernel_rfl) | (rw [if_neg (by decide +kernel)]; exact ⟨rfl, rfl⟩))
    (fun os started H enc _ => lexerCovers_lifted os started H enc)
end Go.Proofs.Ytdhomomiejebdaa
