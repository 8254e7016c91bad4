/- The lexer, eighth part: plain laws of the tokens of a source. -/
import Derived.Test.YtdhomomiejebdaaLx5
namespace Go.Proofs.Ytdhomomiejebdaa
open Go.RowKit Go.V
set_option linter.unusedSimpArgs false
set_option linter.unusedVariables false

theorem skip_take : ∀ (l : List UInt8) (b : Bool) (n : Nat), skipN b (l.take n) = min n (skipN b l)
  | [], b, n => by simp [skipN]
  | c :: l, b, 0 => by simp [skipN]
  | c :: l, true, n + 1 => by
    simp only [List.take_succ_cons, skipN]
    split <;> rw [skip_take l] <;> omega
  | c :: l, false, n + 1 => by
    simp only [List.take_succ_cons, skipN]
    split
    · rw [skip_take l]; omega
    · split
      · rw [skip_take l]; omega
      · simp
theorem endN_take (L : Bool) : ∀ (l : List UInt8) (n : Nat), endN L (l.take n) = min n (endN L l)
  | [], n => by simp [endN]
  | c :: l, 0 => by simp [endN]
  | c :: l, n + 1 => by
    simp only [List.take_succ_cons, endN]
    split
    · rw [endN_take L l]; omega
    · simp
/-- the token that a list of bytes begins with: error, kind, length -/
def tokL : List UInt8 → Nat × Nat × Nat
  | [] => (5, 0, 0)
  | c :: r =>
    if letB c.toNat = true then (if 20 < endN true (c :: r) then 4 else 0, 1, endN true (c :: r))
    else if digB c.toNat = true then (if 1 < endN false (c :: r) ∧ c.toNat = 48 then 5 else if 1000 < endN false (c :: r) then 4 else 0, 2, endN false (c :: r))
    else if sgnB c.toNat = true then (0, 3, 1)
    else if c.toNat = 58 then (if r.head? = some 61 then 0 else 5, 3, 2)
    else (5, 3, 1)
theorem sgn_58 (c : UInt8) (h : sgnB c.toNat = true) : ¬ c.toNat = 58 := by
  intro e; rw [e] at h; revert h; decide
theorem tok_list (s : ByteArray) (q : Nat) (h : q < s.size) : tokL ((bs s).drop q) = (tokE s q, tokK s q, tokZ s q - q) ∧ q ≤ tokZ s q := by
  have hd : (((bs s).drop (q + 1)).head? = some 61) = (q + 1 < s.size ∧ (byteAt s (q + 1)).toNat = 61) := by
    by_cases h1 : q + 1 < s.size
    · rw [drop_byte s (q + 1) h1]
      simp only [List.head?_cons, Option.some.injEq, h1, true_and, eq_iff_iff]
      constructor
      · intro e; rw [e]; rfl
      · intro e; apply UInt8.toNat_inj.1; rw [e]; rfl
    · rw [drop_end s (q + 1) h1]; simp [h1]
  unfold tokE tokK tokZ runEnd
  rw [drop_byte s q h]
  unfold tokL
  by_cases h1 : letB (byteAt s q).toNat = true
  · simp only [h1, if_true, Nat.add_sub_cancel_left]; exact ⟨trivial, by omega⟩
  · by_cases h2 : digB (byteAt s q).toNat = true
    · simp only [h1, h2, Bool.false_eq_true, if_true, if_false, Nat.add_sub_cancel_left]; exact ⟨trivial, by omega⟩
    · by_cases h3 : sgnB (byteAt s q).toNat = true
      · have h4 := sgn_58 _ h3
        simp only [h1, h2, h3, Bool.false_eq_true, if_neg h4, if_true, if_false, Nat.add_sub_cancel_left]; exact ⟨trivial, by omega⟩
      · by_cases h4 : (byteAt s q).toNat = 58
        · simp only [h1, h2, h3, Bool.false_eq_true, if_pos h4, if_true, if_false, Nat.add_sub_cancel_left, hd]; exact ⟨trivial, by omega⟩
        · simp only [h1, h2, h3, Bool.false_eq_true, if_neg h4, if_true, if_false, Nat.add_sub_cancel_left]; exact ⟨trivial, by omega⟩
theorem tok_app (T r r' : List UInt8) (K : Nat) (hT : tokL (T ++ r) = (0, K, T.length)) (hst : ∀ L, endN L (T ++ r) = T.length → endN L (T ++ r') = T.length) : tokL (T ++ r') = (0, K, T.length) := by
  have h1 := hst true
  have h2 := hst false
  cases T with
  | nil =>
    exfalso
    cases r with
    | nil => simp [tokL] at hT
    | cons c r =>
      simp only [List.nil_append, tokL, List.length_nil] at hT
      by_cases a1 : letB c.toNat = true
      · simp only [a1, if_true] at hT
        injection hT with _ e; injection e with _ e
        have : goOn true c = true := goOn_let true c a1
        simp [endN, this] at e
      · by_cases a2 : digB c.toNat = true
        · simp only [a1, a2, Bool.false_eq_true, if_false, if_true] at hT
          injection hT with _ e; injection e with _ e
          have : goOn false c = true := goOn_dig false c a2
          simp [endN, this] at e
        · simp only [a1, a2, Bool.false_eq_true, if_false] at hT
          (repeat' split at hT) <;> simp at hT
  | cons c T =>
    simp only [List.cons_append] at hT h1 h2 ⊢
    unfold tokL at hT ⊢
    by_cases a1 : letB c.toNat = true
    · simp only [a1, if_true] at hT ⊢
      injection hT with e1 e; injection e with e2 e3
      rw [h1 e3]; rw [e3] at e1; rw [e1, e2]
    · by_cases a2 : digB c.toNat = true
      · simp only [a1, a2, Bool.false_eq_true, if_false, if_true] at hT ⊢
        injection hT with e1 e; injection e with e2 e3
        simp only [e3] at e1
        simp only [h2 e3, e1, ← e2]
      · by_cases a3 : sgnB c.toNat = true
        · simp only [a1, a2, a3, Bool.false_eq_true, if_false, if_true] at hT ⊢; exact hT
        · by_cases a4 : c.toNat = 58
          · simp only [a1, a2, a3, Bool.false_eq_true, if_false, if_pos a4, if_true] at hT ⊢
            cases T with
            | nil => injection hT with e1 e; injection e with e2 e3; simp at e3
            | cons d T => exact hT
          · simp only [a1, a2, a3, Bool.false_eq_true, if_false, if_neg a4] at hT ⊢; exact hT

/-- the tokens from a place on -/
inductive Lexed (s : ByteArray) : Nat → List Tk → Prop
  | fin (k : Nat) (h : ¬ nxt s k < s.size) : Lexed s k [(0, s.size, s.size)]
  | tok (k : Nat) (l : List Tk) (h : nxt s k < s.size) (he : tokE s (nxt s k) = 0) (hl : Lexed s (tokZ s (nxt s k)) l) : Lexed s k ((tokK s (nxt s k), nxt s k, tokZ s (nxt s k)) :: l)

theorem bs_pre (s : ByteArray) (p : Nat) : bs (s.extract 0 p) = (bs s).take p := by rw [bs_extract]; simp
theorem size_pre (s : ByteArray) (p : Nat) (h : p ≤ s.size) : (s.extract 0 p).size = p := by rw [← bs_len, bs_pre, List.length_take, bs_len]; omega
theorem nxt_pre (s : ByteArray) (p k : Nat) (h : p ≤ s.size) (hk : k ≤ p) : nxt (s.extract 0 p) k = min p (nxt s k) := by
  unfold nxt
  rw [bs_pre, List.drop_take, skip_take]; omega
theorem tok_pre (s : ByteArray) (p q : Nat) (h : p ≤ s.size) (hq : q < p) (he : tokE s q = 0) (hz : tokZ s q ≤ p) : tokE (s.extract 0 p) q = 0 ∧ tokK (s.extract 0 p) q = tokK s q ∧ tokZ (s.extract 0 p) q = tokZ s q := by
  obtain ⟨t1, t2⟩ := tok_step s q (by omega) he
  obtain ⟨e1, _⟩ := tok_list s q (by omega)
  obtain ⟨e2, e3⟩ := tok_list (s.extract 0 p) q (by rw [size_pre s p h]; exact hq)
  have hl : (((bs s).drop q).take (tokZ s q - q)).length = tokZ s q - q := by rw [List.length_take, List.length_drop, bs_len]; omega
  have e4 := tok_app (((bs s).drop q).take (tokZ s q - q)) (((bs s).drop q).drop (tokZ s q - q)) ((((bs s).drop q).drop (tokZ s q - q)).take (p - tokZ s q)) (tokK s q)
    (by rw [List.take_append_drop, e1, he, hl]) (by
      intro L hL
      rw [List.take_append_drop, hl] at hL
      have : ((bs s).drop q).take (tokZ s q - q) ++ (((bs s).drop q).drop (tokZ s q - q)).take (p - tokZ s q) = ((bs s).drop q).take (p - q) := by
        have e : p - q = (tokZ s q - q) + (p - tokZ s q) := by omega
        rw [e, List.take_add]
      rw [this, endN_take, hL, hl]; omega)
  have : ((bs s).drop q).take (tokZ s q - q) ++ (((bs s).drop q).drop (tokZ s q - q)).take (p - tokZ s q) = (bs (s.extract 0 p)).drop q := by
    rw [bs_pre, List.drop_take]
    have e : p - q = (tokZ s q - q) + (p - tokZ s q) := by omega
    rw [e, List.take_add]
  rw [this, e2, hl] at e4
  injection e4 with a1 a; injection a with a2 a3
  exact ⟨a1, a2, by omega⟩

theorem allF_lexed (s : ByteArray) : ∀ (f k : Nat) (acc : List Tk), k ≤ s.size → s.size < k + f →
    (∃ l, allF s f k acc = (acc ++ l, 0, 0) ∧ Lexed s k l) ∨ (∃ p, k ≤ p ∧ p < s.size ∧ tokE s p ≠ 0 ∧ allF s f k acc = ([], p, tokE s p) ∧ ∃ l, Lexed (s.extract 0 p) k l)
  | 0, k, acc, h, h1 => by omega
  | f + 1, k, acc, h, h1 => by
    obtain ⟨n1, n2⟩ := nxt_bound s k h
    unfold allF
    by_cases hp : nxt s k < s.size
    · rw [if_pos hp]
      by_cases he : tokE s (nxt s k) = 0
      · rw [if_pos he]
        obtain ⟨t1, t2⟩ := tok_step s _ hp he
        rcases allF_lexed s f (tokZ s (nxt s k)) (acc ++ [(tokK s (nxt s k), nxt s k, tokZ s (nxt s k))]) t2 (by omega) with ⟨l, e, hl⟩ | ⟨p, g1, g2, g3, e, l, hl⟩
        · exact .inl ⟨_ :: l, by rw [e, List.append_assoc]; rfl, .tok k l hp he hl⟩
        · refine .inr ⟨p, by omega, g2, g3, e, (tokK (s.extract 0 p) (nxt (s.extract 0 p) k), nxt (s.extract 0 p) k, tokZ (s.extract 0 p) (nxt (s.extract 0 p) k)) :: l, ?_⟩
          have hn : nxt (s.extract 0 p) k = nxt s k := by rw [nxt_pre s p k (by omega) (by omega)]; omega
          obtain ⟨u1, u2, u3⟩ := tok_pre s p (nxt s k) (by omega) (by omega) he g1
          refine .tok k l (by rw [hn, size_pre s p (by omega)]; omega) (by rw [hn]; exact u1) ?_
          rw [hn, u3]; exact hl
      · rw [if_neg he]
        refine .inr ⟨nxt s k, n1, hp, he, rfl, [(0, (s.extract 0 (nxt s k)).size, (s.extract 0 (nxt s k)).size)], .fin k ?_⟩
        rw [nxt_pre s _ k (by omega) n1, size_pre s _ n2]; omega
    · rw [if_neg hp]
      exact .inl ⟨_, rfl, .fin k hp⟩
theorem lexed_all (s : ByteArray) (k : Nat) (l : List Tk) (hl : Lexed s k l) : ∀ acc, k ≤ s.size → allAt s k acc = (acc ++ l, 0, 0) := by
  induction hl with
  | fin k h => intro acc hk; rw [allAt_eq s k acc hk, if_neg h]
  | tok k l h he hl ih =>
    intro acc hk
    rw [allAt_eq s k acc hk, if_pos h, if_pos he, ih _ (tok_step s _ h he).2]
    simp
theorem allR_cases (s : ByteArray) : (∃ l, allR s = (l, 0, 0) ∧ Lexed s 0 l) ∨ allR s = ([], 0, 4) ∨
    (∃ p e, p < s.size ∧ e ≠ 0 ∧ allR s = ([], p, e) ∧ ∃ l, allR (s.extract 0 p) = (l, 0, 0)) := by
  unfold allR
  by_cases hb : s.size ≤ 20000
  · simp only [if_pos hb]
    rcases allF_lexed s (s.size + 1 - 0) 0 [] (by omega) (by omega) with ⟨l, e, hl⟩ | ⟨p, g1, g2, g3, e, l, hl⟩
    · exact .inl ⟨l, e, hl⟩
    · refine .inr (.inr ⟨p, _, g2, g3, e, l, ?_⟩)
      rw [if_pos (by rw [size_pre s p (by omega)]; omega)]
      exact lexed_all _ _ _ hl [] (by omega)
  · simp only [if_neg hb]
    exact .inr (.inl trivial)
end Go.Proofs.Ytdhomomiejebdaa
