/- The lexer, fifth part: the tokens of a source; the program's All. -/
import Derived.Test.YtdhomomiejebdaaLx4
namespace Go.Proofs.Ytdhomomiejebdaa
open Go.RowKit Go.V
set_option linter.unusedSimpArgs false
set_option linter.unusedVariables false

abbrev Tk := Nat × Nat × Nat
/-- where the next token begins -/
def nxt (s : ByteArray) (k : Nat) : Nat := k + skipN false ((bs s).drop k)
def allF (s : ByteArray) : Nat → Nat → List Tk → List Tk × Nat × Nat
  | 0, _, acc => (acc, 0, 0)
  | f + 1, k, acc =>
    if nxt s k < s.size then (if tokE s (nxt s k) = 0 then allF s f (tokZ s (nxt s k)) (acc ++ [(tokK s (nxt s k), nxt s k, tokZ s (nxt s k))]) else ([], nxt s k, tokE s (nxt s k)))
    else (acc ++ [(0, s.size, s.size)], 0, 0)
def allAt (s : ByteArray) (k : Nat) (acc : List Tk) : List Tk × Nat × Nat := allF s (s.size + 1 - k) k acc
def allR (s : ByteArray) : List Tk × Nat × Nat := if s.size ≤ 20000 then allAt s 0 [] else ([], 0, 4)

theorem endN_pos (L : Bool) (s : ByteArray) (k : Nat) (h : k < s.size) (hg : goOn L (byteAt s k) = true) : k < runEnd L s k := by
  unfold runEnd
  rw [endN_step]
  simp [h, hg]
theorem goOn_let (L : Bool) (c : UInt8) (h : letB c.toNat = true) : goOn true c = true := by rw [goOn_true, h]; rfl
theorem goOn_dig (L : Bool) (c : UInt8) (h : digB c.toNat = true) : goOn L c = true := by
  unfold goOn
  rw [kind_digit, h]; rfl
theorem tok_step (s : ByteArray) (k : Nat) (h : k < s.size) (he : tokE s k = 0) : k < tokZ s k ∧ tokZ s k ≤ s.size := by
  unfold tokE at he
  unfold tokZ
  by_cases h1 : letB (byteAt s k).toNat = true
  · rw [if_pos h1]
    exact ⟨endN_pos true s k h (goOn_let true _ h1), (run_bound true s k (by omega)).1⟩
  · rw [if_neg h1] at he ⊢
    by_cases h2 : digB (byteAt s k).toNat = true
    · rw [if_pos h2]
      exact ⟨endN_pos false s k h (goOn_dig false _ h2), (run_bound false s k (by omega)).1⟩
    · rw [if_neg h2] at he ⊢
      by_cases h58 : (byteAt s k).toNat = 58
      · have hs : ¬ sgnB (byteAt s k).toNat = true := by rw [h58]; decide
        rw [if_neg hs, if_pos h58] at he
        rw [if_pos h58]
        by_cases h3 : k + 1 < s.size ∧ (byteAt s (k + 1)).toNat = 61
        · omega
        · rw [if_neg h3] at he; cases he
      · rw [if_neg h58]; omega
theorem skip_le : ∀ (b : Bool) (l : List UInt8), skipN b l ≤ l.length
  | _, [] => by simp [skipN]
  | true, c :: l => by
    have h1 := skip_le true l
    have h2 := skip_le false l
    unfold skipN
    split <;> simp <;> omega
  | false, c :: l => by
    have h1 := skip_le true l
    have h2 := skip_le false l
    unfold skipN
    repeat' split
    all_goals simp
    all_goals omega
theorem nxt_bound (s : ByteArray) (k : Nat) (h : k ≤ s.size) : k ≤ nxt s k ∧ nxt s k ≤ s.size := by
  have := skip_le false ((bs s).drop k)
  rw [List.length_drop, bs_len] at this
  unfold nxt; omega
theorem allF_fuel (s : ByteArray) : ∀ (f f' k : Nat) (acc : List Tk), k ≤ s.size → s.size < k + f → s.size < k + f' → allF s f k acc = allF s f' k acc
  | 0, _, k, acc, h, h1, _ => by omega
  | f + 1, 0, k, acc, h, _, h2 => by omega
  | f + 1, f' + 1, k, acc, h, h1, h2 => by
    obtain ⟨n1, n2⟩ := nxt_bound s k h
    unfold allF
    split
    · rename_i hp
      split
      · rename_i he
        obtain ⟨t1, t2⟩ := tok_step s _ hp he
        exact allF_fuel s f f' _ _ t2 (by omega) (by omega)
      · rfl
    · rfl
theorem allAt_eq (s : ByteArray) (k : Nat) (acc : List Tk) (h : k ≤ s.size) : allAt s k acc =
    if nxt s k < s.size then (if tokE s (nxt s k) = 0 then allAt s (tokZ s (nxt s k)) (acc ++ [(tokK s (nxt s k), nxt s k, tokZ s (nxt s k))]) else ([], nxt s k, tokE s (nxt s k)))
    else (acc ++ [(0, s.size, s.size)], 0, 0) := by
  obtain ⟨n1, n2⟩ := nxt_bound s k h
  unfold allAt
  have e : s.size + 1 - k = (s.size - k) + 1 := by omega
  rw [e]
  conv => lhs; unfold allF
  split
  · rename_i hp
    split
    · rename_i he
      obtain ⟨t1, t2⟩ := tok_step s _ hp he
      exact allF_fuel s _ _ _ _ t2 (by omega) (by omega)
    · rfl
  · rfl
theorem allAt_skip (s : ByteArray) (k k' : Nat) (acc : List Tk) (h : k ≤ s.size) (h' : k' ≤ s.size) (hn : nxt s k = nxt s k') : allAt s k acc = allAt s k' acc := by
  rw [allAt_eq s k acc h, allAt_eq s k' acc h', hn]
theorem nxt_blank (s : ByteArray) (k : Nat) (h : k < s.size) (hb : blkB (byteAt s k).toNat = true) : nxt s k = nxt s (k + 1) := by
  unfold nxt
  rw [drop_byte s k h, skipN, if_pos hb]; omega
theorem skip_com (l : List UInt8) : skipN true l = comN l + skipN false (l.drop (comN l)) := by
  induction l with
  | nil => rfl
  | cons c l ih =>
    unfold comN
    by_cases h : c = 10
    · subst h
      rw [if_pos rfl]
      simp [skipN, blkB]
    · rw [if_neg h, skipN, if_neg h, List.drop_succ_cons, ih]; omega
theorem nxt_hash (s : ByteArray) (k : Nat) (h : k < s.size) (hb : byteAt s k = 35) : nxt s k = nxt s (k + comN ((bs s).drop k)) ∧ k < k + comN ((bs s).drop k) ∧ k + comN ((bs s).drop k) ≤ s.size := by
  have hc : comN ((bs s).drop k) = comN ((bs s).drop (k + 1)) + 1 := by rw [com_step]; simp [h, hb]
  have hcl : ∀ l : List UInt8, comN l ≤ l.length := by
    intro l
    induction l with
    | nil => simp [comN]
    | cons c l ih => unfold comN; split <;> simp <;> omega
  have hl := hcl ((bs s).drop k)
  rw [List.length_drop, bs_len] at hl
  refine ⟨?_, by omega, by omega⟩
  unfold nxt
  rw [hc]
  have e1 : skipN false ((bs s).drop k) = skipN true ((bs s).drop (k + 1)) + 1 := by
    rw [drop_byte s k h, hb]
    rfl
  rw [e1, skip_com, List.drop_drop]
  have e2 : k + 1 + comN ((bs s).drop (k + 1)) = k + (comN ((bs s).drop (k + 1)) + 1) := by omega
  rw [e2]; omega
theorem nxt_here (s : ByteArray) (k : Nat) (h : k < s.size) (hb : blkB (byteAt s k).toNat = false) (hh : byteAt s k ≠ 35) : nxt s k = k := by
  unfold nxt
  rw [drop_byte s k h, skipN, if_neg (by rw [hb]; decide), if_neg hh]; omega
theorem nxt_end (s : ByteArray) (k : Nat) (h : ¬ k < s.size) : nxt s k = k := by
  unfold nxt
  rw [drop_end s k h]; rfl

theorem bs_extract (s : ByteArray) (a b : Nat) : bs (s.extract a b) = ((bs s).drop a).take (b - a) := by
  unfold bs
  rw [ByteArray.data_extract]
  simp [List.extract_eq_take_drop]
theorem extract_nil (s : ByteArray) (a : Nat) : s.extract a a = ⟨#[]⟩ := by
  apply bs_inj
  rw [bs_extract]
  simp [bs]

/-- the cells of a list of tokens -/
def tksC (s : ByteArray) (l : List Tk) : List Value := l.flatMap (tokC s)
theorem tksC_len (s : ByteArray) (l : List Tk) : (tksC s l).length = l.length * 4 := by
  induction l with
  | nil => rfl
  | cons t l ih => simp [tksC, tokC] at *; omega
theorem tksC_app (s : ByteArray) (l : List Tk) (t : Tk) : tksC s (l ++ [t]) = tksC s l ++ tokC s t := by simp [tksC]
end Go.Proofs.Ytdhomomiejebdaa
