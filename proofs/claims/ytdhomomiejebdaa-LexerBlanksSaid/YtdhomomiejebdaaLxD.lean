/- The lexer: the plain law of LexerBlanks: the texts of tokens, separated otherwise, are the same tokens. -/
import Derived.Test.YtdhomomiejebdaaLxC
namespace Go.Proofs.Ytdhomomiejebdaa
open Go.RowKit Go.V Go.ChangeMaps
set_option linter.unusedSimpArgs false
set_option linter.unusedVariables false

def BT : List (List UInt8) := [[32], [10], [9, 13, 32], [35, 10], [32, 35, 32, 97, 32, 58, 61, 32, 40, 32, 10, 10]]
def md5 (n : Nat) : Nat := n % 5
theorem md5_lt (n : Nat) : md5 n < 5 := Nat.mod_lt _ (by decide)
theorem md5_int (n : Nat) : (n : Int).tmod 5 = (md5 n : Int) := rfl
def btAt (n : Nat) : List UInt8 := BT.getD (md5 n) []
def BTC : Array Value := #[.string ⟨#[32]⟩, .string ⟨#[10]⟩, .string ⟨#[9, 13, 32]⟩, .string ⟨#[35, 10]⟩, .string ⟨#[32, 35, 32, 97, 32, 58, 61, 32, 40, 32, 10, 10]⟩]
theorem BTC_get (n : Nat) : BTC[md5 n]? = some (strV (btAt n)) := by
  have h := md5_lt n
  unfold btAt
  generalize md5 n = i at h ⊢
  match i, h with
  | 0, _ => rfl
  | 1, _ => rfl
  | 2, _ => rfl
  | 3, _ => rfl
  | 4, _ => rfl
theorem bt_ok (n : Nat) : (∀ r, skipN false (btAt n ++ r) = (btAt n).length + skipN false r) ∧ (btAt n).length ≤ 12 ∧ ∀ L r, endN L (btAt n ++ r) = 0 := by
  have h := md5_lt n
  unfold btAt
  generalize md5 n = i at h ⊢
  match i, h with
  | 0, _ => refine ⟨fun r => ?_, by decide, fun L r => ?_⟩ <;> simp [BT, skipN, blkB, endN] <;> first | omega | (cases L <;> decide)
  | 1, _ => refine ⟨fun r => ?_, by decide, fun L r => ?_⟩ <;> simp [BT, skipN, blkB, endN] <;> first | omega | (cases L <;> decide)
  | 2, _ => refine ⟨fun r => ?_, by decide, fun L r => ?_⟩ <;> simp [BT, skipN, blkB, endN] <;> first | omega | (cases L <;> decide)
  | 3, _ => refine ⟨fun r => ?_, by decide, fun L r => ?_⟩ <;> simp [BT, skipN, blkB, endN] <;> first | omega | (cases L <;> decide)
  | 4, _ => refine ⟨fun r => ?_, by decide, fun L r => ?_⟩ <;> simp [BT, skipN, blkB, endN] <;> first | omega | (cases L <;> decide)
def txt (s : ByteArray) (t : Tk) : List UInt8 := bs (s.extract t.2.1 t.2.2)
def joinT (s : ByteArray) (n : Nat) : Nat → List Tk → List UInt8
  | _, [] => []
  | i, t :: l => txt s t ++ (btAt (n + i) ++ joinT s n (i + 1) l)
theorem endN_app (L : Bool) : ∀ (T r : List UInt8), endN L T = T.length → endN L (T ++ r) = T.length + endN L r
  | [], r, _ => by simp
  | c :: T, r, h => by
    have := endN_le L T
    simp only [endN, List.length_cons] at h
    simp only [List.cons_append, endN, List.length_cons]
    split at h
    · rename_i hc
      rw [if_pos hc, endN_app L T r (by omega)]; omega
    · omega
theorem tok_head (c : UInt8) (r r' : List UInt8) (h : (tokL (c :: r)).1 = 0) : skipN false (c :: r') = 0 := by
  unfold tokL at h
  have hb : blkB c.toNat = false := by
    cases hb : blkB c.toNat with
    | false => rfl
    | true =>
      exfalso
      have a1 : letB c.toNat = false := by revert hb; unfold blkB letB; simp; omega
      have a2 : digB c.toNat = false := by revert hb; unfold blkB digB; simp; omega
      have a3 : sgnB c.toNat = false := by revert hb; unfold blkB sgnB; simp; omega
      have a4 : ¬ c.toNat = 58 := by revert hb; unfold blkB; simp; omega
      simp [a1, a2, a3, a4] at h
  have hh : c ≠ 35 := by
    intro e; subst e
    have a1 : letB (35 : UInt8).toNat = false := by decide
    have a2 : digB (35 : UInt8).toNat = false := by decide
    have a3 : sgnB (35 : UInt8).toNat = false := by decide
    have a4 : ¬ (35 : UInt8).toNat = 58 := by decide
    simp only [a1, a2, a3, if_neg a4, Bool.false_eq_true, if_false] at h
    cases h
  simp [skipN, hb, hh]
theorem lexed_join (s u : ByteArray) (n : Nat) (k : Nat) (l : List Tk) (h : Lexed s k l) : ∀ (p j i : Nat), p ≤ u.size → (bs u).drop p = btAt j ++ joinT s n i l → k ≤ s.size →
    ∃ m : List Tk, Lexed u p m ∧ m.length = l.length ∧ ∀ (x : Nat) (t : Tk), l[x]? = some t → ∃ t' : Tk, m[x]? = some t' ∧ t'.1 = t.1 ∧ txt u t' = txt s t := by
  induction h with
  | fin k h =>
    intro p j i hp hd hk
    have hx : txt s (0, s.size, s.size) = [] := by unfold txt; rw [extract_nil]; rfl
    obtain ⟨b1, b2, b3⟩ := bt_ok j
    obtain ⟨d1, d2, d3⟩ := bt_ok (n + i)
    have hn : nxt u p = u.size := by
      unfold nxt
      have hl := congrArg List.length hd
      rw [hd, joinT, joinT, hx, b1, List.nil_append, d1]
      rw [List.length_drop, bs_len, joinT, joinT, hx] at hl
      simp [skipN] at hl ⊢; omega
    refine ⟨[(0, u.size, u.size)], .fin p (by omega), rfl, ?_⟩
    intro x t ht
    match x, ht with
    | 0, ht =>
      simp at ht; subst ht
      refine ⟨(0, u.size, u.size), rfl, rfl, ?_⟩
      rw [hx]; unfold txt; rw [extract_nil]; rfl
  | tok k l h he hl ih =>
    intro p j i hp hd hk
    obtain ⟨t1, t2⟩ := tok_step s _ h he
    obtain ⟨tl, _⟩ := tok_list s _ h
    generalize nxt s k = q at *
    obtain ⟨b1, b2, b3⟩ := bt_ok j
    obtain ⟨d1, d2, d3⟩ := bt_ok (n + i)
    rw [joinT] at hd
    have hT : txt s (tokK s q, q, tokZ s q) = ((bs s).drop q).take (tokZ s q - q) := by unfold txt; rw [bs_extract]
    generalize hTT : txt s (tokK s q, q, tokZ s q) = T at hd hT
    have hTl : T.length = tokZ s q - q := by rw [hT, List.length_take, List.length_drop, bs_len]; omega
    have hsplit : (bs s).drop q = T ++ ((bs s).drop q).drop (tokZ s q - q) := by rw [hT, List.take_append_drop]
    rw [hsplit, he, ← hTl] at tl
    have tl2 := tok_app T _ (btAt (n + i) ++ joinT s n (i + 1) l) _ tl (by
      intro L hL
      have : endN L T = T.length := by
        have h2 := endN_take L (T ++ ((bs s).drop q).drop T.length) T.length
        rw [hL, List.take_left] at h2
        omega
      rw [endN_app L T _ this, d3]; omega)
    have hlen := congrArg List.length hd
    rw [List.length_drop, bs_len, List.length_append, List.length_append, List.length_append] at hlen
    have hn : nxt u p = p + (btAt j).length := by
      unfold nxt
      rw [hd, b1]
      cases T with
      | nil => simp at hTl; omega
      | cons c T => rw [List.cons_append, tok_head c _ _ (by rw [List.cons_append] at tl; rw [tl])]; omega
    have hdq : (bs u).drop (nxt u p) = T ++ (btAt (n + i) ++ joinT s n (i + 1) l) := by
      rw [hn, ← List.drop_drop, hd, List.drop_left]
    have hlt : nxt u p < u.size := by rw [hn]; omega
    obtain ⟨ul, uz⟩ := tok_list u (nxt u p) hlt
    rw [hdq, tl2] at ul
    injection ul with u1 ul; injection ul with u2 u3
    have hz : tokZ u (nxt u p) = nxt u p + T.length := by omega
    obtain ⟨m, m1, m2, m3⟩ := ih (tokZ u (nxt u p)) (n + i) (i + 1) (by rw [hz, hn]; omega) (by rw [hz, ← List.drop_drop, hdq, List.drop_left]) t2
    refine ⟨_, .tok p m hlt u1.symm m1, by simp [m2], ?_⟩
    intro x t ht
    cases x with
    | zero =>
      simp at ht; subst ht
      refine ⟨_, rfl, u2.symm, ?_⟩
      rw [hTT]
      unfold txt
      rw [bs_extract]
      show ((bs u).drop (nxt u p)).take (tokZ u (nxt u p) - nxt u p) = T
      rw [hz, hdq, Nat.add_sub_cancel_left, List.take_left]
    | succ x => exact m3 x t (by simpa using ht)
end Go.Proofs.Ytdhomomiejebdaa
