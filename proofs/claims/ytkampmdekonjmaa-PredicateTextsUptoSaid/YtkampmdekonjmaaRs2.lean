/- Rational numbers: the texts. -/
import Derived.Test.YtkampmdekonjmaaRa5
import Derived.Test.YtkampmdekonjmaaInF
namespace Go.Proofs.Ytkampmdekonjmaa
open Go Go.RowKit Go.V
set_option linter.unusedSimpArgs false
set_option linter.unusedVariables false
set_option maxRecDepth 20000
def qR (x : Rat) (a : Option Addr) (c : Nat) (a' : Option Addr) (c' : Nat) : Value := .agg #[.bool (decide (x.num < 0)), .slice a (lim x.num.natAbs).length c, .slice a' (lim x.den).length c']
/-- a rational number is returned -/
def RetR (w : World) (s : Nat) (x : Rat) (e : Ending) (w' : World) : Prop := ∃ a c a' c', e = .returned (qR x a c a' c') ∧ RD w' a c (lim x.num.natAbs) ∧ RD w' a' c' (lim x.den) ∧ (lim x.num.natAbs).length ≤ s ∧ (lim x.den).length ≤ s ∧ Below w.heap.size w w'
theorem retR_of {w w' : World} {x : Rat} {A B s : Nat} {e : Ending} (h : ∃ rvs, e = .returned (pack rvs) ∧ RepVs w' [[.r]] [qa x] rvs ∧ (∀ a ∈ [qa x], a.sz ≤ A * s + B) ∧ Below w.heap.size w w') : RetR w (A * s + B) x e w' := by
  obtain ⟨rvs, he, ⟨a1, a2, v, q, e1, rfl, h1, rfl, rfl⟩, hz, hE⟩ := h
  rw [List.append_nil] at e1
  subst e1
  obtain ⟨neg, l, m, a, c, a', c', e2, rfl, r1, r2⟩ := repV_r.1 h1
  have hz0 := hz _ (List.mem_singleton.2 rfl)
  unfold qa at e2 hz0
  simp only [List.cons.injEq, At.r.injEq, and_true] at e2
  obtain ⟨rfl, rfl, rfl⟩ := e2
  simp only [At.sz] at hz0
  exact ⟨a, c, a', c', he, r1, r2, Nat.le_trans (Nat.le_max_left _ _) hz0, Nat.le_trans (Nat.le_max_right _ _) hz0, hE⟩
theorem reduced_any (neg : Bool) (l m : List Nat) (a b : Option Addr) (c d s : Nat) (w : World) (hr : RD w a c l) (hs : RD w b d m) (hl : l.length ≤ s) (hm : m.length ≤ s) (hL : s ≤ 1000000000) :
    Calls Try.prog 67 #[.agg #[.bool neg, .slice a l.length c], .slice b m.length d] w (RetR w (s + 1) (qv neg l m)) := by
  refine (ok_reduced s w [.agg #[.bool neg, .slice a l.length c], .slice b m.length d] [.y neg l, .u m] [qa (qv neg l m)] hL ?_ ?_ rfl).mono fun e w' h => ?_
  · exact ⟨[_], _, _, _, rfl, rfl, repV_y.2 ⟨_, _, _, _, rfl, rfl, hr⟩, [_], [], _, _, rfl, rfl, repV_u.2 ⟨_, _, _, rfl, rfl, hs⟩, rfl, rfl⟩
  · simp only [List.mem_cons, List.not_mem_nil, or_false]
    rintro x (rfl | rfl)
    · exact hl
    · exact hm
  · have := retR_of (A := 1) (B := 1) h
    rwa [Nat.one_mul] at this
theorem over_any (neg : Bool) (l m : List Nat) (a b : Option Addr) (c d s : Nat) (w : World) (hr : RD w a c l) (hs : RD w b d m) (hl : l.length ≤ s) (hm : m.length ≤ s) (hL : s ≤ 1000000000) :
    Calls Try.prog 76 #[.agg #[.bool neg, .slice a l.length c], .slice b m.length d] w (RetR w (s + 4) (qv neg l m)) := by
  refine (ok_over s w [.agg #[.bool neg, .slice a l.length c], .slice b m.length d] [.y neg l, .u m] [qa (qv neg l m)] hL ?_ ?_ rfl).mono fun e w' h => ?_
  · exact ⟨[_], _, _, _, rfl, rfl, repV_y.2 ⟨_, _, _, _, rfl, rfl, hr⟩, [_], [], _, _, rfl, rfl, repV_u.2 ⟨_, _, _, rfl, rfl, hs⟩, rfl, rfl⟩
  · simp only [List.mem_cons, List.not_mem_nil, or_false]
    rintro x (rfl | rfl)
    · exact hl
    · exact hm
  · have := retR_of (A := 1) (B := 4) h
    rwa [Nat.one_mul] at this
theorem rnormQ_any (neg : Bool) (l m : List Nat) (a b : Option Addr) (c d s : Nat) (w : World) (hr : RD w a c l) (hs : RD w b d m) (hl : l.length ≤ s) (hm : m.length ≤ s) (hL : s ≤ 100000000) :
    Calls Try.prog 38 #[.agg #[.bool neg, .slice a l.length c, .slice b m.length d]] w (RetR w (s + 4) (qv neg l m)) := by
  refine (ok_rqnorm s w [.agg #[.bool neg, .slice a l.length c, .slice b m.length d]] [.r neg l m] [qa (qv neg l m)] hL ?_ ?_ rfl).mono fun e w' h => ?_
  · exact ⟨[_], [], _, _, rfl, rfl, repV_r.2 ⟨_, _, _, _, _, _, _, rfl, rfl, hr, hs⟩, rfl, rfl⟩
  · simp only [List.mem_cons, List.not_mem_nil, or_false]
    rintro x rfl
    exact Nat.max_le.2 ⟨hl, hm⟩
  · have := retR_of (A := 1) (B := 4) h
    rwa [Nat.one_mul] at this
/-- what a text is -/
def qtxt (x : Rat) : List UInt8 := if x.den = 1 then itxt x.num else itxt x.num ++ 47 :: txt x.den
theorem qtxt_1 {x : Rat} (h : x.den = 1) : qtxt x = itxt x.num := if_pos h
theorem qtxt_2 {x : Rat} (h : ¬ x.den = 1) : qtxt x = itxt x.num ++ 47 :: txt x.den := if_neg h
theorem ba_slash (l m : List UInt8) : (⟨l.toArray⟩ : ByteArray) ++ ⟨#[47]⟩ ++ ⟨m.toArray⟩ = ⟨(l ++ 47 :: m).toArray⟩ := by
  apply ByteArray.ext
  rw [ByteArray.data_append, ByteArray.data_append]
  simp
theorem lim_lenT {n s : Nat} (h : (lim n).length ≤ s) (hs : s ≤ 100000) : (txt n).length ≤ 1600001 := by
  have := txt_len (lim n) (lim_ok n) (by omega)
  rwa [val_lim] at this
theorem lim_lenI {z : Int} {s : Nat} (h : (lim z.natAbs).length ≤ s) (hs : s ≤ 100000) : (itxt z).length ≤ 1600002 := by
  have := lim_lenT h hs
  unfold itxt
  split <;> simp <;> omega
end Go.Proofs.Ytkampmdekonjmaa
