/- Facts: slices of structs that are read; numbers that are returned. -/
import Derived.Test.YtkampmdekonjmaaFcP
import Derived.Test.YtkampmdekonjmaaFc1
namespace Go.Proofs.Ytkampmdekonjmaa
open Go Go.RowKit Go.V
set_option linter.unusedSimpArgs false
set_option linter.unusedVariables false
set_option maxRecDepth 20000
/-- the rational number q is returned -/
def RetR (w : World) (s : Nat) (x : Rat) (e : Ending) (w' : World) : Prop := ∃ a c a' c', e = .returned (.agg #[.bool (decide (x.num < 0)), .slice a (lim x.num.natAbs).length c, .slice a' (lim x.den).length c']) ∧ RD w' a c (lim x.num.natAbs) ∧ RD w' a' c' (lim x.den) ∧ (lim x.num.natAbs).length ≤ s ∧ (lim x.den).length ≤ s ∧ Below w.heap.size w w'
theorem ct_r {P : Program} {f s S : Nat} {c : Ct} {w : World} {vs : List Value} {als : List At} {x : Rat} (h : c.ok P f) (hres : c.res = [[.r]]) (hs : s ≤ c.L) (hr : RepVs w c.args als vs) (hz : ∀ a ∈ als, a.sz ≤ s) (hF : c.F als = some [QA.at (.q x)]) (hS : c.A * s + c.B ≤ S) :
    Calls P f vs.toArray w (RetR w S x) := by
  refine (h s w vs als _ hs hr hz hF).mono ?_
  rintro e w' ⟨rvs, he, hrv, hsz, hE⟩
  rw [hres] at hrv
  obtain ⟨v, rfl, h1⟩ := vs1 hrv
  obtain ⟨neg, l, m, a, c1, a', c2, e2, rfl, r1, r2⟩ := repV_r.1 h1
  have hz0 := hsz _ (List.mem_singleton.2 rfl)
  simp only [QA.at, qa] at e2 hz0
  simp only [List.cons.injEq, At.r.injEq, and_true] at e2
  obtain ⟨rfl, rfl, rfl⟩ := e2
  simp only [At.sz] at hz0
  exact ⟨a, c1, a', c2, he, r1, r2, by omega, by omega, hE⟩
/-! ### Slices of structs -/
def RowsR (w : World) (ad : Option Addr) (n : Nat) (shs : List Sh) (xs : List (List At)) : Prop := ∃ rows : List (List Value), SL w ad rows.flatten ∧ rows.length = xs.length ∧ ∀ (i : Nat) (R : List Value) (x : List At), rows[i]? = some R → xs[i]? = some x → R.length = n ∧ RepV w shs x (.agg R.toArray)
theorem Reps_keep {w w' : World} (hb : Below w.heap.size w w') : ∀ {shs : List Sh} {als : List At} {cs : List Value}, Reps w shs als cs → Reps w' shs als cs
  | [], _, _, h => h
  | sh :: r, als, cs, h => by
    obtain ⟨a, l, c1, c2, e1, e2, h1, h2, h3⟩ := h
    exact ⟨a, l, c1, c2, e1, e2, h1, h2.keep hb, Reps_keep hb h3⟩
theorem RepV_keep {w w' : World} (hb : Below w.heap.size w w') {shs : List Sh} {als : List At} {v : Value} (h : RepV w shs als v) : RepV w' shs als v := by
  cases shs with
  | nil => obtain ⟨cs, h1, h2⟩ := h; exact ⟨cs, Reps_keep hb h1, h2⟩
  | cons sh r => cases sh <;> first
      | (obtain ⟨ad, c, cs, h1, h2, h3⟩ := h; exact ⟨ad, c, cs, h1, h2.ext hb, Reps_keep hb h3⟩)
      | (obtain ⟨cs, h1, h2⟩ := h; exact ⟨cs, Reps_keep hb h1, h2⟩)
theorem RowsR.ext {w w' : World} {ad : Option Addr} {n : Nat} {shs : List Sh} {xs : List (List At)} (h : RowsR w ad n shs xs) (hb : Below w.heap.size w w') : RowsR w' ad n shs xs := by
  obtain ⟨rows, h1, h2, h3⟩ := h
  exact ⟨rows, h1.ext hb, h2, fun i R x hR hx => ⟨(h3 i R x hR hx).1, RepV_keep hb (h3 i R x hR hx).2⟩⟩
theorem flat_len {α : Type} {n : Nat} : ∀ {rows : List (List α)}, (∀ R ∈ rows, R.length = n) → rows.flatten.length = n * rows.length
  | [], _ => by simp
  | R :: r, h => by
    rw [List.flatten_cons, List.length_append, h R (List.mem_cons_self ..), flat_len (fun q hq => h q (List.mem_cons_of_mem _ hq)), List.length_cons, Nat.mul_succ]; omega
theorem flat_row {α : Type} {n : Nat} : ∀ {rows : List (List α)} {i : Nat} {R : List α}, (∀ R ∈ rows, R.length = n) → rows[i]? = some R → (rows.flatten.drop (i * n)).take n = R
  | [], _, _, _, h => by simp at h
  | Q :: r, 0, R, hl, h => by
    simp at h
    subst h
    rw [Nat.zero_mul, List.drop_zero, List.flatten_cons, List.take_left' (hl Q (List.mem_cons_self ..))]
  | Q :: r, i + 1, R, hl, h => by
    have hq := hl Q (List.mem_cons_self ..)
    rw [List.flatten_cons, Nat.succ_mul, Nat.add_comm, ← List.drop_drop, List.drop_left' hq]
    exact flat_row (fun q hq => hl q (List.mem_cons_of_mem _ hq)) (by simpa using h)
/-- a row of such a slice -/
theorem RowsR.row {w : World} {ad : Option Addr} {n : Nat} {shs : List Sh} {xs : List (List At)} (h : RowsR w ad n shs xs) (hn : 0 < n) {i : Nat} {x : List At} (hx : xs[i]? = some x) :
    ∃ R : List Value, rowV w ((ad.getD default).add (i * n)) 0 n = R ∧ rowOk w ((ad.getD default).add (i * n)) 0 n ∧ ad.isSome = true ∧ R.length = n ∧ RepV w shs x (.agg R.toArray) := by
  obtain ⟨rows, h1, h2, h3⟩ := h
  have hi : i < rows.length := by rw [h2]; exact (List.getElem?_eq_some_iff.1 hx).1
  obtain ⟨R, hR⟩ : ∃ R, rows[i]? = some R := ⟨_, List.getElem?_eq_getElem hi⟩
  obtain ⟨g1, g2⟩ := h3 i R x hR hx
  have hall : ∀ R ∈ rows, R.length = n := by
    intro Q hQ
    obtain ⟨j, hj, rfl⟩ := List.getElem_of_mem hQ
    have hj' : j < xs.length := by omega
    exact (h3 j _ _ (List.getElem?_eq_getElem hj) (List.getElem?_eq_getElem hj')).1
  have hfl := flat_len hall
  have hle : i * n + n ≤ rows.flatten.length := by
    rw [hfl, Nat.mul_comm n]
    have := Nat.mul_le_mul_right n (Nat.succ_le_of_lt hi)
    rw [Nat.succ_mul] at this; exact this
  obtain ⟨q1, q2, q3⟩ := h1.row (i * n) n hle hn
  exact ⟨R, by rw [q1, flat_row hall hR], q2, q3, g1, g2⟩
/-! ### Points -/
def ptA (p : PT) : List At := [QA.at (.q p.1), QA.at (.q p.2)]
def ptSz (p : PT) (s : Nat) : Prop := (QA.at (.q p.1)).sz ≤ s ∧ (QA.at (.q p.2)).sz ≤ s
end Go.Proofs.Ytkampmdekonjmaa
