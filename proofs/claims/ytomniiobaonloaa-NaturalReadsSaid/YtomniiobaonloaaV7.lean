/- The machinery of the walks, seventh part: blocks of the call's own, slices, and the operations that make or write memory. -/
import Derived.Test.YtomniiobaonloaaV6
import Derived.Laws.AppendOwn
import Derived.Laws.CopyRow
namespace Go.V
open Go Go.RowKit
set_option linter.unusedSimpArgs false
set_option linter.unusedVariables false

/-! ### Blocks -/
/-- Block b holds these cells, and may be written. -/
structure Bx (w : World) (b : Nat) (c : Array Value) (t : TypeId) : Prop where
  heap : w.heap[b]? = some (.cells c t (0, 0))
/-- Only block b may have changed. -/
structure Sto (w w' : World) (b : Nat) : Prop where
  os : w'.os = w.os
  tape : w'.tape = w.tape
  output : w'.output = w.output
  size : w'.heap.size = w.heap.size
  block : ∀ k, k ≠ b → w'.heap[k]? = w.heap[k]?

theorem Bx.lt {w : World} {b : Nat} {c : Array Value} {t : TypeId} (h : Bx w b c t) : b < w.heap.size := (Array.getElem?_eq_some_iff.1 h.heap).1
theorem Bx.cell {w : World} {b : Nat} {c : Array Value} {t : TypeId} (h : Bx w b c t) : ∀ off, w.cell? ⟨b, off, none⟩ = c[off]? := fun off => by simp [World.cell?, h.heap]
theorem Bx.frozen {w : World} {b : Nat} {c : Array Value} {t : TypeId} (h : Bx w b c t) : ∀ off, w.frozen? ⟨b, off, none⟩ = false := fun off => by simp [World.frozen?, h.heap]
theorem Bx.ext {w w' : World} {b : Nat} {c : Array Value} {t : TypeId} (h : Bx w b c t) {B : Nat} (hb : Below B w w') (hB : b < B) : Bx w' b c t := ⟨by rw [hb.block b hB]; exact h.heap⟩
theorem Bx.keep {w w' : World} {b : Nat} {c : Array Value} {t : TypeId} (h : Bx w b c t) (hb : Below w.heap.size w w') : Bx w' b c t := h.ext hb h.lt
theorem Bx.sto {w w' : World} {b b' : Nat} {c : Array Value} {t : TypeId} (h : Bx w b c t) (hs : Sto w w' b') (hne : b ≠ b') : Bx w' b c t := ⟨by rw [hs.block b hne]; exact h.heap⟩
theorem Bx.grown {w w' : World} {b : Nat} {c : Array Value} {t : TypeId} {row : Option Nat} (h : Bx w b c t) (hg : w.grownBy w' row) (hne : some b ≠ row) : Bx w' b c t := ⟨by rw [hg.block b h.lt hne]; exact h.heap⟩
theorem Sto.below {w w' : World} {b B : Nat} (h : Sto w w' b) (hB : B ≤ b) : Below B w w' := ⟨h.os, h.tape, h.output, by rw [h.size]; exact Nat.le_refl _, fun k hk => h.block k (by omega)⟩
theorem below_step {w0 w w' : World} {B : Nat} (h : Below B w0 w) (hs : w0.heap.size ≤ w.heap.size) (hB : B ≤ w0.heap.size) (h' : Below w.heap.size w w') : Below B w0 w' := h.trans (h'.mono (by omega))
theorem _root_.Go.RowKit.Below.next {w0 w w' : World} (h : Below w0.heap.size w0 w) (h' : Below w.heap.size w w') : Below w0.heap.size w0 w' := h.trans (h'.mono h.size)
theorem _root_.Go.RowKit.Below.nextS {w0 w w' : World} {b : Nat} (h : Below w0.heap.size w0 w) (h' : Sto w w' b) (hb : w0.heap.size ≤ b) : Below w0.heap.size w0 w' := h.trans (h'.below hb)
theorem _root_.Go.RowKit.Below.nextG {w0 w w' : World} {row : Option Nat} (h : Below w0.heap.size w0 w) (hg : w.grownBy w' row) (hr : ∀ k, row = some k → w0.heap.size ≤ k) : Below w0.heap.size w0 w' := h.grown hg h.size hr
theorem _root_.Go.RowKit.Below.drew1 (w : World) : Below w.heap.size w w.drew := (Below.refl _ _).drew
theorem below_alloc (w : World) (o : Obj) : Below w.heap.size w (w.alloc o) := (Below.refl _ _).alloc (Nat.le_refl _) o
theorem bx_alloc (w : World) (c : Array Value) (t : TypeId) : Bx (w.alloc (.cells c t)) w.heap.size c t := ⟨heap_alloc_new w _⟩
theorem size_alloc' (w : World) (o : Obj) : (w.alloc o).heap.size = w.heap.size + 1 := by simp
theorem sto_setRow (w : World) (b : Nat) (c : Array Value) : Sto w (w.setRow b c) b := ⟨rfl, rfl, rfl, by simp, fun k hk => setRow_other w b k c hk⟩
theorem bx_setRow {w : World} {b : Nat} {c c' : Array Value} {t : TypeId} (h : Bx w b c t) : Bx (w.setRow b c') b c' t := ⟨setRow_heap w b c c' t (0, 0) h.heap⟩

/-! ### Slices -/
/-- The slice that begins at 'a' reads these cells. -/
def SL (w : World) (a : Option Addr) (xs : List Value) : Prop := xs = [] ∨ ∃ b off, a = some ⟨b, off, none⟩ ∧ ∀ j v, xs[j]? = some v → w.cell? ⟨b, off + j, none⟩ = some v
theorem add_mk (b off n : Nat) : (⟨b, off, none⟩ : Addr).add n = ⟨b, off + n, none⟩ := by unfold Addr.add; split <;> simp_all
theorem SL.nil (w : World) (a : Option Addr) : SL w a [] := .inl rfl
theorem SL.get {w : World} {a : Option Addr} {xs : List Value} (h : SL w a xs) {j : Nat} (hj : j < xs.length) : w.cell? ((a.getD default).add j) = some xs[j] ∧ a.isSome = true := by
  rcases h with h | ⟨b, off, rfl, h⟩
  · subst h; simp at hj
  · rw [Option.getD_some, add_mk]
    exact ⟨h j _ (List.getElem?_eq_getElem hj), rfl⟩
theorem SL.getD {w : World} {a : Option Addr} {xs : List Value} (h : SL w a xs) {j : Nat} (hj : j < xs.length) : w.cell? ((a.getD default).add j) = some (xs.getD j undef) ∧ a.isSome = true := by
  have := h.get hj
  rw [List.getD_eq_getElem?_getD, List.getElem?_eq_getElem hj, Option.getD_some]; exact this
theorem SL.ext {w w' : World} {a : Option Addr} {xs : List Value} (h : SL w a xs) (hb : Below w.heap.size w w') : SL w' a xs := by
  rcases h with h | ⟨b, off, e, h⟩
  · exact .inl h
  · exact .inr ⟨b, off, e, fun j v hv => cell_below hb (h j v hv)⟩
theorem SL.sto {w w' : World} {a : Option Addr} {xs : List Value} {b' : Nat} (h : SL w a xs) (hs : Sto w w' b') (hne : ∀ ad, a = some ad → xs ≠ [] → ad.block ≠ b') : SL w' a xs := by
  rcases h with h | ⟨b, off, e, h⟩
  · exact .inl h
  · by_cases hx : xs = []
    · exact .inl hx
    · exact .inr ⟨b, off, e, fun j v hv => (World.cell?_of_block (w := w) (a := ⟨b, off + j, none⟩) (hs.block b (hne _ e hx))).trans (h j v hv)⟩
theorem SL.of_bx {w : World} {b : Nat} {c : Array Value} {t : TypeId} (h : Bx w b c t) {xs : List Value} (off : Nat) (hx : ∀ j v, xs[j]? = some v → c[off + j]? = some v) : SL w (some ⟨b, off, none⟩) xs :=
  .inr ⟨b, off, rfl, fun j v hv => by rw [h.cell]; exact hx j v hv⟩
theorem SL.whole {w : World} {b : Nat} {c : Array Value} {t : TypeId} (h : Bx w b c t) : SL w (some ⟨b, 0, none⟩) c.toList := SL.of_bx h 0 (fun j v hv => by simpa using hv)
theorem SL.lt {w : World} {a : Option Addr} {xs : List Value} (h : SL w a xs) (hx : xs ≠ []) : ∃ b off, a = some ⟨b, off, none⟩ ∧ b < w.heap.size := by
  rcases h with h | ⟨b, off, e, h⟩
  · exact absurd h hx
  · refine ⟨b, off, e, ?_⟩
    cases xs with
    | nil => exact absurd rfl hx
    | cons v r => exact World.block_lt_of_cell? w _ (h 0 v rfl)
/-- a part of a slice -/
theorem SL.sub {w : World} {a : Option Addr} {xs : List Value} (h : SL w a xs) (lo n : Nat) : SL w (a.map (·.add lo)) ((xs.drop lo).take n) := by
  rcases h with h | ⟨b, off, rfl, h⟩
  · subst h; exact .inl (by simp)
  · refine .inr ⟨b, off + lo, by simp [add_mk], fun j v hv => ?_⟩
    rw [Nat.add_assoc]
    refine h (lo + j) v ?_
    rw [List.getElem?_take] at hv
    split at hv
    · simpa using hv
    · cases hv
theorem SL.take {w : World} {a : Option Addr} {xs : List Value} (h : SL w a xs) (n : Nat) : SL w a (xs.take n) := by
  rcases h with h | ⟨b, off, rfl, h⟩
  · subst h; exact .inl (by simp)
  · refine .inr ⟨b, off, rfl, fun j v hv => ?_⟩
    rw [List.getElem?_take] at hv
    split at hv
    · exact h j v hv
    · cases hv
theorem rowV_cons (w : World) (a : Addr) (i n : Nat) : rowV w a i (n + 1) = cellV w (a.add i) :: rowV w a (i + 1) n := rfl
/-- a row of n cells at the place j*n of a slice -/
theorem SL.row {w : World} {a : Option Addr} {xs : List Value} (h : SL w a xs) (lo n : Nat) (hn : lo + n ≤ xs.length) (hpos : 0 < n) :
    rowV w ((a.getD default).add lo) 0 n = (xs.drop lo).take n ∧ rowOk w ((a.getD default).add lo) 0 n ∧ a.isSome = true := by
  rcases h with h | ⟨b, off, rfl, h⟩
  · subst h; simp at hn; omega
  · rw [Option.getD_some, add_mk]
    have key : ∀ n i, lo + i + n ≤ xs.length → rowV w ⟨b, off + lo, none⟩ i n = (xs.drop (lo + i)).take n ∧ rowOk w ⟨b, off + lo, none⟩ i n := by
      intro n
      induction n with
      | zero => intro i _; simp [rowV, rowOk]
      | succ n ih =>
        intro i hi
        have hlt : lo + i < xs.length := by omega
        have hc := h (lo + i) _ (List.getElem?_eq_getElem hlt)
        obtain ⟨h1, h2⟩ := ih (i + 1) (by omega)
        have he : (⟨b, off + lo, none⟩ : Addr).add i = ⟨b, off + (lo + i), none⟩ := by rw [add_mk, Nat.add_assoc]
        refine ⟨?_, ?_, h2⟩
        · rw [rowV, he, cellV, hc, h1, List.drop_eq_getElem_cons hlt, List.take_succ_cons]; rfl
        · rw [he, hc]; rfl
    have := key n 0 (by omega)
    exact ⟨this.1, this.2, rfl⟩

theorem ownsRow_SL {w : World} {base : Nat} {e : TypeId} {size n cap : Nat} {a : Option Addr} {xs : List Value} (h : w.ownsRow base e size (.slice a n cap) n xs) : SL w a xs := by
  rcases h.2 with ⟨h1, h2⟩ | ⟨g, cap', cur, hv, hb, hg, _⟩
  · left; have := h.1; subst h2; simpa using this
  · injection hv with e1
    subst e1
    right
    refine ⟨g, 0, rfl, fun j v hj => ?_⟩
    have := h.cells (g := g) rfl j v hj
    rwa [add_mk] at this
end Go.V
