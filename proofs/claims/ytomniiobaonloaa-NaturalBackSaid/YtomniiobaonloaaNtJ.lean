/- NaturalRing. -/
import Derived.Test.YtomniiobaonloaaNtI
namespace Go.Proofs.Ytomniiobaonloaa
open Go.RowKit Go.V Go.ChangeMaps
set_option linter.unusedSimpArgs false
set_option linter.unusedVariables false

/-- a slice of limbs whose value is x, in a modest length -/
structure NV (w : World) (a : Option Addr) (c : Nat) (l : List Nat) (x : Nat) : Prop where
  rd : RD w a c l
  eq : val l = x
  len : l.length ≤ 1000
theorem NV.ext {w w' : World} {a : Option Addr} {c : Nat} {l : List Nat} {x : Nat} (h : NV w a c l x) (hb : Below w.heap.size w w') : NV w' a c l x := ⟨h.rd.ext hb, h.eq, h.len⟩
theorem NV.lim {w : World} {a : Option Addr} {c : Nat} {x : Nat} (h : RD w a c (lim x)) (hx : x < 65536 ^ 100) : NV w a c (lim x) x := ⟨h, val_lim x, Nat.le_trans (lim_len 100 x hx) (by decide)⟩
theorem NV.s {w : World} {a : Option Addr} {c : Nat} {l : List Nat} {x : Nat} (h : NV w a c l x) : l.length ≤ lenS := by have := h.len; unfold lenS; omega
theorem NV.b {w : World} {a : Option Addr} {c : Nat} {l : List Nat} {x : Nat} (h : NV w a c l x) : l.length ≤ lenB := by have := h.len; unfold lenB; omega
/-- a function that returns the number x -/
def RetV (w : World) (x : Nat) (e : Ending) (w' : World) : Prop := ∃ a c, e = .returned (.slice a (lim x).length c) ∧ NV w' a c (lim x) x ∧ Below w.heap.size w w'
theorem retV {w : World} {x : Nat} {e : Ending} {w' : World} (hx : x < 65536 ^ 100) (h : RetN w (lim x) e w') : RetV w x e w' := by
  obtain ⟨a, c, he, hr, hE⟩ := h
  exact ⟨a, c, he, NV.lim hr hx, hE⟩
theorem addV {l m : List Nat} {a b : Option Addr} {c d x y : Nat} {w : World} (hr : NV w a c l x) (hs : NV w b d m y) (h : x + y < 65536 ^ 100) :
    Calls Try.prog 29 #[.slice a l.length c, .slice b m.length d] w (RetV w (x + y)) := by
  have := add_any l m a b c d w hr.rd hs.rd hr.b hs.b
  rw [hr.eq, hs.eq] at this
  exact this.mono (fun _ _ => retV h)
theorem mulV {l m : List Nat} {a b : Option Addr} {c d x y : Nat} {w : World} (hr : NV w a c l x) (hs : NV w b d m y) (h : x * y < 65536 ^ 100) :
    Calls Try.prog 30 #[.slice a l.length c, .slice b m.length d] w (RetV w (x * y)) := by
  have := mul_any l m a b c d w hr.rd hs.rd hr.s hs.s
  rw [hr.eq, hs.eq] at this
  exact this.mono (fun _ _ => retV h)
theorem normV {l : List Nat} {a : Option Addr} {c x : Nat} {w : World} (hr : NV w a c l x) (h : x < 65536 ^ 100) :
    Calls Try.prog 17 #[.slice a l.length c] w (RetV w x) := by
  have := norm_any l a c w hr.rd hr.b
  rw [← lim_val l hr.rd.ok, hr.eq] at this
  exact this.mono (fun _ _ => retV h)
theorem subV {l m : List Nat} {a b : Option Addr} {c d x y : Nat} {w : World} (hr : NV w a c l x) (hs : NV w b d m y) (h : x < 65536 ^ 100) (hle : y ≤ x) :
    Calls Try.prog 31 #[.slice a l.length c, .slice b m.length d] w fun e w' => ∃ a c, e = .returned (.tuple #[.slice a (lim (x - y)).length c, .int .i64 0]) ∧ NV w' a c (lim (x - y)) (x - y) ∧ Below w.heap.size w w' := by
  have := sub_any l m a b c d w hr.rd hs.rd hr.b hs.b
  rw [hr.eq, hs.eq] at this
  refine this.mono ?_
  rintro e w' (⟨h1, _⟩ | ⟨_, a, c, he, hr, hE⟩)
  · omega
  · exact ⟨a, c, he, NV.lim hr (by omega), hE⟩
theorem sameV {x : Nat} {a b : Option Addr} {c d : Nat} {w : World} (hr : NV w a c (lim x) x) (hs : NV w b d (lim x) x) :
    Calls Try.prog 16 #[.slice a (lim x).length c, .slice b (lim x).length d] w fun e w' => e = .returned (.bool true) ∧ Below w.heap.size w w' :=
  same_any (lim x) a b c d w hr.rd hs.rd hr.b
end Go.Proofs.Ytomniiobaonloaa
