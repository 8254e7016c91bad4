/- The machinery of the walks, eleventh part: closures, boxes, blocks written by calls. -/
import Derived.Test.YtomniiobaonloaaVA
namespace Go.V
open Go Go.RowKit
set_option linter.unusedSimpArgs false
set_option linter.unusedVariables false
section
variable {P : Program} {w : World} {ev : Operand → Value} {ty : TypeId}
@[go_sem] theorem lc_makeFunc (fn : Fn) (c d : Array Operand) : lc P w ev (.makeFunc fn c d) = none := rfl
theorem run_makeFunc (fn : Fn) (c d : Array Operand) : run1 P w ev ty (.makeFunc fn c d) = some (.value (.func fn (c.map ev) (d.map ev))) := by
  simp only [run1, execOp, Instr.makeFunc]
  simp [tame_bind', tame_map, tame_pure, tame_spure]
@[go_sem] theorem any_makeFunc_v (fn : Fn) (c d : Array Operand) : anyV P w ev ty (.makeFunc fn c d) = .func fn (c.map ev) (d.map ev) := by
  simp [anyV, run_makeFunc]
@[go_sem] theorem any_makeFunc_ok (fn : Fn) (c d : Array Operand) : anyOk P w ev ty (.makeFunc fn c d) = True := eq_true ⟨_, run_makeFunc fn c d⟩
end
section
variable {P : Program} {n : Nat} {ops : Array Oper} {g : G} {w : World} {nx : G → World → Prop} {k : Nat} {o : Oper}
/-- a call of a closure of the program -/
theorem hv_callc (hw : wantO ops g o = true) {f : FuncId} {x : Operand} {args : Array Operand} {ts : Array TypeId} {captured : Array Value} (hop : o.op = .call { callee := .value x, args := args, argTypes := ts })
    (hx : evG g x = .func (.func f) #[] captured) (hcall : ∀ (args : Array Value) (w : World), (callFunc f args).run P w = .ok (.enter f args) w)
    (h : ∀ R : Value → World → Prop, (∀ v w', nx (updO g o.dst v) w' → R v w') → Calls P f (args.map (evG g) ++ captured) w (fun e w' => ∃ v, e = .returned v ∧ (k = 0 → Below w.heap.size w w') ∧ R v w')) : hvX P ops o k nx g w := by
  refine hv_open hw ?_
  unfold hwp
  have hr : (execOp (evG g) o).run P w = .ok (.enter f (args.map (evG g) ++ captured)) w := by
    unfold execOp
    simp only [hop, resolve, Deferred.ofValue, hx, Sem.run_bind, Sem.run_pure, Result.andThen_ok, invoke, Array.append_empty, Array.empty_append, hcall]
  rw [hr]
  exact h _ (fun _ _ h => h)
end
attribute [go_sem] outV_none outOk_none
/-- what a box holds -/
theorem Bx.get0 {w : World} {b : Nat} {v : Value} {t : TypeId} (h : Bx w b #[v] t) : w.cell? ⟨b, 0, none⟩ = some v := h.cell 0

/-- Of what there was, only block b may have changed. -/
abbrev Wr (w w' : World) (b : Nat) : Prop := w.grownBy w' (some b)
theorem Wr.refl (w : World) (b : Nat) : Wr w w b := ⟨rfl, rfl, rfl, Nat.le_refl _, fun _ _ _ => rfl⟩
theorem Wr.trans {w w1 w2 : World} {b : Nat} (h : Wr w w1 b) (h' : Wr w1 w2 b) : Wr w w2 b :=
  ⟨h'.os.trans h.os, h'.tape.trans h.tape, h'.output.trans h.output, Nat.le_trans h.size h'.size, fun k hk hne => (h'.block k (Nat.lt_of_lt_of_le hk h.size) hne).trans (h.block k hk hne)⟩
theorem Wr.of_sto {w w1 : World} {b : Nat} (h : Sto w w1 b) : Wr w w1 b := ⟨h.os, h.tape, h.output, by rw [h.size]; exact Nat.le_refl _, fun k _ hne => h.block k (fun e => hne (by rw [e]))⟩
theorem Wr.of_below {w w1 : World} (b : Nat) (h : Below w.heap.size w w1) : Wr w w1 b := ⟨h.os, h.tape, h.output, h.size, fun k hk _ => h.block k hk⟩
theorem Wr.sto {w w1 w2 : World} {b : Nat} (h : Wr w w1 b) (h' : Sto w1 w2 b) : Wr w w2 b := h.trans (.of_sto h')
theorem Wr.keep {w w1 w2 : World} {b : Nat} (h : Wr w w1 b) (h' : Below w1.heap.size w1 w2) : Wr w w2 b := h.trans (.of_below b h')
/-- a store into a block that was not there at first -/
theorem Wr.sto2 {w w1 w2 : World} {b b' : Nat} (h : Wr w w1 b) (h' : Sto w1 w2 b') (hb : w.heap.size ≤ b') : Wr w w2 b :=
  ⟨h'.os.trans h.os, h'.tape.trans h.tape, h'.output.trans h.output, Nat.le_trans h.size (by rw [h'.size]; exact Nat.le_refl _), fun k hk hne => (h'.block k (by omega)).trans (h.block k hk hne)⟩
theorem _root_.Go.RowKit.Below.wr {w0 w w' : World} {b : Nat} (h : Below w0.heap.size w0 w) (hw : Wr w w' b) (hb : w0.heap.size ≤ b) : Below w0.heap.size w0 w' := h.nextG hw (fun k hk => by injection hk with hk; omega)
theorem Bx.wr {w w' : World} {b b' : Nat} {c : Array Value} {t : TypeId} (h : Bx w b c t) (hw : Wr w w' b') (hne : b ≠ b') : Bx w' b c t := ⟨by rw [hw.block b h.lt (fun e => hne (by injection e))]; exact h.heap⟩
theorem SL.wr {w w' : World} {a : Option Addr} {xs : List Value} {b : Nat} (h : SL w a xs) (hw : Wr w w' b) (hne : ∀ ad, a = some ad → xs ≠ [] → ad.block ≠ b) : SL w' a xs := by
  rcases h with e | ⟨b', off, e, hc⟩
  · exact .inl e
  · by_cases hl : xs = []
    · exact .inl hl
    · refine .inr ⟨b', off, e, fun j v hv => ?_⟩
      have h1 := hc j v hv
      have h2 := World.block_lt_of_cell? w _ h1
      exact (World.cell?_of_block (w := w) (a := ⟨b', off + j, none⟩) (hw.block b' h2 (fun e' => by injection e' with e'; exact hne _ e hl e'))).trans h1
section
variable {P : Program} {n : Nat} {ops : Array Oper} {g : G} {w : World} {nx : G → World → Prop} {k : Nat} {o : Oper}
/-- append nothing to a slice of the call's own -/
theorem hv_append_none {t e size : Nat} {z : Array Value} {s x : Operand} {B : Nat} {v : Value} {m : Nat} {xs : List Value} {a : Option Addr} {c : Nat} (hw : wantO ops g o = true)
    (ho : o.op = .call { callee := .builtin .append, args := #[s, x], argTypes := #[t, t] }) (hz : slZ P t = some (e, size, z))
    (hs : evG g s = v) (hx : evG g x = .slice a 0 c) (hown : w.ownsRow B e size v m xs) (h : nx (updO g o.dst v) w) : hvX P ops o k nx g w := by
  obtain ⟨i, hu, hi, hsize, hzc⟩ := slZ_some hz
  have key : ∃ b cap, v = .slice b m cap ∧ m ≤ cap := by
    rcases hown.2 with ⟨h1, h2⟩ | ⟨g', cap, cur, hv, _, _, hle, _⟩
    · exact ⟨none, 0, by rw [h1, h2], by omega⟩
    · exact ⟨_, cap, hv, hle⟩
  obtain ⟨b, cap, rfl, hle⟩ := key
  refine hv_run hw (v := .slice b m cap) (w' := w) ?_ (fun _ => Below.refl _ _) h
  unfold execOp
  simp only [ho, resolve, invoke, builtin, Sem.run_bind, Sem.run_pure, Result.andThen_ok, List.map_toArray, List.map_cons, List.map_nil, hs, hx]
  cases a <;> cases b <;> simp [Builtin.append_, run_underlying hu, sizeOf, typeInfo, hi, Builtin.lenOf, Builtin.firstCells, loadCells, loadCellsFrom, storeCells, hle]
/-- append a slice that is read, of cells of one each; it may be nil -/
theorem hv_appendL {t e bytes : Nat} {z : Array Value} {s x : Operand} {B : Nat} {v : Value} {m : Nat} {xs : List Value} {a : Option Addr} {len c : Nat} (news : List Value) (hw : wantO ops g o = true)
    (ho : o.op = .call { callee := .builtin .append, args := #[s, x], argTypes := #[t, t] }) (hz : slZ P t = some (e, 1, z)) (hby : (P.info? e).map (·.bytes) = some bytes) (hzs : z.size = 1)
    (hs : evG g s = v) (hx : evG g x = .slice a len c) (hown : w.ownsRow B e 1 v m xs) (hl : news.length = len) (hnews : SL w a news) (h1 : ∀ u ∈ news, u.oneCell' = true)
    (h63 : m + len ≤ maxLen) (hbytes : (m + len) * bytes ≤ 140737488355328) (hB : B ≤ w.heap.size) (hk : k ≠ 0)
    (h : ∀ v' w1, w1.ownsRow B e 1 v' (m + len) (xs ++ news) → w.grownBy w1 v.ownBlock → nx (updO g o.dst v') w1) : hvX P ops o k nx g w := by
  by_cases hn : news = []
  · subst hn
    have hl0 : len = 0 := by simpa using hl.symm
    subst hl0
    refine hv_append_none hw ho hz hs hx hown (h _ _ ?_ ⟨rfl, rfl, rfl, Nat.le_refl _, fun _ _ _ => rfl⟩)
    simpa using hown
  · rcases hnews with e0 | ⟨b, off, rfl, hc⟩
    · exact absurd e0 hn
    · exact hv_append (a := ⟨b, off, none⟩) news hw ho hz hby hzs (by decide) hs hx hown (by omega) (fun j u hu => by rw [add_mk]; exact hc j u hu) h1 h63 hbytes hB hk (fun v' w1 h1 h2 _ => h v' w1 h1 h2)
/-- a block of the call's own is a slice of its own -/
theorem own_of_bx {b : Nat} {e : TypeId} {xs : List Value} {base c : Nat} (h : Bx w b xs.toArray e) (hb : base ≤ b) (hc : c = xs.length) (hm : c ≤ maxLen) : w.ownsRow base e 1 (.slice (some ⟨b, 0, none⟩) c c) c xs :=
  ⟨by rw [Nat.mul_one, hc], .inr ⟨b, c, xs.toArray, rfl, hb, h.heap, Nat.le_refl _, hm, by simp [hc], by simp [hc]⟩⟩
end
end Go.V
