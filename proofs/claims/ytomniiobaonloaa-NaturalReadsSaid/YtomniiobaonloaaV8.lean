/- The machinery of the walks, eighth part: the rules for the operations that make or write memory. -/
import Derived.Test.YtomniiobaonloaaV7
namespace Go.V
open Go Go.RowKit
set_option linter.unusedSimpArgs false
set_option linter.unusedVariables false
/-- the cells of a type's zero -/
def zeroC (P : Program) (t : TypeId) : Option (Array Value) := ((P.info? t).bind (·.zero)).map (·.cells)
theorem zeroC_some {P : Program} {t : TypeId} {z : Array Value} (h : zeroC P t = some z) (w : World) : ∃ v, (zeroValue t).run P w = .ok v w ∧ v.cells = z := by
  unfold zeroC at h
  cases hi : P.info? t with
  | none => simp [hi] at h
  | some i =>
    cases hz : i.zero with
    | none => simp [hi, hz] at h
    | some v =>
      simp [hi, hz] at h
      refine ⟨v, ?_, h⟩
      simp [zeroValue, typeInfo, hi, hz]
/-- what a composite value's fields come to -/
def stZ (P : Program) (t : TypeId) : Option (Array Value × List (Nat × Nat)) := match P.underlying t with
  | some (.struct fs) => match zeroC P t, fs.toList.mapM (fun f => (P.info? f.type).map fun i => (f.offset, i.size)) with
    | some z, some l => some (z, l)
    | _, _ => none
  | _ => none
/-- a slice's element: its number, its size, its zero's cells -/
def slZ (P : Program) (t : TypeId) : Option (TypeId × Nat × Array Value) := match P.underlying t with
  | some (.slice e) => match P.info? e, zeroC P e with
    | some i, some z => some (e, i.size, z)
    | _, _ => none
  | _ => none
theorem slZ_some {P : Program} {t e size : Nat} {z : Array Value} (h : slZ P t = some (e, size, z)) : ∃ i, P.underlying t = some (.slice e) ∧ P.info? e = some i ∧ i.size = size ∧ zeroC P e = some z := by
  unfold slZ at h
  split at h
  · rename_i e' he
    split at h
    · rename_i i z' hi hz
      injection h with h
      injection h with h1 h2
      injection h2 with h2 h3
      subst h1; subst h2; subst h3
      exact ⟨i, he, hi, rfl, hz⟩
    · cases h
  · cases h
section
variable {P : Program} {n : Nat} {ops : Array Oper} {g : G} {w : World} {nx : G → World → Prop} {k : Nat} {o : Oper}

theorem hv_alloc {t : TypeId} {z : Array Value} (hw : wantO ops g o = true) (ho : o.op = .alloc t) (hz : zeroC P t = some z)
    (h : ∀ w1 b, Below w.heap.size w w1 → w.heap.size ≤ b → Bx w1 b z t → nx (updO g o.dst (.pointer (some ⟨b, 0, none⟩))) w1) : hvX P ops o k nx g w := by
  obtain ⟨v, hv, hc⟩ := zeroC_some hz w
  refine hv_run hw (v := .pointer (some ⟨w.heap.size, 0, none⟩)) (w' := w.alloc (.cells z t)) ?_ (fun _ => below_alloc w _) (h _ _ (below_alloc w _) (Nat.le_refl _) (bx_alloc w z t))
  unfold execOp
  simp only [ho, Instr.alloc, Sem.run_bind, hv, Result.andThen_ok, newVar, newRow, hc]
  simp [newObj, Sem.run]
theorem hv_box {t : TypeId} {x : Operand} (c : Array Value) (hw : wantO ops g o = true) (ho : o.op = .box t x) (hc : (evG g x).cells = c)
    (h : ∀ w1 b, Below w.heap.size w w1 → w.heap.size ≤ b → Bx w1 b c t → nx (updO g o.dst (.pointer (some ⟨b, 0, none⟩))) w1) : hvX P ops o k nx g w := by
  refine hv_run hw (v := .pointer (some ⟨w.heap.size, 0, none⟩)) (w' := w.alloc (.cells c t)) ?_ (fun _ => below_alloc w _) (h _ _ (below_alloc w _) (Nat.le_refl _) (bx_alloc w c t))
  unfold execOp
  simp only [ho, Instr.box, newVar, newRow, hc, Sem.run_bind]
  simp [newObj, Sem.run]
/-- the cells of a block behind a store -/
def putC (c : Array Value) : Nat → List Value → Array Value
  | _, [] => c
  | i, v :: r => putC (c.setIfInBounds i v) (i + 1) r
theorem putC_toList : ∀ (vs : List Value) (c : Array Value) (i : Nat), i + vs.length ≤ c.size → (c.toList.take i ++ vs ++ c.toList.drop (i + vs.length)).toArray = putC c i vs
  | [], c, i, _ => by simp [putC]
  | v :: r, c, i, h => by
    have hi : i < c.size := by simp at h; omega
    have ih := putC_toList r (c.setIfInBounds i v) (i + 1) (by simp at h ⊢; omega)
    rw [putC, ← ih]
    congr 1
    simp only [Array.toList_setIfInBounds, List.length_cons]
    have e1 : (c.toList.set i v).take (i + 1) = c.toList.take i ++ [v] := by
      rw [List.take_set, List.take_succ_eq_append_getElem (by simpa using hi), List.set_append]
      simp [Nat.min_eq_left (Nat.le_of_lt hi)]
    have e2 : (c.toList.set i v).drop (i + 1 + r.length) = c.toList.drop (i + (r.length + 1)) := by
      rw [List.drop_set_of_lt (by omega)]; congr 1; omega
    rw [e1, e2]
    simp
theorem hv_store {t : TypeId} {x y : Operand} {b off : Nat} {c : Array Value} {tc : TypeId} (vs : List Value) (hw : wantO ops g o = true) (ho : o.op = .store t x y) (hx : evG g x = .pointer (some ⟨b, off, none⟩)) (hy : (evG g y).cells = vs.toArray)
    (hsz : (P.info? t).map (·.size) = some vs.length) (hb : Bx w b c tc) (hfit : off + vs.length ≤ c.size) (h1 : ∀ v ∈ vs, v.oneCell' = true) (hk : k ≠ 0)
    (h : ∀ w1, Sto w w1 b → Bx w1 b (putC c off vs) tc → nx (updO g o.dst undef) w1) : hvX P ops o k nx g w := by
  have hst := run_storeCells_at (P := P) b off tc vs 0 c w hb.heap (by omega) h1
  rw [Nat.add_zero, putC_toList _ _ _ (by omega)] at hst
  refine hv_unit hw (w' := w.setRow b (putC c off vs)) ?_ (fun e => absurd e hk) (h _ (sto_setRow w b _) (bx_setRow hb))
  cases hi : P.info? t with
  | none => simp [hi] at hsz
  | some i =>
    simp [hi] at hsz
    unfold execOp
    have e1 : (evG g y).cells.size = i.size := by rw [hy, hsz]; simp
    simp only [ho, Instr.storeAt, Instr.sureAddr, hx, storeVar, Sem.run_bind, Sem.run_pure, Result.andThen_ok]
    have e2 : (sizeOf t).run P w = .ok i.size w := by simp [sizeOf, typeInfo, hi]
    simp only [e2, Result.andThen_ok, e1, ne_eq, not_true, if_false, Sem.run_bind, Sem.run_pure]
    rw [hy]
    simp only [List.toList_toArray, hst, Result.andThen_ok]

theorem hv_buildSlice {t e len size : Nat} {z : Array Value} {parts : Array (Nat × Operand)} (cells : Array Value) (hw : wantO ops g o = true) (ho : o.op = .buildSlice t len parts) (hz : slZ P t = some (e, size, z)) (hs : len * size ≤ 16777216)
    (pl : List (Nat × Value)) (hp : (parts.toList.map fun x => (x.1, evG g x.2)) = pl)
    (hfill : Instr.fill (fun i => some (i * size, size)) ((Array.range (len * size)).map ((if len * size = 0 then #[] else z)[· % (if len * size = 0 then #[] else z).size]!)) pl = some cells)
    (h : ∀ w1 b, Below w.heap.size w w1 → w.heap.size ≤ b → Bx w1 b cells e → nx (updO g o.dst (.slice (some ⟨b, 0, none⟩) len len)) w1) : hvX P ops o k nx g w := by
  have e4 : (parts.map fun (i, x) => (i, evG g x)).toList = pl := by rw [Array.toList_map]; exact hp
  rw [← e4] at hfill
  obtain ⟨i, hu, hi, hsz, hzc⟩ := slZ_some hz
  obtain ⟨v, hv, hc⟩ := zeroC_some hzc w
  refine hv_run hw (v := .slice (some ⟨w.heap.size, 0, none⟩) len len) (w' := w.alloc (.cells cells e)) ?_ (fun _ => below_alloc w _) (h _ _ (below_alloc w _) (Nat.le_refl _) (bx_alloc w cells e))
  unfold execOp
  have e1 : (underlying t).run P w = .ok (.slice e) w := run_underlying hu w
  have e2 : (sizeOf e).run P w = .ok size w := by simp [sizeOf, typeInfo, hi, hsz]
  have e3 : ¬ len * size > 2 ^ 24 := by omega
  simp only [ho, Instr.buildSlice, Sem.run_bind, e1, Result.andThen_ok, e2, e3, if_false]
  by_cases h0 : len * size = 0
  · simp only [h0, if_true] at hfill ⊢
    simp only [Sem.run_bind, Sem.run_pure, Result.andThen_ok]
    simp only [Array.size_empty] at hfill
    simp only [Array.size_empty, hfill]
    simp [newRow, newObj, Sem.run]
  · simp only [h0, if_false] at hfill ⊢
    simp only [Sem.run_bind, Sem.run_pure, Result.andThen_ok, hv, hc]
    simp only [hfill]
    simp [newRow, newObj, Sem.run]
end
end Go.V
