/- The machinery of the walks, ninth part: composite values, append, make, strings ranged over. -/
import Derived.Test.YtomniiobaonloaaV8
import Derived.Laws.Tables
namespace Go.V
open Go Go.RowKit
set_option linter.unusedSimpArgs false
set_option linter.unusedVariables false
section
variable {P : Program} {n : Nat} {ops : Array Oper} {g : G} {w : World} {nx : G → World → Prop} {k : Nat} {o : Oper}

theorem stZ_some {t : TypeId} {z : Array Value} {l : List (Nat × Nat)} (h : stZ P t = some (z, l)) : ∃ fs, P.underlying t = some (.struct fs) ∧ zeroC P t = some z ∧ fs.toList.mapM (fun f => (P.info? f.type).map fun i => (f.offset, i.size)) = some l := by
  unfold stZ at h
  split at h
  · rename_i fs hfs
    split at h
    · rename_i z' l' hz hl
      injection h with h
      injection h with h1 h2
      subst h1; subst h2
      exact ⟨fs, hfs, hz, hl⟩
    · cases h
  · cases h
theorem hv_build {t : TypeId} {z : Array Value} {l : List (Nat × Nat)} {parts : Array (Nat × Operand)} (cells : Array Value) (hw : wantO ops g o = true) (ho : o.op = .build t parts) (hz : stZ P t = some (z, l))
    (pl : List (Nat × Value)) (hp : (parts.toList.map fun x => (x.1, evG g x.2)) = pl) (hfill : Instr.fill (l[·]?) z pl = some cells) (h : nx (updO g o.dst (.agg cells)) w) : hvX P ops o k nx g w := by
  obtain ⟨fs, hu, hzc, hm⟩ := stZ_some hz
  obtain ⟨v, hv, hc⟩ := zeroC_some hzc w
  refine hv_run hw (v := .agg cells) (w' := w) ?_ (fun _ => Below.refl _ _) h
  have e1 : (underlying t).run P w = .ok (.struct fs) w := run_underlying hu w
  have e2 := run_places (P := P) w fs.toList l hm
  unfold execOp
  simp only [ho, Instr.build, Sem.run_bind, e1, Result.andThen_ok, hv, hc]
  have e3 : (fs.mapM fun f => (do pure (f.offset, ← sizeOf f.type) : Sem (Nat × Nat))).run P w = .ok l.toArray w := by
    rw [Array.mapM_eq_mapM_toList]
    simp only [bind_pure_comp] at *
    simp [Sem.run_map, e2]
  simp only [bind_pure_comp] at *
  rw [e3]
  have e4 : (parts.map fun (i, x) => (i, evG g x)).toList = pl := by rw [Array.toList_map]; exact hp
  simp only [Result.andThen_ok, List.getElem?_toArray, e4, hfill]
  simp

/-- append to a slice of the call's own; what is appended is read in its block -/
theorem hv_append {t e size bytes : Nat} {z : Array Value} {s x : Operand} {B : Nat} {v : Value} {m : Nat} {xs : List Value} {a : Addr} {len c : Nat} (news : List Value) (hw : wantO ops g o = true)
    (ho : o.op = .call { callee := .builtin .append, args := #[s, x], argTypes := #[t, t] }) (hz : slZ P t = some (e, size, z)) (hby : (P.info? e).map (·.bytes) = some bytes) (hzs : z.size = size) (hsz : 0 < size)
    (hs : evG g s = v) (hx : evG g x = .slice (some a) len c) (hown : w.ownsRow B e size v m xs) (hl : news.length = len * size) (hnews : ∀ j u, news[j]? = some u → w.cell? (a.add j) = some u) (h1 : ∀ u ∈ news, u.oneCell' = true)
    (h63 : m + len ≤ maxLen) (hbytes : (m + len) * bytes ≤ 140737488355328) (hB : B ≤ w.heap.size) (hk : k ≠ 0)
    (h : ∀ v' w1, w1.ownsRow B e size v' (m + len) (xs ++ news) → w.grownBy w1 v.ownBlock → (v' = .slice none 0 0 ↔ v = .slice none 0 0 ∧ len = 0) → nx (updO g o.dst v') w1) : hvX P ops o k nx g w := by
  obtain ⟨i, hu, hi, hsize, hzc⟩ := slZ_some hz
  have hby' : i.bytes = bytes := by rw [hi] at hby; simpa using hby
  obtain ⟨zv, hzv, hzc'⟩ : ∃ zv, i.zero = some zv ∧ zv.cells = z := by
    unfold zeroC at hzc
    rw [hi] at hzc
    cases hzz : i.zero with
    | none => simp [hzz] at hzc
    | some zv => simp [hzz] at hzc; exact ⟨zv, rfl, hzc⟩
  obtain ⟨v', w', hr, h2, h3, h4⟩ := run_append_own (P := P) w B t o.type e i zv size bytes hu hi hzv hsize hby' (by rw [hzc']; exact hzs) hsz v m xs hown a len c news hl hnews h1 h63 hbytes hB
  refine hv_run hw (v := v') (w' := w') ?_ (fun e => absurd e hk) (h _ _ h2 h3 h4)
  unfold execOp
  simp only [ho, resolve, invoke, builtin, Sem.run_bind, Sem.run_pure, Result.andThen_ok, List.map_toArray, List.map_cons, List.map_nil, hs, hx, hr]
/-- the same where what is appended is a whole block of the call's own -/
theorem hv_appendB {t e size bytes : Nat} {z : Array Value} {s x : Operand} {B : Nat} {v : Value} {m : Nat} {xs : List Value} {b len c : Nat} {news : Array Value} {tb : TypeId} (hbx : Bx w b news tb) (hw : wantO ops g o = true)
    (ho : o.op = .call { callee := .builtin .append, args := #[s, x], argTypes := #[t, t] }) (hz : slZ P t = some (e, size, z)) (hby : (P.info? e).map (·.bytes) = some bytes) (hzs : z.size = size) (hsz : 0 < size)
    (hs : evG g s = v) (hx : evG g x = .slice (some ⟨b, 0, none⟩) len c) (hown : w.ownsRow B e size v m xs) (hl : news.size = len * size) (h1 : ∀ u ∈ news.toList, u.oneCell' = true)
    (h63 : m + len ≤ maxLen) (hbytes : (m + len) * bytes ≤ 140737488355328) (hB : B ≤ w.heap.size) (hk : k ≠ 0)
    (h : ∀ v' w1, w1.ownsRow B e size v' (m + len) (xs ++ news.toList) → w.grownBy w1 v.ownBlock → (v' = .slice none 0 0 ↔ v = .slice none 0 0 ∧ len = 0) → nx (updO g o.dst v') w1) : hvX P ops o k nx g w :=
  hv_append news.toList hw ho hz hby hzs hsz hs hx hown (by simpa using hl) (fun j u hu => by rw [add_mk, hbx.cell]; simpa using hu) h1 h63 hbytes hB hk h

/-! ### A string ranged over -/
structure It (w : World) (b : Nat) (s : ByteArray) (pos : Nat) : Prop where
  heap : w.heap[b]? = some (.stringIter s pos)
theorem It.lt {b : Nat} {s : ByteArray} {pos : Nat} (h : It w b s pos) : b < w.heap.size := (Array.getElem?_eq_some_iff.1 h.heap).1
theorem It.keep {w' : World} {b : Nat} {s : ByteArray} {pos : Nat} (h : It w b s pos) (hb : Below w.heap.size w w') : It w' b s pos := ⟨by rw [hb.block b h.lt]; exact h.heap⟩
theorem It.ext {w' : World} {b : Nat} {s : ByteArray} {pos B : Nat} (h : It w b s pos) (hb : Below B w w') (hB : b < B) : It w' b s pos := ⟨by rw [hb.block b hB]; exact h.heap⟩
theorem It.sto {w' : World} {b b' : Nat} {s : ByteArray} {pos : Nat} (h : It w b s pos) (hs : Sto w w' b') (hne : b ≠ b') : It w' b s pos := ⟨by rw [hs.block b hne]; exact h.heap⟩
theorem hv_range {t : TypeId} {x : Operand} {s : ByteArray} (hw : wantO ops g o = true) (ho : o.op = .range t x) (ht : isStr P t = true) (hx : evG g x = .string s)
    (h : ∀ w1 b, Below w.heap.size w w1 → w.heap.size ≤ b → It w1 b s 0 → nx (updO g o.dst (.pointer (some ⟨b, 0, none⟩))) w1) : hvX P ops o k nx g w := by
  have hu := isStr_some ht
  refine hv_run hw (v := .pointer (some ⟨w.heap.size, 0, none⟩)) (w' := w.alloc (.stringIter s 0)) ?_ (fun _ => below_alloc w _) (h _ _ (below_alloc w _) (Nat.le_refl _) ⟨heap_alloc_new w _⟩)
  unfold execOp
  have e1 : (underlying t).run P w = .ok .string w := run_underlying hu w
  simp only [ho, Instr.range, Sem.run_bind, e1, Result.andThen_ok, hx]
  simp [newObj, Sem.run]
theorem hv_next_end {x : Operand} {b : Nat} {s : ByteArray} {pos : Nat} (hw : wantO ops g o = true) (ho : o.op = .next x true) (hx : evG g x = .pointer (some ⟨b, 0, none⟩)) (hi : It w b s pos) (hp : ¬ pos < s.size)
    (h : nx (updO g o.dst (.tuple #[.bool false])) w) : hvX P ops o k nx g w := by
  refine hv_run hw (v := .tuple #[.bool false]) (w' := w) ?_ (fun _ => Below.refl _ _) h
  unfold execOp
  simp [ho, Instr.next, hx, getObj, Sem.run, hi.heap, hp]
def decW (s : ByteArray) (pos : Nat) : Nat := (Utf8.decode s pos).2
def decC (s : ByteArray) (pos : Nat) : Int := ((Utf8.decode s pos).1 : Int)
theorem hv_next {x : Operand} {b : Nat} {s : ByteArray} {pos : Nat} (hw : wantO ops g o = true) (ho : o.op = .next x true) (hx : evG g x = .pointer (some ⟨b, 0, none⟩)) (hi : It w b s pos) (hp : pos < s.size) (hk : k ≠ 0)
    (h : ∀ w1, Sto w w1 b → It w1 b s (pos + decW s pos) → nx (updO g o.dst (.tuple #[.bool true, .int .i64 pos, .int .i32 (decC s pos)])) w1) : hvX P ops o k nx g w := by
  have hlt := hi.lt
  refine hv_run hw (v := .tuple #[.bool true, .int .i64 pos, .int .i32 (decC s pos)]) (w' := { w with heap := w.heap.setIfInBounds b (.stringIter s (pos + decW s pos)) }) ?_ (fun e => absurd e hk) (h _ ?_ ?_)
  · unfold execOp
    simp [ho, Instr.next, hx, getObj, setObj, Sem.run, hi.heap, hp, goInt, decW, decC]
  · exact ⟨rfl, rfl, rfl, by simp, fun k hk => by simp [Array.getElem?_setIfInBounds, Ne.symm hk]⟩
  · exact ⟨by simp [hlt]⟩
theorem dec_ascii (s : ByteArray) (pos : Nat) (hp : pos < s.size) (h : (byteAt s pos).toNat < 128) : decW s pos = 1 := by
  have e : (s.get! (pos + 0)).toNat = (byteAt s pos).toNat := by
    have : s.get! pos = byteAt s pos := by
      have h' : pos < s.data.size := hp
      simp only [ByteArray.get!, byteAt, bs]
      rw [List.getD_eq_getElem?_getD, Array.getElem?_toList, Array.getElem?_eq_getElem h', Option.getD_some, getElem!_pos s.data pos h']
    rw [Nat.add_zero, this]
  unfold decW Utf8.decode
  simp only [e]
  rw [if_pos (by omega)]
theorem dec_pos (s : ByteArray) (pos : Nat) : 1 ≤ decW s pos := by
  unfold decW Utf8.decode
  simp only []
  repeat' split
  all_goals simp
end
end Go.V
