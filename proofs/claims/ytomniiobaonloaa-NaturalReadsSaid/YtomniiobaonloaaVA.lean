/- The machinery of the walks, tenth part: make, copy, append of a slice that is read, max and min. -/
import Derived.Test.YtomniiobaonloaaV9
import Derived.Laws.MakeOwn
namespace Go.V
open Go Go.RowKit
set_option linter.unusedSimpArgs false
set_option linter.unusedVariables false
section
variable {P : Program} {n : Nat} {ops : Array Oper} {g : G} {w : World} {nx : G → World → Prop} {k : Nat} {o : Oper}

theorem madeCells_one (v : Value) (n : Nat) : madeCells #[v] n = (List.replicate n v).toArray := by
  apply Array.ext
  · simp [madeCells]
  · intro i h1 h2
    simp [madeCells, Nat.mod_one]
theorem hv_make {t e size bytes : Nat} {z : Array Value} {l c : Operand} {kl kc : IntKind} (nl nc : Nat) (hw : wantO ops g o = true) (ho : o.op = .makeSlice t l c) (hz : slZ P t = some (e, size, z)) (hby : (P.info? e).map (·.bytes) = some bytes)
    (hl : evG g l = .int kl nl) (hc : evG g c = .int kc nc) (hlc : nl ≤ nc) (hb : bytes * nc ≤ 281474976710656) (h63 : nc ≤ 9223372036854775807)
    (h : ∀ w1 b, Below w.heap.size w w1 → w.heap.size ≤ b → Bx w1 b (madeCells z (nc * size)) e → nx (updO g o.dst (.slice (some ⟨b, 0, none⟩) nl nc)) w1) : hvX P ops o k nx g w := by
  obtain ⟨i, hu, hi, hsize, hzc⟩ := slZ_some hz
  have hby' : i.bytes = bytes := by rw [hi] at hby; simpa using hby
  obtain ⟨zv, hzv, hzc'⟩ : ∃ zv, i.zero = some zv ∧ zv.cells = z := by
    unfold zeroC at hzc
    rw [hi] at hzc
    cases hzz : i.zero with
    | none => simp [hzz] at hzc
    | some zv => simp [hzz] at hzc; exact ⟨zv, rfl, hzc⟩
  have hb' : (i.bytes : Int) * (nc : Int) ≤ 281474976710656 := by
    have h : ((i.bytes * nc : Nat) : Int) ≤ 281474976710656 := by rw [hby']; omega
    rwa [Int.natCast_mul] at h
  have hr := run_make (P := P) w t e i zv hu hi hzv kl kc nl nc (by omega) (by omega) hb' (by omega)
  simp only [Int.toNat_natCast, hzc', hsize] at hr
  refine hv_run hw (v := .slice (some ⟨w.heap.size, 0, none⟩) nl nc) (w' := w.alloc (.cells (madeCells z (nc * size)) e)) ?_ (fun _ => below_alloc w _) (h _ _ (below_alloc w _) (Nat.le_refl _) (bx_alloc w _ e))
  unfold execOp
  simp only [ho, hl, hc, Sem.run_bind, hr, Result.andThen_ok, Sem.run_pure]

/-- copy into a block of the call's own, from a slice that is read -/
theorem hv_copy {t t' e : Nat} {d x : Operand} {b dl dc : Nat} {cur : Array Value} {tc : TypeId} {a : Addr} {sl sc : Nat} (cs : List Value) (hw : wantO ops g o = true)
    (ho : o.op = .call { callee := .builtin .copy, args := #[d, x], argTypes := #[t, t'] }) (hu : P.underlying t = some (.slice e)) (hs1 : (P.info? e).map (·.size) = some 1)
    (hd : evG g d = .slice (some ⟨b, 0, none⟩) dl dc) (hx : evG g x = .slice (some a) sl sc) (hb : Bx w b cur tc) (hn : cs.length = Nat.min sl dl) (hsrc : ∀ j v, cs[j]? = some v → w.cell? (a.add j) = some v) (hfit : cs.length ≤ cur.size) (h1 : ∀ v ∈ cs, v.oneCell' = true) (hk : k ≠ 0)
    (h : ∀ w1, Sto w w1 b → Bx w1 b (cs ++ cur.toList.drop cs.length).toArray tc → nx (updO g o.dst (.int .i64 cs.length)) w1) : hvX P ops o k nx g w := by
  have hr := run_copy_row (P := P) w t t' o.type e b 0 dl dc a sl sc cur tc cs hu hs1 hb.heap hn hsrc (by omega) h1
  simp only [Nat.zero_add, List.take_zero, List.nil_append] at hr
  refine hv_run hw (v := .int .i64 cs.length) (w' := w.setRow b (cs ++ cur.toList.drop cs.length).toArray) ?_ (fun e => absurd e hk) (h _ (sto_setRow w b _) (bx_setRow hb))
  unfold execOp
  simp only [ho, resolve, invoke, builtin, Sem.run_bind, Sem.run_pure, Result.andThen_ok, List.map_toArray, List.map_cons, List.map_nil, hd, hx, hr]
  rfl

/-- append nothing to nil -/
theorem hv_append0 {t e size : Nat} {z : Array Value} {s x : Operand} {a : Option Addr} {c : Nat} (hw : wantO ops g o = true)
    (ho : o.op = .call { callee := .builtin .append, args := #[s, x], argTypes := #[t, t] }) (hz : slZ P t = some (e, size, z))
    (hs : evG g s = .slice none 0 0) (hx : evG g x = .slice a 0 c) (h : nx (updO g o.dst (.slice none 0 0)) w) : hvX P ops o k nx g w := by
  obtain ⟨i, hu, hi, hsize, hzc⟩ := slZ_some hz
  refine hv_run hw (v := .slice none 0 0) (w' := w) ?_ (fun _ => Below.refl _ _) h
  unfold execOp
  simp only [ho, resolve, invoke, builtin, Sem.run_bind, Sem.run_pure, Result.andThen_ok, List.map_toArray, List.map_cons, List.map_nil, hs, hx]
  cases a <;> simp [Builtin.append_, run_underlying hu, sizeOf, typeInfo, hi, Builtin.lenOf, Builtin.firstCells, loadCells, loadCellsFrom, storeCells]
end
/-! ### max -/
def isI64 : Value → Bool
  | .int .i64 _ => true
  | _ => false
def maxV : Value → Value → Value
  | .int .i64 a, .int .i64 b => .int .i64 (if a < b then b else a)
  | _, _ => undef
@[go_sem] theorem isI64_int (a : Int) : isI64 (.int .i64 a) = true := rfl
@[go_sem] theorem maxV_int (a b : Int) : maxV (.int .i64 a) (.int .i64 b) = .int .i64 (if a < b then b else a) := rfl
section
variable {P : Program} {w : World} {ev : Operand → Value} {ty : TypeId} {x y : Operand} {ts : Array TypeId}
@[go_sem] theorem lc_max : lc P w ev (.call { callee := .builtin .max, args := #[x, y], argTypes := ts }) = none := rfl
theorem outV_none (d : Value) : outV d none = d := rfl
theorem outOk_none (d : Prop) : outOk d none = d := rfl
theorem run_max (hx : isI64 (ev x) = true) (hy : isI64 (ev y) = true) : run1 P w ev ty (.call { callee := .builtin .max, args := #[x, y], argTypes := ts }) = some (.value (maxV (ev x) (ev y))) := by
  obtain ⟨a, ha⟩ : ∃ a, ev x = .int .i64 a := by
    unfold isI64 at hx; split at hx
    · exact ⟨_, by assumption⟩
    · cases hx
  obtain ⟨b, hb⟩ : ∃ b, ev y = .int .i64 b := by
    unfold isI64 at hy; split at hy
    · exact ⟨_, by assumption⟩
    · cases hy
  rw [ha, hb, maxV_int]
  simp only [run1, execOp, resolve]
  simp [tame_bind', tame_map, tame_pure, tame_spure, invoke, builtin, Builtin.max_, Builtin.max2, ha, hb]
@[go_sem] theorem any_max_v (hx : isI64 (ev x) = true) (hy : isI64 (ev y) = true) : anyV P w ev ty (.call { callee := .builtin .max, args := #[x, y], argTypes := ts }) = maxV (ev x) (ev y) := by
  simp [anyV, run_max hx hy]
@[go_sem] theorem any_max_ok (hx : isI64 (ev x) = true) (hy : isI64 (ev y) = true) : anyOk P w ev ty (.call { callee := .builtin .max, args := #[x, y], argTypes := ts }) = True := eq_true ⟨_, run_max hx hy⟩
end
end Go.V
