/- The machinery of the walks, third part: the operations that only read yield what is said. -/
import Derived.Test.YtomniiobaonloaaV2
namespace Go.V
open Go Go.RowKit
set_option linter.unusedSimpArgs false
set_option linter.unusedVariables false
section
variable {P : Program} {w : World} {ev : Operand → Value} {ty : TypeId}

theorem slE_some {t : TypeId} {n : Nat} (h : slE P t = some n) : ∃ e i, P.underlying t = some (.slice e) ∧ P.info? e = some i ∧ i.size = n := by
  unfold slE at h
  split at h
  · rename_i e he
    cases hi : P.info? e with
    | none => simp [hi] at h
    | some i => simp [hi] at h; exact ⟨e, i, he, hi, h⟩
  · cases h
theorem isStr_some {t : TypeId} (h : isStr P t = true) : P.underlying t = some .string := by
  unfold isStr at h; split at h <;> first | assumption | cases h
theorem intK_some {t : TypeId} {k : IntKind} (h : intK P t = some k) : P.underlying t = some (.int k) := by
  unfold intK at h
  split at h
  · rename_i k' hk; injection h with h; subst h; exact hk
  · cases h
theorem fldO_some {t : TypeId} {f : Nat} {o : TypeId × Nat} (h : fldO P t f = some o) :
    ∃ fs fd i, P.underlying t = some (.struct fs) ∧ fs[f]? = some fd ∧ P.info? fd.type = some i ∧ i.size ≠ 0 ∧ fd.offset = o.2 := by
  unfold fldO at h
  split at h
  · rename_i fs hfs
    split at h
    · rename_i fd hfd
      split at h
      · rename_i i hi
        split at h
        · cases h
        · rename_i hne; injection h with h; subst h; exact ⟨fs, fd, i, hfs, hfd, hi, hne, rfl⟩
      · cases h
    · cases h
  · cases h

theorem tame_bound {x : Value} {y : Nat} {code : BoundsCode} {k : IntKind} {n : Int} (hx : x = .int k n) (h : 0 ≤ n ∧ n ≤ y) : tame P (Instr.sliceBound x y code) w = some n.toNat := by
  subst hx
  simp [Instr.sliceBound, asIntOf, tame_bind', tame_pure, h]

theorem tame_bounds {isSlice : Bool} {len cap : Nat} {lo hi : Option Operand} (h1 : bndOk ev cap hi) (h2 : bndOk ev (bnd ev len hi) lo) :
    tame P (Instr.sliceBounds isSlice len cap (lo.map ev) (hi.map ev) none) w = some (bnd ev 0 lo, bnd ev len hi, cap) := by
  unfold Instr.sliceBounds
  cases hi with
  | none =>
    cases lo with
    | none => simp [tame_bind', tame_map, tame_pure, bnd]
    | some y =>
      simp only [bnd, bndOk] at h2 ⊢
      cases hy : ev y <;> simp only [hy] at h2
      simp [tame_bind', tame_map, tame_pure, hy, tame_bound rfl h2]
  | some x =>
    simp only [bnd, bndOk] at h1 h2 ⊢
    cases hx : ev x <;> simp only [hx] at h1 h2 ⊢
    cases lo with
    | none => simp [tame_bind', tame_map, tame_pure, hx, tame_bound rfl h1]
    | some y =>
      simp only [] at h2 ⊢
      cases hy : ev y <;> simp only [hy] at h2
      simp [tame_bind', tame_map, tame_pure, hx, hy, tame_bound rfl h1, tame_bound rfl h2]

theorem tame_sizeOf' {t : TypeId} {i : TypeInfo} (h : P.info? t = some i) : tame P (sizeOf t) w = some i.size := tame_sizeOf h w

theorem sound_slice_str {t : TypeId} {x : Operand} {lo hi : Option Operand} {s : ByteArray} (hx : ev x = .string s) (h : isStr P t = true ∧ bndOk ev s.size hi ∧ bndOk ev (bnd ev s.size hi) lo) :
    run1 P w ev ty (.slice t x lo hi none) = some (.value (.string (s.extract (bnd ev 0 lo) (bnd ev s.size hi)))) := by
  obtain ⟨h0, h1, h2⟩ := h
  have hu := isStr_some h0
  simp only [run1, execOp, Instr.sliceAt, Instr.slice, hx, Option.map_none]
  simp [tame_bind', tame_map, tame_underlying hu, tame_pure, tame_bounds h1 h2]

theorem sound_slice_sl {t : TypeId} {x : Operand} {lo hi : Option Operand} {a : Option Addr} {len cap : Nat} (hx : ev x = .slice a len cap) (h : (slE P t).isSome = true ∧ bndOk ev cap hi ∧ bndOk ev (bnd ev len hi) lo) :
    run1 P w ev ty (.slice t x lo hi none) = some (.value (.slice (if cap = bnd ev 0 lo then a else a.map (·.add (bnd ev 0 lo * (slE P t).getD 0))) (bnd ev len hi - bnd ev 0 lo) (cap - bnd ev 0 lo))) := by
  obtain ⟨h0, h1, h2⟩ := h
  obtain ⟨n, hn⟩ := Option.isSome_iff_exists.1 h0
  obtain ⟨e, i, hu, hi, hs⟩ := slE_some hn
  simp only [run1, execOp, Instr.sliceAt, Instr.slice, hx, Option.map_none]
  simp [tame_bind', tame_map, tame_underlying hu, tame_pure, tame_bounds h1 h2, tame_sizeOf' hi, hn, hs]

theorem sound_load1 {t : TypeId} {x : Operand} {a : Addr} (hx : ev x = .pointer (some a)) (ho : aggT P t = none) (h : (w.cell? a).isSome = true) :
    run1 P w ev ty (.load t x) = some (.value (cellV w a)) := by
  unfold aggT at ho
  obtain ⟨v, hv⟩ := Option.isSome_iff_exists.1 h
  cases hu : P.underlying t with
  | none => simp [hu] at ho
  | some d =>
    have hag : tame P (isAgg t) w = some false := by
      rw [tame_isAgg hu]
      rw [hu] at ho
      cases d <;> first | rfl | skip
      all_goals
        exfalso
        cases hi : P.info? t with
        | none => simp [Program.underlying, hi] at hu
        | some i => simp [hi] at ho
    simp only [run1, execOp, Instr.loadAt, Instr.sureAddr, hx, loadVar]
    simp [tame_bind', tame_map, tame_pure, hag, tame_load hv, cellV, hv]
theorem sound_loadN {t : TypeId} {x : Operand} {a : Addr} {n : Nat} (hx : ev x = .pointer (some a)) (ho : aggT P t = some n) (h : (P.underlying t).isSome = true ∧ rowOk w a 0 n) :
    run1 P w ev ty (.load t x) = some (.value (.agg (rowV w a 0 n).toArray)) := by
  obtain ⟨h0, h⟩ := h
  obtain ⟨d, hu⟩ := Option.isSome_iff_exists.1 h0
  unfold aggT at ho
  rw [hu] at ho
  cases hi : P.info? t with
  | none => simp [Program.underlying, hi] at hu
  | some i =>
    have hn : i.size = n := by rw [hi] at ho; cases d <;> simp at ho <;> exact ho
    have hag : tame P (isAgg t) w = some true := by
      rw [tame_isAgg hu]
      cases d <;> first | rfl | simp at ho
    subst hn
    simp only [run1, execOp, Instr.loadAt, Instr.sureAddr, hx, loadVar]
    simp [tame_bind', tame_map, tame_pure, hag, tame_sizeOf' hi, loadCells, tame_loadCellsFrom _ _ _ h]

theorem sound_index {t : TypeId} {x i : Operand} {s : ByteArray} {k : IntKind} {n : Int} (hx : ev x = .string s) (hi : ev i = .int k n) (h : isStr P t = true ∧ 0 ≤ n ∧ n < s.size) :
    run1 P w ev ty (.index t x i) = some (.value (.int .u8 (byteAt s n.toNat).toNat)) := by
  obtain ⟨h0, h1, h2⟩ := h
  have hu := isStr_some h0
  have hg := wrap_byte_get s n.toNat (by omega)
  simp only [run1, execOp, Instr.index, hx, hi, byteAt, bs]
  simp [tame_bind', tame_map, tame_pure, asIntOf, tame_underlying hu, h1, hg]

theorem sound_indexAddr {t : TypeId} {x i : Operand} {a : Option Addr} {len cap size : Nat} {k : IntKind} {n : Int} (hs : slE P t = some size) (hx : ev x = .slice a len cap) (hi : ev i = .int k n) (h : 0 ≤ n ∧ n < len ∧ a.isSome = true) :
    run1 P w ev ty (.indexAddr t x i) = some (.value (.pointer (some ((a.getD default).add (n.toNat * size))))) := by
  obtain ⟨h1, h2, h3⟩ := h
  obtain ⟨e, inf, hu, hinf, hsz⟩ := slE_some hs
  obtain ⟨ad, rfl⟩ := Option.isSome_iff_exists.1 h3
  simp only [run1, execOp, Instr.indexAt, hx, hi]
  simp [tame_bind', tame_map, tame_pure, asIntOf, tame_underlying hu, h1, h2, tame_sizeOf' hinf, hsz]

theorem sound_fieldAddr {t : TypeId} {x : Operand} {f : Nat} {o : TypeId × Nat} {a : Addr} (ho : fldO P t f = some o) (hx : ev x = .pointer (some a)) :
    run1 P w ev ty (.fieldAddr t x f) = some (.value (.pointer (some (a.add o.2)))) := by
  obtain ⟨fs, fd, i, hu, hf, hi, hne, ho⟩ := fldO_some ho
  simp only [run1, execOp, Instr.fieldAt, hx]
  simp [tame_bind', tame_map, tame_pure, tame_underlying hu, hf, Instr.sureAddr, fieldPlace, tame_sizeOf' hi, hne, ho]

theorem sound_convert {s d : TypeId} {x : Operand} {k k' : IntKind} {n : Int} (hd : intK P d = some k) (hx : ev x = .int k' n) (h : (P.underlying s).isSome = true) :
    run1 P w ev ty (.convert s d x) = some (.value (.int k (k.wrap n))) := by
  have hu := intK_some hd
  obtain ⟨ds, hs⟩ := Option.isSome_iff_exists.1 h
  simp only [run1, execOp, Go.convert, hx]
  simp [tame_bind', tame_map, tame_pure, tame_underlying hu, tame_underlying hs, Conv.intToInt]

theorem sound_len_str {t : TypeId} {args : Array Operand} {s : ByteArray} {ts : Array TypeId} (hx : args.toList.map ev = [.string s]) (ht : ts.toList = [t]) (h : isStr P t = true) :
    run1 P w ev ty (.call { callee := .builtin .len, args := args, argTypes := ts }) = some (.value (.int .i64 s.size)) := by
  have hu := isStr_some h
  have e1 : args.map ev = #[.string s] := by apply Array.toList_inj.1; simpa using hx
  have e2 : ts = #[t] := by apply Array.toList_inj.1; simpa using ht
  subst e2
  simp only [run1, execOp, resolve, e1]
  simp [tame_bind', tame_map, tame_pure, tame_spure, invoke, builtin, Builtin.len_, tame_underlying hu, goInt]
theorem sound_len_sl {t : TypeId} {args : Array Operand} {a : Option Addr} {n c : Nat} {ts : Array TypeId} (hx : args.toList.map ev = [.slice a n c]) (ht : ts.toList = [t]) (h : (slE P t).isSome = true) :
    run1 P w ev ty (.call { callee := .builtin .len, args := args, argTypes := ts }) = some (.value (.int .i64 n)) := by
  obtain ⟨m, hm⟩ := Option.isSome_iff_exists.1 h
  obtain ⟨e, i, hu, _, _⟩ := slE_some hm
  have e1 : args.map ev = #[.slice a n c] := by apply Array.toList_inj.1; simpa using hx
  have e2 : ts = #[t] := by apply Array.toList_inj.1; simpa using ht
  subst e2
  simp only [run1, execOp, resolve, e1]
  simp [tame_bind', tame_map, tame_pure, tame_spure, invoke, builtin, Builtin.len_, tame_underlying hu, goInt]

theorem sound_lc {op : Op} {p : Value × Prop} (hp : lc P w ev op = some p) (h : p.2) : run1 P w ev ty op = some (.value p.1) := by
  unfold lc at hp
  split at hp
  · injection hp with hp; subst hp; simp [run1, execOp, tame_pure]
  · injection hp with hp; subst hp; simp [run1, execOp, tame_pure]
  · rename_i c a b
    injection hp with hp; subst hp
    obtain ⟨h1, h2, h3⟩ := h
    have e1 := eq_bool_of_isB h1
    generalize bv (ev c) = t at *
    cases t
    · have e3 := eq_bool_of_isB (h3 rfl)
      generalize bv (ev b) = u at *
      simp [run1, execOp, e1, e3, asBool, tame_bind', tame_map, tame_pure]
    · have e3 := eq_bool_of_isB (h2 rfl)
      generalize bv (ev a) = u at *
      simp [run1, execOp, e1, e3, asBool, tame_bind', tame_map, tame_pure]
  · exact sound_bin hp h
  · rename_i o t x
    split at hp
    · rename_i b hx; injection hp with hp; subst hp; simp [run1, execOp, hx, Op.unary, tame_bind', tame_map, tame_pure]
    · rename_i k n hx; injection hp with hp; subst hp; simp [run1, execOp, hx, Op.unary, Op.intArith, tame_bind', tame_map, tame_pure]
    · cases hp
  · rename_i s d x
    split at hp
    · rename_i k k' n hk hx; injection hp with hp; subst hp; exact sound_convert hk hx h
    · cases hp
  · rename_i x
    split at hp
    · rename_i a hx; injection hp with hp; subst hp; simp [run1, execOp, hx, tame_pure]
    · cases hp
  · rename_i t x lo hi mx
    split at hp
    · rename_i s hm hx; injection hp with hp; subst hp; exact sound_slice_str hx h
    · rename_i a len cap hm hx; injection hp with hp; subst hp; exact sound_slice_sl hx h
    · cases hp
  · rename_i t x f
    split at hp
    · rename_i o a ho hx; injection hp with hp; subst hp; exact sound_fieldAddr ho hx
    · cases hp
  · rename_i t x i
    split at hp
    · rename_i size a len cap k n hs hx hi; injection hp with hp; subst hp; exact sound_indexAddr hs hx hi h
    · cases hp
  · rename_i t x i
    split at hp
    · rename_i s k n hx hi; injection hp with hp; subst hp; exact sound_index hx hi h
    · cases hp
  · rename_i t x
    split at hp
    · rename_i a ho hx; injection hp with hp; subst hp; exact sound_load1 hx ho h
    · rename_i n a ho hx; injection hp with hp; subst hp; exact sound_loadN hx ho h
    · cases hp
  · rename_i x i
    split at hp
    · rename_i vs hx
      injection hp with hp; subst hp
      have hlt : i < vs.size := h
      simp [run1, execOp, hx, Instr.extract, tame_bind', tame_map, tame_pure, hlt]
    · cases hp
  · rename_i args ts
    split at hp
    · rename_i s t hx ht; injection hp with hp; subst hp; exact sound_len_str hx ht h
    · rename_i a n c t hx ht; injection hp with hp; subst hp; exact sound_len_sl hx ht h
    · cases hp
  · cases hp

/-- An operation whose condition holds only reads, and yields the value said. -/
theorem lok_sound {op : Op} (h : lokO P w ev ty op) : run1 P w ev ty op = some (.value (lvO P w ev ty op)) := by
  unfold lokO at h
  unfold lvO
  cases hp : lc P w ev op with
  | none => rw [hp] at h; exact any_sound h
  | some p => rw [hp] at h; exact sound_lc hp h
theorem lok_exec {o : Oper} (h : lokO P w ev o.type o.op) : tame P (execOp ev o) w = some (.value (lvO P w ev o.type o.op)) := lok_sound h
end
end Go.V
