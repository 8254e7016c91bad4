/- The machinery of the walks, second part: what an operation that only reads yields, as a function of its operands, and when. -/
import Derived.Test.YtomniiobaonloaaV1
import Derived.Laws.StructEq
namespace Go.V
open Go Go.RowKit
set_option linter.unusedSimpArgs false
set_option linter.unusedVariables false

/-! ### What is read of the tables of types -/
def slE (P : Program) (t : TypeId) : Option Nat := match P.underlying t with
  | some (.slice e) => (P.info? e).map (·.size)
  | _ => none
def intK (P : Program) (t : TypeId) : Option IntKind := match P.underlying t with
  | some (.int k) => some k
  | _ => none
def isStr (P : Program) (t : TypeId) : Bool := match P.underlying t with
  | some .string => true
  | _ => false
def isBoolT (P : Program) (t : TypeId) : Bool := match P.underlying t with
  | some .bool => true
  | _ => false
/-- how many cells a struct or an array has; 'none' for another type -/
def aggT (P : Program) (t : TypeId) : Option Nat := match P.underlying t with
  | some (.struct _) | some (.array _ _) => (P.info? t).map (·.size)
  | some _ => none
  | none => some 0
/-- the type of a field, and where it lies -/
def fldO (P : Program) (t : TypeId) (f : Nat) : Option (TypeId × Nat) := match P.underlying t with
  | some (.struct fs) => match fs[f]? with
    | some fd => match P.info? fd.type with
      | some i => if i.size = 0 then none else some (fd.type, fd.offset)
      | none => none
    | none => none
  | _ => none

theorem tame_map (P : Program) {α β : Type} (f : α → β) (s : Sem α) (w : World) : tame P (Functor.map f s) w = (tame P s w).map f := by
  show tame P (s.bind fun a => Sem.pure (f a)) w = _
  rw [tame_bind]
  cases tame P s w <;> rfl
theorem tame_underlying {P : Program} {t : TypeId} {d : TypeDesc} (h : P.underlying t = some d) (w : World) : tame P (underlying t) w = some d := by
  simp [underlying, program, tame_bind', tame, tame_pure, h]
theorem tame_typeInfo {P : Program} {t : TypeId} {i : TypeInfo} (h : P.info? t = some i) (w : World) : tame P (typeInfo t) w = some i := by
  simp [typeInfo, program, tame_bind', tame, tame_pure, h]
theorem tame_sizeOf {P : Program} {t : TypeId} {i : TypeInfo} (h : P.info? t = some i) (w : World) : tame P (sizeOf t) w = some i.size := by
  simp [sizeOf, tame_map, tame_bind', tame_typeInfo h, tame_pure]
theorem tame_load {P : Program} {a : Addr} {v : Value} {w : World} (h : w.cell? a = some v) : tame P (load a) w = some v := by
  simp [load, tame, h]
theorem tame_isAgg {P : Program} {t : TypeId} {d : TypeDesc} (h : P.underlying t = some d) (w : World) : tame P (isAgg t) w = some (match d with | .struct _ | .array _ _ => true | _ => false) := by
  simp only [isAgg, tame_bind', tame_underlying h, Option.bind_some]
  cases d <;> rfl

/-! ### Cells in a row -/
def cellV (w : World) (a : Addr) : Value := (w.cell? a).getD undef
def rowV (w : World) (a : Addr) : Nat → Nat → List Value
  | _, 0 => []
  | i, n + 1 => cellV w (a.add i) :: rowV w a (i + 1) n
def rowOk (w : World) (a : Addr) : Nat → Nat → Prop
  | _, 0 => True
  | i, n + 1 => (w.cell? (a.add i)).isSome = true ∧ rowOk w a (i + 1) n

theorem tame_loadCellsFrom {P : Program} {w : World} {a : Addr} : ∀ (n i : Nat) (acc : Array Value), rowOk w a i n →
    tame P (loadCellsFrom a i n acc) w = some (acc ++ (rowV w a i n).toArray)
  | 0, i, acc, _ => by simp [loadCellsFrom, rowV, tame_pure]
  | n + 1, i, acc, h => by
    obtain ⟨h1, h2⟩ := h
    obtain ⟨v, hv⟩ := Option.isSome_iff_exists.1 h1
    simp only [loadCellsFrom, tame_bind', tame_load hv, Option.bind_some, tame_loadCellsFrom n (i + 1) _ h2, rowV, cellV, hv, Option.getD_some]
    simp

/-! ### Values -/
def bv : Value → Bool
  | .bool b => b
  | _ => false
def isB : Value → Bool
  | .bool _ => true
  | _ => false
theorem bv_bool (b : Bool) : bv (.bool b) = b := rfl
theorem isB_bool (b : Bool) : isB (.bool b) = true := rfl
theorem bv_undef : bv undef = false := rfl
theorem isB_undef : isB undef = false := rfl
theorem bv_ite (c : Bool) (x y : Value) : bv (if c = true then x else y) = (bif c then bv x else bv y) := by cases c <;> rfl
theorem isB_ite (c : Bool) (x y : Value) : isB (if c = true then x else y) = (bif c then isB x else isB y) := by cases c <;> rfl
theorem eq_bool_of_isB {v : Value} (h : isB v = true) : v = .bool (bv v) := by cases v <;> first | rfl | cases h

/-- a bound of a slice expression -/
def bnd (ev : Operand → Value) (d : Nat) : Option Operand → Nat
  | none => d
  | some x => match ev x with
    | .int _ n => n.toNat
    | _ => 0
def bndOk (ev : Operand → Value) (top : Nat) : Option Operand → Prop
  | none => True
  | some x => match ev x with
    | .int _ n => 0 ≤ n ∧ n ≤ top
    | _ => False

def run1 (P : Program) (w : World) (ev : Operand → Value) (ty : TypeId) (op : Op) : Option Next := tame P (execOp ev { dst := none, op := op, type := ty, pos := "", after := #[], guard := none }) w
def anyV (P : Program) (w : World) (ev : Operand → Value) (ty : TypeId) (op : Op) : Value := match run1 P w ev ty op with
  | some (.value v) => v
  | _ => undef
def anyOk (P : Program) (w : World) (ev : Operand → Value) (ty : TypeId) (op : Op) : Prop := ∃ v, run1 P w ev ty op = some (.value v)

/-- a string's bytes -/
def bs (s : ByteArray) : List UInt8 := s.data.toList
@[go_sem] theorem bs_mk (l : List UInt8) : bs ⟨l.toArray⟩ = l := by simp [bs]
theorem bs_len (s : ByteArray) : (bs s).length = s.size := by unfold bs; rw [Array.length_toList]; rfl
theorem bs_inj {s u : ByteArray} (h : bs s = bs u) : s = u := by
  obtain ⟨⟨l⟩⟩ := s
  obtain ⟨⟨m⟩⟩ := u
  simp [bs] at h; rw [h]
/-- a byte of a string -/
def byteAt (s : ByteArray) (k : Nat) : UInt8 := (bs s).getD k 0
/-- two operands: what comes out, and when -/
def binC (P : Program) (op : BinOp) (t : TypeId) (x y : Value) : Option (Value × Prop) := match op, x, y with
  | .add, .int k a, .int k' b => some (.int k (k.wrap (a + b)), k = k')
  | .sub, .int k a, .int k' b => some (.int k (k.wrap (a - b)), k = k')
  | .mul, .int k a, .int k' b => some (.int k (k.wrap (a * b)), k = k')
  | .quo, .int k a, .int k' b => some (.int k (k.wrap (a.tdiv b)), k = k' ∧ b ≠ 0)
  | .rem, .int k a, .int k' b => some (.int k (a.tmod b), k = k' ∧ b ≠ 0)
  | .and, .int k a, .int k' b => some (.int k (k.wrap (BitVec.ofInt k.bits a &&& BitVec.ofInt k.bits b).toNat), k = k')
  | .or, .int k a, .int k' b => some (.int k (k.wrap (BitVec.ofInt k.bits a ||| BitVec.ofInt k.bits b).toNat), k = k')
  | .shl, .int k a, .int _ b => some (.int k (k.wrap (a * 2 ^ (min b.toNat k.bits))), 0 ≤ b)
  | .shr, .int k a, .int _ b => some (.int k (a.fdiv (2 ^ (min b.toNat k.bits))), 0 ≤ b)
  | .eql, .int k a, .int k' b => some (.bool (decide (a = b)), k = k')
  | .neq, .int k a, .int k' b => some (.bool (!decide (a = b)), k = k')
  | .lss, .int k a, .int k' b => some (.bool (decide (a < b)), k = k')
  | .leq, .int k a, .int k' b => some (.bool (decide (a ≤ b)), k = k')
  | .gtr, .int k a, .int k' b => some (.bool (decide (b < a)), k = k')
  | .geq, .int k a, .int k' b => some (.bool (decide (b ≤ a)), k = k')
  | .add, .string a, .string b => some (.string (a ++ b), a.size + b.size ≤ 9223372036854775807)
  | .eql, .string a, .string b => some (.bool (decide (bs a = bs b)), True)
  | .neq, .string a, .string b => some (.bool (!decide (bs a = bs b)), True)
  | .eql, .bool a, .bool b => some (.bool (a == b), isBoolT P t = true)
  | .neq, .bool a, .bool b => some (.bool (!(a == b)), isBoolT P t = true)
  | _, _, _ => none

/-- what an operation yields that only reads, and when; 'none': not of the kinds that are known here -/
def lc (P : Program) (w : World) (ev : Operand → Value) (op : Op) : Option (Value × Prop) := match op with
  | .move x | .assign x => some (ev x, True)
  | .pick c a b => some (.bool (bif bv (ev c) then bv (ev a) else bv (ev b)), isB (ev c) = true ∧ (bv (ev c) = true → isB (ev a) = true) ∧ (bv (ev c) = false → isB (ev b) = true))
  | .binOp o t x y _ => binC P o t (ev x) (ev y)
  | .unOp o _ x => match o, ev x with
    | .not, .bool b => some (.bool (!b), True)
    | .neg, .int k n => some (.int k (k.wrap (0 - n)), True)
    | _, _ => none
  | .convert s d x => match intK P d, ev x with
    | some k, .int _ n => some (.int k (k.wrap n), (P.underlying s).isSome = true)
    | _, _ => none
  | .nilCheck x => match ev x with
    | .pointer (some a) => some (.pointer (some a), True)
    | _ => none
  | .slice t x lo hi mx => match mx, ev x with
    | none, .string s => some (.string (s.extract (bnd ev 0 lo) (bnd ev s.size hi)), isStr P t = true ∧ bndOk ev s.size hi ∧ bndOk ev (bnd ev s.size hi) lo)
    | none, .slice a len cap => some (.slice (if cap = bnd ev 0 lo then a else a.map (·.add (bnd ev 0 lo * (slE P t).getD 0))) (bnd ev len hi - bnd ev 0 lo) (cap - bnd ev 0 lo),
        (slE P t).isSome = true ∧ bndOk ev cap hi ∧ bndOk ev (bnd ev len hi) lo)
    | _, _ => none
  | .fieldAddr t x f => match fldO P t f, ev x with
    | some o, .pointer (some a) => some (.pointer (some (a.add o.2)), True)
    | _, _ => none
  | .indexAddr t x i => match slE P t, ev x, ev i with
    | some size, .slice a len _, .int _ n => some (.pointer (some ((a.getD default).add (n.toNat * size))), 0 ≤ n ∧ n < len ∧ a.isSome = true)
    | _, _, _ => none
  | .index t x i => match ev x, ev i with
    | .string s, .int _ n => some (.int .u8 (byteAt s n.toNat).toNat, isStr P t = true ∧ 0 ≤ n ∧ n < s.size)
    | _, _ => none
  | .load t x => match aggT P t, ev x with
    | none, .pointer (some a) => some (cellV w a, (w.cell? a).isSome = true)
    | some n, .pointer (some a) => some (.agg (rowV w a 0 n).toArray, (P.underlying t).isSome = true ∧ rowOk w a 0 n)
    | _, _ => none
  | .extract x i => match ev x with
    | .tuple vs => some (vs.getD i undef, i < vs.size)
    | _ => none
  | .call { callee := .builtin .len, args := args, argTypes := ts } => match args.toList.map ev, ts.toList with
    | [.string s], [t] => some (.int .i64 s.size, isStr P t = true)
    | [.slice _ n _], [t] => some (.int .i64 n, (slE P t).isSome = true)
    | _, _ => none
  | _ => none

def lvO (P : Program) (w : World) (ev : Operand → Value) (ty : TypeId) (op : Op) : Value := match lc P w ev op with
  | some p => p.1
  | none => anyV P w ev ty op
def lokO (P : Program) (w : World) (ev : Operand → Value) (ty : TypeId) (op : Op) : Prop := match lc P w ev op with
  | some p => p.2
  | none => anyOk P w ev ty op

theorem any_sound {P : Program} {w : World} {ev : Operand → Value} {ty : TypeId} {op : Op} (h : anyOk P w ev ty op) : run1 P w ev ty op = some (.value (anyV P w ev ty op)) := by
  obtain ⟨v, hv⟩ := h
  simp [anyV, hv]

theorem wrap_byte_get (s : ByteArray) (k : Nat) (h : k < s.size) : s[k]? = some (s.data.toList.getD k 0) := by
  have h' : k < s.data.size := h
  have e1 : s[k]? = some s[k] := by simp [getElem?_def, h]
  rw [e1]
  congr 1
  rw [List.getD_eq_getElem?_getD, Array.getElem?_toList, Array.getElem?_eq_getElem h', Option.getD_some]
  rfl

theorem toList_eq_iff (a b : ByteArray) : (a.toList == b.toList) = decide (bs a = bs b) := by
  unfold bs
  rw [ByteArray.toList_eq, ByteArray.toList_eq]
  by_cases h : a.data.toList = b.data.toList
  · simp [h]
  · simp only [h, decide_false]
    simpa using h

/-! ### Soundness, kind by kind -/
section
variable {P : Program} {w : World} {ev : Operand → Value} {ty : TypeId}

theorem tame_v {s : Sem Value} {v : Value} (h : tame P s w = some v) : tame P (do pure (Next.value (← s))) w = some (.value v) := by
  simp [tame_bind', tame_map, tame_pure, h]
theorem tame_v' {s : Sem Value} {v : Value} (h : tame P s w = some v) : tame P (Functor.map Next.value s) w = some (.value v) := by
  simp [tame_map, h]

theorem beq_dec (a b : Int) : (a == b) = decide (a = b) := by by_cases h : a = b <;> simp [h]
theorem bne_dec (a b : Int) : (a != b) = !decide (a = b) := by by_cases h : a = b <;> simp [h]
theorem shlV (t : TypeId) {k k' : IntKind} {a b : Int} (h : 0 ≤ b) : tame P (Go.binOp .shl t (.int k a) (.int k' b)) w = some (.int k (k.wrap (a * 2 ^ (min b.toNat k.bits)))) := by
  have h' : ¬ b < 0 := by omega
  simp [Go.binOp, Op.shift, h', tame_pure]
theorem shrV (t : TypeId) {k k' : IntKind} {a b : Int} (h : 0 ≤ b) : tame P (Go.binOp .shr t (.int k a) (.int k' b)) w = some (.int k (a.fdiv (2 ^ (min b.toNat k.bits)))) := by
  have h' : ¬ b < 0 := by omega
  simp [Go.binOp, Op.shift, h', tame_pure]
theorem tame_eqb {d : Nat} {t : TypeId} {a b : Bool} (h : isBoolT P t = true) : tame P (Op.equalIn (d + 1) t (.bool a) (.bool b)) w = some (a == b) := by
  have hu : P.underlying t = some .bool := by
    unfold isBoolT at h; split at h <;> first | assumption | cases h
  simp [Op.equalIn, tame_bind', tame_underlying hu, tame_pure]
theorem tame_eqb' {t : TypeId} {a b : Bool} (h : isBoolT P t = true) : tame P (Op.equal t (.bool a) (.bool b)) w = some (a == b) := tame_eqb (d := 9999) h

theorem sound_bin {o : BinOp} {t u : TypeId} {x y : Operand} {p : Value × Prop} (hp : binC P o t (ev x) (ev y) = some p) (h : p.2) : run1 P w ev ty (.binOp o t x y u) = some (.value p.1) := by
  unfold binC at hp
  split at hp
  case h_21 => cases hp
  all_goals (injection hp with hp; subst hp)
  case h_1 | h_2 | h_3 | h_6 | h_7 | h_12 | h_13 | h_14 | h_15 =>
    rename_i k a k' b hx hy
    subst h
    simp [run1, execOp, eqGuard, hx, hy, Go.binOp, Op.intArith, Op.intBits, Op.intCmp, tame_bind', tame_map, tame_pure]
  case h_10 | h_11 =>
    rename_i k a k' b hx hy
    subst h
    simp [run1, execOp, eqGuard, hx, hy, Go.binOp, Op.intCmp, tame_bind', tame_map, tame_pure, beq_dec, bne_dec]
  case h_4 | h_5 =>
    rename_i k a k' b hx hy
    obtain ⟨rfl, hb⟩ := h
    simp [run1, execOp, eqGuard, hx, hy, Go.binOp, Op.intDiv, hb, tame_bind', tame_map, tame_pure]
  case h_8 | h_9 =>
    rename_i k a k' b hx hy
    simp [run1, execOp, eqGuard, hx, hy, tame_bind', tame_map, tame_pure, shlV t h, shrV t h]
  case h_16 =>
    rename_i a b hx hy
    have h1 : ¬ ((a.size + b.size : Nat) : Int) > IntKind.i64.max := by
      have h2 : a.size + b.size ≤ 9223372036854775807 := h
      show ¬ ((a.size + b.size : Nat) : Int) > 2 ^ 63 - 1
      omega
    simp only [run1, execOp, eqGuard, hx, hy, Go.binOp, Op.stringOp, h1, if_false]
    simp [tame_bind', tame_map, tame_pure]
  case h_17 | h_18 =>
    rename_i a b hx hy
    simp [run1, execOp, eqGuard, hx, hy, Go.binOp, Op.stringOp, toList_eq_iff, tame_bind', tame_map, tame_pure]
  case h_19 | h_20 =>
    rename_i a b hx hy
    simp [run1, execOp, eqGuard, hx, hy, Go.binOp, tame_bind', tame_map, tame_pure, tame_eqb' h]
end

end Go.V
