/- The machinery of the walks, fourteenth part: a field of a struct's value. -/
import Derived.WalkKit
import Derived.Laws.StructEq
import Derived.Deep.LoopGhost
import Derived.IntWalk
import Derived.Laws.AppendOwn
import Derived.Laws.CopyRow
import Derived.Laws.Tables
import Derived.Laws.MakeOwn
import Derived.Laws.Externs
import Derived.Lib.Builder
import Derived.Lib.UnsafeStr
namespace Go.V
open Go Go.RowKit

/-! ### Computations that only read -/

/-- What a computation yields that only reads what is there: 'none' if it does anything else. -/
def tame (P : Program) {α : Type} : Sem α → World → Option α
  | .pure a, _ => some a
  | .load _ a k, w => match w.cell? a with
    | some v => tame P (k v) w
    | none => none
  | .shape r k, w => if r < w.heap.size then tame P (k (w.shape? r)) w else none
  | .frozen a k, w => if a.block < w.heap.size then tame P (k (w.frozen? a)) w else none
  | .getObj r k, w => match w.heap[r]? with
    | some (.cells ..) => none
    | some o => tame P (k o) w
    | none => none
  | .program k, w => tame P (k P) w
  | .mark _ k, w => tame P k w
  | _, _ => none

theorem tame_run (P : Program) {α : Type} (s : Sem α) (w : World) (a : α) (h : tame P s w = some a) : s.run P w = .ok a w := by
  induction s with
  | pure b => simp [tame] at h; subst h; simp
  | load m ad k ih =>
    simp only [tame] at h
    cases hc : w.cell? ad with
    | none => simp [hc] at h
    | some v => simp only [hc] at h; simp only [Sem.run, hc]; exact ih v h
  | shape r k ih =>
    simp only [tame] at h
    split at h
    · simp only [Sem.run]; exact ih _ h
    · cases h
  | frozen ad k ih =>
    simp only [tame] at h
    split at h
    · simp only [Sem.run]; exact ih _ h
    · cases h
  | getObj r k ih =>
    simp only [tame] at h
    split at h
    · cases h
    · rename_i o hne ho
      simp only [Sem.run, ho]
      cases o <;> first | exact absurd rfl (hne _ _ _) | exact ih _ h
    · cases h
  | program k ih => simp only [tame] at h; simp only [Sem.run]; exact ih _ h
  | mark m k ih => simp only [tame] at h; simp only [Sem.run]; exact ih h
  | store m ad v k ih => simp [tame] at h
  | new o k ih => simp [tame] at h
  | freeze ad n k ih => simp [tame] at h
  | setObj r o k ih => simp [tame] at h
  | choose q k ih => simp [tame] at h
  | sys c k ih => simp [tame] at h
  | halt x => simp [tame] at h

theorem cell_below {w w' : World} (hb : Below w.heap.size w w') {a : Addr} {v : Value} (h : w.cell? a = some v) : w'.cell? a = some v := by
  rw [hb.cell (World.block_lt_of_cell? w a h)]; exact h

theorem tame_below (P : Program) {α : Type} (s : Sem α) {w w' : World} (hb : Below w.heap.size w w') (a : α) (h : tame P s w = some a) : tame P s w' = some a := by
  induction s with
  | pure b => simpa [tame] using h
  | load m ad k ih =>
    simp only [tame] at h ⊢
    cases hc : w.cell? ad with
    | none => simp [hc] at h
    | some v => simp only [hc] at h; simp only [cell_below hb hc]; exact ih v h
  | shape r k ih =>
    simp only [tame] at h ⊢
    split at h
    · rename_i hr
      have hs : w'.shape? r = w.shape? r := by unfold World.shape?; rw [hb.block r hr]
      rw [if_pos (Nat.lt_of_lt_of_le hr hb.size), hs]; exact ih _ h
    · cases h
  | frozen ad k ih =>
    simp only [tame] at h ⊢
    split at h
    · rename_i hr
      rw [if_pos (Nat.lt_of_lt_of_le hr hb.size), hb.frozen hr]; exact ih _ h
    · cases h
  | getObj r k ih =>
    simp only [tame] at h ⊢
    split at h
    · cases h
    · rename_i o hne ho
      have hr : r < w.heap.size := (Array.getElem?_eq_some_iff.1 ho).1
      rw [hb.block r hr, ho]
      cases o <;> first | exact absurd rfl (hne _ _ _) | exact ih _ h
    · cases h
  | program k ih => simp only [tame] at h ⊢; exact ih _ h
  | mark m k ih => simp only [tame] at h ⊢; exact ih h
  | store m ad v k ih => simp [tame] at h
  | new o k ih => simp [tame] at h
  | freeze ad n k ih => simp [tame] at h
  | setObj r o k ih => simp [tame] at h
  | choose q k ih => simp [tame] at h
  | sys c k ih => simp [tame] at h
  | halt x => simp [tame] at h

theorem tame_bind (P : Program) {α β : Type} (s : Sem α) (f : α → Sem β) (w : World) : tame P (s.bind f) w = (tame P s w).bind (fun a => tame P (f a) w) := by
  induction s with
  | pure b => simp [Sem.bind, tame]
  | load m ad k ih =>
    simp only [Sem.bind, tame]
    cases hc : w.cell? ad with
    | none => simp
    | some v => simp only []; exact ih v
  | shape r k ih => simp only [Sem.bind, tame]; split <;> simp [ih]
  | frozen ad k ih => simp only [Sem.bind, tame]; split <;> simp [ih]
  | getObj r k ih =>
    simp only [Sem.bind, tame]
    split
    · simp
    · rename_i o hne ho; exact ih _
    · simp
  | program k ih => simp only [Sem.bind, tame]; exact ih _
  | mark m k ih => simp only [Sem.bind, tame]; exact ih
  | store m ad v k ih => simp [Sem.bind, tame]
  | new o k ih => simp [Sem.bind, tame]
  | freeze ad n k ih => simp [Sem.bind, tame]
  | setObj r o k ih => simp [Sem.bind, tame]
  | choose q k ih => simp [Sem.bind, tame]
  | sys c k ih => simp [Sem.bind, tame]
  | halt x => simp [Sem.bind, tame]

theorem tame_bind' (P : Program) {α β : Type} (s : Sem α) (f : α → Sem β) (w : World) : tame P (s >>= f) w = (tame P s w).bind (fun a => tame P (f a) w) := tame_bind P s f w
theorem tame_pure (P : Program) {α : Type} (a : α) (w : World) : tame P (Pure.pure a : Sem α) w = some a := rfl
theorem tame_spure (P : Program) {α : Type} (a : α) (w : World) : tame P (Sem.pure a) w = some a := rfl

/-! ### Slots -/
abbrev G := Nat → Value
def upd (g : G) (d : Nat) (v : Value) : G := fun s => if s = d then v else g s
theorem upd_apply (g : G) (d : Nat) (v : Value) (s : Nat) : upd g d v s = if s = d then v else g s := rfl
def updO (g : G) : Option Nat → Value → G
  | none, _ => g
  | some d, v => upd g d v
def evG (g : G) : Operand → Value
  | .tmp t => g t
  | .const v => v
  | .global i => .pointer (some ⟨i, 0, none⟩)
  | .func f => .func (.func f) #[] #[]

structure Rel (n : Nat) (g : G) (a : Act) : Prop where
  size : a.tmps.size = n
  defers : a.defers = []
  at' : ∀ s, s < n → a.tmps.getD s undef = g s

def slotOk (n : Nat) : Operand → Bool
  | .tmp t => decide (t < n)
  | _ => true
theorem Rel.eval {n : Nat} {g : G} {a : Act} (h : Rel n g a) {x : Operand} (hx : slotOk n x = true) : a.eval x = evG g x := by
  cases x with
  | tmp t => exact h.at' t (by simpa [slotOk] using hx)
  | _ => rfl
theorem Rel.put {n : Nat} {g : G} {a : Act} (h : Rel n g a) (d : Option Nat) (hd : ∀ t, d = some t → t < n) (v : Value) : Rel n (updO g d v) (a.put d v) := by
  cases d with
  | none => exact h
  | some t =>
    have ht := hd t rfl
    refine ⟨by simp [Act.put, h.size], by simp [Act.put, h.defers], fun s hs => ?_⟩
    simp only [Act.put, updO, upd]
    by_cases e : s = t
    · subst e; simp [h.size, ht]
    · rw [if_neg e, ← h.at' s hs]
      have e' : ¬ t = s := fun h => e h.symm
      simp [e']

/-- what the operations of a region may name -/
def opsOk (n : Nat) (ops : Array Oper) : Bool := ops.all fun o =>
  o.op.operands.all (slotOk n) && (match o.dst with | some d => decide (d < n) | none => true) && (match o.op with | .select .. => false | _ => true)

theorem opsOk_at {n : Nat} {ops : Array Oper} (h : opsOk n ops = true) {i : Nat} {o : Oper} (ho : ops[i]? = some o) :
    (∀ x ∈ o.op.operands, slotOk n x = true) ∧ (∀ t, o.dst = some t → t < n) ∧ (∀ cs b, o.op ≠ .select cs b) := by
  have hm : o ∈ ops := Array.mem_of_getElem? ho
  have := (Array.all_eq_true_iff_forall_mem.1 h) o hm
  simp only [Bool.and_eq_true] at this
  obtain ⟨⟨h1, h2⟩, h3⟩ := this
  refine ⟨fun x hx => (Array.all_eq_true_iff_forall_mem.1 h1) x hx, fun t ht => ?_, fun cs b hb => ?_⟩
  · rw [ht] at h2; simpa using h2
  · rw [hb] at h3; simp at h3

/-- what a guard's operation has yielded, read off the slots -/
def yG (ops : Array Oper) (g : G) (j : Nat) : Option Bool :=
  match (ops[j]?).bind (·.dst) with
  | some d => match g d with
    | .bool b => some b
    | _ => none
  | none => none
theorem Rel.yielded {n : Nat} {g : G} {a : Act} (h : Rel n g a) {ops : Array Oper} (hok : opsOk n ops = true) (j : Nat) : yielded ops a.tmps j = yG ops g j := by
  unfold Go.yielded yG
  cases hj : ops[j]? with
  | none => rfl
  | some o =>
    cases hd : o.dst with
    | none => simp [hd]
    | some d =>
      have hlt : d < n := (opsOk_at hok hj).2.1 d hd
      have he := h.at' d hlt
      have hs : a.tmps[d]? = some (g d) := by
        have : d < a.tmps.size := by rw [h.size]; exact hlt
        rw [← he]; simp [this]
      simp only [Option.bind_some, hd, hs]
      cases g d <;> rfl

theorem wanted_G {n : Nat} {g : G} {a : Act} (h : Rel n g a) {ops : Array Oper} (hok : opsOk n ops = true) (o : Oper) : Region.wanted o (Go.yielded ops a.tmps) = Region.wanted o (yG ops g) := by
  have : Go.yielded ops a.tmps = yG ops g := funext (h.yielded hok)
  rw [this]

theorem execOp_G {n : Nat} {g : G} {a : Act} (h : Rel n g a) {ops : Array Oper} (hok : opsOk n ops = true) {i : Nat} {o : Oper} (ho : ops[i]? = some o) : execOp a.eval o = execOp (evG g) o :=
  execOp_congr o (opsOk_at hok ho).2.2 fun x hx => h.eval ((opsOk_at hok ho).1 x hx)

end Go.V
namespace Go.V
open Go Go.RowKit
set_option linter.unusedSimpArgs false
set_option linter.unusedVariables false

/-! ### What is read of the tables of types -/
def slE (P : Program) (t : TypeId) : Option Nat := match P.underlying t with
  | some (.slice e) => (P.info? e).map (·.size)
  | _ => none
def intK (P : Program) (t : TypeId) : Option IntKind := match P.underlying t with
  | some (.int k) => some k
  | _ => none
def isStr (P : Program) (t : TypeId) : Bool := match P.underlying t with
  | some .string => true
  | _ => false
def isBoolT (P : Program) (t : TypeId) : Bool := match P.underlying t with
  | some .bool => true
  | _ => false
/-- how many cells a struct or an array has; 'none' for another type -/
def aggT (P : Program) (t : TypeId) : Option Nat := match P.underlying t with
  | some (.struct _) | some (.array _ _) => (P.info? t).map (·.size)
  | some _ => none
  | none => some 0
/-- the type of a field, and where it lies -/
def fldO (P : Program) (t : TypeId) (f : Nat) : Option (TypeId × Nat) := match P.underlying t with
  | some (.struct fs) => match fs[f]? with
    | some fd => match P.info? fd.type with
      | some i => if i.size = 0 then none else some (fd.type, fd.offset)
      | none => none
    | none => none
  | _ => none

theorem tame_map (P : Program) {α β : Type} (f : α → β) (s : Sem α) (w : World) : tame P (Functor.map f s) w = (tame P s w).map f := by
  show tame P (s.bind fun a => Sem.pure (f a)) w = _
  rw [tame_bind]
  cases tame P s w <;> rfl
theorem tame_underlying {P : Program} {t : TypeId} {d : TypeDesc} (h : P.underlying t = some d) (w : World) : tame P (underlying t) w = some d := by
  simp [underlying, program, tame_bind', tame, tame_pure, h]
theorem tame_typeInfo {P : Program} {t : TypeId} {i : TypeInfo} (h : P.info? t = some i) (w : World) : tame P (typeInfo t) w = some i := by
  simp [typeInfo, program, tame_bind', tame, tame_pure, h]
theorem tame_sizeOf {P : Program} {t : TypeId} {i : TypeInfo} (h : P.info? t = some i) (w : World) : tame P (sizeOf t) w = some i.size := by
  simp [sizeOf, tame_map, tame_bind', tame_typeInfo h, tame_pure]
theorem tame_load {P : Program} {a : Addr} {v : Value} {w : World} (h : w.cell? a = some v) : tame P (load a) w = some v := by
  simp [load, tame, h]
theorem tame_isAgg {P : Program} {t : TypeId} {d : TypeDesc} (h : P.underlying t = some d) (w : World) : tame P (isAgg t) w = some (match d with | .struct _ | .array _ _ => true | _ => false) := by
  simp only [isAgg, tame_bind', tame_underlying h, Option.bind_some]
  cases d <;> rfl

/-! ### Cells in a row -/
def cellV (w : World) (a : Addr) : Value := (w.cell? a).getD undef
def rowV (w : World) (a : Addr) : Nat → Nat → List Value
  | _, 0 => []
  | i, n + 1 => cellV w (a.add i) :: rowV w a (i + 1) n
def rowOk (w : World) (a : Addr) : Nat → Nat → Prop
  | _, 0 => True
  | i, n + 1 => (w.cell? (a.add i)).isSome = true ∧ rowOk w a (i + 1) n

theorem tame_loadCellsFrom {P : Program} {w : World} {a : Addr} : ∀ (n i : Nat) (acc : Array Value), rowOk w a i n →
    tame P (loadCellsFrom a i n acc) w = some (acc ++ (rowV w a i n).toArray)
  | 0, i, acc, _ => by simp [loadCellsFrom, rowV, tame_pure]
  | n + 1, i, acc, h => by
    obtain ⟨h1, h2⟩ := h
    obtain ⟨v, hv⟩ := Option.isSome_iff_exists.1 h1
    simp only [loadCellsFrom, tame_bind', tame_load hv, Option.bind_some, tame_loadCellsFrom n (i + 1) _ h2, rowV, cellV, hv, Option.getD_some]
    simp

/-! ### Values -/
def bv : Value → Bool
  | .bool b => b
  | _ => false
def isB : Value → Bool
  | .bool _ => true
  | _ => false
theorem bv_bool (b : Bool) : bv (.bool b) = b := rfl
theorem isB_bool (b : Bool) : isB (.bool b) = true := rfl
theorem bv_undef : bv undef = false := rfl
theorem isB_undef : isB undef = false := rfl
theorem bv_ite (c : Bool) (x y : Value) : bv (if c = true then x else y) = (bif c then bv x else bv y) := by cases c <;> rfl
theorem isB_ite (c : Bool) (x y : Value) : isB (if c = true then x else y) = (bif c then isB x else isB y) := by cases c <;> rfl
theorem eq_bool_of_isB {v : Value} (h : isB v = true) : v = .bool (bv v) := by cases v <;> first | rfl | cases h

/-- a bound of a slice expression -/
def bnd (ev : Operand → Value) (d : Nat) : Option Operand → Nat
  | none => d
  | some x => match ev x with
    | .int _ n => n.toNat
    | _ => 0
def bndOk (ev : Operand → Value) (top : Nat) : Option Operand → Prop
  | none => True
  | some x => match ev x with
    | .int _ n => 0 ≤ n ∧ n ≤ top
    | _ => False

def run1 (P : Program) (w : World) (ev : Operand → Value) (ty : TypeId) (op : Op) : Option Next := tame P (execOp ev { dst := none, op := op, type := ty, pos := "", after := #[], guard := none }) w
def anyV (P : Program) (w : World) (ev : Operand → Value) (ty : TypeId) (op : Op) : Value := match run1 P w ev ty op with
  | some (.value v) => v
  | _ => undef
def anyOk (P : Program) (w : World) (ev : Operand → Value) (ty : TypeId) (op : Op) : Prop := ∃ v, run1 P w ev ty op = some (.value v)

/-- a string's bytes -/
def bs (s : ByteArray) : List UInt8 := s.data.toList
@[go_sem] theorem bs_mk (l : List UInt8) : bs ⟨l.toArray⟩ = l := by simp [bs]
theorem bs_len (s : ByteArray) : (bs s).length = s.size := by unfold bs; rw [Array.length_toList]; rfl
theorem bs_inj {s u : ByteArray} (h : bs s = bs u) : s = u := by
  obtain ⟨⟨l⟩⟩ := s
  obtain ⟨⟨m⟩⟩ := u
  simp [bs] at h; rw [h]
/-- a byte of a string -/
def byteAt (s : ByteArray) (k : Nat) : UInt8 := (bs s).getD k 0
/-- two operands: what comes out, and when -/
def binC (P : Program) (op : BinOp) (t : TypeId) (x y : Value) : Option (Value × Prop) := match op, x, y with
  | .add, .int k a, .int k' b => some (.int k (k.wrap (a + b)), k = k')
  | .sub, .int k a, .int k' b => some (.int k (k.wrap (a - b)), k = k')
  | .mul, .int k a, .int k' b => some (.int k (k.wrap (a * b)), k = k')
  | .quo, .int k a, .int k' b => some (.int k (k.wrap (a.tdiv b)), k = k' ∧ b ≠ 0)
  | .rem, .int k a, .int k' b => some (.int k (a.tmod b), k = k' ∧ b ≠ 0)
  | .and, .int k a, .int k' b => some (.int k (k.wrap (BitVec.ofInt k.bits a &&& BitVec.ofInt k.bits b).toNat), k = k')
  | .or, .int k a, .int k' b => some (.int k (k.wrap (BitVec.ofInt k.bits a ||| BitVec.ofInt k.bits b).toNat), k = k')
  | .shl, .int k a, .int _ b => some (.int k (k.wrap (a * 2 ^ (min b.toNat k.bits))), 0 ≤ b)
  | .shr, .int k a, .int _ b => some (.int k (a.fdiv (2 ^ (min b.toNat k.bits))), 0 ≤ b)
  | .eql, .int k a, .int k' b => some (.bool (decide (a = b)), k = k')
  | .neq, .int k a, .int k' b => some (.bool (!decide (a = b)), k = k')
  | .lss, .int k a, .int k' b => some (.bool (decide (a < b)), k = k')
  | .leq, .int k a, .int k' b => some (.bool (decide (a ≤ b)), k = k')
  | .gtr, .int k a, .int k' b => some (.bool (decide (b < a)), k = k')
  | .geq, .int k a, .int k' b => some (.bool (decide (b ≤ a)), k = k')
  | .add, .string a, .string b => some (.string (a ++ b), a.size + b.size ≤ 9223372036854775807)
  | .eql, .string a, .string b => some (.bool (decide (bs a = bs b)), True)
  | .neq, .string a, .string b => some (.bool (!decide (bs a = bs b)), True)
  | .eql, .bool a, .bool b => some (.bool (a == b), isBoolT P t = true)
  | .neq, .bool a, .bool b => some (.bool (!(a == b)), isBoolT P t = true)
  | _, _, _ => none

/-- what an operation yields that only reads, and when; 'none': not of the kinds that are known here -/
def lc (P : Program) (w : World) (ev : Operand → Value) (op : Op) : Option (Value × Prop) := match op with
  | .move x | .assign x => some (ev x, True)
  | .pick c a b => some (.bool (bif bv (ev c) then bv (ev a) else bv (ev b)), isB (ev c) = true ∧ (bv (ev c) = true → isB (ev a) = true) ∧ (bv (ev c) = false → isB (ev b) = true))
  | .binOp o t x y _ => binC P o t (ev x) (ev y)
  | .unOp o _ x => match o, ev x with
    | .not, .bool b => some (.bool (!b), True)
    | .neg, .int k n => some (.int k (k.wrap (0 - n)), True)
    | _, _ => none
  | .convert s d x => match intK P d, ev x with
    | some k, .int _ n => some (.int k (k.wrap n), (P.underlying s).isSome = true)
    | _, _ => none
  | .nilCheck x => match ev x with
    | .pointer (some a) => some (.pointer (some a), True)
    | _ => none
  | .slice t x lo hi mx => match mx, ev x with
    | none, .string s => some (.string (s.extract (bnd ev 0 lo) (bnd ev s.size hi)), isStr P t = true ∧ bndOk ev s.size hi ∧ bndOk ev (bnd ev s.size hi) lo)
    | none, .slice a len cap => some (.slice (if cap = bnd ev 0 lo then a else a.map (·.add (bnd ev 0 lo * (slE P t).getD 0))) (bnd ev len hi - bnd ev 0 lo) (cap - bnd ev 0 lo),
        (slE P t).isSome = true ∧ bndOk ev cap hi ∧ bndOk ev (bnd ev len hi) lo)
    | _, _ => none
  | .fieldAddr t x f => match fldO P t f, ev x with
    | some o, .pointer (some a) => some (.pointer (some (a.add o.2)), True)
    | _, _ => none
  | .indexAddr t x i => match slE P t, ev x, ev i with
    | some size, .slice a len _, .int _ n => some (.pointer (some ((a.getD default).add (n.toNat * size))), 0 ≤ n ∧ n < len ∧ a.isSome = true)
    | _, _, _ => none
  | .index t x i => match ev x, ev i with
    | .string s, .int _ n => some (.int .u8 (byteAt s n.toNat).toNat, isStr P t = true ∧ 0 ≤ n ∧ n < s.size)
    | _, _ => none
  | .load t x => match aggT P t, ev x with
    | none, .pointer (some a) => some (cellV w a, (w.cell? a).isSome = true)
    | some n, .pointer (some a) => some (.agg (rowV w a 0 n).toArray, (P.underlying t).isSome = true ∧ rowOk w a 0 n)
    | _, _ => none
  | .extract x i => match ev x with
    | .tuple vs => some (vs.getD i undef, i < vs.size)
    | _ => none
  | .call { callee := .builtin .len, args := args, argTypes := ts } => match args.toList.map ev, ts.toList with
    | [.string s], [t] => some (.int .i64 s.size, isStr P t = true)
    | [.slice _ n _], [t] => some (.int .i64 n, (slE P t).isSome = true)
    | _, _ => none
  | _ => none

def lvO (P : Program) (w : World) (ev : Operand → Value) (ty : TypeId) (op : Op) : Value := match lc P w ev op with
  | some p => p.1
  | none => anyV P w ev ty op
def lokO (P : Program) (w : World) (ev : Operand → Value) (ty : TypeId) (op : Op) : Prop := match lc P w ev op with
  | some p => p.2
  | none => anyOk P w ev ty op

theorem any_sound {P : Program} {w : World} {ev : Operand → Value} {ty : TypeId} {op : Op} (h : anyOk P w ev ty op) : run1 P w ev ty op = some (.value (anyV P w ev ty op)) := by
  obtain ⟨v, hv⟩ := h
  simp [anyV, hv]

theorem wrap_byte_get (s : ByteArray) (k : Nat) (h : k < s.size) : s[k]? = some (s.data.toList.getD k 0) := by
  have h' : k < s.data.size := h
  have e1 : s[k]? = some s[k] := by simp [getElem?_def, h]
  rw [e1]
  congr 1
  rw [List.getD_eq_getElem?_getD, Array.getElem?_toList, Array.getElem?_eq_getElem h', Option.getD_some]
  rfl

theorem toList_eq_iff (a b : ByteArray) : (a.toList == b.toList) = decide (bs a = bs b) := by
  unfold bs
  rw [ByteArray.toList_eq, ByteArray.toList_eq]
  by_cases h : a.data.toList = b.data.toList
  · simp [h]
  · simp only [h, decide_false]
    simpa using h

/-! ### Soundness, kind by kind -/
section
variable {P : Program} {w : World} {ev : Operand → Value} {ty : TypeId}

theorem tame_v {s : Sem Value} {v : Value} (h : tame P s w = some v) : tame P (do pure (Next.value (← s))) w = some (.value v) := by
  simp [tame_bind', tame_map, tame_pure, h]
theorem tame_v' {s : Sem Value} {v : Value} (h : tame P s w = some v) : tame P (Functor.map Next.value s) w = some (.value v) := by
  simp [tame_map, h]

theorem beq_dec (a b : Int) : (a == b) = decide (a = b) := by by_cases h : a = b <;> simp [h]
theorem bne_dec (a b : Int) : (a != b) = !decide (a = b) := by by_cases h : a = b <;> simp [h]
theorem shlV (t : TypeId) {k k' : IntKind} {a b : Int} (h : 0 ≤ b) : tame P (Go.binOp .shl t (.int k a) (.int k' b)) w = some (.int k (k.wrap (a * 2 ^ (min b.toNat k.bits)))) := by
  have h' : ¬ b < 0 := by omega
  simp [Go.binOp, Op.shift, h', tame_pure]
theorem shrV (t : TypeId) {k k' : IntKind} {a b : Int} (h : 0 ≤ b) : tame P (Go.binOp .shr t (.int k a) (.int k' b)) w = some (.int k (a.fdiv (2 ^ (min b.toNat k.bits)))) := by
  have h' : ¬ b < 0 := by omega
  simp [Go.binOp, Op.shift, h', tame_pure]
theorem tame_eqb {d : Nat} {t : TypeId} {a b : Bool} (h : isBoolT P t = true) : tame P (Op.equalIn (d + 1) t (.bool a) (.bool b)) w = some (a == b) := by
  have hu : P.underlying t = some .bool := by
    unfold isBoolT at h; split at h <;> first | assumption | cases h
  simp [Op.equalIn, tame_bind', tame_underlying hu, tame_pure]
theorem tame_eqb' {t : TypeId} {a b : Bool} (h : isBoolT P t = true) : tame P (Op.equal t (.bool a) (.bool b)) w = some (a == b) := tame_eqb (d := 9999) h

theorem sound_bin {o : BinOp} {t u : TypeId} {x y : Operand} {p : Value × Prop} (hp : binC P o t (ev x) (ev y) = some p) (h : p.2) : run1 P w ev ty (.binOp o t x y u) = some (.value p.1) := by
  unfold binC at hp
  split at hp
  case h_21 => cases hp
  all_goals (injection hp with hp; subst hp)
  case h_1 | h_2 | h_3 | h_6 | h_7 | h_12 | h_13 | h_14 | h_15 =>
    rename_i k a k' b hx hy
    subst h
    simp [run1, execOp, eqGuard, hx, hy, Go.binOp, Op.intArith, Op.intBits, Op.intCmp, tame_bind', tame_map, tame_pure]
  case h_10 | h_11 =>
    rename_i k a k' b hx hy
    subst h
    simp [run1, execOp, eqGuard, hx, hy, Go.binOp, Op.intCmp, tame_bind', tame_map, tame_pure, beq_dec, bne_dec]
  case h_4 | h_5 =>
    rename_i k a k' b hx hy
    obtain ⟨rfl, hb⟩ := h
    simp [run1, execOp, eqGuard, hx, hy, Go.binOp, Op.intDiv, hb, tame_bind', tame_map, tame_pure]
  case h_8 | h_9 =>
    rename_i k a k' b hx hy
    simp [run1, execOp, eqGuard, hx, hy, tame_bind', tame_map, tame_pure, shlV t h, shrV t h]
  case h_16 =>
    rename_i a b hx hy
    have h1 : ¬ ((a.size + b.size : Nat) : Int) > IntKind.i64.max := by
      have h2 : a.size + b.size ≤ 9223372036854775807 := h
      show ¬ ((a.size + b.size : Nat) : Int) > 2 ^ 63 - 1
      omega
    simp only [run1, execOp, eqGuard, hx, hy, Go.binOp, Op.stringOp, h1, if_false]
    simp [tame_bind', tame_map, tame_pure]
  case h_17 | h_18 =>
    rename_i a b hx hy
    simp [run1, execOp, eqGuard, hx, hy, Go.binOp, Op.stringOp, toList_eq_iff, tame_bind', tame_map, tame_pure]
  case h_19 | h_20 =>
    rename_i a b hx hy
    simp [run1, execOp, eqGuard, hx, hy, Go.binOp, tame_bind', tame_map, tame_pure, tame_eqb' h]
end

end Go.V
namespace Go.V
open Go Go.RowKit
set_option linter.unusedSimpArgs false
set_option linter.unusedVariables false
section
variable {P : Program} {w : World} {ev : Operand → Value} {ty : TypeId}

theorem slE_some {t : TypeId} {n : Nat} (h : slE P t = some n) : ∃ e i, P.underlying t = some (.slice e) ∧ P.info? e = some i ∧ i.size = n := by
  unfold slE at h
  split at h
  · rename_i e he
    cases hi : P.info? e with
    | none => simp [hi] at h
    | some i => simp [hi] at h; exact ⟨e, i, he, hi, h⟩
  · cases h
theorem isStr_some {t : TypeId} (h : isStr P t = true) : P.underlying t = some .string := by
  unfold isStr at h; split at h <;> first | assumption | cases h
theorem intK_some {t : TypeId} {k : IntKind} (h : intK P t = some k) : P.underlying t = some (.int k) := by
  unfold intK at h
  split at h
  · rename_i k' hk; injection h with h; subst h; exact hk
  · cases h
theorem fldO_some {t : TypeId} {f : Nat} {o : TypeId × Nat} (h : fldO P t f = some o) :
    ∃ fs fd i, P.underlying t = some (.struct fs) ∧ fs[f]? = some fd ∧ P.info? fd.type = some i ∧ i.size ≠ 0 ∧ fd.offset = o.2 := by
  unfold fldO at h
  split at h
  · rename_i fs hfs
    split at h
    · rename_i fd hfd
      split at h
      · rename_i i hi
        split at h
        · cases h
        · rename_i hne; injection h with h; subst h; exact ⟨fs, fd, i, hfs, hfd, hi, hne, rfl⟩
      · cases h
    · cases h
  · cases h

theorem tame_bound {x : Value} {y : Nat} {code : BoundsCode} {k : IntKind} {n : Int} (hx : x = .int k n) (h : 0 ≤ n ∧ n ≤ y) : tame P (Instr.sliceBound x y code) w = some n.toNat := by
  subst hx
  simp [Instr.sliceBound, asIntOf, tame_bind', tame_pure, h]

theorem tame_bounds {isSlice : Bool} {len cap : Nat} {lo hi : Option Operand} (h1 : bndOk ev cap hi) (h2 : bndOk ev (bnd ev len hi) lo) :
    tame P (Instr.sliceBounds isSlice len cap (lo.map ev) (hi.map ev) none) w = some (bnd ev 0 lo, bnd ev len hi, cap) := by
  unfold Instr.sliceBounds
  cases hi with
  | none =>
    cases lo with
    | none => simp [tame_bind', tame_map, tame_pure, bnd]
    | some y =>
      simp only [bnd, bndOk] at h2 ⊢
      cases hy : ev y <;> simp only [hy] at h2
      simp [tame_bind', tame_map, tame_pure, hy, tame_bound rfl h2]
  | some x =>
    simp only [bnd, bndOk] at h1 h2 ⊢
    cases hx : ev x <;> simp only [hx] at h1 h2 ⊢
    cases lo with
    | none => simp [tame_bind', tame_map, tame_pure, hx, tame_bound rfl h1]
    | some y =>
      simp only [] at h2 ⊢
      cases hy : ev y <;> simp only [hy] at h2
      simp [tame_bind', tame_map, tame_pure, hx, hy, tame_bound rfl h1, tame_bound rfl h2]

theorem tame_sizeOf' {t : TypeId} {i : TypeInfo} (h : P.info? t = some i) : tame P (sizeOf t) w = some i.size := tame_sizeOf h w

theorem sound_slice_str {t : TypeId} {x : Operand} {lo hi : Option Operand} {s : ByteArray} (hx : ev x = .string s) (h : isStr P t = true ∧ bndOk ev s.size hi ∧ bndOk ev (bnd ev s.size hi) lo) :
    run1 P w ev ty (.slice t x lo hi none) = some (.value (.string (s.extract (bnd ev 0 lo) (bnd ev s.size hi)))) := by
  obtain ⟨h0, h1, h2⟩ := h
  have hu := isStr_some h0
  simp only [run1, execOp, Instr.sliceAt, Instr.slice, hx, Option.map_none]
  simp [tame_bind', tame_map, tame_underlying hu, tame_pure, tame_bounds h1 h2]

theorem sound_slice_sl {t : TypeId} {x : Operand} {lo hi : Option Operand} {a : Option Addr} {len cap : Nat} (hx : ev x = .slice a len cap) (h : (slE P t).isSome = true ∧ bndOk ev cap hi ∧ bndOk ev (bnd ev len hi) lo) :
    run1 P w ev ty (.slice t x lo hi none) = some (.value (.slice (if cap = bnd ev 0 lo then a else a.map (·.add (bnd ev 0 lo * (slE P t).getD 0))) (bnd ev len hi - bnd ev 0 lo) (cap - bnd ev 0 lo))) := by
  obtain ⟨h0, h1, h2⟩ := h
  obtain ⟨n, hn⟩ := Option.isSome_iff_exists.1 h0
  obtain ⟨e, i, hu, hi, hs⟩ := slE_some hn
  simp only [run1, execOp, Instr.sliceAt, Instr.slice, hx, Option.map_none]
  simp [tame_bind', tame_map, tame_underlying hu, tame_pure, tame_bounds h1 h2, tame_sizeOf' hi, hn, hs]

theorem sound_load1 {t : TypeId} {x : Operand} {a : Addr} (hx : ev x = .pointer (some a)) (ho : aggT P t = none) (h : (w.cell? a).isSome = true) :
    run1 P w ev ty (.load t x) = some (.value (cellV w a)) := by
  unfold aggT at ho
  obtain ⟨v, hv⟩ := Option.isSome_iff_exists.1 h
  cases hu : P.underlying t with
  | none => simp [hu] at ho
  | some d =>
    have hag : tame P (isAgg t) w = some false := by
      rw [tame_isAgg hu]
      rw [hu] at ho
      cases d <;> first | rfl | skip
      all_goals
        exfalso
        cases hi : P.info? t with
        | none => simp [Program.underlying, hi] at hu
        | some i => simp [hi] at ho
    simp only [run1, execOp, Instr.loadAt, Instr.sureAddr, hx, loadVar]
    simp [tame_bind', tame_map, tame_pure, hag, tame_load hv, cellV, hv]
theorem sound_loadN {t : TypeId} {x : Operand} {a : Addr} {n : Nat} (hx : ev x = .pointer (some a)) (ho : aggT P t = some n) (h : (P.underlying t).isSome = true ∧ rowOk w a 0 n) :
    run1 P w ev ty (.load t x) = some (.value (.agg (rowV w a 0 n).toArray)) := by
  obtain ⟨h0, h⟩ := h
  obtain ⟨d, hu⟩ := Option.isSome_iff_exists.1 h0
  unfold aggT at ho
  rw [hu] at ho
  cases hi : P.info? t with
  | none => simp [Program.underlying, hi] at hu
  | some i =>
    have hn : i.size = n := by rw [hi] at ho; cases d <;> simp at ho <;> exact ho
    have hag : tame P (isAgg t) w = some true := by
      rw [tame_isAgg hu]
      cases d <;> first | rfl | simp at ho
    subst hn
    simp only [run1, execOp, Instr.loadAt, Instr.sureAddr, hx, loadVar]
    simp [tame_bind', tame_map, tame_pure, hag, tame_sizeOf' hi, loadCells, tame_loadCellsFrom _ _ _ h]

theorem sound_index {t : TypeId} {x i : Operand} {s : ByteArray} {k : IntKind} {n : Int} (hx : ev x = .string s) (hi : ev i = .int k n) (h : isStr P t = true ∧ 0 ≤ n ∧ n < s.size) :
    run1 P w ev ty (.index t x i) = some (.value (.int .u8 (byteAt s n.toNat).toNat)) := by
  obtain ⟨h0, h1, h2⟩ := h
  have hu := isStr_some h0
  have hg := wrap_byte_get s n.toNat (by omega)
  simp only [run1, execOp, Instr.index, hx, hi, byteAt, bs]
  simp [tame_bind', tame_map, tame_pure, asIntOf, tame_underlying hu, h1, hg]

theorem sound_indexAddr {t : TypeId} {x i : Operand} {a : Option Addr} {len cap size : Nat} {k : IntKind} {n : Int} (hs : slE P t = some size) (hx : ev x = .slice a len cap) (hi : ev i = .int k n) (h : 0 ≤ n ∧ n < len ∧ a.isSome = true) :
    run1 P w ev ty (.indexAddr t x i) = some (.value (.pointer (some ((a.getD default).add (n.toNat * size))))) := by
  obtain ⟨h1, h2, h3⟩ := h
  obtain ⟨e, inf, hu, hinf, hsz⟩ := slE_some hs
  obtain ⟨ad, rfl⟩ := Option.isSome_iff_exists.1 h3
  simp only [run1, execOp, Instr.indexAt, hx, hi]
  simp [tame_bind', tame_map, tame_pure, asIntOf, tame_underlying hu, h1, h2, tame_sizeOf' hinf, hsz]

theorem sound_fieldAddr {t : TypeId} {x : Operand} {f : Nat} {o : TypeId × Nat} {a : Addr} (ho : fldO P t f = some o) (hx : ev x = .pointer (some a)) :
    run1 P w ev ty (.fieldAddr t x f) = some (.value (.pointer (some (a.add o.2)))) := by
  obtain ⟨fs, fd, i, hu, hf, hi, hne, ho⟩ := fldO_some ho
  simp only [run1, execOp, Instr.fieldAt, hx]
  simp [tame_bind', tame_map, tame_pure, tame_underlying hu, hf, Instr.sureAddr, fieldPlace, tame_sizeOf' hi, hne, ho]

theorem sound_convert {s d : TypeId} {x : Operand} {k k' : IntKind} {n : Int} (hd : intK P d = some k) (hx : ev x = .int k' n) (h : (P.underlying s).isSome = true) :
    run1 P w ev ty (.convert s d x) = some (.value (.int k (k.wrap n))) := by
  have hu := intK_some hd
  obtain ⟨ds, hs⟩ := Option.isSome_iff_exists.1 h
  simp only [run1, execOp, Go.convert, hx]
  simp [tame_bind', tame_map, tame_pure, tame_underlying hu, tame_underlying hs, Conv.intToInt]

theorem sound_len_str {t : TypeId} {args : Array Operand} {s : ByteArray} {ts : Array TypeId} (hx : args.toList.map ev = [.string s]) (ht : ts.toList = [t]) (h : isStr P t = true) :
    run1 P w ev ty (.call { callee := .builtin .len, args := args, argTypes := ts }) = some (.value (.int .i64 s.size)) := by
  have hu := isStr_some h
  have e1 : args.map ev = #[.string s] := by apply Array.toList_inj.1; simpa using hx
  have e2 : ts = #[t] := by apply Array.toList_inj.1; simpa using ht
  subst e2
  simp only [run1, execOp, resolve, e1]
  simp [tame_bind', tame_map, tame_pure, tame_spure, invoke, builtin, Builtin.len_, tame_underlying hu, goInt]
theorem sound_len_sl {t : TypeId} {args : Array Operand} {a : Option Addr} {n c : Nat} {ts : Array TypeId} (hx : args.toList.map ev = [.slice a n c]) (ht : ts.toList = [t]) (h : (slE P t).isSome = true) :
    run1 P w ev ty (.call { callee := .builtin .len, args := args, argTypes := ts }) = some (.value (.int .i64 n)) := by
  obtain ⟨m, hm⟩ := Option.isSome_iff_exists.1 h
  obtain ⟨e, i, hu, _, _⟩ := slE_some hm
  have e1 : args.map ev = #[.slice a n c] := by apply Array.toList_inj.1; simpa using hx
  have e2 : ts = #[t] := by apply Array.toList_inj.1; simpa using ht
  subst e2
  simp only [run1, execOp, resolve, e1]
  simp [tame_bind', tame_map, tame_pure, tame_spure, invoke, builtin, Builtin.len_, tame_underlying hu, goInt]

theorem sound_lc {op : Op} {p : Value × Prop} (hp : lc P w ev op = some p) (h : p.2) : run1 P w ev ty op = some (.value p.1) := by
  unfold lc at hp
  split at hp
  · injection hp with hp; subst hp; simp [run1, execOp, tame_pure]
  · injection hp with hp; subst hp; simp [run1, execOp, tame_pure]
  · rename_i c a b
    injection hp with hp; subst hp
    obtain ⟨h1, h2, h3⟩ := h
    have e1 := eq_bool_of_isB h1
    generalize bv (ev c) = t at *
    cases t
    · have e3 := eq_bool_of_isB (h3 rfl)
      generalize bv (ev b) = u at *
      simp [run1, execOp, e1, e3, asBool, tame_bind', tame_map, tame_pure]
    · have e3 := eq_bool_of_isB (h2 rfl)
      generalize bv (ev a) = u at *
      simp [run1, execOp, e1, e3, asBool, tame_bind', tame_map, tame_pure]
  · exact sound_bin hp h
  · rename_i o t x
    split at hp
    · rename_i b hx; injection hp with hp; subst hp; simp [run1, execOp, hx, Op.unary, tame_bind', tame_map, tame_pure]
    · rename_i k n hx; injection hp with hp; subst hp; simp [run1, execOp, hx, Op.unary, Op.intArith, tame_bind', tame_map, tame_pure]
    · cases hp
  · rename_i s d x
    split at hp
    · rename_i k k' n hk hx; injection hp with hp; subst hp; exact sound_convert hk hx h
    · cases hp
  · rename_i x
    split at hp
    · rename_i a hx; injection hp with hp; subst hp; simp [run1, execOp, hx, tame_pure]
    · cases hp
  · rename_i t x lo hi mx
    split at hp
    · rename_i s hm hx; injection hp with hp; subst hp; exact sound_slice_str hx h
    · rename_i a len cap hm hx; injection hp with hp; subst hp; exact sound_slice_sl hx h
    · cases hp
  · rename_i t x f
    split at hp
    · rename_i o a ho hx; injection hp with hp; subst hp; exact sound_fieldAddr ho hx
    · cases hp
  · rename_i t x i
    split at hp
    · rename_i size a len cap k n hs hx hi; injection hp with hp; subst hp; exact sound_indexAddr hs hx hi h
    · cases hp
  · rename_i t x i
    split at hp
    · rename_i s k n hx hi; injection hp with hp; subst hp; exact sound_index hx hi h
    · cases hp
  · rename_i t x
    split at hp
    · rename_i a ho hx; injection hp with hp; subst hp; exact sound_load1 hx ho h
    · rename_i n a ho hx; injection hp with hp; subst hp; exact sound_loadN hx ho h
    · cases hp
  · rename_i x i
    split at hp
    · rename_i vs hx
      injection hp with hp; subst hp
      have hlt : i < vs.size := h
      simp [run1, execOp, hx, Instr.extract, tame_bind', tame_map, tame_pure, hlt]
    · cases hp
  · rename_i args ts
    split at hp
    · rename_i s t hx ht; injection hp with hp; subst hp; exact sound_len_str hx ht h
    · rename_i a n c t hx ht; injection hp with hp; subst hp; exact sound_len_sl hx ht h
    · cases hp
  · cases hp

/-- An operation whose condition holds only reads, and yields the value said. -/
theorem lok_sound {op : Op} (h : lokO P w ev ty op) : run1 P w ev ty op = some (.value (lvO P w ev ty op)) := by
  unfold lokO at h
  unfold lvO
  cases hp : lc P w ev op with
  | none => rw [hp] at h; exact any_sound h
  | some p => rw [hp] at h; exact sound_lc hp h
theorem lok_exec {o : Oper} (h : lokO P w ev o.type o.op) : tame P (execOp ev o) w = some (.value (lvO P w ev o.type o.op)) := lok_sound h
end
end Go.V
namespace Go.V
open Go Go.RowKit
set_option linter.unusedSimpArgs false
set_option linter.unusedVariables false

/-- What is asked of an operation that is no light one. -/
def hwp (P : Program) (ev : Operand → Value) (o : Oper) (w : World) (K : Value → World → Prop) : Prop :=
  match (execOp ev o).run P w with
  | .ok (.value v) w' => K v w'
  | .ok .skip w' => K undef w'
  | .ok (.enter f args) w' => Calls P f args w' (fun e w'' => ∃ v, e = .returned v ∧ K v w'')
  | _ => False

theorem hwp_mono {P : Program} {ev : Operand → Value} {o : Oper} {w : World} {K K' : Value → World → Prop} (h : ∀ v w', K v w' → K' v w') (hh : hwp P ev o w K) : hwp P ev o w K' := by
  unfold hwp at *
  generalize (execOp ev o).run P w = r at *
  cases r with
  | ok n w' =>
    cases n <;> first
      | exact h _ _ hh
      | exact Calls.mono hh (fun e w'' ⟨v, he, hk⟩ => ⟨v, he, h _ _ hk⟩)
      | exact hh.elim
  | halt x w' => exact hh.elim

theorem wp_of_hwp {P : Program} {o : Oper} {a : Act} {w : World} {K : Act → World → Prop} {Q : Exit → Act → World → Prop} (h : hwp P a.eval o w (fun v w' => K (a.put o.dst v) w')) : o.wp P a w K Q := by
  unfold hwp at h
  unfold Oper.wp
  generalize (execOp a.eval o).run P w = r at *
  cases r with
  | ok n w' =>
    cases n <;> first
      | exact h.elim
      | (simp only [Oper.upon]; exact h)
      | (simp only [Oper.upon]; exact Calls.mono h (fun e w'' ⟨v, he, hk⟩ => by subst he; exact hk))
  | halt x w' => exact h.elim

section
variable {P : Program} {md : Region.Mode} {ops : Array Oper} {tm : Nat → Bool}

def opR (P : Program) (ops : Array Oper) (tm : Nat → Bool) (i : Nat) (K : Act → World → Prop) (a : Act) (w : World) : Prop :=
  match ops[i]? with
  | none => K a w
  | some o => if Region.wanted o (yielded ops a.tmps) = true then hwp P a.eval o w (fun v w' => (tm i = true → Below w.heap.size w w') ∧ K (a.put o.dst v) w') else K (a.put o.dst undef) w

theorem opR_mono {i : Nat} {K K' : Act → World → Prop} {a : Act} {w : World} (h : ∀ a w, K a w → K' a w) (hh : opR P ops tm i K a w) : opR P ops tm i K' a w := by
  unfold opR at *
  split
  · rename_i ho; simp only [ho] at hh; exact h _ _ hh
  · rename_i o ho
    simp only [ho] at hh
    split
    · rename_i hw; rw [if_pos hw] at hh; exact hwp_mono (fun v w' ⟨h1, h2⟩ => ⟨h1, h _ _ h2⟩) hh
    · rename_i hw; rw [if_neg hw] at hh; exact h _ _ hh

def anyR (P : Program) (md : Region.Mode) (ops : Array Oper) (tm : Nat → Bool) (Q : Act → World → Prop) : Nat → Array Bool → Act → World → Prop
  | 0, listed, a, w => Region.ready md ops listed = [] ∧ Q a w
  | fuel + 1, listed, a, w => (Region.ready md ops listed = [] → Q a w) ∧ ∀ i ∈ Region.ready md ops listed, opR P ops tm i (anyR P md ops tm Q fuel (listed.setIfInBounds i true)) a w

theorem wpAny_of_anyR {Q : Act → World → Prop} {Q' : Exit → Act → World → Prop} (hQ : ∀ a w, Q a w → Q' .normal a w) : ∀ (fuel : Nat) (listed : Array Bool) (a : Act) (w : World), anyR P md ops tm Q fuel listed a w → wpAny P md ops Q' fuel listed a w
  | 0, _, _, _, h => ⟨h.1, hQ _ _ h.2⟩
  | fuel + 1, listed, a, w, h => by
    refine ⟨fun h0 => hQ _ _ (h.1 h0), fun i hi => ?_⟩
    have hi' := h.2 i hi
    unfold opR at hi'
    unfold wpOp
    split
    · rename_i ho; simp only [ho] at hi'; exact wpAny_of_anyR hQ fuel _ _ _ hi'
    · rename_i o ho
      simp only [ho] at hi'
      split
      · rename_i hw
        rw [if_pos hw] at hi'
        exact .inl (wp_of_hwp (hwp_mono (fun v w' ⟨_, h2⟩ => wpAny_of_anyR hQ fuel _ _ _ h2) hi'))
      · rename_i hw; rw [if_neg hw] at hi'; exact wpAny_of_anyR hQ fuel _ _ _ hi'

/-- In this state the operation leaves the value 'v', and only reads. -/
def YieldsT (P : Program) (ops : Array Oper) (o : Oper) (v : Value) (a : Act) (w : World) : Prop :=
  (Region.wanted o (yielded ops a.tmps) = true ∧ tame P (execOp a.eval o) w = some (.value v)) ∨ (Region.wanted o (yielded ops a.tmps) = false ∧ v = undef)

theorem YieldsT.opR {i : Nat} {o : Oper} {v : Value} {a : Act} {w : World} (hi : ops[i]? = some o) (hy : YieldsT P ops o v a w) {K : Act → World → Prop} (h : K (a.put o.dst v) w) : opR P ops tm i K a w := by
  unfold Go.V.opR
  simp only [hi]
  rcases hy with ⟨hw, hv⟩ | ⟨hw, rfl⟩
  · rw [if_pos hw]
    unfold hwp
    rw [tame_run _ _ _ _ hv]
    exact ⟨fun _ => Below.refl _ _, h⟩
  · rw [if_neg (by simp [hw])]; exact h

theorem YieldsT.put {oi oj : Oper} {v u : Value} {a : Act} {w w' : World} (hy : YieldsT P ops oi v a w) (hs : ∀ cs b, oi.op ≠ .select cs b) (h3 : ∀ d, oj.dst = some d → d ∉ oi.looksAt ops) (hb : Below w.heap.size w w') :
    YieldsT P ops oi v (a.put oj.dst u) w' := by
  unfold YieldsT at *
  rw [wanted_put oi a oj.dst u h3, execOp_put oi hs a oj.dst u h3]
  rcases hy with ⟨hw, hv⟩ | h
  · exact .inl ⟨hw, tame_below P _ hb _ hv⟩
  · exact .inr h

theorem opR_put {j : Nat} {oi oj : Oper} {v : Value} (hj : ops[j]? = some oj) (hap : oi.apart ops oj = true) (hsi : ∀ cs b, oi.op ≠ .select cs b) (hsj : ∀ cs b, oj.op ≠ .select cs b) (htm : tm j = true)
    {K : Act → World → Prop} {a : Act} {w : World} (hy : YieldsT P ops oi v a w) (h : opR P ops tm j K (a.put oi.dst v) w) :
    opR P ops tm j (fun a' w' => YieldsT P ops oi v a' w' ∧ K (a'.put oi.dst v) w') a w := by
  obtain ⟨h1, h2, h3⟩ := Oper.apart_spec hap
  unfold opR at *
  simp only [hj] at *
  rw [wanted_put oj a oi.dst v h1] at h
  split
  · rename_i hw
    rw [if_pos hw] at h
    unfold hwp at h ⊢
    rw [execOp_put oj hsj a oi.dst v h1] at h
    revert h
    generalize (execOp a.eval oj).run P w = r
    intro h
    cases r with
    | ok n w' =>
      cases n <;> first
        | exact h.elim
        | (exact ⟨h.1, hy.put hsi h3 (h.1 htm), by rw [← Act.put_comm a _ _ h2]; exact h.2⟩)
        | (exact Calls.mono h (fun e w'' ⟨u, he, hk⟩ => ⟨u, he, hk.1, hy.put hsi h3 (hk.1 htm), by rw [← Act.put_comm a _ _ h2]; exact hk.2⟩))
    | halt x w' => exact h.elim
  · rename_i hw
    rw [if_neg hw] at h
    exact ⟨hy.put hsi h3 (Below.refl _ _), by rw [← Act.put_comm a _ _ h2]; exact h⟩

/-- **A light operation that may come up now may be taken first.** 'M': those that wait for it. -/
theorem anyR_first {Q : Act → World → Prop} {i : Nat} {oi : Oper} {v : Value} (hi : ops[i]? = some oi) (hsel : ∀ (j : Nat) (o : Oper) cs b, ops[j]? = some o → o.op ≠ .select cs b) (M : List Nat) :
    ∀ (fuel : Nat) (listed : Array Bool) (a : Act) (w : World),
      (∀ j oj, ops[j]? = some oj → j ≠ i → listed.getD j true = false → j ∉ M → oi.apart ops oj = true ∧ tm j = true) →
      (∀ j ∈ M, listed.getD j false = false ∧ ∃ oj e, ops[j]? = some oj ∧ e ∈ oj.after ∧ Region.binds md e = true ∧ (e.on = i ∨ e.on ∈ M)) →
      i ∈ Region.ready md ops listed → YieldsT P ops oi v a w →
      anyR P md ops tm Q fuel (listed.setIfInBounds i true) (a.put oi.dst v) w → anyR P md ops tm Q (fuel + 1) listed a w := by
  intro fuel
  induction fuel with
  | zero =>
    intro listed a w _ _ hr hy H
    refine ⟨fun h => (by rw [h] at hr; cases hr), fun j hj => ?_⟩
    by_cases hji : j = i
    · subst hji; exact hy.opR hi H
    · have := ready_mono hj hji
      rw [H.1] at this
      cases this
  | succ fuel ih =>
    intro listed a w hfree hM hr hy H
    refine ⟨fun h => (by rw [h] at hr; cases hr), fun j hj => ?_⟩
    by_cases hji : j = i
    · subst hji; exact hy.opR hi H
    · have h1 := H.2 j (ready_mono hj hji)
      obtain ⟨hjun, oj, hoj, hall⟩ := mem_ready.1 hj
      have hiun : listed.getD i false = false := by
        have h0 := (mem_ready.1 hr).1
        rcases Nat.lt_or_ge i listed.size with h' | h'
        · simp [h'] at h0 ⊢; exact h0
        · simp [Array.getElem?_eq_none h'] at h0
      have hjM : j ∉ M := fun hm => by
        obtain ⟨_, oj', e, ho', he, hb, hon⟩ := hM j hm
        rw [hoj] at ho'
        injection ho' with ho'
        subst ho'
        have hl := hall e he hb
        rcases hon with hon | hon
        · rw [hon, hiun] at hl; cases hl
        · rw [(hM _ hon).1] at hl; cases hl
      obtain ⟨hap, htm⟩ := hfree j oj hoj hji hjun hjM
      have h2 := opR_put hoj hap (fun cs b => hsel i oi cs b hi) (fun cs b => hsel j oj cs b hoj) htm hy h1
      refine opR_mono (fun a' w' h3 => ih (listed.setIfInBounds j true) a' w' ?_ ?_ (ready_mono hr (Ne.symm hji)) h3.1 ?_) h2
      · intro k ok hk hki hun hkM
        refine hfree k ok hk hki ?_ hkM
        by_cases hjk : j = k
        · subst hjk; exact hjun
        · rw [getD_set_ne true hjk] at hun; exact hun
      · intro k hk
        obtain ⟨hk1, hk2⟩ := hM k hk
        refine ⟨?_, hk2⟩
        have hne : j ≠ k := fun e => hjM (e ▸ hk)
        rw [getD_set_ne false hne]; exact hk1
      · rw [Array.setIfInBounds_comm _ _ hji]
        exact h3.2

/-! ### The plan: the operations in one order, each with its kind (0 light, 1 tame, 2 wild) -/
def canA (P : Program) (ops : Array Oper) (tm : Nat → Bool) (Q : Act → World → Prop) : List (Nat × Nat) → Act → World → Prop
  | [], a, w => Q a w
  | (i, 0) :: rest, a, w => ∃ o v, ops[i]? = some o ∧ YieldsT P ops o v a w ∧ canA P ops tm Q rest (a.put o.dst v) w
  | (i, _ + 1) :: rest, a, w => opR P ops tm i (canA P ops tm Q rest) a w

def mustOf (md : Region.Mode) (ops : Array Oper) (i : Nat) : List Nat :=
  (List.range ops.size).foldl (fun M j => match ops[j]? with
    | some o => if o.after.any (fun e => Region.binds md e && (e.on == i || M.contains e.on)) then j :: M else M
    | none => M) []
def freeB (md : Region.Mode) (ops : Array Oper) (tm : Nat → Bool) (i : Nat) (M : List Nat) (listed : Array Bool) : Bool :=
  (M.all fun j => !(listed.getD j false) && (match ops[j]? with
    | some o => o.after.any (fun e => Region.binds md e && (e.on == i || M.contains e.on))
    | none => false)) &&
  (List.range ops.size).all fun j => j == i || listed.getD j true || M.contains j || (tm j && (match ops[i]?, ops[j]? with
    | some oi, some oj => oi.apart ops oj
    | _, _ => false))
def canB (md : Region.Mode) (ops : Array Oper) (tm : Nat → Bool) : List (Nat × Nat) → Array Bool → Bool
  | [], listed => (Region.ready md ops listed).isEmpty
  | (i, 0) :: rest, listed => (Region.ready md ops listed).contains i && freeB md ops tm i (mustOf md ops i) listed && canB md ops tm rest (listed.setIfInBounds i true)
  | (i, _ + 1) :: rest, listed => (Region.ready md ops listed == [i]) && canB md ops tm rest (listed.setIfInBounds i true)

theorem freeB_spec {i : Nat} {oi : Oper} {M : List Nat} {listed : Array Bool} (hi : ops[i]? = some oi) (h : freeB md ops tm i M listed = true) :
    (∀ j oj, ops[j]? = some oj → j ≠ i → listed.getD j true = false → j ∉ M → oi.apart ops oj = true ∧ tm j = true) ∧
    (∀ j ∈ M, listed.getD j false = false ∧ ∃ oj e, ops[j]? = some oj ∧ e ∈ oj.after ∧ Region.binds md e = true ∧ (e.on = i ∨ e.on ∈ M)) := by
  unfold freeB at h
  rw [Bool.and_eq_true] at h
  obtain ⟨h1, h2⟩ := h
  refine ⟨fun j oj hj hne hun hM => ?_, fun j hj => ?_⟩
  · have hlt : j < ops.size := (Array.getElem?_eq_some_iff.1 hj).1
    have := (List.all_eq_true.1 h2) j (List.mem_range.2 hlt)
    simp only [hi, hj, hun, Bool.or_eq_true, beq_iff_eq, Bool.false_eq_true, or_false, Bool.and_eq_true, List.contains_iff_mem] at this
    rcases this with (h | h) | h
    · exact absurd h hne
    · exact absurd h hM
    · exact ⟨h.2, h.1⟩
  · have := (List.all_eq_true.1 h1) j hj
    simp only [Bool.and_eq_true, Bool.not_eq_true'] at this
    obtain ⟨h3, h4⟩ := this
    refine ⟨h3, ?_⟩
    cases ho : ops[j]? with
    | none => simp [ho] at h4
    | some o =>
      simp only [ho] at h4
      rw [← Array.any_toList] at h4
      obtain ⟨e, he, hb⟩ := List.any_eq_true.1 h4
      rw [Array.mem_toList_iff] at he
      simp only [Bool.and_eq_true, Bool.or_eq_true, beq_iff_eq, List.contains_iff_mem] at hb
      exact ⟨o, e, rfl, he, hb.1, hb.2⟩

theorem anyR_of_can {Q : Act → World → Prop} (hsel : ∀ (j : Nat) (o : Oper) cs b, ops[j]? = some o → o.op ≠ .select cs b) : ∀ (plan : List (Nat × Nat)) (listed : Array Bool) (a : Act) (w : World),
    canB md ops tm plan listed = true → canA P ops tm Q plan a w → anyR P md ops tm Q plan.length listed a w
  | [], _, _, _, hB, h => ⟨by simpa [canB] using hB, h⟩
  | (i, 0) :: rest, listed, a, w, hB, h => by
    simp only [canB, Bool.and_eq_true] at hB
    obtain ⟨⟨hr, hf⟩, hB'⟩ := hB
    obtain ⟨o, v, hi, hy, hK⟩ := h
    obtain ⟨f1, f2⟩ := freeB_spec hi hf
    exact anyR_first hi hsel _ rest.length listed a w f1 f2 (by simpa using hr) hy (anyR_of_can hsel rest _ _ _ hB' hK)
  | (i, k + 1) :: rest, listed, a, w, hB, h => by
    simp only [canB, Bool.and_eq_true, beq_iff_eq] at hB
    obtain ⟨hr, hB'⟩ := hB
    refine ⟨fun h0 => (by rw [hr] at h0; cases h0), fun j hj => ?_⟩
    rw [hr] at hj
    have hji : j = i := by simpa using hj
    subst hji
    exact opR_mono (fun a w h => anyR_of_can hsel rest _ a w hB' h) h
end
end Go.V
namespace Go.V
open Go Go.RowKit
set_option linter.unusedSimpArgs false
set_option linter.unusedVariables false
section
variable {P : Program} {n : Nat}

/-- The code, from slots g in the world w, comes to Q. -/
def W (P : Program) (n : Nat) (c : Code) (Q : Exit → G → World → Prop) (g : G) (w : World) : Prop :=
  ∀ a, Rel n g a → c.wp P (fun e a' w' => ∃ g', Rel n g' a' ∧ Q e g' w') a w

/-! ### The walk over a region's plan -/
def walk (P : Program) (ops : Array Oper) : List (Nat × Nat) → G → World → (G → World → Prop) → Prop
  | [], g, w, K => K g w
  | (i, 0) :: rest, g, w, K => match ops[i]? with
    | none => False
    | some o => (Region.wanted o (yG ops g) = true → lokO P w (evG g) o.type o.op) ∧
        walk P ops rest (updO g o.dst (if Region.wanted o (yG ops g) = true then lvO P w (evG g) o.type o.op else undef)) w K
  | (i, k + 1) :: rest, g, w, K => match ops[i]? with
    | none => False
    | some o => if Region.wanted o (yG ops g) = true then hwp P (evG g) o w (fun v w' => (k = 0 → Below w.heap.size w w') ∧ walk P ops rest (updO g o.dst v) w' K)
        else walk P ops rest (updO g o.dst undef) w K

def wildOf (plan : List (Nat × Nat)) (i : Nat) : Bool := plan.any fun p => p.1 == i && decide (2 ≤ p.2)

theorem canA_of_walk {ops : Array Oper} (hok : opsOk n ops = true) {tm : Nat → Bool} {K : G → World → Prop} {Q : Act → World → Prop} (hQ : ∀ g a w, Rel n g a → K g w → Q a w) :
    ∀ (plan : List (Nat × Nat)) (g : G) (a : Act) (w : World), (∀ p ∈ plan, 2 ≤ p.2 → tm p.1 = false) → Rel n g a → walk P ops plan g w K → canA P ops tm Q plan a w
  | [], g, a, w, _, hr, h => hQ g a w hr h
  | (i, 0) :: rest, g, a, w, hp, hr, h => by
    simp only [walk] at h
    cases ho : ops[i]? with
    | none => simp [ho] at h
    | some o =>
      simp only [ho] at h
      obtain ⟨h1, h2⟩ := h
      have hd := (opsOk_at hok ho).2.1
      refine ⟨o, (if Region.wanted o (yG ops g) = true then lvO P w (evG g) o.type o.op else undef), ho, ?_, canA_of_walk hok hQ rest _ _ w (fun p hm => hp p (List.mem_cons_of_mem _ hm)) (hr.put o.dst hd _) h2⟩
      unfold YieldsT
      rw [wanted_G hr hok o, execOp_G hr hok ho]
      cases hw : Region.wanted o (yG ops g)
      · exact .inr ⟨rfl, by simp⟩
      · exact .inl ⟨rfl, by rw [if_pos rfl]; exact lok_exec (h1 hw)⟩
  | (i, k + 1) :: rest, g, a, w, hp, hr, h => by
    simp only [walk] at h
    cases ho : ops[i]? with
    | none => simp [ho] at h
    | some o =>
      simp only [ho] at h
      have hd := (opsOk_at hok ho).2.1
      have hk : tm i = true → k = 0 := fun ht => by
        rcases Nat.eq_zero_or_pos k with h | h
        · exact h
        · have := hp (i, k + 1) List.mem_cons_self (by show 2 ≤ k + 1; omega)
          rw [this] at ht; cases ht
      show opR P ops tm i _ a w
      unfold opR
      simp only [ho]
      rw [wanted_G hr hok o]
      split
      · rename_i hw
        rw [if_pos hw] at h
        unfold hwp at h ⊢
        rw [execOp_G hr hok ho]
        have step : ∀ v w', ((k = 0 → Below w.heap.size w w') ∧ walk P ops rest (updO g o.dst v) w' K) → ((tm i = true → Below w.heap.size w w') ∧ canA P ops tm Q rest (a.put o.dst v) w') := fun v w' ⟨h1, h2⟩ =>
          ⟨fun ht => h1 (hk ht), canA_of_walk hok hQ rest _ _ w' (fun p hm => hp p (List.mem_cons_of_mem _ hm)) (hr.put o.dst hd v) h2⟩
        exact hwp_mono step h
      · rename_i hw
        rw [if_neg hw] at h
        exact canA_of_walk hok hQ rest _ _ w (fun p hm => hp p (List.mem_cons_of_mem _ hm)) (hr.put o.dst hd _) h

theorem wildOf_spec (plan : List (Nat × Nat)) : ∀ p ∈ plan, 2 ≤ p.2 → (!wildOf plan p.1) = false := fun p hp h => by
  have : wildOf plan p.1 = true := by
    unfold wildOf
    rw [List.any_eq_true]
    exact ⟨p, hp, by simp [h]⟩
  simp [this]

def drawOk (n : Nat) (ops : Array Oper) (plan : List (Nat × Nat)) : Bool :=
  opsOk n ops && plan.length == ops.size && canB .any ops (fun i => !wildOf plan i) plan (Array.replicate ops.size false)

/-- A region that draws its order. -/
theorem W_draw (plan : List (Nat × Nat)) {id : Nat} {ops : Array Oper} {Q : Exit → G → World → Prop} {g : G} {w : World} (hm : P.follows .mixedOrders = true) (hB : drawOk n ops plan = true)
    (h : ∀ K : G → World → Prop, (∀ g w, Q .normal g w → K g w) → walk P ops plan g w.drew K) : W P n (.region id ops true) Q g w := by
  simp only [drawOk, Bool.and_eq_true, beq_iff_eq] at hB
  obtain ⟨⟨hok, hl⟩, hB⟩ := hB
  intro a hr
  refine wp_region_any hm ?_
  have hw := h _ (fun _ _ h => h)
  have hc := canA_of_walk hok (tm := fun i => !wildOf plan i) (Q := fun a w => ∃ g', Rel n g' a ∧ Q .normal g' w) (fun g a w hr hk => ⟨g, hr, hk⟩) plan g a _ (wildOf_spec plan) hr hw
  have hany := anyR_of_can (fun j o cs b hj => (opsOk_at hok hj).2.2 cs b) plan _ a _ hB hc
  rw [hl] at hany
  exact wpAny_of_anyR (fun a w h => h) _ _ _ _ hany

/-! A region in the order of the text -/
theorem wpOps_of_walk {ops : Array Oper} (hok : opsOk n ops = true) {Q : Exit → G → World → Prop} : ∀ (plan : List (Nat × Nat)) (g : G) (a : Act) (w : World), Rel n g a → walk P ops plan g w (fun g w => Q .normal g w) →
    wpOps P ops (fun e a' w' => ∃ g', Rel n g' a' ∧ Q e g' w') (plan.map (·.1)) a w
  | [], g, a, w, hr, h => ⟨g, hr, h⟩
  | (i, 0) :: rest, g, a, w, hr, h => by
    simp only [walk] at h
    show wpOps P ops _ (i :: rest.map (·.1)) a w
    rw [wpOps_cons]
    unfold wpOp
    cases ho : ops[i]? with
    | none => simp [ho] at h
    | some o =>
      simp only [ho] at h ⊢
      obtain ⟨h1, h2⟩ := h
      have hd := (opsOk_at hok ho).2.1
      rw [wanted_G hr hok o]
      split
      · rename_i hw
        rw [if_pos hw] at h2
        refine .inl (wp_of_hwp ?_)
        unfold hwp
        rw [execOp_G hr hok ho, tame_run _ _ _ _ (lok_exec (h1 hw))]
        exact wpOps_of_walk hok rest _ _ w (hr.put o.dst hd _) h2
      · rename_i hw
        rw [if_neg hw] at h2
        exact wpOps_of_walk hok rest _ _ w (hr.put o.dst hd _) h2
  | (i, k + 1) :: rest, g, a, w, hr, h => by
    simp only [walk] at h
    show wpOps P ops _ (i :: rest.map (·.1)) a w
    rw [wpOps_cons]
    unfold wpOp
    cases ho : ops[i]? with
    | none => simp [ho] at h
    | some o =>
      simp only [ho] at h ⊢
      have hd := (opsOk_at hok ho).2.1
      rw [wanted_G hr hok o]
      split
      · rename_i hw
        rw [if_pos hw] at h
        refine .inl (wp_of_hwp ?_)
        have he := execOp_G hr hok ho
        unfold hwp at h ⊢
        rw [he]
        exact hwp_mono (K := fun v w' => (k = 0 → Below w.heap.size w w') ∧ walk P ops rest (updO g o.dst v) w' _) (fun v w' ⟨_, h2⟩ => wpOps_of_walk hok rest _ _ w' (hr.put o.dst hd v) h2) h
      · rename_i hw
        rw [if_neg hw] at h
        exact wpOps_of_walk hok rest _ _ w (hr.put o.dst hd _) h

/-- operations that may do more than read -/
def heavyO (P : Program) : Op → Bool
  | .alloc _ | .box .. | .build .. | .buildSlice .. | .store .. | .makeSlice .. | .makeMap .. | .mapUpdate .. | .insert .. | .mapEntry .. | .entryStore .. | .range .. | .next .. | .entry _ | .lookup .. | .ready _ | .waits _
  | .go _ | .defer _ | .panic _ | .send .. | .recv .. | .select .. | .makeChan .. => true
  | .call { callee := .builtin .len, .. } => false
  | .call { callee := .builtin .cap, .. } => false
  | .call { callee := .builtin .max, .. } => false
  | .call { callee := .builtin .min, .. } => false
  | .call _ => true
  | .convert s d _ => (intK P d).isNone && !(isStr P d && isStr P s)
  | _ => false

/-- the walk over a region in the order of the text -/
def walkL (P : Program) (ops : Array Oper) : List Oper → G → World → (G → World → Prop) → Prop
  | [], g, w, K => K g w
  | o :: rest, g, w, K => if heavyO P o.op = true then
      (if Region.wanted o (yG ops g) = true then hwp P (evG g) o w (fun v w' => (1 = 0 → Below w.heap.size w w') ∧ walkL P ops rest (updO g o.dst v) w' K) else walkL P ops rest (updO g o.dst undef) w K)
    else (Region.wanted o (yG ops g) = true → lokO P w (evG g) o.type o.op) ∧
        walkL P ops rest (updO g o.dst (if Region.wanted o (yG ops g) = true then lvO P w (evG g) o.type o.op else undef)) w K

def planFrom (P : Program) : Nat → List Oper → List (Nat × Nat)
  | _, [] => []
  | i, o :: r => (i, if heavyO P o.op = true then 2 else 0) :: planFrom P (i + 1) r
theorem planFrom_fst (P : Program) : ∀ (i : Nat) (l : List Oper), (planFrom P i l).map (·.1) = List.range' i l.length
  | i, [] => rfl
  | i, o :: r => by simp [planFrom, planFrom_fst P (i + 1) r, List.range'_succ]
theorem walk_of_walkL {ops : Array Oper} {K : G → World → Prop} : ∀ (l : List Oper) (i : Nat) (g : G) (w : World), (∀ j, l[j]? = ops[i + j]?) → walkL P ops l g w K → walk P ops (planFrom P i l) g w K
  | [], _, _, _, _, h => h
  | o :: r, i, g, w, hl, h => by
    have h0 : ops[i]? = some o := by simpa using (hl 0).symm
    have hr : ∀ j, r[j]? = ops[i + 1 + j]? := fun j => by have := hl (j + 1); simpa [Nat.add_assoc, Nat.add_comm 1 j] using this
    unfold walkL at h
    unfold planFrom
    split at h
    · rename_i hh
      rw [if_pos hh]
      show walk P ops ((i, 1 + 1) :: planFrom P (i + 1) r) g w K
      simp only [walk, h0]
      split at h
      · rename_i hw
        rw [if_pos hw]
        exact hwp_mono (fun v w' ⟨h1, h2⟩ => ⟨h1, walk_of_walkL r (i + 1) _ _ hr h2⟩) h
      · rename_i hw
        rw [if_neg hw]
        exact walk_of_walkL r (i + 1) _ _ hr h
    · rename_i hh
      rw [if_neg hh]
      simp only [walk, h0]
      exact ⟨h.1, walk_of_walkL r (i + 1) _ _ hr h.2⟩

theorem W_text {id : Nat} {l : List Oper} {Q : Exit → G → World → Prop} {g : G} {w : World} (hok : opsOk n l.toArray = true)
    (h : ∀ K : G → World → Prop, (∀ g w, Q .normal g w → K g w) → walkL P l.toArray l g w K) : W P n (.region id l.toArray false) Q g w := by
  intro a hr
  refine wp_region ?_
  have h1 := walk_of_walkL l 0 g w (by simp) (h _ (fun _ _ h => h))
  have h2 := wpOps_of_walk hok _ g a w hr h1
  rw [planFrom_fst] at h2
  rw [List.range_eq_range']
  simpa using h2

theorem walkL_mono {ops : Array Oper} {K K' : G → World → Prop} (h : ∀ g w, K g w → K' g w) : ∀ (l : List Oper) (g : G) (w : World), walkL P ops l g w K → walkL P ops l g w K'
  | [], g, w, hk => h g w hk
  | o :: r, g, w, hk => by
    unfold walkL at hk ⊢
    split at hk
    · rename_i hh
      rw [if_pos hh]
      split at hk
      · rename_i hw; rw [if_pos hw]; exact hwp_mono (fun v w' ⟨a, b⟩ => ⟨a, walkL_mono h r _ _ b⟩) hk
      · rename_i hw; rw [if_neg hw]; exact walkL_mono h r _ _ hk
    · rename_i hh
      rw [if_neg hh]
      exact ⟨hk.1, walkL_mono h r _ _ hk.2⟩
theorem walk_mono {ops : Array Oper} {K K' : G → World → Prop} (h : ∀ g w, K g w → K' g w) : ∀ (l : List (Nat × Nat)) (g : G) (w : World), walk P ops l g w K → walk P ops l g w K'
  | [], g, w, hk => h g w hk
  | (i, 0) :: r, g, w, hk => by
    simp only [walk] at hk ⊢
    cases ho : ops[i]? with
    | none => simp [ho] at hk
    | some o => simp only [ho] at hk ⊢; exact ⟨hk.1, walk_mono h r _ _ hk.2⟩
  | (i, k + 1) :: r, g, w, hk => by
    simp only [walk] at hk ⊢
    cases ho : ops[i]? with
    | none => simp [ho] at hk
    | some o =>
      simp only [ho] at hk ⊢
      split at hk
      · rename_i hw; rw [if_pos hw]; exact hwp_mono (fun v w' ⟨a, b⟩ => ⟨a, walk_mono h r _ _ b⟩) hk
      · rename_i hw; rw [if_neg hw]; exact walk_mono h r _ _ hk

/-! ### The rules of the code -/
variable {Q : Exit → G → World → Prop} {g : G} {w : World}
def thenG (K : G → World → Prop) (Q : Exit → G → World → Prop) : Exit → G → World → Prop
  | .normal, g, w => K g w
  | e, g, w => Q e g w
def inBlockG (id : Nat) (Q : Exit → G → World → Prop) : Exit → G → World → Prop
  | .exit id', g, w => if id' = id then Q .normal g w else Q (.exit id') g w
  | e, g, w => Q e g w

theorem W_mono {c : Code} {Q' : Exit → G → World → Prop} (hq : ∀ e g w, Q e g w → Q' e g w) (h : W P n c Q g w) : W P n c Q' g w :=
  fun a hr => wp_mono (h a hr) (fun e a' w' ⟨g', hr', hq'⟩ => ⟨g', hr', hq _ _ _ hq'⟩)
theorem W_seq {x y : Code} (h : ∀ K : G → World → Prop, (∀ g w, W P n y Q g w → K g w) → W P n x (thenG K Q) g w) : W P n (.seq x y) Q g w := by
  intro a hr
  refine wp_seq ?_
  refine wp_mono (h _ (fun _ _ h => h) a hr) ?_
  rintro e a' w' ⟨g', hr', hq⟩
  cases e <;> first | exact hq a' hr' | exact ⟨g', hr', hq⟩
/-- a region in the order of the text, and what stands behind it -/
theorem W_rt {id : Nat} {l : List Oper} {y : Code} (hok : opsOk n l.toArray = true) (h : ∀ K : G → World → Prop, (∀ g w, W P n y Q g w → K g w) → walkL P l.toArray l g w K) : W P n (.seq (.region id l.toArray false) y) Q g w :=
  W_seq (fun K1 h1 => W_text hok (fun K2 h2 => h K2 (fun g w hy => h2 g w (h1 g w hy))))
/-- a region that draws its order, and what stands behind it -/
theorem W_rd (plan : List (Nat × Nat)) {id : Nat} {ops : Array Oper} {y : Code} (hm : P.follows .mixedOrders = true) (hB : drawOk n ops plan = true)
    (h : ∀ K : G → World → Prop, (∀ g w, W P n y Q g w → K g w) → walk P ops plan g w.drew K) : W P n (.seq (.region id ops true) y) Q g w :=
  W_seq (fun K1 h1 => W_draw plan hm hB (fun K2 h2 => h K2 (fun g w hy => h2 g w (h1 g w hy))))
/-- the same, with what holds behind the region said -/
theorem W_rtJ (J : G → World → Prop) {id : Nat} {l : List Oper} {y : Code} (hok : opsOk n l.toArray = true) (h1 : walkL P l.toArray l g w J) (h2 : ∀ g w, J g w → W P n y Q g w) : W P n (.seq (.region id l.toArray false) y) Q g w :=
  W_seq (fun K1 hk => W_text hok (fun K2 hk2 => by
    have : ∀ (l' : List Oper) (g : G) (w : World), walkL P l.toArray l' g w J → walkL P l.toArray l' g w K2 := fun l' => walkL_mono (fun g w hj => hk2 g w (hk g w (h2 g w hj))) l'
    exact this l g w h1))
theorem W_rdJ (J : G → World → Prop) (plan : List (Nat × Nat)) {id : Nat} {ops : Array Oper} {y : Code} (hm : P.follows .mixedOrders = true) (hB : drawOk n ops plan = true)
    (h1 : walk P ops plan g w.drew J) (h2 : ∀ g w, J g w → W P n y Q g w) : W P n (.seq (.region id ops true) y) Q g w :=
  W_seq (fun K1 hk => W_draw plan hm hB (fun K2 hk2 => walk_mono (fun g w hj => hk2 g w (hk g w (h2 g w hj))) plan _ _ h1))
theorem W_skip (h : Q .normal g w) : W P n .skip Q g w := fun a hr => wp_skip ⟨g, hr, h⟩
theorem W_exit {id : Nat} (h : Q (.exit id) g w) : W P n (.exit id) Q g w := fun a hr => wp_exit ⟨g, hr, h⟩
theorem W_ret (h : Q .ret g w) : W P n .ret Q g w := fun a hr => wp_ret ⟨g, hr, h⟩
theorem W_block {id : Nat} {c : Code} (h : W P n c (inBlockG id Q) g w) : W P n (.block id c) Q g w := by
  intro a hr
  refine wp_block ?_
  refine wp_mono (h a hr) ?_
  rintro e a' w' ⟨g', hr', hq⟩
  cases e <;> first | exact ⟨g', hr', hq⟩ | skip
  rename_i id'
  simp only [Exit.inBlock, inBlockG] at *
  split
  · rename_i e; rw [if_pos e] at hq; exact ⟨g', hr', hq⟩
  · rename_i e; rw [if_neg e] at hq; exact ⟨g', hr', hq⟩
theorem W_cond {c : Operand} {x y : Code} (hs : slotOk n c = true) {t : Bool} (hc : evG g c = .bool t) (h1 : t = true → W P n x Q g w) (h2 : t = false → W P n y Q g w) : W P n (.cond c x y) Q g w := by
  intro a hr
  refine wp_cond_split (t := t) (by rw [hr.eval hs]; exact hc) (fun ht => h1 ht a hr) (fun ht => h2 ht a hr)
/-- A loop: 'I m g w' holds at each round's head, and m goes down. -/
theorem W_if {c : Operand} {x y : Code} {t : Bool} (hc : evG g c = .bool t) (hs : slotOk n c = true) (h : W P n (bif t then x else y) Q g w) : W P n (.cond c x y) Q g w := by
  cases t
  · exact W_cond hs hc (fun h => by cases h) (fun _ => h)
  · exact W_cond hs hc (fun _ => h) (fun h => by cases h)
theorem W_loop {c : Code} (I : Nat → G → World → Prop) (m : Nat) (h0 : I m g w)
    (round : ∀ m g w, I m g w → W P n c (thenG (fun g' w' => ∃ k, k < m ∧ I k g' w') Q) g w) : W P n (.loop c) Q g w := by
  intro a hr
  refine wp_loop_ghost (fun m a w => ∃ g, Rel n g a ∧ I m g w) m ⟨g, hr, h0⟩ ?_
  rintro m a w ⟨g, hr, hI⟩
  refine wp_mono (round m g w hI a hr) ?_
  rintro e a' w' ⟨g', hr', hq⟩
  cases e <;> first | exact ⟨g', hr', hq⟩ | skip
  obtain ⟨k, hk, hI'⟩ := hq
  exact ⟨k, hk, g', hr', hI'⟩

/-! ### Forgetting slots -/
/-- What stands behind depends on the slots through what is said of a few of them. -/
theorem W_forget {c : Code} (ss : List Nat) (h : ∀ g', (∀ s ∈ ss, g' s = g s) → W P n c Q g' w) : W P n c Q g w := h g (fun _ _ => rfl)

/-! ### A function's body -/
def resOk (P : Program) (w : World) (g : G) : List ResultVar → Prop
  | [] => True
  | .tmp t :: r => resOk P w g r
  | .cell a t :: r => lokO P w (evG g) 0 (.load t (.tmp a)) ∧ resOk P w g r
def resL (P : Program) (w : World) (g : G) : List ResultVar → List Value
  | [] => []
  | .tmp t :: r => g t :: resL P w g r
  | .cell a t :: r => lvO P w (evG g) 0 (.load t (.tmp a)) :: resL P w g r
def resIn (n : Nat) : List ResultVar → Bool
  | [] => true
  | .tmp t :: r => decide (t < n) && resIn n r
  | .cell a t :: r => decide (a < n) && resIn n r
def pack : List Value → Value
  | [v] => v
  | l => .tuple l.toArray

theorem resOne {g : G} {a : Act} {w : World} (hr : Rel n g a) : ∀ (l : List ResultVar), resIn n l = true → resOk P w g l →
    (l.mapM fun
      | ResultVar.tmp t => pure (a.tmps.getD t undef)
      | ResultVar.cell ad t => do loadVar t (← asAddr (a.tmps.getD ad undef)) : Sem (List Value)).run P w = .ok (resL P w g l) w
  | [], _, _ => by simp [resL]
  | .tmp t :: r, hi, ho => by
    simp only [resIn, Bool.and_eq_true, decide_eq_true_eq] at hi
    have ih := resOne hr r hi.2 ho
    simp only [List.mapM_cons, Sem.run_bind, Sem.run_pure, Result.andThen_ok, resL, ih]
    rw [hr.at' t hi.1]
  | .cell ad t :: r, hi, ho => by
    simp only [resIn, Bool.and_eq_true, decide_eq_true_eq] at hi
    have ih := resOne hr r hi.2 ho.2
    have h1 := lok_sound (ty := 0) ho.1
    have h2 : (loadVar t =<< asAddr (g ad) : Sem Value).run P w = .ok (lvO P w (evG g) 0 (.load t (.tmp ad))) w := by
      have h3 := tame_run _ _ _ _ h1
      simp only [execOp, Instr.loadAt, evG] at h3
      cases hg : g ad <;> simp only [hg] at h3 ⊢ <;> first
        | (simp [Instr.sureAddr, stuck] at h3; done)
        | skip
      rename_i o
      cases o with
      | none => simp [Instr.sureAddr, stuck] at h3
      | some x =>
        simp only [Instr.sureAddr, Sem.run_bind, Sem.run_pure, Result.andThen_ok] at h3
        simp only [asAddr, Bind.bindLeft, Sem.run_bind, Sem.run_pure, Result.andThen_ok]
        generalize (loadVar t x).run P w = r at h3 ⊢
        cases r with
        | ok v w2 => simp [Result.andThen] at h3; obtain ⟨h3, h4⟩ := h3; subst h4; rw [h3]
        | halt x w2 => simp [Result.andThen] at h3
    simp only [List.mapM_cons, Sem.run_bind, Sem.run_pure, resL]
    rw [hr.at' ad hi.1]
    have h4 : ((do let x ← asAddr (g ad); loadVar t x) : Sem Value).run P w = .ok (lvO P w (evG g) 0 (.load t (.tmp ad))) w := h2
    simp only [Sem.run_bind] at h4
    simp only [h4, Result.andThen_ok, ih]

theorem pack_eq (l : List Value) : (if h : l.toArray.size = 1 then l.toArray[0] else .tuple l.toArray) = pack l := by
  match l with
  | [] => rfl
  | [v] => rfl
  | v :: u :: r => simp [pack]
theorem results_G {fn : Func} {g : G} {a : Act} {w : World} (hr : Rel n g a) (hi : resIn n fn.results.toList = true) (ho : resOk P w g fn.results.toList) :
    (results fn a.tmps).run P w = .ok (pack (resL P w g fn.results.toList)) w := by
  have h := resOne hr _ hi ho
  unfold results
  simp only [Array.mapM_eq_mapM_toList, bind_map_left, Sem.run_bind, Sem.run_pure]
  generalize fn.results.toList = rs at *
  refine (congrArg (fun r => Result.andThen r _) h).trans ?_
  simp only [Result.andThen_ok]
  rw [pack_eq]

def fnQ (P : Program) (rs : List ResultVar) (R : Ending → World → Prop) : Exit → G → World → Prop
  | .normal, g, w | .ret, g, w => resOk P w g rs ∧ R (.returned (pack (resL P w g rs))) w
  | _, _, _ => False

/-- the slots at the start -/
def argG : List Value → G
  | [] => fun _ => undef
  | v :: r => fun s => match s with
    | 0 => v
    | s + 1 => argG r s
theorem argG_getD : ∀ (l : List Value) (s : Nat), argG l s = l.getD s undef
  | [], s => rfl
  | v :: r, 0 => rfl
  | v :: r, s + 1 => by simpa [argG] using argG_getD r s

theorem calls_of_W {f : FuncId} {fn : Func} {c : Code} {args : List Value} {w : World} {R : Ending → World → Prop} {rs : List ResultVar}
    (hf : P.funcs[f]? = some fn) (hb : fn.body = some c) (hn : fn.ntmps = n) (hrs : fn.results = rs.toArray) (hi : (resIn n rs && decide (args.length ≤ n)) = true) (h : W P n c (fnQ P rs R) (argG args) w) : Calls P f args.toArray w R := by
  simp only [Bool.and_eq_true, decide_eq_true_eq] at hi
  refine calls_of_wp hf hb ?_
  have hrel : Rel n (argG args) { tmps := args.toArray ++ Array.replicate (fn.ntmps - args.toArray.size) undef, defers := [] } := by
    refine ⟨by simp [hn]; omega, rfl, fun s hs => ?_⟩
    rw [argG_getD]
    by_cases hlt : s < args.length
    · simp [Array.getElem?_append, List.getD_eq_getElem?_getD, hlt]
    · simp [Array.getElem?_append, List.getD_eq_getElem?_getD, hlt, Array.getElem?_replicate]
      split <;> rfl
  refine wp_mono (h _ hrel) ?_
  rintro e a' w' ⟨g', hr', hq⟩
  have hrs' : fn.results.toList = rs := by rw [hrs]
  cases e <;> first
    | exact hq.elim
    | (refine ⟨hr'.defers, _, results_G hr' (by rw [hrs']; exact hi.1) (by rw [hrs']; exact hq.1), ?_⟩; rw [hrs']; exact hq.2)
end
end Go.V
namespace Go.V
open Go Go.RowKit
set_option linter.unusedSimpArgs false
set_option linter.unusedVariables false
section
variable {P : Program} {n : Nat} {ops : Array Oper} {g : G} {w : World} {K : G → World → Prop} {rest : List (Nat × Nat)} {i k : Nat}

/-- what stands behind an operation, kept shut -/
def nxW (P : Program) (ops : Array Oper) (rest : List (Nat × Nat)) (K : G → World → Prop) : G → World → Prop := fun g w => walk P ops rest g w K
def nxL (P : Program) (ops : Array Oper) (rest : List Oper) (K : G → World → Prop) : G → World → Prop := fun g w => walkL P ops rest g w K
@[go_sem] theorem nxW_eq : nxW P ops rest K g w = walk P ops rest g w K := rfl
@[go_sem] theorem nxL_eq (rest : List Oper) : nxL P ops rest K g w = walkL P ops rest g w K := rfl
/-- an operation that is no light one -/
def hvX (P : Program) (ops : Array Oper) (o : Oper) (k : Nat) (nx : G → World → Prop) (g : G) (w : World) : Prop :=
  if Region.wanted o (yG ops g) = true then hwp P (evG g) o w (fun v w' => (k = 0 → Below w.heap.size w w') ∧ nx (updO g o.dst v) w') else nx (updO g o.dst undef) w
def hvI (P : Program) (ops : Array Oper) (o : Option Oper) (k : Nat) (nx : G → World → Prop) (g : G) (w : World) : Prop := match o with
  | none => False
  | some o => hvX P ops o k nx g w

def optB : Value → Option Bool
  | .bool b => some b
  | _ => none
def wantV (v : Value) (b : Bool) : Bool := optB v == some b
@[go_sem] theorem wantV_true (x : Bool) : wantV (.bool x) true = x := by cases x <;> rfl
@[go_sem] theorem wantV_false (x : Bool) : wantV (.bool x) false = !x := by cases x <;> rfl
@[go_sem] theorem wantV_undef (b : Bool) : wantV undef b = false := rfl
def gSlot (ops : Array Oper) (j : Nat) : Nat := ((ops[j]?).bind (·.dst)).getD 0

/-- one light operation -/
def lightAt (P : Program) (ops : Array Oper) (o : Option Oper) (rest : List (Nat × Nat)) (g : G) (w : World) (K : G → World → Prop) : Prop := match o with
  | none => False
  | some ⟨d, op, ty, _, _, none⟩ => lokO P w (evG g) ty op ∧ walk P ops rest (updO g d (lvO P w (evG g) ty op)) w K
  | some ⟨d, op, ty, _, _, some (j, b)⟩ => (Region.wanted ⟨d, op, ty, "", #[], some (j, b)⟩ (yG ops g) = true → lokO P w (evG g) ty op) ∧
      walk P ops rest (updO g d (if Region.wanted ⟨d, op, ty, "", #[], some (j, b)⟩ (yG ops g) = true then lvO P w (evG g) ty op else undef)) w K

@[go_sem] theorem walk_nil : walk P ops [] g w K = K g w := rfl
theorem walk_light' (o : Option Oper) (h : ops[i]? = o) : walk P ops ((i, 0) :: rest) g w K = lightAt P ops o rest g w K := by
  subst h
  simp only [walk]
  cases ops[i]? with
  | none => rfl
  | some o =>
    obtain ⟨d, op, ty, pos, af, gd⟩ := o
    cases gd with
    | none => simp [lightAt, Region.wanted]
    | some jb => obtain ⟨j, b⟩ := jb; rfl
@[go_sem] theorem walk_light : walk P ops ((i, 0) :: rest) g w K = lightAt P ops (ops[i]?) rest g w K := walk_light' _ rfl
theorem walk_heavy : walk P ops ((i, k + 1) :: rest) g w K = hvI P ops (ops[i]?) k (nxW P ops rest K) g w := by
  simp only [walk]
  cases ops[i]? <;> rfl
@[go_sem] theorem walk_heavy1 : walk P ops ((i, 1) :: rest) g w K = hvI P ops (ops[i]?) 0 (nxW P ops rest K) g w := walk_heavy
@[go_sem] theorem walk_heavy2 : walk P ops ((i, 2) :: rest) g w K = hvI P ops (ops[i]?) 1 (nxW P ops rest K) g w := walk_heavy
@[go_sem] theorem hvI_some (o : Oper) (nx : G → World → Prop) : hvI P ops (some o) k nx g w = hvX P ops o k nx g w := rfl
@[go_sem] theorem lightAt_plain (d : Option Nat) (op : Op) (ty : TypeId) (pos : String) (af : Array Edge) :
    lightAt P ops (some ⟨d, op, ty, pos, af, none⟩) rest g w K = (lokO P w (evG g) ty op ∧ walk P ops rest (updO g d (lvO P w (evG g) ty op)) w K) := rfl
/-- what a guard's slot says -/
def gw (d : Option Nat) (g : G) (b : Bool) : Bool := match d with
  | some d => wantV (g d) b
  | none => false
@[go_sem] theorem gw_some (d : Nat) (g : G) (b : Bool) : gw (some d) g b = wantV (g d) b := rfl
def dstOf : Option Oper → Option Nat
  | some o => o.dst
  | none => none
@[go_sem] theorem dstOf_some (d : Option Nat) (op : Op) (ty : TypeId) (pos : String) (af : Array Edge) (gd : Option (Nat × Bool)) : dstOf (some ⟨d, op, ty, pos, af, gd⟩) = d := rfl
theorem want_eq (j : Nat) (b : Bool) : (yG ops g j == some b) = gw (dstOf ops[j]?) g b := by
  unfold yG gw wantV optB dstOf
  cases ops[j]? with
  | none => cases b <;> rfl
  | some o =>
    simp only [Option.bind_some]
    cases o.dst with
    | none => cases b <;> rfl
    | some d => rfl
@[go_sem] theorem lightAt_guard (d : Option Nat) (op : Op) (ty : TypeId) (pos : String) (af : Array Edge) (j : Nat) (b : Bool) :
    lightAt P ops (some ⟨d, op, ty, pos, af, some (j, b)⟩) rest g w K = ((gw (dstOf ops[j]?) g b = true → lokO P w (evG g) ty op) ∧
      walk P ops rest (updO g d (if gw (dstOf ops[j]?) g b = true then lvO P w (evG g) ty op else undef)) w K) := by
  rw [← want_eq]; rfl

/-- one light operation, in the order of the text -/
@[go_sem] theorem walkL_nil : walkL P ops [] g w K = K g w := rfl
def stepL (P : Program) (ops : Array Oper) (hv : Bool) (o : Oper) (rest : List Oper) (g : G) (w : World) (K : G → World → Prop) : Prop := match hv with
  | true => hvX P ops o 1 (nxL P ops rest K) g w
  | false => match o with
    | ⟨d, op, ty, _, _, none⟩ => lokO P w (evG g) ty op ∧ walkL P ops rest (updO g d (lvO P w (evG g) ty op)) w K
    | ⟨d, op, ty, _, _, some (j, b)⟩ => (gw (dstOf ops[j]?) g b = true → lokO P w (evG g) ty op) ∧ walkL P ops rest (updO g d (if gw (dstOf ops[j]?) g b = true then lvO P w (evG g) ty op else undef)) w K
@[go_sem] theorem walkL_cons (o : Oper) (rest : List Oper) : walkL P ops (o :: rest) g w K = stepL P ops (heavyO P o.op) o rest g w K := by
  unfold stepL
  simp only [walkL]
  cases heavyO P o.op with
  | true => rfl
  | false =>
    obtain ⟨d, op, ty, pos, af, gd⟩ := o
    cases gd with
    | none => simp [Region.wanted]
    | some jb =>
      obtain ⟨j, b⟩ := jb
      have e : Region.wanted ⟨d, op, ty, pos, af, some (j, b)⟩ (yG ops g) = gw (dstOf ops[j]?) g b := want_eq j b
      simp only [e, Bool.false_eq_true, if_false]
@[go_sem] theorem stepL_heavy (o : Oper) (rest : List Oper) : stepL P ops true o rest g w K = hvX P ops o 1 (nxL P ops rest K) g w := rfl
@[go_sem] theorem stepL_plain (d : Option Nat) (op : Op) (ty : TypeId) (pos : String) (af : Array Edge) (rest : List Oper) :
    stepL P ops false ⟨d, op, ty, pos, af, none⟩ rest g w K = (lokO P w (evG g) ty op ∧ walkL P ops rest (updO g d (lvO P w (evG g) ty op)) w K) := rfl
@[go_sem] theorem stepL_guard (d : Option Nat) (op : Op) (ty : TypeId) (pos : String) (af : Array Edge) (j : Nat) (b : Bool) (rest : List Oper) :
    stepL P ops false ⟨d, op, ty, pos, af, some (j, b)⟩ rest g w K = ((gw (dstOf ops[j]?) g b = true → lokO P w (evG g) ty op) ∧ walkL P ops rest (updO g d (if gw (dstOf ops[j]?) g b = true then lvO P w (evG g) ty op else undef)) w K) := rfl
section
variable (x y z : Operand) (t u : TypeId) (o : BinOp) (q : UnOp) (f : Nat) (lo hi mx : Option Operand) (args : Array Operand) (ts : Array TypeId)
@[go_sem] theorem hy_move : heavyO P (.move x) = false := rfl
@[go_sem] theorem hy_assign : heavyO P (.assign x) = false := rfl
@[go_sem] theorem hy_pick : heavyO P (.pick x y z) = false := rfl
@[go_sem] theorem hy_bin : heavyO P (.binOp o t x y u) = false := rfl
@[go_sem] theorem hy_un : heavyO P (.unOp q t x) = false := rfl
@[go_sem] theorem hy_conv : heavyO P (.convert t u x) = ((intK P u).isNone && !(isStr P u && isStr P t)) := rfl
@[go_sem] theorem hy_nil : heavyO P (.nilCheck x) = false := rfl
@[go_sem] theorem hy_slice : heavyO P (.slice t x lo hi mx) = false := rfl
@[go_sem] theorem hy_fa : heavyO P (.fieldAddr t x f) = false := rfl
@[go_sem] theorem hy_f : heavyO P (.field t x f) = false := rfl
@[go_sem] theorem hy_ia : heavyO P (.indexAddr t x y) = false := rfl
@[go_sem] theorem hy_ix : heavyO P (.index t x y) = false := rfl
@[go_sem] theorem hy_load : heavyO P (.load t x) = false := rfl
@[go_sem] theorem hy_ex : heavyO P (.extract x f) = false := rfl
@[go_sem] theorem hy_len : heavyO P (.call { callee := .builtin .len, args := args, argTypes := ts }) = false := rfl
@[go_sem] theorem hy_min : heavyO P (.call { callee := .builtin .min, args := args, argTypes := ts }) = false := rfl
@[go_sem] theorem hy_max : heavyO P (.call { callee := .builtin .max, args := args, argTypes := ts }) = false := rfl
@[go_sem] theorem hy_cap : heavyO P (.call { callee := .builtin .cap, args := args, argTypes := ts }) = false := rfl
@[go_sem] theorem hy_append : heavyO P (.call { callee := .builtin .append, args := args, argTypes := ts }) = true := rfl
@[go_sem] theorem hy_copy : heavyO P (.call { callee := .builtin .copy, args := args, argTypes := ts }) = true := rfl
@[go_sem] theorem hy_call : heavyO P (.call { callee := .value x, args := args, argTypes := ts }) = true := rfl
@[go_sem] theorem hy_alloc : heavyO P (.alloc t) = true := rfl
@[go_sem] theorem hy_box : heavyO P (.box t x) = true := rfl
@[go_sem] theorem hy_store : heavyO P (.store t x y) = true := rfl
@[go_sem] theorem hy_make : heavyO P (.makeSlice t x y) = true := rfl
@[go_sem] theorem hy_range : heavyO P (.range t x) = true := rfl
@[go_sem] theorem hy_next (b : Bool) : heavyO P (.next x b) = true := rfl
@[go_sem] theorem hy_build (ps : Array (Nat × Operand)) : heavyO P (.build t ps) = true := rfl
@[go_sem] theorem hy_buildSlice (ps : Array (Nat × Operand)) : heavyO P (.buildSlice t f ps) = true := rfl
@[go_sem] theorem hy_makeFunc (fn : Fn) (c d : Array Operand) : heavyO P (.makeFunc fn c d) = false := rfl
end

@[go_sem] theorem evG_tmp (t : Nat) : evG g (.tmp t) = g t := rfl
@[go_sem] theorem evG_const (v : Value) : evG g (.const v) = v := rfl
@[go_sem] theorem evG_func (f : FuncId) : evG g (.func f) = .func (.func f) #[] #[] := rfl
@[go_sem] theorem evG_global (i : Nat) : evG g (.global i) = .pointer (some ⟨i, 0, none⟩) := rfl
@[go_sem] theorem updO_some (d : Nat) (v : Value) : updO g (some d) v = upd g d v := rfl
@[go_sem] theorem updO_none (v : Value) : updO g none v = g := rfl
@[go_sem] theorem argG_0 (v : Value) (r : List Value) : argG (v :: r) 0 = v := rfl
@[go_sem] theorem argG_s (v : Value) (r : List Value) (s : Nat) : argG (v :: r) (s + 1) = argG r s := rfl
attribute [go_sem] upd_apply bv_bool isB_bool bv_undef isB_undef
end

/-! ### Kind by kind -/
section
variable {P : Program} {w : World} {ev : Operand → Value} {ty : TypeId}
def outV (d : Value) : Option (Value × Prop) → Value
  | some p => p.1
  | none => d
def outOk (d : Prop) : Option (Value × Prop) → Prop
  | some p => p.2
  | none => d
@[go_sem] theorem lvO_eq (op : Op) : lvO P w ev ty op = outV (anyV P w ev ty op) (lc P w ev op) := by unfold lvO outV; split <;> simp_all
@[go_sem] theorem lokO_eq (op : Op) : lokO P w ev ty op = outOk (anyOk P w ev ty op) (lc P w ev op) := by unfold lokO outOk; split <;> simp_all
@[go_sem] theorem outV_some (d : Value) (v : Value) (p : Prop) : outV d (some (v, p)) = v := rfl
@[go_sem] theorem outOk_some (d : Prop) (v : Value) (p : Prop) : outOk d (some (v, p)) = p := rfl
@[go_sem] theorem lc_move (x : Operand) : lc P w ev (.move x) = some (ev x, True) := rfl
@[go_sem] theorem lc_assign (x : Operand) : lc P w ev (.assign x) = some (ev x, True) := rfl
@[go_sem] theorem lc_pick (c a b : Operand) : lc P w ev (.pick c a b) = some (.bool (bif bv (ev c) then bv (ev a) else bv (ev b)), isB (ev c) = true ∧ (bv (ev c) = true → isB (ev a) = true) ∧ (bv (ev c) = false → isB (ev b) = true)) := rfl
@[go_sem] theorem lc_bin (o : BinOp) (t u : TypeId) (x y : Operand) : lc P w ev (.binOp o t x y u) = binC P o t (ev x) (ev y) := rfl
section
variable (t : TypeId) (k k' : IntKind) (a b : Int) (s u : ByteArray) (x y : Bool)
@[go_sem] theorem binC_add : binC P .add t (.int k a) (.int k' b) = some (.int k (k.wrap (a + b)), k = k') := rfl
@[go_sem] theorem binC_sub : binC P .sub t (.int k a) (.int k' b) = some (.int k (k.wrap (a - b)), k = k') := rfl
@[go_sem] theorem binC_mul : binC P .mul t (.int k a) (.int k' b) = some (.int k (k.wrap (a * b)), k = k') := rfl
@[go_sem] theorem binC_quo : binC P .quo t (.int k a) (.int k' b) = some (.int k (k.wrap (a.tdiv b)), k = k' ∧ b ≠ 0) := rfl
@[go_sem] theorem binC_rem : binC P .rem t (.int k a) (.int k' b) = some (.int k (a.tmod b), k = k' ∧ b ≠ 0) := rfl
def andI (k : IntKind) (a b : Int) : Int := k.wrap (BitVec.ofInt k.bits a &&& BitVec.ofInt k.bits b).toNat
def orI (k : IntKind) (a b : Int) : Int := k.wrap (BitVec.ofInt k.bits a ||| BitVec.ofInt k.bits b).toNat
def shlI (k : IntKind) (a b : Int) : Int := k.wrap (a * 2 ^ (min b.toNat k.bits))
def shrI (k : IntKind) (a b : Int) : Int := a.fdiv (2 ^ (min b.toNat k.bits))
@[go_sem] theorem binC_and : binC P .and t (.int k a) (.int k' b) = some (.int k (andI k a b), k = k') := rfl
@[go_sem] theorem binC_or : binC P .or t (.int k a) (.int k' b) = some (.int k (orI k a b), k = k') := rfl
@[go_sem] theorem binC_shl : binC P .shl t (.int k a) (.int k' b) = some (.int k (shlI k a b), 0 ≤ b) := rfl
@[go_sem] theorem binC_shr : binC P .shr t (.int k a) (.int k' b) = some (.int k (shrI k a b), 0 ≤ b) := rfl
@[go_sem] theorem binC_eql : binC P .eql t (.int k a) (.int k' b) = some (.bool (decide (a = b)), k = k') := rfl
@[go_sem] theorem binC_neq : binC P .neq t (.int k a) (.int k' b) = some (.bool (!decide (a = b)), k = k') := rfl
@[go_sem] theorem binC_lss : binC P .lss t (.int k a) (.int k' b) = some (.bool (decide (a < b)), k = k') := rfl
@[go_sem] theorem binC_leq : binC P .leq t (.int k a) (.int k' b) = some (.bool (decide (a ≤ b)), k = k') := rfl
@[go_sem] theorem binC_gtr : binC P .gtr t (.int k a) (.int k' b) = some (.bool (decide (b < a)), k = k') := rfl
@[go_sem] theorem binC_geq : binC P .geq t (.int k a) (.int k' b) = some (.bool (decide (b ≤ a)), k = k') := rfl
@[go_sem] theorem binC_cat : binC P .add t (.string s) (.string u) = some (.string (s ++ u), s.size + u.size ≤ 9223372036854775807) := rfl
@[go_sem] theorem binC_eqs : binC P .eql t (.string s) (.string u) = some (.bool (decide (bs s = bs u)), True) := rfl
@[go_sem] theorem binC_nes : binC P .neq t (.string s) (.string u) = some (.bool (!decide (bs s = bs u)), True) := rfl
@[go_sem] theorem binC_eqb : binC P .eql t (.bool x) (.bool y) = some (.bool (x == y), isBoolT P t = true) := rfl
@[go_sem] theorem binC_neb : binC P .neq t (.bool x) (.bool y) = some (.bool (!(x == y)), isBoolT P t = true) := rfl
end
def unC (o : UnOp) (v : Value) : Option (Value × Prop) := match o, v with
  | .not, .bool b => some (.bool (!b), True)
  | .neg, .int k n => some (.int k (k.wrap (0 - n)), True)
  | _, _ => none
@[go_sem] theorem lc_un (o : UnOp) (t : TypeId) (x : Operand) : lc P w ev (.unOp o t x) = unC o (ev x) := rfl
@[go_sem] theorem unC_not (b : Bool) : unC .not (.bool b) = some (.bool (!b), True) := rfl
@[go_sem] theorem unC_neg (k : IntKind) (n : Int) : unC .neg (.int k n) = some (.int k (k.wrap (0 - n)), True) := rfl
def cvC (P : Program) (s : TypeId) (d : Option IntKind) (v : Value) : Option (Value × Prop) := match d, v with
  | some k, .int _ n => some (.int k (k.wrap n), (P.underlying s).isSome = true)
  | _, _ => none
@[go_sem] theorem lc_convert (s d : TypeId) (x : Operand) : lc P w ev (.convert s d x) = cvC P s (intK P d) (ev x) := rfl
@[go_sem] theorem cvC_int (s : TypeId) (k k' : IntKind) (n : Int) : cvC P s (some k) (.int k' n) = some (.int k (k.wrap n), (P.underlying s).isSome = true) := rfl
def nilC : Value → Option (Value × Prop)
  | .pointer (some a) => some (.pointer (some a), True)
  | _ => none
@[go_sem] theorem lc_nil (x : Operand) : lc P w ev (.nilCheck x) = nilC (ev x) := rfl
@[go_sem] theorem nilC_some (a : Addr) : nilC (.pointer (some a)) = some (.pointer (some a), True) := rfl
def bndV : Value → Nat
  | .int _ n => n.toNat
  | _ => 0
def bndP (top : Nat) : Value → Prop
  | .int _ n => 0 ≤ n ∧ n ≤ top
  | _ => False
@[go_sem] theorem bnd_none (d : Nat) : bnd ev d none = d := rfl
@[go_sem] theorem bnd_some (d : Nat) (x : Operand) : bnd ev d (some x) = bndV (ev x) := rfl
@[go_sem] theorem bndOk_none (d : Nat) : bndOk ev d none = True := rfl
@[go_sem] theorem bndOk_some (d : Nat) (x : Operand) : bndOk ev d (some x) = bndP d (ev x) := rfl
@[go_sem] theorem bndV_int (k : IntKind) (n : Int) : bndV (.int k n) = n.toNat := rfl
@[go_sem] theorem bndP_int (top : Nat) (k : IntKind) (n : Int) : bndP top (.int k n) = (0 ≤ n ∧ n ≤ top) := rfl
def slC (P : Program) (t : TypeId) (ev : Operand → Value) (lo hi : Option Operand) : Value → Option (Value × Prop)
  | .string s => some (.string (s.extract (bnd ev 0 lo) (bnd ev s.size hi)), isStr P t = true ∧ bndOk ev s.size hi ∧ bndOk ev (bnd ev s.size hi) lo)
  | .slice a len cap => some (.slice (if cap = bnd ev 0 lo then a else a.map (·.add (bnd ev 0 lo * (slE P t).getD 0))) (bnd ev len hi - bnd ev 0 lo) (cap - bnd ev 0 lo),
        (slE P t).isSome = true ∧ bndOk ev cap hi ∧ bndOk ev (bnd ev len hi) lo)
  | _ => none
@[go_sem] theorem lc_slice (t : TypeId) (x : Operand) (lo hi : Option Operand) : lc P w ev (.slice t x lo hi none) = slC P t ev lo hi (ev x) := by
  simp only [lc, slC] <;> cases ev x <;> rfl
@[go_sem] theorem slC_str (t : TypeId) (lo hi : Option Operand) (s : ByteArray) : slC P t ev lo hi (.string s) = some (.string (s.extract (bnd ev 0 lo) (bnd ev s.size hi)), isStr P t = true ∧ bndOk ev s.size hi ∧ bndOk ev (bnd ev s.size hi) lo) := rfl
@[go_sem] theorem slC_sl (t : TypeId) (lo hi : Option Operand) (a : Option Addr) (len cap : Nat) : slC P t ev lo hi (.slice a len cap) = some (.slice (if cap = bnd ev 0 lo then a else a.map (·.add (bnd ev 0 lo * (slE P t).getD 0))) (bnd ev len hi - bnd ev 0 lo) (cap - bnd ev 0 lo),
        (slE P t).isSome = true ∧ bndOk ev cap hi ∧ bndOk ev (bnd ev len hi) lo) := rfl
def faC (o : Option (TypeId × Nat)) (v : Value) : Option (Value × Prop) := match o, v with
  | some o, .pointer (some a) => some (.pointer (some (a.add o.2)), True)
  | _, _ => none
@[go_sem] theorem lc_fieldAddr (t : TypeId) (x : Operand) (f : Nat) : lc P w ev (.fieldAddr t x f) = faC (fldO P t f) (ev x) := rfl
@[go_sem] theorem faC_some (t o : Nat) (a : Addr) : faC (some (t, o)) (.pointer (some a)) = some (.pointer (some (a.add o)), True) := rfl
def iaC (s : Option Nat) (x i : Value) : Option (Value × Prop) := match s, x, i with
  | some size, .slice a len _, .int _ n => some (.pointer (some ((a.getD default).add (n.toNat * size))), 0 ≤ n ∧ n < len ∧ a.isSome = true)
  | _, _, _ => none
@[go_sem] theorem lc_indexAddr (t : TypeId) (x i : Operand) : lc P w ev (.indexAddr t x i) = iaC (slE P t) (ev x) (ev i) := rfl
@[go_sem] theorem iaC_some (size : Nat) (a : Option Addr) (len cap : Nat) (k : IntKind) (n : Int) : iaC (some size) (.slice a len cap) (.int k n) = some (.pointer (some ((a.getD default).add (n.toNat * size))), 0 ≤ n ∧ n < len ∧ a.isSome = true) := rfl
def ixC (P : Program) (t : TypeId) (x i : Value) : Option (Value × Prop) := match x, i with
  | .string s, .int _ n => some (.int .u8 (byteAt s n.toNat).toNat, isStr P t = true ∧ 0 ≤ n ∧ n < s.size)
  | _, _ => none
@[go_sem] theorem lc_index (t : TypeId) (x i : Operand) : lc P w ev (.index t x i) = ixC P t (ev x) (ev i) := rfl
@[go_sem] theorem ixC_str (t : TypeId) (s : ByteArray) (k : IntKind) (n : Int) : ixC P t (.string s) (.int k n) = some (.int .u8 (byteAt s n.toNat).toNat, isStr P t = true ∧ 0 ≤ n ∧ n < s.size) := rfl
def ldC (P : Program) (w : World) (t : TypeId) (o : Option Nat) (v : Value) : Option (Value × Prop) := match o, v with
  | none, .pointer (some a) => some (cellV w a, (w.cell? a).isSome = true)
  | some n, .pointer (some a) => some (.agg (rowV w a 0 n).toArray, (P.underlying t).isSome = true ∧ rowOk w a 0 n)
  | _, _ => none
@[go_sem] theorem lc_load (t : TypeId) (x : Operand) : lc P w ev (.load t x) = ldC P w t (aggT P t) (ev x) := rfl
@[go_sem] theorem ldC_one (t : TypeId) (a : Addr) : ldC P w t none (.pointer (some a)) = some (cellV w a, (w.cell? a).isSome = true) := rfl
@[go_sem] theorem ldC_row (t n : Nat) (a : Addr) : ldC P w t (some n) (.pointer (some a)) = some (.agg (rowV w a 0 n).toArray, (P.underlying t).isSome = true ∧ rowOk w a 0 n) := rfl
def exC (i : Nat) : Value → Option (Value × Prop)
  | .tuple vs => some (vs.getD i undef, i < vs.size)
  | _ => none
@[go_sem] theorem lc_extract (x : Operand) (i : Nat) : lc P w ev (.extract x i) = exC i (ev x) := by
  simp only [lc, exC] <;> cases ev x <;> rfl
@[go_sem] theorem exC_tuple (i : Nat) (vs : Array Value) : exC i (.tuple vs) = some (vs.getD i undef, i < vs.size) := rfl
def lenC (P : Program) (t : TypeId) : Value → Option (Value × Prop)
  | .string s => some (.int .i64 s.size, isStr P t = true)
  | .slice _ n _ => some (.int .i64 n, (slE P t).isSome = true)
  | _ => none
@[go_sem] theorem lc_len (x : Operand) (t : TypeId) : lc P w ev (.call { callee := .builtin .len, args := #[x], argTypes := #[t] }) = lenC P t (ev x) := by
  simp only [lc, lenC, List.map_cons, List.map_nil] <;> cases ev x <;> rfl
@[go_sem] theorem lenC_str (t : TypeId) (s : ByteArray) : lenC P t (.string s) = some (.int .i64 s.size, isStr P t = true) := rfl
@[go_sem] theorem lenC_sl (t : TypeId) (a : Option Addr) (n c : Nat) : lenC P t (.slice a n c) = some (.int .i64 n, (slE P t).isSome = true) := rfl
@[go_sem] theorem cellV_eq (a : Addr) : cellV w a = (w.cell? a).getD undef := rfl
end

/-! ### What is no light operation -/
section
variable {P : Program} {n : Nat} {ops : Array Oper} {g : G} {w : World} {nx : G → World → Prop} {k : Nat} {o : Oper}
/-- is the operation wanted? -/
def wantO (ops : Array Oper) (g : G) (o : Oper) : Bool := match o with
  | ⟨_, _, _, _, _, none⟩ => true
  | ⟨_, _, _, _, _, some (j, b)⟩ => gw (dstOf ops[j]?) g b
@[go_sem] theorem wantO_none (d : Option Nat) (op : Op) (ty : TypeId) (pos : String) (af : Array Edge) : wantO ops g ⟨d, op, ty, pos, af, none⟩ = true := rfl
@[go_sem] theorem wantO_some (d : Option Nat) (op : Op) (ty : TypeId) (pos : String) (af : Array Edge) (j : Nat) (b : Bool) : wantO ops g ⟨d, op, ty, pos, af, some (j, b)⟩ = gw (dstOf ops[j]?) g b := rfl
theorem wantO_eq (o : Oper) : Region.wanted o (yG ops g) = wantO ops g o := by
  obtain ⟨d, op, ty, pos, af, gd⟩ := o
  cases gd with
  | none => rfl
  | some jb => obtain ⟨j, b⟩ := jb; exact want_eq j b
theorem thenG_exit {K : G → World → Prop} {Q : Exit → G → World → Prop} {id : Nat} (h : Q (.exit id) g w) : thenG K Q (.exit id) g w := h
theorem thenG_ret {K : G → World → Prop} {Q : Exit → G → World → Prop} (h : Q .ret g w) : thenG K Q .ret g w := h
theorem inBlock_ret {Q : Exit → G → World → Prop} {id : Nat} (h : Q .ret g w) : inBlockG id Q .ret g w := h
theorem inBlock_same {Q : Exit → G → World → Prop} {id : Nat} (h : Q .normal g w) : inBlockG id Q (.exit id) g w := by
  simp only [inBlockG, if_true]; exact h
theorem inBlock_other {Q : Exit → G → World → Prop} {id id' : Nat} (hne : (id' == id) = false) (h : Q (.exit id') g w) : inBlockG id Q (.exit id') g w := by
  have : ¬ id' = id := by simpa using hne
  simp only [inBlockG, if_neg this]; exact h
theorem hv_open (hw : wantO ops g o = true) (h : hwp P (evG g) o w (fun v w' => (k = 0 → Below w.heap.size w w') ∧ nx (updO g o.dst v) w')) : hvX P ops o k nx g w := by
  unfold hvX
  rw [wantO_eq, if_pos hw]
  exact h
/-- an operation that is not wanted -/
theorem hv_skip (hw : wantO ops g o = false) (h : nx (updO g o.dst undef) w) : hvX P ops o k nx g w := by
  unfold hvX
  rw [wantO_eq, if_neg (by simp [hw])]
  exact h
@[go_sem] theorem hvX_skip (hw : wantO ops g o = false) : hvX P ops o k nx g w = nx (updO g o.dst undef) w := by
  unfold hvX
  rw [wantO_eq, if_neg (by simp [hw])]
/-- an operation whose run is known -/
theorem hv_run (hw : wantO ops g o = true) {v : Value} {w' : World} (hr : (execOp (evG g) o).run P w = .ok (.value v) w') (hb : k = 0 → Below w.heap.size w w') (h : nx (updO g o.dst v) w') : hvX P ops o k nx g w := by
  refine hv_open hw ?_
  unfold hwp
  rw [hr]
  exact ⟨hb, h⟩
theorem hv_unit (hw : wantO ops g o = true) {w' : World} (hr : (execOp (evG g) o).run P w = .ok .skip w') (hb : k = 0 → Below w.heap.size w w') (h : nx (updO g o.dst undef) w') : hvX P ops o k nx g w := by
  refine hv_open hw ?_
  unfold hwp
  rw [hr]
  exact ⟨hb, h⟩

/-- a call of a function of the program -/
theorem hv_call (hw : wantO ops g o = true) {f : FuncId} {args : Array Operand} {ts : Array TypeId} (hop : o.op = .call { callee := .value (.func f), args := args, argTypes := ts })
    (hcall : ∀ (args : Array Value) (w : World), (callFunc f args).run P w = .ok (.enter f args) w)
    (h : ∀ R : Value → World → Prop, (∀ v w', nx (updO g o.dst v) w' → R v w') → Calls P f (args.map (evG g)) w (fun e w' => ∃ v, e = .returned v ∧ (k = 0 → Below w.heap.size w w') ∧ R v w')) : hvX P ops o k nx g w := by
  refine hv_open hw ?_
  unfold hwp
  have hr : (execOp (evG g) o).run P w = .ok (.enter f (args.map (evG g))) w := by
    unfold execOp
    simp only [hop, resolve, Deferred.ofValue, evG, Sem.run_bind, Sem.run_pure, Result.andThen_ok, invoke, Array.append_empty, Array.empty_append, hcall]
  rw [hr]
  exact h _ (fun _ _ h => h)
end
end Go.V
namespace Go.V
open Go Go.RowKit
set_option linter.unusedSimpArgs false
set_option linter.unusedVariables false

/-! ### Blocks -/
/-- Block b holds these cells, and may be written. -/
structure Bx (w : World) (b : Nat) (c : Array Value) (t : TypeId) : Prop where
  heap : w.heap[b]? = some (.cells c t (0, 0))
/-- Only block b may have changed. -/
structure Sto (w w' : World) (b : Nat) : Prop where
  os : w'.os = w.os
  tape : w'.tape = w.tape
  output : w'.output = w.output
  size : w'.heap.size = w.heap.size
  block : ∀ k, k ≠ b → w'.heap[k]? = w.heap[k]?

theorem Bx.lt {w : World} {b : Nat} {c : Array Value} {t : TypeId} (h : Bx w b c t) : b < w.heap.size := (Array.getElem?_eq_some_iff.1 h.heap).1
theorem Bx.cell {w : World} {b : Nat} {c : Array Value} {t : TypeId} (h : Bx w b c t) : ∀ off, w.cell? ⟨b, off, none⟩ = c[off]? := fun off => by simp [World.cell?, h.heap]
theorem Bx.frozen {w : World} {b : Nat} {c : Array Value} {t : TypeId} (h : Bx w b c t) : ∀ off, w.frozen? ⟨b, off, none⟩ = false := fun off => by simp [World.frozen?, h.heap]
theorem Bx.ext {w w' : World} {b : Nat} {c : Array Value} {t : TypeId} (h : Bx w b c t) {B : Nat} (hb : Below B w w') (hB : b < B) : Bx w' b c t := ⟨by rw [hb.block b hB]; exact h.heap⟩
theorem Bx.keep {w w' : World} {b : Nat} {c : Array Value} {t : TypeId} (h : Bx w b c t) (hb : Below w.heap.size w w') : Bx w' b c t := h.ext hb h.lt
theorem Bx.sto {w w' : World} {b b' : Nat} {c : Array Value} {t : TypeId} (h : Bx w b c t) (hs : Sto w w' b') (hne : b ≠ b') : Bx w' b c t := ⟨by rw [hs.block b hne]; exact h.heap⟩
theorem Bx.grown {w w' : World} {b : Nat} {c : Array Value} {t : TypeId} {row : Option Nat} (h : Bx w b c t) (hg : w.grownBy w' row) (hne : some b ≠ row) : Bx w' b c t := ⟨by rw [hg.block b h.lt hne]; exact h.heap⟩
theorem Sto.below {w w' : World} {b B : Nat} (h : Sto w w' b) (hB : B ≤ b) : Below B w w' := ⟨h.os, h.tape, h.output, by rw [h.size]; exact Nat.le_refl _, fun k hk => h.block k (by omega)⟩
theorem below_step {w0 w w' : World} {B : Nat} (h : Below B w0 w) (hs : w0.heap.size ≤ w.heap.size) (hB : B ≤ w0.heap.size) (h' : Below w.heap.size w w') : Below B w0 w' := h.trans (h'.mono (by omega))
theorem _root_.Go.RowKit.Below.next {w0 w w' : World} (h : Below w0.heap.size w0 w) (h' : Below w.heap.size w w') : Below w0.heap.size w0 w' := h.trans (h'.mono h.size)
theorem _root_.Go.RowKit.Below.nextS {w0 w w' : World} {b : Nat} (h : Below w0.heap.size w0 w) (h' : Sto w w' b) (hb : w0.heap.size ≤ b) : Below w0.heap.size w0 w' := h.trans (h'.below hb)
theorem _root_.Go.RowKit.Below.nextG {w0 w w' : World} {row : Option Nat} (h : Below w0.heap.size w0 w) (hg : w.grownBy w' row) (hr : ∀ k, row = some k → w0.heap.size ≤ k) : Below w0.heap.size w0 w' := h.grown hg h.size hr
theorem _root_.Go.RowKit.Below.drew1 (w : World) : Below w.heap.size w w.drew := (Below.refl _ _).drew
theorem below_alloc (w : World) (o : Obj) : Below w.heap.size w (w.alloc o) := (Below.refl _ _).alloc (Nat.le_refl _) o
theorem bx_alloc (w : World) (c : Array Value) (t : TypeId) : Bx (w.alloc (.cells c t)) w.heap.size c t := ⟨heap_alloc_new w _⟩
theorem size_alloc' (w : World) (o : Obj) : (w.alloc o).heap.size = w.heap.size + 1 := by simp
theorem sto_setRow (w : World) (b : Nat) (c : Array Value) : Sto w (w.setRow b c) b := ⟨rfl, rfl, rfl, by simp, fun k hk => setRow_other w b k c hk⟩
theorem bx_setRow {w : World} {b : Nat} {c c' : Array Value} {t : TypeId} (h : Bx w b c t) : Bx (w.setRow b c') b c' t := ⟨setRow_heap w b c c' t (0, 0) h.heap⟩

/-! ### Slices -/
/-- The slice that begins at 'a' reads these cells. -/
def SL (w : World) (a : Option Addr) (xs : List Value) : Prop := xs = [] ∨ ∃ b off, a = some ⟨b, off, none⟩ ∧ ∀ j v, xs[j]? = some v → w.cell? ⟨b, off + j, none⟩ = some v
theorem add_mk (b off n : Nat) : (⟨b, off, none⟩ : Addr).add n = ⟨b, off + n, none⟩ := by unfold Addr.add; split <;> simp_all
theorem SL.nil (w : World) (a : Option Addr) : SL w a [] := .inl rfl
theorem SL.get {w : World} {a : Option Addr} {xs : List Value} (h : SL w a xs) {j : Nat} (hj : j < xs.length) : w.cell? ((a.getD default).add j) = some xs[j] ∧ a.isSome = true := by
  rcases h with h | ⟨b, off, rfl, h⟩
  · subst h; simp at hj
  · rw [Option.getD_some, add_mk]
    exact ⟨h j _ (List.getElem?_eq_getElem hj), rfl⟩
theorem SL.getD {w : World} {a : Option Addr} {xs : List Value} (h : SL w a xs) {j : Nat} (hj : j < xs.length) : w.cell? ((a.getD default).add j) = some (xs.getD j undef) ∧ a.isSome = true := by
  have := h.get hj
  rw [List.getD_eq_getElem?_getD, List.getElem?_eq_getElem hj, Option.getD_some]; exact this
theorem SL.ext {w w' : World} {a : Option Addr} {xs : List Value} (h : SL w a xs) (hb : Below w.heap.size w w') : SL w' a xs := by
  rcases h with h | ⟨b, off, e, h⟩
  · exact .inl h
  · exact .inr ⟨b, off, e, fun j v hv => cell_below hb (h j v hv)⟩
theorem SL.sto {w w' : World} {a : Option Addr} {xs : List Value} {b' : Nat} (h : SL w a xs) (hs : Sto w w' b') (hne : ∀ ad, a = some ad → xs ≠ [] → ad.block ≠ b') : SL w' a xs := by
  rcases h with h | ⟨b, off, e, h⟩
  · exact .inl h
  · by_cases hx : xs = []
    · exact .inl hx
    · exact .inr ⟨b, off, e, fun j v hv => (World.cell?_of_block (w := w) (a := ⟨b, off + j, none⟩) (hs.block b (hne _ e hx))).trans (h j v hv)⟩
theorem SL.of_bx {w : World} {b : Nat} {c : Array Value} {t : TypeId} (h : Bx w b c t) {xs : List Value} (off : Nat) (hx : ∀ j v, xs[j]? = some v → c[off + j]? = some v) : SL w (some ⟨b, off, none⟩) xs :=
  .inr ⟨b, off, rfl, fun j v hv => by rw [h.cell]; exact hx j v hv⟩
theorem SL.whole {w : World} {b : Nat} {c : Array Value} {t : TypeId} (h : Bx w b c t) : SL w (some ⟨b, 0, none⟩) c.toList := SL.of_bx h 0 (fun j v hv => by simpa using hv)
theorem SL.lt {w : World} {a : Option Addr} {xs : List Value} (h : SL w a xs) (hx : xs ≠ []) : ∃ b off, a = some ⟨b, off, none⟩ ∧ b < w.heap.size := by
  rcases h with h | ⟨b, off, e, h⟩
  · exact absurd h hx
  · refine ⟨b, off, e, ?_⟩
    cases xs with
    | nil => exact absurd rfl hx
    | cons v r => exact World.block_lt_of_cell? w _ (h 0 v rfl)
/-- a part of a slice -/
theorem SL.sub {w : World} {a : Option Addr} {xs : List Value} (h : SL w a xs) (lo n : Nat) : SL w (a.map (·.add lo)) ((xs.drop lo).take n) := by
  rcases h with h | ⟨b, off, rfl, h⟩
  · subst h; exact .inl (by simp)
  · refine .inr ⟨b, off + lo, by simp [add_mk], fun j v hv => ?_⟩
    rw [Nat.add_assoc]
    refine h (lo + j) v ?_
    rw [List.getElem?_take] at hv
    split at hv
    · simpa using hv
    · cases hv
theorem SL.take {w : World} {a : Option Addr} {xs : List Value} (h : SL w a xs) (n : Nat) : SL w a (xs.take n) := by
  rcases h with h | ⟨b, off, rfl, h⟩
  · subst h; exact .inl (by simp)
  · refine .inr ⟨b, off, rfl, fun j v hv => ?_⟩
    rw [List.getElem?_take] at hv
    split at hv
    · exact h j v hv
    · cases hv
theorem rowV_cons (w : World) (a : Addr) (i n : Nat) : rowV w a i (n + 1) = cellV w (a.add i) :: rowV w a (i + 1) n := rfl
/-- a row of n cells at the place j*n of a slice -/
theorem SL.row {w : World} {a : Option Addr} {xs : List Value} (h : SL w a xs) (lo n : Nat) (hn : lo + n ≤ xs.length) (hpos : 0 < n) :
    rowV w ((a.getD default).add lo) 0 n = (xs.drop lo).take n ∧ rowOk w ((a.getD default).add lo) 0 n ∧ a.isSome = true := by
  rcases h with h | ⟨b, off, rfl, h⟩
  · subst h; simp at hn; omega
  · rw [Option.getD_some, add_mk]
    have key : ∀ n i, lo + i + n ≤ xs.length → rowV w ⟨b, off + lo, none⟩ i n = (xs.drop (lo + i)).take n ∧ rowOk w ⟨b, off + lo, none⟩ i n := by
      intro n
      induction n with
      | zero => intro i _; simp [rowV, rowOk]
      | succ n ih =>
        intro i hi
        have hlt : lo + i < xs.length := by omega
        have hc := h (lo + i) _ (List.getElem?_eq_getElem hlt)
        obtain ⟨h1, h2⟩ := ih (i + 1) (by omega)
        have he : (⟨b, off + lo, none⟩ : Addr).add i = ⟨b, off + (lo + i), none⟩ := by rw [add_mk, Nat.add_assoc]
        refine ⟨?_, ?_, h2⟩
        · rw [rowV, he, cellV, hc, h1, List.drop_eq_getElem_cons hlt, List.take_succ_cons]; rfl
        · rw [he, hc]; rfl
    have := key n 0 (by omega)
    exact ⟨this.1, this.2, rfl⟩

theorem ownsRow_SL {w : World} {base : Nat} {e : TypeId} {size n cap : Nat} {a : Option Addr} {xs : List Value} (h : w.ownsRow base e size (.slice a n cap) n xs) : SL w a xs := by
  rcases h.2 with ⟨h1, h2⟩ | ⟨g, cap', cur, hv, hb, hg, _⟩
  · left; have := h.1; subst h2; simpa using this
  · injection hv with e1
    subst e1
    right
    refine ⟨g, 0, rfl, fun j v hj => ?_⟩
    have := h.cells (g := g) rfl j v hj
    rwa [add_mk] at this
end Go.V
namespace Go.V
open Go Go.RowKit
set_option linter.unusedSimpArgs false
set_option linter.unusedVariables false
/-- the cells of a type's zero -/
def zeroC (P : Program) (t : TypeId) : Option (Array Value) := ((P.info? t).bind (·.zero)).map (·.cells)
theorem zeroC_some {P : Program} {t : TypeId} {z : Array Value} (h : zeroC P t = some z) (w : World) : ∃ v, (zeroValue t).run P w = .ok v w ∧ v.cells = z := by
  unfold zeroC at h
  cases hi : P.info? t with
  | none => simp [hi] at h
  | some i =>
    cases hz : i.zero with
    | none => simp [hi, hz] at h
    | some v =>
      simp [hi, hz] at h
      refine ⟨v, ?_, h⟩
      simp [zeroValue, typeInfo, hi, hz]
/-- what a composite value's fields come to -/
def stZ (P : Program) (t : TypeId) : Option (Array Value × List (Nat × Nat)) := match P.underlying t with
  | some (.struct fs) => match zeroC P t, fs.toList.mapM (fun f => (P.info? f.type).map fun i => (f.offset, i.size)) with
    | some z, some l => some (z, l)
    | _, _ => none
  | _ => none
/-- a slice's element: its number, its size, its zero's cells -/
def slZ (P : Program) (t : TypeId) : Option (TypeId × Nat × Array Value) := match P.underlying t with
  | some (.slice e) => match P.info? e, zeroC P e with
    | some i, some z => some (e, i.size, z)
    | _, _ => none
  | _ => none
theorem slZ_some {P : Program} {t e size : Nat} {z : Array Value} (h : slZ P t = some (e, size, z)) : ∃ i, P.underlying t = some (.slice e) ∧ P.info? e = some i ∧ i.size = size ∧ zeroC P e = some z := by
  unfold slZ at h
  split at h
  · rename_i e' he
    split at h
    · rename_i i z' hi hz
      injection h with h
      injection h with h1 h2
      injection h2 with h2 h3
      subst h1; subst h2; subst h3
      exact ⟨i, he, hi, rfl, hz⟩
    · cases h
  · cases h
section
variable {P : Program} {n : Nat} {ops : Array Oper} {g : G} {w : World} {nx : G → World → Prop} {k : Nat} {o : Oper}

theorem hv_alloc {t : TypeId} {z : Array Value} (hw : wantO ops g o = true) (ho : o.op = .alloc t) (hz : zeroC P t = some z)
    (h : ∀ w1 b, Below w.heap.size w w1 → w.heap.size ≤ b → Bx w1 b z t → nx (updO g o.dst (.pointer (some ⟨b, 0, none⟩))) w1) : hvX P ops o k nx g w := by
  obtain ⟨v, hv, hc⟩ := zeroC_some hz w
  refine hv_run hw (v := .pointer (some ⟨w.heap.size, 0, none⟩)) (w' := w.alloc (.cells z t)) ?_ (fun _ => below_alloc w _) (h _ _ (below_alloc w _) (Nat.le_refl _) (bx_alloc w z t))
  unfold execOp
  simp only [ho, Instr.alloc, Sem.run_bind, hv, Result.andThen_ok, newVar, newRow, hc]
  simp [newObj, Sem.run]
theorem hv_box {t : TypeId} {x : Operand} (c : Array Value) (hw : wantO ops g o = true) (ho : o.op = .box t x) (hc : (evG g x).cells = c)
    (h : ∀ w1 b, Below w.heap.size w w1 → w.heap.size ≤ b → Bx w1 b c t → nx (updO g o.dst (.pointer (some ⟨b, 0, none⟩))) w1) : hvX P ops o k nx g w := by
  refine hv_run hw (v := .pointer (some ⟨w.heap.size, 0, none⟩)) (w' := w.alloc (.cells c t)) ?_ (fun _ => below_alloc w _) (h _ _ (below_alloc w _) (Nat.le_refl _) (bx_alloc w c t))
  unfold execOp
  simp only [ho, Instr.box, newVar, newRow, hc, Sem.run_bind]
  simp [newObj, Sem.run]
/-- the cells of a block behind a store -/
def putC (c : Array Value) : Nat → List Value → Array Value
  | _, [] => c
  | i, v :: r => putC (c.setIfInBounds i v) (i + 1) r
theorem putC_toList : ∀ (vs : List Value) (c : Array Value) (i : Nat), i + vs.length ≤ c.size → (c.toList.take i ++ vs ++ c.toList.drop (i + vs.length)).toArray = putC c i vs
  | [], c, i, _ => by simp [putC]
  | v :: r, c, i, h => by
    have hi : i < c.size := by simp at h; omega
    have ih := putC_toList r (c.setIfInBounds i v) (i + 1) (by simp at h ⊢; omega)
    rw [putC, ← ih]
    congr 1
    simp only [Array.toList_setIfInBounds, List.length_cons]
    have e1 : (c.toList.set i v).take (i + 1) = c.toList.take i ++ [v] := by
      rw [List.take_set, List.take_succ_eq_append_getElem (by simpa using hi), List.set_append]
      simp [Nat.min_eq_left (Nat.le_of_lt hi)]
    have e2 : (c.toList.set i v).drop (i + 1 + r.length) = c.toList.drop (i + (r.length + 1)) := by
      rw [List.drop_set_of_lt (by omega)]; congr 1; omega
    rw [e1, e2]
    simp
theorem hv_store {t : TypeId} {x y : Operand} {b off : Nat} {c : Array Value} {tc : TypeId} (vs : List Value) (hw : wantO ops g o = true) (ho : o.op = .store t x y) (hx : evG g x = .pointer (some ⟨b, off, none⟩)) (hy : (evG g y).cells = vs.toArray)
    (hsz : (P.info? t).map (·.size) = some vs.length) (hb : Bx w b c tc) (hfit : off + vs.length ≤ c.size) (h1 : ∀ v ∈ vs, v.oneCell' = true) (hk : k ≠ 0)
    (h : ∀ w1, Sto w w1 b → Bx w1 b (putC c off vs) tc → nx (updO g o.dst undef) w1) : hvX P ops o k nx g w := by
  have hst := run_storeCells_at (P := P) b off tc vs 0 c w hb.heap (by omega) h1
  rw [Nat.add_zero, putC_toList _ _ _ (by omega)] at hst
  refine hv_unit hw (w' := w.setRow b (putC c off vs)) ?_ (fun e => absurd e hk) (h _ (sto_setRow w b _) (bx_setRow hb))
  cases hi : P.info? t with
  | none => simp [hi] at hsz
  | some i =>
    simp [hi] at hsz
    unfold execOp
    have e1 : (evG g y).cells.size = i.size := by rw [hy, hsz]; simp
    simp only [ho, Instr.storeAt, Instr.sureAddr, hx, storeVar, Sem.run_bind, Sem.run_pure, Result.andThen_ok]
    have e2 : (sizeOf t).run P w = .ok i.size w := by simp [sizeOf, typeInfo, hi]
    simp only [e2, Result.andThen_ok, e1, ne_eq, not_true, if_false, Sem.run_bind, Sem.run_pure]
    rw [hy]
    simp only [List.toList_toArray, hst, Result.andThen_ok]

theorem hv_buildSlice {t e len size : Nat} {z : Array Value} {parts : Array (Nat × Operand)} (cells : Array Value) (hw : wantO ops g o = true) (ho : o.op = .buildSlice t len parts) (hz : slZ P t = some (e, size, z)) (hs : len * size ≤ 16777216)
    (pl : List (Nat × Value)) (hp : (parts.toList.map fun x => (x.1, evG g x.2)) = pl)
    (hfill : Instr.fill (fun i => some (i * size, size)) ((Array.range (len * size)).map ((if len * size = 0 then #[] else z)[· % (if len * size = 0 then #[] else z).size]!)) pl = some cells)
    (h : ∀ w1 b, Below w.heap.size w w1 → w.heap.size ≤ b → Bx w1 b cells e → nx (updO g o.dst (.slice (some ⟨b, 0, none⟩) len len)) w1) : hvX P ops o k nx g w := by
  have e4 : (parts.map fun (i, x) => (i, evG g x)).toList = pl := by rw [Array.toList_map]; exact hp
  rw [← e4] at hfill
  obtain ⟨i, hu, hi, hsz, hzc⟩ := slZ_some hz
  obtain ⟨v, hv, hc⟩ := zeroC_some hzc w
  refine hv_run hw (v := .slice (some ⟨w.heap.size, 0, none⟩) len len) (w' := w.alloc (.cells cells e)) ?_ (fun _ => below_alloc w _) (h _ _ (below_alloc w _) (Nat.le_refl _) (bx_alloc w cells e))
  unfold execOp
  have e1 : (underlying t).run P w = .ok (.slice e) w := run_underlying hu w
  have e2 : (sizeOf e).run P w = .ok size w := by simp [sizeOf, typeInfo, hi, hsz]
  have e3 : ¬ len * size > 2 ^ 24 := by omega
  simp only [ho, Instr.buildSlice, Sem.run_bind, e1, Result.andThen_ok, e2, e3, if_false]
  by_cases h0 : len * size = 0
  · simp only [h0, if_true] at hfill ⊢
    simp only [Sem.run_bind, Sem.run_pure, Result.andThen_ok]
    simp only [Array.size_empty] at hfill
    simp only [Array.size_empty, hfill]
    simp [newRow, newObj, Sem.run]
  · simp only [h0, if_false] at hfill ⊢
    simp only [Sem.run_bind, Sem.run_pure, Result.andThen_ok, hv, hc]
    simp only [hfill]
    simp [newRow, newObj, Sem.run]
end
end Go.V
namespace Go.V
open Go Go.RowKit
set_option linter.unusedSimpArgs false
set_option linter.unusedVariables false
section
variable {P : Program} {n : Nat} {ops : Array Oper} {g : G} {w : World} {nx : G → World → Prop} {k : Nat} {o : Oper}

theorem stZ_some {t : TypeId} {z : Array Value} {l : List (Nat × Nat)} (h : stZ P t = some (z, l)) : ∃ fs, P.underlying t = some (.struct fs) ∧ zeroC P t = some z ∧ fs.toList.mapM (fun f => (P.info? f.type).map fun i => (f.offset, i.size)) = some l := by
  unfold stZ at h
  split at h
  · rename_i fs hfs
    split at h
    · rename_i z' l' hz hl
      injection h with h
      injection h with h1 h2
      subst h1; subst h2
      exact ⟨fs, hfs, hz, hl⟩
    · cases h
  · cases h
theorem hv_build {t : TypeId} {z : Array Value} {l : List (Nat × Nat)} {parts : Array (Nat × Operand)} (cells : Array Value) (hw : wantO ops g o = true) (ho : o.op = .build t parts) (hz : stZ P t = some (z, l))
    (pl : List (Nat × Value)) (hp : (parts.toList.map fun x => (x.1, evG g x.2)) = pl) (hfill : Instr.fill (l[·]?) z pl = some cells) (h : nx (updO g o.dst (.agg cells)) w) : hvX P ops o k nx g w := by
  obtain ⟨fs, hu, hzc, hm⟩ := stZ_some hz
  obtain ⟨v, hv, hc⟩ := zeroC_some hzc w
  refine hv_run hw (v := .agg cells) (w' := w) ?_ (fun _ => Below.refl _ _) h
  have e1 : (underlying t).run P w = .ok (.struct fs) w := run_underlying hu w
  have e2 := run_places (P := P) w fs.toList l hm
  unfold execOp
  simp only [ho, Instr.build, Sem.run_bind, e1, Result.andThen_ok, hv, hc]
  have e3 : (fs.mapM fun f => (do pure (f.offset, ← sizeOf f.type) : Sem (Nat × Nat))).run P w = .ok l.toArray w := by
    rw [Array.mapM_eq_mapM_toList]
    simp only [bind_pure_comp] at *
    simp [Sem.run_map, e2]
  simp only [bind_pure_comp] at *
  rw [e3]
  have e4 : (parts.map fun (i, x) => (i, evG g x)).toList = pl := by rw [Array.toList_map]; exact hp
  simp only [Result.andThen_ok, List.getElem?_toArray, e4, hfill]
  simp

/-- append to a slice of the call's own; what is appended is read in its block -/
theorem hv_append {t e size bytes : Nat} {z : Array Value} {s x : Operand} {B : Nat} {v : Value} {m : Nat} {xs : List Value} {a : Addr} {len c : Nat} (news : List Value) (hw : wantO ops g o = true)
    (ho : o.op = .call { callee := .builtin .append, args := #[s, x], argTypes := #[t, t] }) (hz : slZ P t = some (e, size, z)) (hby : (P.info? e).map (·.bytes) = some bytes) (hzs : z.size = size) (hsz : 0 < size)
    (hs : evG g s = v) (hx : evG g x = .slice (some a) len c) (hown : w.ownsRow B e size v m xs) (hl : news.length = len * size) (hnews : ∀ j u, news[j]? = some u → w.cell? (a.add j) = some u) (h1 : ∀ u ∈ news, u.oneCell' = true)
    (h63 : m + len ≤ maxLen) (hbytes : (m + len) * bytes ≤ 140737488355328) (hB : B ≤ w.heap.size) (hk : k ≠ 0)
    (h : ∀ v' w1, w1.ownsRow B e size v' (m + len) (xs ++ news) → w.grownBy w1 v.ownBlock → (v' = .slice none 0 0 ↔ v = .slice none 0 0 ∧ len = 0) → nx (updO g o.dst v') w1) : hvX P ops o k nx g w := by
  obtain ⟨i, hu, hi, hsize, hzc⟩ := slZ_some hz
  have hby' : i.bytes = bytes := by rw [hi] at hby; simpa using hby
  obtain ⟨zv, hzv, hzc'⟩ : ∃ zv, i.zero = some zv ∧ zv.cells = z := by
    unfold zeroC at hzc
    rw [hi] at hzc
    cases hzz : i.zero with
    | none => simp [hzz] at hzc
    | some zv => simp [hzz] at hzc; exact ⟨zv, rfl, hzc⟩
  obtain ⟨v', w', hr, h2, h3, h4⟩ := run_append_own (P := P) w B t o.type e i zv size bytes hu hi hzv hsize hby' (by rw [hzc']; exact hzs) hsz v m xs hown a len c news hl hnews h1 h63 hbytes hB
  refine hv_run hw (v := v') (w' := w') ?_ (fun e => absurd e hk) (h _ _ h2 h3 h4)
  unfold execOp
  simp only [ho, resolve, invoke, builtin, Sem.run_bind, Sem.run_pure, Result.andThen_ok, List.map_toArray, List.map_cons, List.map_nil, hs, hx, hr]
/-- the same where what is appended is a whole block of the call's own -/
theorem hv_appendB {t e size bytes : Nat} {z : Array Value} {s x : Operand} {B : Nat} {v : Value} {m : Nat} {xs : List Value} {b len c : Nat} {news : Array Value} {tb : TypeId} (hbx : Bx w b news tb) (hw : wantO ops g o = true)
    (ho : o.op = .call { callee := .builtin .append, args := #[s, x], argTypes := #[t, t] }) (hz : slZ P t = some (e, size, z)) (hby : (P.info? e).map (·.bytes) = some bytes) (hzs : z.size = size) (hsz : 0 < size)
    (hs : evG g s = v) (hx : evG g x = .slice (some ⟨b, 0, none⟩) len c) (hown : w.ownsRow B e size v m xs) (hl : news.size = len * size) (h1 : ∀ u ∈ news.toList, u.oneCell' = true)
    (h63 : m + len ≤ maxLen) (hbytes : (m + len) * bytes ≤ 140737488355328) (hB : B ≤ w.heap.size) (hk : k ≠ 0)
    (h : ∀ v' w1, w1.ownsRow B e size v' (m + len) (xs ++ news.toList) → w.grownBy w1 v.ownBlock → (v' = .slice none 0 0 ↔ v = .slice none 0 0 ∧ len = 0) → nx (updO g o.dst v') w1) : hvX P ops o k nx g w :=
  hv_append news.toList hw ho hz hby hzs hsz hs hx hown (by simpa using hl) (fun j u hu => by rw [add_mk, hbx.cell]; simpa using hu) h1 h63 hbytes hB hk h

/-! ### A string ranged over -/
structure It (w : World) (b : Nat) (s : ByteArray) (pos : Nat) : Prop where
  heap : w.heap[b]? = some (.stringIter s pos)
theorem It.lt {b : Nat} {s : ByteArray} {pos : Nat} (h : It w b s pos) : b < w.heap.size := (Array.getElem?_eq_some_iff.1 h.heap).1
theorem It.keep {w' : World} {b : Nat} {s : ByteArray} {pos : Nat} (h : It w b s pos) (hb : Below w.heap.size w w') : It w' b s pos := ⟨by rw [hb.block b h.lt]; exact h.heap⟩
theorem It.ext {w' : World} {b : Nat} {s : ByteArray} {pos B : Nat} (h : It w b s pos) (hb : Below B w w') (hB : b < B) : It w' b s pos := ⟨by rw [hb.block b hB]; exact h.heap⟩
theorem It.sto {w' : World} {b b' : Nat} {s : ByteArray} {pos : Nat} (h : It w b s pos) (hs : Sto w w' b') (hne : b ≠ b') : It w' b s pos := ⟨by rw [hs.block b hne]; exact h.heap⟩
theorem hv_range {t : TypeId} {x : Operand} {s : ByteArray} (hw : wantO ops g o = true) (ho : o.op = .range t x) (ht : isStr P t = true) (hx : evG g x = .string s)
    (h : ∀ w1 b, Below w.heap.size w w1 → w.heap.size ≤ b → It w1 b s 0 → nx (updO g o.dst (.pointer (some ⟨b, 0, none⟩))) w1) : hvX P ops o k nx g w := by
  have hu := isStr_some ht
  refine hv_run hw (v := .pointer (some ⟨w.heap.size, 0, none⟩)) (w' := w.alloc (.stringIter s 0)) ?_ (fun _ => below_alloc w _) (h _ _ (below_alloc w _) (Nat.le_refl _) ⟨heap_alloc_new w _⟩)
  unfold execOp
  have e1 : (underlying t).run P w = .ok .string w := run_underlying hu w
  simp only [ho, Instr.range, Sem.run_bind, e1, Result.andThen_ok, hx]
  simp [newObj, Sem.run]
theorem hv_next_end {x : Operand} {b : Nat} {s : ByteArray} {pos : Nat} (hw : wantO ops g o = true) (ho : o.op = .next x true) (hx : evG g x = .pointer (some ⟨b, 0, none⟩)) (hi : It w b s pos) (hp : ¬ pos < s.size)
    (h : nx (updO g o.dst (.tuple #[.bool false])) w) : hvX P ops o k nx g w := by
  refine hv_run hw (v := .tuple #[.bool false]) (w' := w) ?_ (fun _ => Below.refl _ _) h
  unfold execOp
  simp [ho, Instr.next, hx, getObj, Sem.run, hi.heap, hp]
def decW (s : ByteArray) (pos : Nat) : Nat := (Utf8.decode s pos).2
def decC (s : ByteArray) (pos : Nat) : Int := ((Utf8.decode s pos).1 : Int)
theorem hv_next {x : Operand} {b : Nat} {s : ByteArray} {pos : Nat} (hw : wantO ops g o = true) (ho : o.op = .next x true) (hx : evG g x = .pointer (some ⟨b, 0, none⟩)) (hi : It w b s pos) (hp : pos < s.size) (hk : k ≠ 0)
    (h : ∀ w1, Sto w w1 b → It w1 b s (pos + decW s pos) → nx (updO g o.dst (.tuple #[.bool true, .int .i64 pos, .int .i32 (decC s pos)])) w1) : hvX P ops o k nx g w := by
  have hlt := hi.lt
  refine hv_run hw (v := .tuple #[.bool true, .int .i64 pos, .int .i32 (decC s pos)]) (w' := { w with heap := w.heap.setIfInBounds b (.stringIter s (pos + decW s pos)) }) ?_ (fun e => absurd e hk) (h _ ?_ ?_)
  · unfold execOp
    simp [ho, Instr.next, hx, getObj, setObj, Sem.run, hi.heap, hp, goInt, decW, decC]
  · exact ⟨rfl, rfl, rfl, by simp, fun k hk => by simp [Array.getElem?_setIfInBounds, Ne.symm hk]⟩
  · exact ⟨by simp [hlt]⟩
theorem dec_ascii (s : ByteArray) (pos : Nat) (hp : pos < s.size) (h : (byteAt s pos).toNat < 128) : decW s pos = 1 := by
  have e : (s.get! (pos + 0)).toNat = (byteAt s pos).toNat := by
    have : s.get! pos = byteAt s pos := by
      have h' : pos < s.data.size := hp
      simp only [ByteArray.get!, byteAt, bs]
      rw [List.getD_eq_getElem?_getD, Array.getElem?_toList, Array.getElem?_eq_getElem h', Option.getD_some, getElem!_pos s.data pos h']
    rw [Nat.add_zero, this]
  unfold decW Utf8.decode
  simp only [e]
  rw [if_pos (by omega)]
theorem dec_pos (s : ByteArray) (pos : Nat) : 1 ≤ decW s pos := by
  unfold decW Utf8.decode
  simp only []
  repeat' split
  all_goals simp
end
end Go.V
namespace Go.V
open Go Go.RowKit
set_option linter.unusedSimpArgs false
set_option linter.unusedVariables false
section
variable {P : Program} {n : Nat} {ops : Array Oper} {g : G} {w : World} {nx : G → World → Prop} {k : Nat} {o : Oper}

theorem madeCells_one (v : Value) (n : Nat) : madeCells #[v] n = (List.replicate n v).toArray := by
  apply Array.ext
  · simp [madeCells]
  · intro i h1 h2
    simp [madeCells, Nat.mod_one]
theorem hv_make {t e size bytes : Nat} {z : Array Value} {l c : Operand} {kl kc : IntKind} (nl nc : Nat) (hw : wantO ops g o = true) (ho : o.op = .makeSlice t l c) (hz : slZ P t = some (e, size, z)) (hby : (P.info? e).map (·.bytes) = some bytes)
    (hl : evG g l = .int kl nl) (hc : evG g c = .int kc nc) (hlc : nl ≤ nc) (hb : bytes * nc ≤ 281474976710656) (h63 : nc ≤ 9223372036854775807)
    (h : ∀ w1 b, Below w.heap.size w w1 → w.heap.size ≤ b → Bx w1 b (madeCells z (nc * size)) e → nx (updO g o.dst (.slice (some ⟨b, 0, none⟩) nl nc)) w1) : hvX P ops o k nx g w := by
  obtain ⟨i, hu, hi, hsize, hzc⟩ := slZ_some hz
  have hby' : i.bytes = bytes := by rw [hi] at hby; simpa using hby
  obtain ⟨zv, hzv, hzc'⟩ : ∃ zv, i.zero = some zv ∧ zv.cells = z := by
    unfold zeroC at hzc
    rw [hi] at hzc
    cases hzz : i.zero with
    | none => simp [hzz] at hzc
    | some zv => simp [hzz] at hzc; exact ⟨zv, rfl, hzc⟩
  have hb' : (i.bytes : Int) * (nc : Int) ≤ 281474976710656 := by
    have h : ((i.bytes * nc : Nat) : Int) ≤ 281474976710656 := by rw [hby']; omega
    rwa [Int.natCast_mul] at h
  have hr := run_make (P := P) w t e i zv hu hi hzv kl kc nl nc (by omega) (by omega) hb' (by omega)
  simp only [Int.toNat_natCast, hzc', hsize] at hr
  refine hv_run hw (v := .slice (some ⟨w.heap.size, 0, none⟩) nl nc) (w' := w.alloc (.cells (madeCells z (nc * size)) e)) ?_ (fun _ => below_alloc w _) (h _ _ (below_alloc w _) (Nat.le_refl _) (bx_alloc w _ e))
  unfold execOp
  simp only [ho, hl, hc, Sem.run_bind, hr, Result.andThen_ok, Sem.run_pure]

/-- copy into a block of the call's own, from a slice that is read -/
theorem hv_copy {t t' e : Nat} {d x : Operand} {b dl dc : Nat} {cur : Array Value} {tc : TypeId} {a : Addr} {sl sc : Nat} (cs : List Value) (hw : wantO ops g o = true)
    (ho : o.op = .call { callee := .builtin .copy, args := #[d, x], argTypes := #[t, t'] }) (hu : P.underlying t = some (.slice e)) (hs1 : (P.info? e).map (·.size) = some 1)
    (hd : evG g d = .slice (some ⟨b, 0, none⟩) dl dc) (hx : evG g x = .slice (some a) sl sc) (hb : Bx w b cur tc) (hn : cs.length = Nat.min sl dl) (hsrc : ∀ j v, cs[j]? = some v → w.cell? (a.add j) = some v) (hfit : cs.length ≤ cur.size) (h1 : ∀ v ∈ cs, v.oneCell' = true) (hk : k ≠ 0)
    (h : ∀ w1, Sto w w1 b → Bx w1 b (cs ++ cur.toList.drop cs.length).toArray tc → nx (updO g o.dst (.int .i64 cs.length)) w1) : hvX P ops o k nx g w := by
  have hr := run_copy_row (P := P) w t t' o.type e b 0 dl dc a sl sc cur tc cs hu hs1 hb.heap hn hsrc (by omega) h1
  simp only [Nat.zero_add, List.take_zero, List.nil_append] at hr
  refine hv_run hw (v := .int .i64 cs.length) (w' := w.setRow b (cs ++ cur.toList.drop cs.length).toArray) ?_ (fun e => absurd e hk) (h _ (sto_setRow w b _) (bx_setRow hb))
  unfold execOp
  simp only [ho, resolve, invoke, builtin, Sem.run_bind, Sem.run_pure, Result.andThen_ok, List.map_toArray, List.map_cons, List.map_nil, hd, hx, hr]
  rfl

/-- append nothing to nil -/
theorem hv_append0 {t e size : Nat} {z : Array Value} {s x : Operand} {a : Option Addr} {c : Nat} (hw : wantO ops g o = true)
    (ho : o.op = .call { callee := .builtin .append, args := #[s, x], argTypes := #[t, t] }) (hz : slZ P t = some (e, size, z))
    (hs : evG g s = .slice none 0 0) (hx : evG g x = .slice a 0 c) (h : nx (updO g o.dst (.slice none 0 0)) w) : hvX P ops o k nx g w := by
  obtain ⟨i, hu, hi, hsize, hzc⟩ := slZ_some hz
  refine hv_run hw (v := .slice none 0 0) (w' := w) ?_ (fun _ => Below.refl _ _) h
  unfold execOp
  simp only [ho, resolve, invoke, builtin, Sem.run_bind, Sem.run_pure, Result.andThen_ok, List.map_toArray, List.map_cons, List.map_nil, hs, hx]
  cases a <;> simp [Builtin.append_, run_underlying hu, sizeOf, typeInfo, hi, Builtin.lenOf, Builtin.firstCells, loadCells, loadCellsFrom, storeCells]
end
/-! ### max -/
def isI64 : Value → Bool
  | .int .i64 _ => true
  | _ => false
def maxV : Value → Value → Value
  | .int .i64 a, .int .i64 b => .int .i64 (if a < b then b else a)
  | _, _ => undef
@[go_sem] theorem isI64_int (a : Int) : isI64 (.int .i64 a) = true := rfl
@[go_sem] theorem maxV_int (a b : Int) : maxV (.int .i64 a) (.int .i64 b) = .int .i64 (if a < b then b else a) := rfl
section
variable {P : Program} {w : World} {ev : Operand → Value} {ty : TypeId} {x y : Operand} {ts : Array TypeId}
@[go_sem] theorem lc_max : lc P w ev (.call { callee := .builtin .max, args := #[x, y], argTypes := ts }) = none := rfl
theorem outV_none (d : Value) : outV d none = d := rfl
theorem outOk_none (d : Prop) : outOk d none = d := rfl
theorem run_max (hx : isI64 (ev x) = true) (hy : isI64 (ev y) = true) : run1 P w ev ty (.call { callee := .builtin .max, args := #[x, y], argTypes := ts }) = some (.value (maxV (ev x) (ev y))) := by
  obtain ⟨a, ha⟩ : ∃ a, ev x = .int .i64 a := by
    unfold isI64 at hx; split at hx
    · exact ⟨_, by assumption⟩
    · cases hx
  obtain ⟨b, hb⟩ : ∃ b, ev y = .int .i64 b := by
    unfold isI64 at hy; split at hy
    · exact ⟨_, by assumption⟩
    · cases hy
  rw [ha, hb, maxV_int]
  simp only [run1, execOp, resolve]
  simp [tame_bind', tame_map, tame_pure, tame_spure, invoke, builtin, Builtin.max_, Builtin.max2, ha, hb]
@[go_sem] theorem any_max_v (hx : isI64 (ev x) = true) (hy : isI64 (ev y) = true) : anyV P w ev ty (.call { callee := .builtin .max, args := #[x, y], argTypes := ts }) = maxV (ev x) (ev y) := by
  simp [anyV, run_max hx hy]
@[go_sem] theorem any_max_ok (hx : isI64 (ev x) = true) (hy : isI64 (ev y) = true) : anyOk P w ev ty (.call { callee := .builtin .max, args := #[x, y], argTypes := ts }) = True := eq_true ⟨_, run_max hx hy⟩
end
end Go.V
namespace Go.V
open Go Go.RowKit
set_option linter.unusedSimpArgs false
set_option linter.unusedVariables false
section
variable {P : Program} {w : World} {ev : Operand → Value} {ty : TypeId}
@[go_sem] theorem lc_makeFunc (fn : Fn) (c d : Array Operand) : lc P w ev (.makeFunc fn c d) = none := rfl
theorem run_makeFunc (fn : Fn) (c d : Array Operand) : run1 P w ev ty (.makeFunc fn c d) = some (.value (.func fn (c.map ev) (d.map ev))) := by
  simp only [run1, execOp, Instr.makeFunc]
  simp [tame_bind', tame_map, tame_pure, tame_spure]
@[go_sem] theorem any_makeFunc_v (fn : Fn) (c d : Array Operand) : anyV P w ev ty (.makeFunc fn c d) = .func fn (c.map ev) (d.map ev) := by
  simp [anyV, run_makeFunc]
@[go_sem] theorem any_makeFunc_ok (fn : Fn) (c d : Array Operand) : anyOk P w ev ty (.makeFunc fn c d) = True := eq_true ⟨_, run_makeFunc fn c d⟩
end
section
variable {P : Program} {n : Nat} {ops : Array Oper} {g : G} {w : World} {nx : G → World → Prop} {k : Nat} {o : Oper}
/-- a call of a closure of the program -/
theorem hv_callc (hw : wantO ops g o = true) {f : FuncId} {x : Operand} {args : Array Operand} {ts : Array TypeId} {captured : Array Value} (hop : o.op = .call { callee := .value x, args := args, argTypes := ts })
    (hx : evG g x = .func (.func f) #[] captured) (hcall : ∀ (args : Array Value) (w : World), (callFunc f args).run P w = .ok (.enter f args) w)
    (h : ∀ R : Value → World → Prop, (∀ v w', nx (updO g o.dst v) w' → R v w') → Calls P f (args.map (evG g) ++ captured) w (fun e w' => ∃ v, e = .returned v ∧ (k = 0 → Below w.heap.size w w') ∧ R v w')) : hvX P ops o k nx g w := by
  refine hv_open hw ?_
  unfold hwp
  have hr : (execOp (evG g) o).run P w = .ok (.enter f (args.map (evG g) ++ captured)) w := by
    unfold execOp
    simp only [hop, resolve, Deferred.ofValue, hx, Sem.run_bind, Sem.run_pure, Result.andThen_ok, invoke, Array.append_empty, Array.empty_append, hcall]
  rw [hr]
  exact h _ (fun _ _ h => h)
end
attribute [go_sem] outV_none outOk_none
/-- what a box holds -/
theorem Bx.get0 {w : World} {b : Nat} {v : Value} {t : TypeId} (h : Bx w b #[v] t) : w.cell? ⟨b, 0, none⟩ = some v := h.cell 0

/-- Of what there was, only block b may have changed. -/
abbrev Wr (w w' : World) (b : Nat) : Prop := w.grownBy w' (some b)
theorem Wr.refl (w : World) (b : Nat) : Wr w w b := ⟨rfl, rfl, rfl, Nat.le_refl _, fun _ _ _ => rfl⟩
theorem Wr.trans {w w1 w2 : World} {b : Nat} (h : Wr w w1 b) (h' : Wr w1 w2 b) : Wr w w2 b :=
  ⟨h'.os.trans h.os, h'.tape.trans h.tape, h'.output.trans h.output, Nat.le_trans h.size h'.size, fun k hk hne => (h'.block k (Nat.lt_of_lt_of_le hk h.size) hne).trans (h.block k hk hne)⟩
theorem Wr.of_sto {w w1 : World} {b : Nat} (h : Sto w w1 b) : Wr w w1 b := ⟨h.os, h.tape, h.output, by rw [h.size]; exact Nat.le_refl _, fun k _ hne => h.block k (fun e => hne (by rw [e]))⟩
theorem Wr.of_below {w w1 : World} (b : Nat) (h : Below w.heap.size w w1) : Wr w w1 b := ⟨h.os, h.tape, h.output, h.size, fun k hk _ => h.block k hk⟩
theorem Wr.sto {w w1 w2 : World} {b : Nat} (h : Wr w w1 b) (h' : Sto w1 w2 b) : Wr w w2 b := h.trans (.of_sto h')
theorem Wr.keep {w w1 w2 : World} {b : Nat} (h : Wr w w1 b) (h' : Below w1.heap.size w1 w2) : Wr w w2 b := h.trans (.of_below b h')
/-- a store into a block that was not there at first -/
theorem Wr.sto2 {w w1 w2 : World} {b b' : Nat} (h : Wr w w1 b) (h' : Sto w1 w2 b') (hb : w.heap.size ≤ b') : Wr w w2 b :=
  ⟨h'.os.trans h.os, h'.tape.trans h.tape, h'.output.trans h.output, Nat.le_trans h.size (by rw [h'.size]; exact Nat.le_refl _), fun k hk hne => (h'.block k (by omega)).trans (h.block k hk hne)⟩
theorem _root_.Go.RowKit.Below.wr {w0 w w' : World} {b : Nat} (h : Below w0.heap.size w0 w) (hw : Wr w w' b) (hb : w0.heap.size ≤ b) : Below w0.heap.size w0 w' := h.nextG hw (fun k hk => by injection hk with hk; omega)
theorem Bx.wr {w w' : World} {b b' : Nat} {c : Array Value} {t : TypeId} (h : Bx w b c t) (hw : Wr w w' b') (hne : b ≠ b') : Bx w' b c t := ⟨by rw [hw.block b h.lt (fun e => hne (by injection e))]; exact h.heap⟩
theorem SL.wr {w w' : World} {a : Option Addr} {xs : List Value} {b : Nat} (h : SL w a xs) (hw : Wr w w' b) (hne : ∀ ad, a = some ad → xs ≠ [] → ad.block ≠ b) : SL w' a xs := by
  rcases h with e | ⟨b', off, e, hc⟩
  · exact .inl e
  · by_cases hl : xs = []
    · exact .inl hl
    · refine .inr ⟨b', off, e, fun j v hv => ?_⟩
      have h1 := hc j v hv
      have h2 := World.block_lt_of_cell? w _ h1
      exact (World.cell?_of_block (w := w) (a := ⟨b', off + j, none⟩) (hw.block b' h2 (fun e' => by injection e' with e'; exact hne _ e hl e'))).trans h1
section
variable {P : Program} {n : Nat} {ops : Array Oper} {g : G} {w : World} {nx : G → World → Prop} {k : Nat} {o : Oper}
/-- append nothing to a slice of the call's own -/
theorem hv_append_none {t e size : Nat} {z : Array Value} {s x : Operand} {B : Nat} {v : Value} {m : Nat} {xs : List Value} {a : Option Addr} {c : Nat} (hw : wantO ops g o = true)
    (ho : o.op = .call { callee := .builtin .append, args := #[s, x], argTypes := #[t, t] }) (hz : slZ P t = some (e, size, z))
    (hs : evG g s = v) (hx : evG g x = .slice a 0 c) (hown : w.ownsRow B e size v m xs) (h : nx (updO g o.dst v) w) : hvX P ops o k nx g w := by
  obtain ⟨i, hu, hi, hsize, hzc⟩ := slZ_some hz
  have key : ∃ b cap, v = .slice b m cap ∧ m ≤ cap := by
    rcases hown.2 with ⟨h1, h2⟩ | ⟨g', cap, cur, hv, _, _, hle, _⟩
    · exact ⟨none, 0, by rw [h1, h2], by omega⟩
    · exact ⟨_, cap, hv, hle⟩
  obtain ⟨b, cap, rfl, hle⟩ := key
  refine hv_run hw (v := .slice b m cap) (w' := w) ?_ (fun _ => Below.refl _ _) h
  unfold execOp
  simp only [ho, resolve, invoke, builtin, Sem.run_bind, Sem.run_pure, Result.andThen_ok, List.map_toArray, List.map_cons, List.map_nil, hs, hx]
  cases a <;> cases b <;> simp [Builtin.append_, run_underlying hu, sizeOf, typeInfo, hi, Builtin.lenOf, Builtin.firstCells, loadCells, loadCellsFrom, storeCells, hle]
/-- append a slice that is read, of cells of one each; it may be nil -/
theorem hv_appendL {t e bytes : Nat} {z : Array Value} {s x : Operand} {B : Nat} {v : Value} {m : Nat} {xs : List Value} {a : Option Addr} {len c : Nat} (news : List Value) (hw : wantO ops g o = true)
    (ho : o.op = .call { callee := .builtin .append, args := #[s, x], argTypes := #[t, t] }) (hz : slZ P t = some (e, 1, z)) (hby : (P.info? e).map (·.bytes) = some bytes) (hzs : z.size = 1)
    (hs : evG g s = v) (hx : evG g x = .slice a len c) (hown : w.ownsRow B e 1 v m xs) (hl : news.length = len) (hnews : SL w a news) (h1 : ∀ u ∈ news, u.oneCell' = true)
    (h63 : m + len ≤ maxLen) (hbytes : (m + len) * bytes ≤ 140737488355328) (hB : B ≤ w.heap.size) (hk : k ≠ 0)
    (h : ∀ v' w1, w1.ownsRow B e 1 v' (m + len) (xs ++ news) → w.grownBy w1 v.ownBlock → nx (updO g o.dst v') w1) : hvX P ops o k nx g w := by
  by_cases hn : news = []
  · subst hn
    have hl0 : len = 0 := by simpa using hl.symm
    subst hl0
    refine hv_append_none hw ho hz hs hx hown (h _ _ ?_ ⟨rfl, rfl, rfl, Nat.le_refl _, fun _ _ _ => rfl⟩)
    simpa using hown
  · rcases hnews with e0 | ⟨b, off, rfl, hc⟩
    · exact absurd e0 hn
    · exact hv_append (a := ⟨b, off, none⟩) news hw ho hz hby hzs (by decide) hs hx hown (by omega) (fun j u hu => by rw [add_mk]; exact hc j u hu) h1 h63 hbytes hB hk (fun v' w1 h1 h2 _ => h v' w1 h1 h2)
/-- a block of the call's own is a slice of its own -/
theorem own_of_bx {b : Nat} {e : TypeId} {xs : List Value} {base c : Nat} (h : Bx w b xs.toArray e) (hb : base ≤ b) (hc : c = xs.length) (hm : c ≤ maxLen) : w.ownsRow base e 1 (.slice (some ⟨b, 0, none⟩) c c) c xs :=
  ⟨by rw [Nat.mul_one, hc], .inr ⟨b, c, xs.toArray, rfl, hb, h.heap, Nat.le_refl _, hm, by simp [hc], by simp [hc]⟩⟩
end
end Go.V
namespace Go.V
open Go Go.RowKit
set_option linter.unusedSimpArgs false
set_option linter.unusedVariables false
section
variable {P : Program} {n : Nat} {md : Region.Mode} {ops : Array Oper} {tm : Nat → Bool} {w0 : World}

/-- one operation; those of 'tm' leave what was there at the region's start as it was -/
def opB (P : Program) (ops : Array Oper) (tm : Nat → Bool) (w0 : World) (i : Nat) (K : Act → World → Prop) (a : Act) (w : World) : Prop :=
  match ops[i]? with
  | none => K a w
  | some o => if Region.wanted o (yielded ops a.tmps) = true then hwp P a.eval o w (fun v w' => (tm i = true → Below w0.heap.size w w') ∧ K (a.put o.dst v) w') else K (a.put o.dst undef) w
theorem opB_mono {i : Nat} {K K' : Act → World → Prop} {a : Act} {w : World} (h : ∀ a w, K a w → K' a w) (hh : opB P ops tm w0 i K a w) : opB P ops tm w0 i K' a w := by
  unfold opB at *
  split
  · rename_i ho; simp only [ho] at hh; exact h _ _ hh
  · rename_i o ho
    simp only [ho] at hh
    split
    · rename_i hw; rw [if_pos hw] at hh; exact hwp_mono (fun v w' ⟨h1, h2⟩ => ⟨h1, h _ _ h2⟩) hh
    · rename_i hw; rw [if_neg hw] at hh; exact h _ _ hh
def anyB (P : Program) (md : Region.Mode) (ops : Array Oper) (tm : Nat → Bool) (w0 : World) (Q : Act → World → Prop) : Nat → Array Bool → Act → World → Prop
  | 0, listed, a, w => Region.ready md ops listed = [] ∧ Q a w
  | fuel + 1, listed, a, w => (Region.ready md ops listed = [] → Q a w) ∧ ∀ i ∈ Region.ready md ops listed, opB P ops tm w0 i (anyB P md ops tm w0 Q fuel (listed.setIfInBounds i true)) a w
theorem wpAny_of_anyB {Q : Act → World → Prop} {Q' : Exit → Act → World → Prop} (hQ : ∀ a w, Q a w → Q' .normal a w) : ∀ (fuel : Nat) (listed : Array Bool) (a : Act) (w : World), anyB P md ops tm w0 Q fuel listed a w → wpAny P md ops Q' fuel listed a w
  | 0, _, _, _, h => ⟨h.1, hQ _ _ h.2⟩
  | fuel + 1, listed, a, w, h => by
    refine ⟨fun h0 => hQ _ _ (h.1 h0), fun i hi => ?_⟩
    have hi' := h.2 i hi
    unfold opB at hi'
    unfold wpOp
    split
    · rename_i ho; simp only [ho] at hi'; exact wpAny_of_anyB hQ fuel _ _ _ hi'
    · rename_i o ho
      simp only [ho] at hi'
      split
      · rename_i hw
        rw [if_pos hw] at hi'
        exact .inl (wp_of_hwp (hwp_mono (fun v w' ⟨_, h2⟩ => wpAny_of_anyB hQ fuel _ _ _ h2) hi'))
      · rename_i hw; rw [if_neg hw] at hi'; exact wpAny_of_anyB hQ fuel _ _ _ hi'
/-- the operation leaves the value 'v', and reads only what was there at the region's start -/
def YieldsB (P : Program) (ops : Array Oper) (w0 : World) (o : Oper) (v : Value) (a : Act) : Prop :=
  (Region.wanted o (yielded ops a.tmps) = true ∧ tame P (execOp a.eval o) w0 = some (.value v)) ∨ (Region.wanted o (yielded ops a.tmps) = false ∧ v = undef)
theorem YieldsB.opB {i : Nat} {o : Oper} {v : Value} {a : Act} {w : World} (hi : ops[i]? = some o) (hy : YieldsB P ops w0 o v a) (hb : Below w0.heap.size w0 w) {K : Act → World → Prop} (h : K (a.put o.dst v) w) : opB P ops tm w0 i K a w := by
  unfold Go.V.opB
  simp only [hi]
  rcases hy with ⟨hw, hv⟩ | ⟨hw, rfl⟩
  · rw [if_pos hw]
    unfold hwp
    rw [tame_run _ _ _ _ (tame_below P _ hb _ hv)]
    exact ⟨fun _ => Below.refl _ _, h⟩
  · rw [if_neg (by simp [hw])]; exact h
theorem hvI_mono {o : Option Oper} {k : Nat} {g : G} {w : World} {nx nx' : G → World → Prop} (h : ∀ g w, nx g w → nx' g w) (hh : hvI P ops o k nx g w) : hvI P ops o k nx' g w := by
  cases o with
  | none => exact hh
  | some o =>
    simp only [hvI_some, hvX] at hh ⊢
    split at hh
    · rename_i hw; rw [if_pos hw]; exact hwp_mono (fun v w' ⟨a, b⟩ => ⟨a, h _ _ b⟩) hh
    · rename_i hw; rw [if_neg hw]; exact h _ _ hh
theorem YieldsB.put {oi oj : Oper} {v u : Value} {a : Act} (hy : YieldsB P ops w0 oi v a) (hs : ∀ cs b, oi.op ≠ .select cs b) (h3 : ∀ d, oj.dst = some d → d ∉ oi.looksAt ops) :
    YieldsB P ops w0 oi v (a.put oj.dst u) := by
  unfold YieldsB at *
  rw [wanted_put oi a oj.dst u h3, execOp_put oi hs a oj.dst u h3]
  exact hy
theorem opB_put {j : Nat} {oi oj : Oper} {v : Value} (hj : ops[j]? = some oj) (hap : oi.apart ops oj = true) (hsi : ∀ cs b, oi.op ≠ .select cs b) (hsj : ∀ cs b, oj.op ≠ .select cs b) (htm : tm j = true)
    {K : Act → World → Prop} {a : Act} {w : World} (hb : Below w0.heap.size w0 w) (hy : YieldsB P ops w0 oi v a) (h : opB P ops tm w0 j K (a.put oi.dst v) w) :
    opB P ops tm w0 j (fun a' w' => (YieldsB P ops w0 oi v a' ∧ Below w0.heap.size w0 w') ∧ K (a'.put oi.dst v) w') a w := by
  obtain ⟨h1, h2, h3⟩ := Oper.apart_spec hap
  unfold opB at *
  simp only [hj] at *
  rw [wanted_put oj a oi.dst v h1] at h
  split
  · rename_i hw
    rw [if_pos hw] at h
    unfold hwp at h ⊢
    rw [execOp_put oj hsj a oi.dst v h1] at h
    revert h
    generalize (execOp a.eval oj).run P w = r
    intro h
    cases r with
    | ok n w' =>
      cases n <;> first
        | exact h.elim
        | (exact ⟨h.1, ⟨hy.put hsi h3, hb.trans (h.1 htm)⟩, by rw [← Act.put_comm a _ _ h2]; exact h.2⟩)
        | (exact Calls.mono h (fun e w'' ⟨u, he, hk⟩ => ⟨u, he, hk.1, ⟨hy.put hsi h3, hb.trans (hk.1 htm)⟩, by rw [← Act.put_comm a _ _ h2]; exact hk.2⟩))
    | halt x w' => exact h.elim
  · rename_i hw
    rw [if_neg hw] at h
    exact ⟨⟨hy.put hsi h3, hb⟩, by rw [← Act.put_comm a _ _ h2]; exact h⟩
/-- A light operation that may come up now may be taken first. -/
theorem anyB_first {Q : Act → World → Prop} {i : Nat} {oi : Oper} {v : Value} (hi : ops[i]? = some oi) (hsel : ∀ (j : Nat) (o : Oper) cs b, ops[j]? = some o → o.op ≠ .select cs b) (M : List Nat) :
    ∀ (fuel : Nat) (listed : Array Bool) (a : Act) (w : World),
      (∀ j oj, ops[j]? = some oj → j ≠ i → listed.getD j true = false → j ∉ M → oi.apart ops oj = true ∧ tm j = true) →
      (∀ j ∈ M, listed.getD j false = false ∧ ∃ oj e, ops[j]? = some oj ∧ e ∈ oj.after ∧ Region.binds md e = true ∧ (e.on = i ∨ e.on ∈ M)) →
      i ∈ Region.ready md ops listed → YieldsB P ops w0 oi v a → Below w0.heap.size w0 w →
      anyB P md ops tm w0 Q fuel (listed.setIfInBounds i true) (a.put oi.dst v) w → anyB P md ops tm w0 Q (fuel + 1) listed a w := by
  intro fuel
  induction fuel with
  | zero =>
    intro listed a w _ _ hr hy hb H
    refine ⟨fun h => (by rw [h] at hr; cases hr), fun j hj => ?_⟩
    by_cases hji : j = i
    · subst hji; exact hy.opB hi hb H
    · have := ready_mono hj hji
      rw [H.1] at this
      cases this
  | succ fuel ih =>
    intro listed a w hfree hM hr hy hbw H
    refine ⟨fun h => (by rw [h] at hr; cases hr), fun j hj => ?_⟩
    by_cases hji : j = i
    · subst hji; exact hy.opB hi hbw H
    · have h1 := H.2 j (ready_mono hj hji)
      obtain ⟨hjun, oj, hoj, hall⟩ := mem_ready.1 hj
      have hiun : listed.getD i false = false := by
        have h0 := (mem_ready.1 hr).1
        rcases Nat.lt_or_ge i listed.size with h' | h'
        · simp [h'] at h0 ⊢; exact h0
        · simp [Array.getElem?_eq_none h'] at h0
      have hjM : j ∉ M := fun hm => by
        obtain ⟨_, oj', e, ho', he, hb, hon⟩ := hM j hm
        rw [hoj] at ho'
        injection ho' with ho'
        subst ho'
        have hl := hall e he hb
        rcases hon with hon | hon
        · rw [hon, hiun] at hl; cases hl
        · rw [(hM _ hon).1] at hl; cases hl
      obtain ⟨hap, htm⟩ := hfree j oj hoj hji hjun hjM
      have h2 := opB_put hoj hap (fun cs b => hsel i oi cs b hi) (fun cs b => hsel j oj cs b hoj) htm hbw hy h1
      refine opB_mono (fun a' w' h3 => ih (listed.setIfInBounds j true) a' w' ?_ ?_ (ready_mono hr (Ne.symm hji)) h3.1.1 h3.1.2 ?_) h2
      · intro k ok hk hki hun hkM
        refine hfree k ok hk hki ?_ hkM
        by_cases hjk : j = k
        · subst hjk; exact hjun
        · rw [getD_set_ne true hjk] at hun; exact hun
      · intro k hk
        obtain ⟨hk1, hk2⟩ := hM k hk
        refine ⟨?_, hk2⟩
        have hne : j ≠ k := fun e => hjM (e ▸ hk)
        rw [getD_set_ne false hne]; exact hk1
      · rw [Array.setIfInBounds_comm _ _ hji]
        exact h3.2

/-! ### The plan, a tree: light operations, others, and places where several may come up -/
inductive Pl where
  | done
  | li (i : Nat) (r : Pl)
  | hv (i : Nat) (r : Pl)
  | fork (i : Nat) (r o : Pl)
def Pl.len : Pl → Nat
  | .done => 0
  | .li _ r => r.len + 1
  | .hv _ r => r.len + 1
  | .fork _ r _ => r.len + 1
def walkT (P : Program) (ops : Array Oper) (w0 : World) : Pl → G → World → (G → World → Prop) → Prop
  | .done, g, w, K => K g w
  | .li i r, g, w, K => match ops[i]? with
    | none => False
    | some o => (Region.wanted o (yG ops g) = true → lokO P w0 (evG g) o.type o.op) ∧
        walkT P ops w0 r (updO g o.dst (if Region.wanted o (yG ops g) = true then lvO P w0 (evG g) o.type o.op else undef)) w K
  | .hv i r, g, w, K => hvI P ops ops[i]? 1 (fun g' w' => Below w0.heap.size w w' ∧ walkT P ops w0 r g' w' K) g w
  | .fork i r o, g, w, K => hvI P ops ops[i]? 1 (fun g' w' => Below w0.heap.size w w' ∧ walkT P ops w0 r g' w' K) g w ∧ walkT P ops w0 o g w K
def canT (md : Region.Mode) (ops : Array Oper) : Pl → Array Bool → Option (List Nat) → Bool
  | .done, listed, none => (Region.ready md ops listed).isEmpty
  | .li i r, listed, none => (Region.ready md ops listed).contains i && freeB md ops (fun _ => true) i (mustOf md ops i) listed && canT md ops r (listed.setIfInBounds i true) none
  | .hv i r, listed, x => (x.getD (Region.ready md ops listed) == [i]) && canT md ops r (listed.setIfInBounds i true) none
  | .fork i r o, listed, x => (match x.getD (Region.ready md ops listed) with
    | j :: rest => j == i && canT md ops r (listed.setIfInBounds i true) none && canT md ops o listed (some rest) && o.len == r.len + 1
    | [] => false)
  | .done, _, some _ => false
  | .li .., _, some _ => false

theorem hvB_step (hok : opsOk n ops = true) {i fuel : Nat} {r : Pl} {K : G → World → Prop} {Q : Act → World → Prop} {g : G} {a : Act} {w : World} {listed : Array Bool} (hr : Rel n g a)
    (h : hvI P ops ops[i]? 1 (fun g' w' => Below w0.heap.size w w' ∧ walkT P ops w0 r g' w' K) g w) (hb : Below w0.heap.size w0 w)
    (next : ∀ g' a' w', Rel n g' a' → Below w0.heap.size w0 w' → walkT P ops w0 r g' w' K → anyB P md ops tm w0 Q fuel (listed.setIfInBounds i true) a' w') :
    opB P ops tm w0 i (anyB P md ops tm w0 Q fuel (listed.setIfInBounds i true)) a w := by
  unfold opB
  cases ho : ops[i]? with
  | none => simp [ho, hvI] at h
  | some o =>
    simp only [ho, hvI_some, hvX] at h
    simp only []
    have hd := (opsOk_at hok ho).2.1
    rw [wanted_G hr hok o]
    split
    · rename_i hw
      rw [if_pos hw] at h
      unfold hwp at h ⊢
      rw [execOp_G hr hok ho]
      exact hwp_mono (K := fun v w' => (1 = 0 → Below w.heap.size w w') ∧ Below w0.heap.size w w' ∧ walkT P ops w0 r (updO g o.dst v) w' K) (fun v w' ⟨_, h1, h2⟩ => ⟨fun _ => h1, next _ _ _ (hr.put o.dst hd v) (hb.trans h1) h2⟩) h
    · rename_i hw
      rw [if_neg hw] at h
      exact next _ _ _ (hr.put o.dst hd _) hb h.2
theorem anyB_of_walkT (hok : opsOk n ops = true) {K : G → World → Prop} {Q : Act → World → Prop} (hQ : ∀ g a w, Rel n g a → K g w → Q a w) :
    ∀ (p : Pl) (x : Option (List Nat)) (listed : Array Bool) (g : G) (a : Act) (w : World), canT md ops p listed x = true → Rel n g a → Below w0.heap.size w0 w → walkT P ops w0 p g w K →
      (x = none → anyB P md ops (fun _ => true) w0 Q p.len listed a w) ∧ (∀ l f, x = some l → p.len = f + 1 → ∀ i ∈ l, opB P ops (fun _ => true) w0 i (anyB P md ops (fun _ => true) w0 Q f (listed.setIfInBounds i true)) a w)
  | .done, none, listed, g, a, w, hB, hr, hb, h => ⟨fun _ => ⟨by simpa [canT] using hB, hQ _ _ _ hr h⟩, fun l f e => by cases e⟩
  | .done, some _, _, _, _, _, hB, _, _, _ => by simp [canT] at hB
  | .li _ _, some _, _, _, _, _, hB, _, _, _ => by simp [canT] at hB
  | .li i r, none, listed, g, a, w, hB, hr, hb, h => by
    refine ⟨fun _ => ?_, fun l f e => by cases e⟩
    simp only [canT, Bool.and_eq_true] at hB
    obtain ⟨⟨hrd, hf⟩, hB'⟩ := hB
    simp only [walkT] at h
    cases ho : ops[i]? with
    | none => simp [ho] at h
    | some o =>
      simp only [ho] at h
      obtain ⟨h1, h2⟩ := h
      have hd := (opsOk_at hok ho).2.1
      obtain ⟨f1, f2⟩ := freeB_spec ho hf
      refine anyB_first (v := if Region.wanted o (yG ops g) = true then lvO P w0 (evG g) o.type o.op else undef) ho (fun j o cs b hj => (opsOk_at hok hj).2.2 cs b) _ r.len listed a w f1 f2 (by simpa using hrd) ?_ hb ?_
      · unfold YieldsB
        rw [wanted_G hr hok o, execOp_G hr hok ho]
        cases hw : Region.wanted o (yG ops g)
        · exact .inr ⟨rfl, by simp⟩
        · exact .inl ⟨rfl, by rw [if_pos rfl]; exact lok_exec (h1 hw)⟩
      · exact (anyB_of_walkT hok hQ r none _ _ _ w hB' (hr.put o.dst hd _) hb h2).1 rfl
  | .hv i r, x, listed, g, a, w, hB, hr, hb, h => by
    simp only [canT, Bool.and_eq_true, beq_iff_eq] at hB
    obtain ⟨hrd, hB'⟩ := hB
    have key : opB P ops (fun _ => true) w0 i (anyB P md ops (fun _ => true) w0 Q r.len (listed.setIfInBounds i true)) a w :=
      hvB_step hok hr h hb (fun g' a' w' hr' hb' hw' => (anyB_of_walkT hok hQ r none _ g' a' w' hB' hr' hb' hw').1 rfl)
    refine ⟨fun e => ?_, fun l f e hf j hj => ?_⟩
    · subst e
      have hrd' : Region.ready md ops listed = [i] := hrd
      refine ⟨fun h0 => (by rw [hrd'] at h0; cases h0), fun j hj => ?_⟩
      rw [hrd'] at hj
      have hji : j = i := by simpa using hj
      subst hji
      exact key
    · subst e
      have hrd' : l = [i] := hrd
      rw [hrd'] at hj
      have hji : j = i := by simpa using hj
      subst hji
      have : f = r.len := by simp [Pl.len] at hf; omega
      rw [this]; exact key
  | .fork i r o, x, listed, g, a, w, hB, hr, hb, h => by
    simp only [canT] at hB
    split at hB
    · rename_i j0 rest hrd
      simp only [Bool.and_eq_true, beq_iff_eq] at hB
      obtain ⟨⟨⟨hji, hB'⟩, hBo⟩, hlen⟩ := hB
      subst hji
      have key : opB P ops (fun _ => true) w0 j0 (anyB P md ops (fun _ => true) w0 Q r.len (listed.setIfInBounds j0 true)) a w :=
        hvB_step hok hr h.1 hb (fun g' a' w' hr' hb' hw' => (anyB_of_walkT hok hQ r none _ g' a' w' hB' hr' hb' hw').1 rfl)
      have others := (anyB_of_walkT hok hQ o (some rest) listed g a w hBo hr hb h.2).2 rest r.len rfl hlen
      refine ⟨fun e => ?_, fun l f e hf j hj => ?_⟩
      · subst e
        have hrd' : Region.ready md ops listed = j0 :: rest := hrd
        refine ⟨fun h0 => (by rw [hrd'] at h0; cases h0), fun j hj => ?_⟩
        rw [hrd'] at hj
        rcases List.mem_cons.1 hj with rfl | hj
        · exact key
        · exact others j hj
      · subst e
        have hrd' : l = j0 :: rest := hrd
        rw [hrd'] at hj
        have : f = r.len := by simp [Pl.len] at hf; omega
        rw [this]
        rcases List.mem_cons.1 hj with rfl | hj
        · exact key
        · exact others j hj
    · cases hB
def drawOkT (n : Nat) (ops : Array Oper) (p : Pl) : Bool :=
  opsOk n ops && p.len == ops.size && canT .any ops p (Array.replicate ops.size false) none
theorem walkT_mono {K K' : G → World → Prop} (h : ∀ g w, K g w → K' g w) : ∀ (p : Pl) (g : G) (w : World), walkT P ops w0 p g w K → walkT P ops w0 p g w K'
  | .done, g, w, hk => h g w hk
  | .li i r, g, w, hk => by
    simp only [walkT] at hk ⊢
    cases ho : ops[i]? with
    | none => simp [ho] at hk
    | some o => simp only [ho] at hk ⊢; exact ⟨hk.1, walkT_mono h r _ _ hk.2⟩
  | .hv i r, g, w, hk => by
    simp only [walkT] at hk ⊢
    exact hvI_mono (fun g w h' => ⟨h'.1, walkT_mono h r _ _ h'.2⟩) hk
  | .fork i r o, g, w, hk => by
    simp only [walkT] at hk ⊢
    exact ⟨hvI_mono (fun g w h' => ⟨h'.1, walkT_mono h r _ _ h'.2⟩) hk.1, walkT_mono h o _ _ hk.2⟩
theorem W_drawT (p : Pl) {id : Nat} {ops : Array Oper} {Q : Exit → G → World → Prop} {g : G} {w : World} (hm : P.follows .mixedOrders = true) (hB : drawOkT n ops p = true)
    (h : ∀ K : G → World → Prop, (∀ g w, Q .normal g w → K g w) → walkT P ops w.drew p g w.drew K) : W P n (.region id ops true) Q g w := by
  simp only [drawOkT, Bool.and_eq_true, beq_iff_eq] at hB
  obtain ⟨⟨hok, hl⟩, hB⟩ := hB
  intro a hr
  refine wp_region_any hm ?_
  have hw := h _ (fun _ _ h => h)
  have hany := (anyB_of_walkT hok (Q := fun a w => ∃ g', Rel n g' a ∧ Q .normal g' w) (fun g a w hr hk => ⟨g, hr, hk⟩) p none _ g a _ hB hr (Below.refl _ _) hw).1 rfl
  rw [hl] at hany
  exact wpAny_of_anyB (fun a w h => h) _ _ _ _ hany
/-- a region that draws its order, and what holds behind it said -/
theorem W_rdTJ (J : G → World → Prop) (p : Pl) {id : Nat} {ops : Array Oper} {y : Code} {Q : Exit → G → World → Prop} {g : G} {w : World} (hm : P.follows .mixedOrders = true) (hB : drawOkT n ops p = true)
    (h1 : ∀ w0, w0 = w.drew → walkT P ops w0 p g w0 J) (h2 : ∀ g w, J g w → W P n y Q g w) : W P n (.seq (.region id ops true) y) Q g w :=
  W_seq (fun K1 hk => W_drawT p hm hB (fun K2 hk2 => walkT_mono (fun g w hj => hk2 g w (hk g w (h2 g w hj))) _ _ _ (h1 _ rfl)))

/-! the equations -/
section
variable {g : G} {w : World} {K : G → World → Prop} {r o : Pl} {i : Nat}
def nxT (P : Program) (ops : Array Oper) (w0 w : World) (r : Pl) (K : G → World → Prop) : G → World → Prop := fun g' w' => Below w0.heap.size w w' ∧ walkT P ops w0 r g' w' K
theorem nxT_intro {g' : G} {w' : World} (h1 : Below w0.heap.size w w') (h2 : walkT P ops w0 r g' w' K) : nxT P ops w0 w r K g' w' := ⟨h1, h2⟩
@[go_sem] theorem walkT_done : walkT P ops w0 .done g w K = K g w := rfl
def lightT (P : Program) (ops : Array Oper) (w0 : World) (o : Option Oper) (r : Pl) (g : G) (w : World) (K : G → World → Prop) : Prop := match o with
  | none => False
  | some ⟨d, op, ty, _, _, none⟩ => lokO P w0 (evG g) ty op ∧ walkT P ops w0 r (updO g d (lvO P w0 (evG g) ty op)) w K
  | some ⟨d, op, ty, _, _, some (j, b)⟩ => (gw (dstOf ops[j]?) g b = true → lokO P w0 (evG g) ty op) ∧
      walkT P ops w0 r (updO g d (if gw (dstOf ops[j]?) g b = true then lvO P w0 (evG g) ty op else undef)) w K
theorem walkT_li' (o : Option Oper) (h : ops[i]? = o) : walkT P ops w0 (.li i r) g w K = lightT P ops w0 o r g w K := by
  subst h
  simp only [walkT]
  cases ops[i]? with
  | none => rfl
  | some o =>
    obtain ⟨d, op, ty, pos, af, gd⟩ := o
    cases gd with
    | none => simp [lightT, Region.wanted]
    | some jb =>
      obtain ⟨j, b⟩ := jb
      have e : Region.wanted ⟨d, op, ty, pos, af, some (j, b)⟩ (yG ops g) = gw (dstOf ops[j]?) g b := want_eq j b
      simp only [e, lightT]
@[go_sem] theorem walkT_li : walkT P ops w0 (.li i r) g w K = lightT P ops w0 (ops[i]?) r g w K := walkT_li' _ rfl
@[go_sem] theorem lightT_plain (d : Option Nat) (op : Op) (ty : TypeId) (pos : String) (af : Array Edge) :
    lightT P ops w0 (some ⟨d, op, ty, pos, af, none⟩) r g w K = (lokO P w0 (evG g) ty op ∧ walkT P ops w0 r (updO g d (lvO P w0 (evG g) ty op)) w K) := rfl
@[go_sem] theorem lightT_guard (d : Option Nat) (op : Op) (ty : TypeId) (pos : String) (af : Array Edge) (j : Nat) (b : Bool) :
    lightT P ops w0 (some ⟨d, op, ty, pos, af, some (j, b)⟩) r g w K = ((gw (dstOf ops[j]?) g b = true → lokO P w0 (evG g) ty op) ∧
      walkT P ops w0 r (updO g d (if gw (dstOf ops[j]?) g b = true then lvO P w0 (evG g) ty op else undef)) w K) := rfl
@[go_sem] theorem walkT_hv : walkT P ops w0 (.hv i r) g w K = hvI P ops ops[i]? 1 (nxT P ops w0 w r K) g w := rfl
@[go_sem] theorem walkT_fork : walkT P ops w0 (.fork i r o) g w K = (hvI P ops ops[i]? 1 (nxT P ops w0 w r K) g w ∧ walkT P ops w0 o g w K) := rfl
end
end
end Go.V
namespace Go.V
open Go Go.RowKit
set_option linter.unusedSimpArgs false
set_option linter.unusedVariables false
/-- whether two pointers are equal, where that can be told at once -/
def ptrEq : Value → Value → Option Bool
  | .pointer none, .pointer q => some q.isNone
  | .pointer (some _), .pointer none => some false
  | .pointer (some a), .pointer (some b) => if a.block = b.block then some (decide (a = b)) else none
  | _, _ => none
@[go_sem] theorem ptrEq_nn (q : Option Addr) : ptrEq (.pointer none) (.pointer q) = some q.isNone := rfl
@[go_sem] theorem ptrEq_sn (a : Addr) : ptrEq (.pointer (some a)) (.pointer none) = some false := rfl
@[go_sem] theorem ptrEq_ss (a : Addr) : ptrEq (.pointer (some a)) (.pointer (some a)) = some true := by simp [ptrEq]
def eqPtrT (P : Program) (t : TypeId) : Bool := match P.underlying t with
  | some (.pointer e) => match P.info? e with
    | some i => decide (i.size ≠ 0)
    | none => false
  | _ => false
section
variable {P : Program} {w : World} {ev : Operand → Value} {ty : TypeId} {x y : Operand} {t u : TypeId}
@[go_sem] theorem binC_ptr (o : BinOp) (p q : Option Addr) : binC P o t (.pointer p) (.pointer q) = none := by cases o <;> rfl
theorem tame_ptrEq {d : Nat} {v v' : Value} {b : Bool} (hT : eqPtrT P t = true) (h : ptrEq v v' = some b) : tame P (Op.equalIn (d + 1) t v v') w = some b := by
  unfold eqPtrT at hT
  split at hT
  case h_2 => cases hT
  rename_i e he
  split at hT
  case h_2 => cases hT
  rename_i i hi
  have hsz : i.size ≠ 0 := by simpa using hT
  unfold ptrEq at h
  split at h
  · rename_i q
    cases q <;> simp [Op.equalIn, tame_bind', tame_underlying he, tame_pure] at h ⊢ <;> exact h
  · injection h with h
    subst h
    simp [Op.equalIn, tame_bind', tame_underlying he, tame_pure]
  · rename_i a c
    split at h
    · rename_i hb
      injection h with h
      have hs : tame P (sameAddr a c) w = some (decide (a = c)) := by
        unfold sameAddr
        simp only [hb, beq_self_eq_true, if_true]
        show some (a == c) = _
        by_cases hac : a = c <;> simp [hac]
      simp [Op.equalIn, tame_bind', tame_underlying he, tame_sizeOf hi, hsz, hs, h]
    · cases h
  · cases h
theorem run_ptrEq {b : Bool} (hT : eqPtrT P t = true) (h : ptrEq (ev x) (ev y) = some b) : run1 P w ev ty (.binOp .eql t x y u) = some (.value (.bool b)) ∧ run1 P w ev ty (.binOp .neq t x y u) = some (.value (.bool !b)) := by
  have e1 : tame P (Op.equal t (ev x) (ev y)) w = some b := tame_ptrEq (d := 9999) hT h
  have hg : ∀ o, tame P (eqGuard o t x y (ev x) (ev y)) w = some () := by
    intro o
    unfold eqGuard
    unfold ptrEq at h
    split at h <;> first | cases h | skip
    all_goals (rename_i h1 h2; try rw [h1, h2]; split <;> simp [tame_pure, tame_spure, tame_bind'])
  constructor
  · simp only [run1, execOp]
    simp only [tame_bind', tame_map, tame_pure, hg, Option.bind_some]
    generalize ev x = vx at *
    generalize ev y = vy at *
    unfold ptrEq at h
    split at h <;> first | cases h | skip
    all_goals simp [Go.binOp, tame_bind', tame_map, tame_pure, e1]
  · simp only [run1, execOp]
    simp only [tame_bind', tame_map, tame_pure, hg, Option.bind_some]
    generalize ev x = vx at *
    generalize ev y = vy at *
    unfold ptrEq at h
    split at h <;> first | cases h | skip
    all_goals simp [Go.binOp, tame_bind', tame_map, tame_pure, e1]
def someB : Option Bool → Bool
  | some b => b
  | none => false
@[go_sem] theorem someB_some (b : Bool) : someB (some b) = b := rfl
@[go_sem] theorem any_eqp_v (hT : eqPtrT P t = true) (h : (ptrEq (ev x) (ev y)).isSome = true) : anyV P w ev ty (.binOp .eql t x y u) = .bool (someB (ptrEq (ev x) (ev y))) := by
  obtain ⟨b, hb⟩ := Option.isSome_iff_exists.1 h
  simp [anyV, (run_ptrEq (w := w) (ty := ty) (u := u) hT hb).1, hb, someB]
@[go_sem] theorem any_eqp_ok (hT : eqPtrT P t = true) (h : (ptrEq (ev x) (ev y)).isSome = true) : anyOk P w ev ty (.binOp .eql t x y u) = True := by
  obtain ⟨b, hb⟩ := Option.isSome_iff_exists.1 h
  exact eq_true ⟨_, (run_ptrEq (w := w) (ty := ty) (u := u) hT hb).1⟩
@[go_sem] theorem any_nep_v (hT : eqPtrT P t = true) (h : (ptrEq (ev x) (ev y)).isSome = true) : anyV P w ev ty (.binOp .neq t x y u) = .bool (!someB (ptrEq (ev x) (ev y))) := by
  obtain ⟨b, hb⟩ := Option.isSome_iff_exists.1 h
  simp [anyV, (run_ptrEq (w := w) (ty := ty) (u := u) hT hb).2, hb, someB]
@[go_sem] theorem any_nep_ok (hT : eqPtrT P t = true) (h : (ptrEq (ev x) (ev y)).isSome = true) : anyOk P w ev ty (.binOp .neq t x y u) = True := by
  obtain ⟨b, hb⟩ := Option.isSome_iff_exists.1 h
  exact eq_true ⟨_, (run_ptrEq (w := w) (ty := ty) (u := u) hT hb).2⟩
end
section
variable {P : Program} {n : Nat} {ops : Array Oper} {g : G} {w : World} {nx : G → World → Prop} {k : Nat} {o : Oper}
/-- a conversion whose run is known -/
theorem hv_conv {s d : TypeId} {x : Operand} {v : Value} {w' : World} (hw : wantO ops g o = true) (ho : o.op = .convert s d x) (hr : (convert s d (evG g x)).run P w = .ok v w') (hb : k = 0 → Below w.heap.size w w') (h : nx (updO g o.dst v) w') : hvX P ops o k nx g w := by
  refine hv_run hw (v := v) (w' := w') ?_ hb h
  unfold execOp
  simp only [ho, Sem.run_bind, hr, Result.andThen_ok, Sem.run_pure]
/-- a call of a function without a body -/
theorem hv_ext {f : FuncId} {fn : Func} {e : Array Value → Sem Value} {args : Array Operand} {ts : Array TypeId} {v : Value} (hw : wantO ops g o = true) (hop : o.op = .call { callee := .value (.func f), args := args, argTypes := ts })
    (hf : P.funcs[f]? = some fn) (hname : (fn.name == "runtime.NumGoroutine") = false) (hb : fn.body.isNone = true) (hn : Extern.findNext fn = none) (he : Extern.find fn = some e)
    (hv : (e (args.map (evG g))).run P w = .ok v w) (h : nx (updO g o.dst v) w) : hvX P ops o k nx g w := by
  refine hv_run hw (v := v) (w' := w) ?_ (fun _ => Below.refl _ _) h
  unfold execOp
  simp only [hop, resolve, Deferred.ofValue, evG, Sem.run_bind, Sem.run_pure, Result.andThen_ok, invoke, Array.append_empty, Array.empty_append]
  rw [run_callFunc_extern hf hname hb hn he, hv]
  rfl
end
end Go.V
namespace Go.V
open Go Go.RowKit
set_option linter.unusedSimpArgs false
set_option linter.unusedVariables false
/-- what lies in a struct's cells at a field's place -/
def fldW (o : Option Nat) (cs : Array Value) (off : Nat) : Option Value := match o with
  | none => cs[off]?
  | some n => some (.agg ((cs.toList.drop off).take n).toArray)
def fldV (P : Program) (o : Option (TypeId × Nat)) (v : Value) : Option Value := match o, v with
  | some p, .agg cs => if (P.underlying p.1).isSome = true then fldW (aggT P p.1) cs p.2 else none
  | _, _ => none
def valOr : Option Value → Value
  | some v => v
  | none => undef
@[go_sem] theorem valOr_some (v : Value) : valOr (some v) = v := rfl
theorem ext_list (cs : Array Value) (o n : Nat) : cs.extract o (o + n) = ((cs.toList.drop o).take n).toArray := by
  apply Array.ext'
  simp [Array.toList_extract, List.extract_eq_take_drop]
section
variable {P : Program} {w : World} {ev : Operand → Value} {ty : TypeId} {x : Operand} {t : TypeId} {f : Nat}
@[go_sem] theorem fldW_none (cs : Array Value) (off : Nat) : fldW none cs off = cs[off]? := rfl
@[go_sem] theorem fldW_some (n : Nat) (cs : Array Value) (off : Nat) : fldW (some n) cs off = some (.agg ((cs.toList.drop off).take n).toArray) := rfl
@[go_sem] theorem fldV_some (ft off : Nat) (cs : Array Value) : fldV P (some (ft, off)) (.agg cs) = if (P.underlying ft).isSome = true then fldW (aggT P ft) cs off else none := rfl
@[go_sem] theorem lc_field : lc P w ev (.field t x f) = none := rfl
theorem run_field {v : Value} (h : fldV P (fldO P t f) (ev x) = some v) : run1 P w ev ty (.field t x f) = some (.value v) := by
  unfold fldO at h
  cases hu : P.underlying t with
  | none => simp [hu, fldV] at h
  | some d =>
    cases d <;> simp only [hu] at h <;> first
      | (simp [fldV] at h; done)
      | skip
    rename_i fs
    cases hf : fs[f]? with
    | none => simp [hf, fldV] at h
    | some fd =>
      simp only [hf] at h
      cases hi : P.info? fd.type with
      | none => simp [hi, fldV] at h
      | some i =>
        simp only [hi] at h
        split at h
        · simp [fldV] at h
        · cases hx : ev x with
          | agg cs =>
            simp only [hx, fldV] at h
            simp only [run1, execOp, Instr.field]
            simp only [tame_bind', tame_map, tame_underlying hu, Option.bind_some, hf, hx, asAgg, tame_pure, part]
            cases hu2 : P.underlying fd.type with
            | none => simp [hu2] at h
            | some d2 =>
              simp only [tame_isAgg hu2, Option.bind_some]
              rw [if_pos (by rw [hu2]; rfl)] at h
              unfold aggT at h
              simp only [hu2, hi] at h
              cases d2 <;> simp_all [fldW, tame_pure, tame_bind', tame_sizeOf hi, tame_map, ext_list]
          | _ => simp [hx, fldV] at h
@[go_sem] theorem any_field_v (h : (fldV P (fldO P t f) (ev x)).isSome = true) : anyV P w ev ty (.field t x f) = valOr (fldV P (fldO P t f) (ev x)) := by
  obtain ⟨v, hv⟩ := Option.isSome_iff_exists.1 h
  simp [anyV, run_field (w := w) (ty := ty) hv, hv, valOr]
@[go_sem] theorem any_field_ok (h : (fldV P (fldO P t f) (ev x)).isSome = true) : anyOk P w ev ty (.field t x f) = True := by
  obtain ⟨v, hv⟩ := Option.isSome_iff_exists.1 h
  exact eq_true ⟨_, run_field (w := w) (ty := ty) hv⟩
end
end Go.V
