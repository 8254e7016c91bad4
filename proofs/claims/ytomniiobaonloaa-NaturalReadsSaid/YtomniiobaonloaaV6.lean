/- The machinery of the walks, sixth part: the equations by which a plan is reckoned. -/
import Derived.Test.YtomniiobaonloaaV5
import Derived.IntWalk
namespace Go.V
open Go Go.RowKit
set_option linter.unusedSimpArgs false
set_option linter.unusedVariables false
section
variable {P : Program} {n : Nat} {ops : Array Oper} {g : G} {w : World} {K : G → World → Prop} {rest : List (Nat × Nat)} {i k : Nat}

/-- what stands behind an operation, kept shut -/
def nxW (P : Program) (ops : Array Oper) (rest : List (Nat × Nat)) (K : G → World → Prop) : G → World → Prop := fun g w => walk P ops rest g w K
def nxL (P : Program) (ops : Array Oper) (rest : List Oper) (K : G → World → Prop) : G → World → Prop := fun g w => walkL P ops rest g w K
@[go_sem] theorem nxW_eq : nxW P ops rest K g w = walk P ops rest g w K := rfl
@[go_sem] theorem nxL_eq (rest : List Oper) : nxL P ops rest K g w = walkL P ops rest g w K := rfl
/-- an operation that is no light one -/
def hvX (P : Program) (ops : Array Oper) (o : Oper) (k : Nat) (nx : G → World → Prop) (g : G) (w : World) : Prop :=
  if Region.wanted o (yG ops g) = true then hwp P (evG g) o w (fun v w' => (k = 0 → Below w.heap.size w w') ∧ nx (updO g o.dst v) w') else nx (updO g o.dst undef) w
def hvI (P : Program) (ops : Array Oper) (o : Option Oper) (k : Nat) (nx : G → World → Prop) (g : G) (w : World) : Prop := match o with
  | none => False
  | some o => hvX P ops o k nx g w

def optB : Value → Option Bool
  | .bool b => some b
  | _ => none
def wantV (v : Value) (b : Bool) : Bool := optB v == some b
@[go_sem] theorem wantV_true (x : Bool) : wantV (.bool x) true = x := by cases x <;> rfl
@[go_sem] theorem wantV_false (x : Bool) : wantV (.bool x) false = !x := by cases x <;> rfl
@[go_sem] theorem wantV_undef (b : Bool) : wantV undef b = false := rfl
def gSlot (ops : Array Oper) (j : Nat) : Nat := ((ops[j]?).bind (·.dst)).getD 0

/-- one light operation -/
def lightAt (P : Program) (ops : Array Oper) (o : Option Oper) (rest : List (Nat × Nat)) (g : G) (w : World) (K : G → World → Prop) : Prop := match o with
  | none => False
  | some ⟨d, op, ty, _, _, none⟩ => lokO P w (evG g) ty op ∧ walk P ops rest (updO g d (lvO P w (evG g) ty op)) w K
  | some ⟨d, op, ty, _, _, some (j, b)⟩ => (Region.wanted ⟨d, op, ty, "", #[], some (j, b)⟩ (yG ops g) = true → lokO P w (evG g) ty op) ∧
      walk P ops rest (updO g d (if Region.wanted ⟨d, op, ty, "", #[], some (j, b)⟩ (yG ops g) = true then lvO P w (evG g) ty op else undef)) w K

@[go_sem] theorem walk_nil : walk P ops [] g w K = K g w := rfl
theorem walk_light' (o : Option Oper) (h : ops[i]? = o) : walk P ops ((i, 0) :: rest) g w K = lightAt P ops o rest g w K := by
  subst h
  simp only [walk]
  cases ops[i]? with
  | none => rfl
  | some o =>
    obtain ⟨d, op, ty, pos, af, gd⟩ := o
    cases gd with
    | none => simp [lightAt, Region.wanted]
    | some jb => obtain ⟨j, b⟩ := jb; rfl
@[go_sem] theorem walk_light : walk P ops ((i, 0) :: rest) g w K = lightAt P ops (ops[i]?) rest g w K := walk_light' _ rfl
theorem walk_heavy : walk P ops ((i, k + 1) :: rest) g w K = hvI P ops (ops[i]?) k (nxW P ops rest K) g w := by
  simp only [walk]
  cases ops[i]? <;> rfl
@[go_sem] theorem walk_heavy1 : walk P ops ((i, 1) :: rest) g w K = hvI P ops (ops[i]?) 0 (nxW P ops rest K) g w := walk_heavy
@[go_sem] theorem walk_heavy2 : walk P ops ((i, 2) :: rest) g w K = hvI P ops (ops[i]?) 1 (nxW P ops rest K) g w := walk_heavy
@[go_sem] theorem hvI_some (o : Oper) (nx : G → World → Prop) : hvI P ops (some o) k nx g w = hvX P ops o k nx g w := rfl
@[go_sem] theorem lightAt_plain (d : Option Nat) (op : Op) (ty : TypeId) (pos : String) (af : Array Edge) :
    lightAt P ops (some ⟨d, op, ty, pos, af, none⟩) rest g w K = (lokO P w (evG g) ty op ∧ walk P ops rest (updO g d (lvO P w (evG g) ty op)) w K) := rfl
/-- what a guard's slot says -/
def gw (d : Option Nat) (g : G) (b : Bool) : Bool := match d with
  | some d => wantV (g d) b
  | none => false
@[go_sem] theorem gw_some (d : Nat) (g : G) (b : Bool) : gw (some d) g b = wantV (g d) b := rfl
def dstOf : Option Oper → Option Nat
  | some o => o.dst
  | none => none
@[go_sem] theorem dstOf_some (d : Option Nat) (op : Op) (ty : TypeId) (pos : String) (af : Array Edge) (gd : Option (Nat × Bool)) : dstOf (some ⟨d, op, ty, pos, af, gd⟩) = d := rfl
theorem want_eq (j : Nat) (b : Bool) : (yG ops g j == some b) = gw (dstOf ops[j]?) g b := by
  unfold yG gw wantV optB dstOf
  cases ops[j]? with
  | none => cases b <;> rfl
  | some o =>
    simp only [Option.bind_some]
    cases o.dst with
    | none => cases b <;> rfl
    | some d => rfl
@[go_sem] theorem lightAt_guard (d : Option Nat) (op : Op) (ty : TypeId) (pos : String) (af : Array Edge) (j : Nat) (b : Bool) :
    lightAt P ops (some ⟨d, op, ty, pos, af, some (j, b)⟩) rest g w K = ((gw (dstOf ops[j]?) g b = true → lokO P w (evG g) ty op) ∧
      walk P ops rest (updO g d (if gw (dstOf ops[j]?) g b = true then lvO P w (evG g) ty op else undef)) w K) := by
  rw [← want_eq]; rfl

/-- one light operation, in the order of the text -/
@[go_sem] theorem walkL_nil : walkL P ops [] g w K = K g w := rfl
def stepL (P : Program) (ops : Array Oper) (hv : Bool) (o : Oper) (rest : List Oper) (g : G) (w : World) (K : G → World → Prop) : Prop := match hv with
  | true => hvX P ops o 1 (nxL P ops rest K) g w
  | false => match o with
    | ⟨d, op, ty, _, _, none⟩ => lokO P w (evG g) ty op ∧ walkL P ops rest (updO g d (lvO P w (evG g) ty op)) w K
    | ⟨d, op, ty, _, _, some (j, b)⟩ => (gw (dstOf ops[j]?) g b = true → lokO P w (evG g) ty op) ∧ walkL P ops rest (updO g d (if gw (dstOf ops[j]?) g b = true then lvO P w (evG g) ty op else undef)) w K
@[go_sem] theorem walkL_cons (o : Oper) (rest : List Oper) : walkL P ops (o :: rest) g w K = stepL P ops (heavyO P o.op) o rest g w K := by
  unfold stepL
  simp only [walkL]
  cases heavyO P o.op with
  | true => rfl
  | false =>
    obtain ⟨d, op, ty, pos, af, gd⟩ := o
    cases gd with
    | none => simp [Region.wanted]
    | some jb =>
      obtain ⟨j, b⟩ := jb
      have e : Region.wanted ⟨d, op, ty, pos, af, some (j, b)⟩ (yG ops g) = gw (dstOf ops[j]?) g b := want_eq j b
      simp only [e, Bool.false_eq_true, if_false]
@[go_sem] theorem stepL_heavy (o : Oper) (rest : List Oper) : stepL P ops true o rest g w K = hvX P ops o 1 (nxL P ops rest K) g w := rfl
@[go_sem] theorem stepL_plain (d : Option Nat) (op : Op) (ty : TypeId) (pos : String) (af : Array Edge) (rest : List Oper) :
    stepL P ops false ⟨d, op, ty, pos, af, none⟩ rest g w K = (lokO P w (evG g) ty op ∧ walkL P ops rest (updO g d (lvO P w (evG g) ty op)) w K) := rfl
@[go_sem] theorem stepL_guard (d : Option Nat) (op : Op) (ty : TypeId) (pos : String) (af : Array Edge) (j : Nat) (b : Bool) (rest : List Oper) :
    stepL P ops false ⟨d, op, ty, pos, af, some (j, b)⟩ rest g w K = ((gw (dstOf ops[j]?) g b = true → lokO P w (evG g) ty op) ∧ walkL P ops rest (updO g d (if gw (dstOf ops[j]?) g b = true then lvO P w (evG g) ty op else undef)) w K) := rfl
section
variable (x y z : Operand) (t u : TypeId) (o : BinOp) (q : UnOp) (f : Nat) (lo hi mx : Option Operand) (args : Array Operand) (ts : Array TypeId)
@[go_sem] theorem hy_move : heavyO P (.move x) = false := rfl
@[go_sem] theorem hy_assign : heavyO P (.assign x) = false := rfl
@[go_sem] theorem hy_pick : heavyO P (.pick x y z) = false := rfl
@[go_sem] theorem hy_bin : heavyO P (.binOp o t x y u) = false := rfl
@[go_sem] theorem hy_un : heavyO P (.unOp q t x) = false := rfl
@[go_sem] theorem hy_conv : heavyO P (.convert t u x) = ((intK P u).isNone && !(isStr P u && isStr P t)) := rfl
@[go_sem] theorem hy_nil : heavyO P (.nilCheck x) = false := rfl
@[go_sem] theorem hy_slice : heavyO P (.slice t x lo hi mx) = false := rfl
@[go_sem] theorem hy_fa : heavyO P (.fieldAddr t x f) = false := rfl
@[go_sem] theorem hy_f : heavyO P (.field t x f) = false := rfl
@[go_sem] theorem hy_ia : heavyO P (.indexAddr t x y) = false := rfl
@[go_sem] theorem hy_ix : heavyO P (.index t x y) = false := rfl
@[go_sem] theorem hy_load : heavyO P (.load t x) = false := rfl
@[go_sem] theorem hy_ex : heavyO P (.extract x f) = false := rfl
@[go_sem] theorem hy_len : heavyO P (.call { callee := .builtin .len, args := args, argTypes := ts }) = false := rfl
@[go_sem] theorem hy_min : heavyO P (.call { callee := .builtin .min, args := args, argTypes := ts }) = false := rfl
@[go_sem] theorem hy_max : heavyO P (.call { callee := .builtin .max, args := args, argTypes := ts }) = false := rfl
@[go_sem] theorem hy_cap : heavyO P (.call { callee := .builtin .cap, args := args, argTypes := ts }) = false := rfl
@[go_sem] theorem hy_append : heavyO P (.call { callee := .builtin .append, args := args, argTypes := ts }) = true := rfl
@[go_sem] theorem hy_copy : heavyO P (.call { callee := .builtin .copy, args := args, argTypes := ts }) = true := rfl
@[go_sem] theorem hy_call : heavyO P (.call { callee := .value x, args := args, argTypes := ts }) = true := rfl
@[go_sem] theorem hy_alloc : heavyO P (.alloc t) = true := rfl
@[go_sem] theorem hy_box : heavyO P (.box t x) = true := rfl
@[go_sem] theorem hy_store : heavyO P (.store t x y) = true := rfl
@[go_sem] theorem hy_make : heavyO P (.makeSlice t x y) = true := rfl
@[go_sem] theorem hy_range : heavyO P (.range t x) = true := rfl
@[go_sem] theorem hy_next (b : Bool) : heavyO P (.next x b) = true := rfl
@[go_sem] theorem hy_build (ps : Array (Nat × Operand)) : heavyO P (.build t ps) = true := rfl
@[go_sem] theorem hy_buildSlice (ps : Array (Nat × Operand)) : heavyO P (.buildSlice t f ps) = true := rfl
@[go_sem] theorem hy_makeFunc (fn : Fn) (c d : Array Operand) : heavyO P (.makeFunc fn c d) = false := rfl
end

@[go_sem] theorem evG_tmp (t : Nat) : evG g (.tmp t) = g t := rfl
@[go_sem] theorem evG_const (v : Value) : evG g (.const v) = v := rfl
@[go_sem] theorem evG_func (f : FuncId) : evG g (.func f) = .func (.func f) #[] #[] := rfl
@[go_sem] theorem evG_global (i : Nat) : evG g (.global i) = .pointer (some ⟨i, 0, none⟩) := rfl
@[go_sem] theorem updO_some (d : Nat) (v : Value) : updO g (some d) v = upd g d v := rfl
@[go_sem] theorem updO_none (v : Value) : updO g none v = g := rfl
@[go_sem] theorem argG_0 (v : Value) (r : List Value) : argG (v :: r) 0 = v := rfl
@[go_sem] theorem argG_s (v : Value) (r : List Value) (s : Nat) : argG (v :: r) (s + 1) = argG r s := rfl
attribute [go_sem] upd_apply bv_bool isB_bool bv_undef isB_undef
end

/-! ### Kind by kind -/
section
variable {P : Program} {w : World} {ev : Operand → Value} {ty : TypeId}
def outV (d : Value) : Option (Value × Prop) → Value
  | some p => p.1
  | none => d
def outOk (d : Prop) : Option (Value × Prop) → Prop
  | some p => p.2
  | none => d
@[go_sem] theorem lvO_eq (op : Op) : lvO P w ev ty op = outV (anyV P w ev ty op) (lc P w ev op) := by unfold lvO outV; split <;> simp_all
@[go_sem] theorem lokO_eq (op : Op) : lokO P w ev ty op = outOk (anyOk P w ev ty op) (lc P w ev op) := by unfold lokO outOk; split <;> simp_all
@[go_sem] theorem outV_some (d : Value) (v : Value) (p : Prop) : outV d (some (v, p)) = v := rfl
@[go_sem] theorem outOk_some (d : Prop) (v : Value) (p : Prop) : outOk d (some (v, p)) = p := rfl
@[go_sem] theorem lc_move (x : Operand) : lc P w ev (.move x) = some (ev x, True) := rfl
@[go_sem] theorem lc_assign (x : Operand) : lc P w ev (.assign x) = some (ev x, True) := rfl
@[go_sem] theorem lc_pick (c a b : Operand) : lc P w ev (.pick c a b) = some (.bool (bif bv (ev c) then bv (ev a) else bv (ev b)), isB (ev c) = true ∧ (bv (ev c) = true → isB (ev a) = true) ∧ (bv (ev c) = false → isB (ev b) = true)) := rfl
@[go_sem] theorem lc_bin (o : BinOp) (t u : TypeId) (x y : Operand) : lc P w ev (.binOp o t x y u) = binC P o t (ev x) (ev y) := rfl
section
variable (t : TypeId) (k k' : IntKind) (a b : Int) (s u : ByteArray) (x y : Bool)
@[go_sem] theorem binC_add : binC P .add t (.int k a) (.int k' b) = some (.int k (k.wrap (a + b)), k = k') := rfl
@[go_sem] theorem binC_sub : binC P .sub t (.int k a) (.int k' b) = some (.int k (k.wrap (a - b)), k = k') := rfl
@[go_sem] theorem binC_mul : binC P .mul t (.int k a) (.int k' b) = some (.int k (k.wrap (a * b)), k = k') := rfl
@[go_sem] theorem binC_quo : binC P .quo t (.int k a) (.int k' b) = some (.int k (k.wrap (a.tdiv b)), k = k' ∧ b ≠ 0) := rfl
@[go_sem] theorem binC_rem : binC P .rem t (.int k a) (.int k' b) = some (.int k (a.tmod b), k = k' ∧ b ≠ 0) := rfl
def andI (k : IntKind) (a b : Int) : Int := k.wrap (BitVec.ofInt k.bits a &&& BitVec.ofInt k.bits b).toNat
def orI (k : IntKind) (a b : Int) : Int := k.wrap (BitVec.ofInt k.bits a ||| BitVec.ofInt k.bits b).toNat
def shlI (k : IntKind) (a b : Int) : Int := k.wrap (a * 2 ^ (min b.toNat k.bits))
def shrI (k : IntKind) (a b : Int) : Int := a.fdiv (2 ^ (min b.toNat k.bits))
@[go_sem] theorem binC_and : binC P .and t (.int k a) (.int k' b) = some (.int k (andI k a b), k = k') := rfl
@[go_sem] theorem binC_or : binC P .or t (.int k a) (.int k' b) = some (.int k (orI k a b), k = k') := rfl
@[go_sem] theorem binC_shl : binC P .shl t (.int k a) (.int k' b) = some (.int k (shlI k a b), 0 ≤ b) := rfl
@[go_sem] theorem binC_shr : binC P .shr t (.int k a) (.int k' b) = some (.int k (shrI k a b), 0 ≤ b) := rfl
@[go_sem] theorem binC_eql : binC P .eql t (.int k a) (.int k' b) = some (.bool (decide (a = b)), k = k') := rfl
@[go_sem] theorem binC_neq : binC P .neq t (.int k a) (.int k' b) = some (.bool (!decide (a = b)), k = k') := rfl
@[go_sem] theorem binC_lss : binC P .lss t (.int k a) (.int k' b) = some (.bool (decide (a < b)), k = k') := rfl
@[go_sem] theorem binC_leq : binC P .leq t (.int k a) (.int k' b) = some (.bool (decide (a ≤ b)), k = k') := rfl
@[go_sem] theorem binC_gtr : binC P .gtr t (.int k a) (.int k' b) = some (.bool (decide (b < a)), k = k') := rfl
@[go_sem] theorem binC_geq : binC P .geq t (.int k a) (.int k' b) = some (.bool (decide (b ≤ a)), k = k') := rfl
@[go_sem] theorem binC_cat : binC P .add t (.string s) (.string u) = some (.string (s ++ u), s.size + u.size ≤ 9223372036854775807) := rfl
@[go_sem] theorem binC_eqs : binC P .eql t (.string s) (.string u) = some (.bool (decide (bs s = bs u)), True) := rfl
@[go_sem] theorem binC_nes : binC P .neq t (.string s) (.string u) = some (.bool (!decide (bs s = bs u)), True) := rfl
@[go_sem] theorem binC_eqb : binC P .eql t (.bool x) (.bool y) = some (.bool (x == y), isBoolT P t = true) := rfl
@[go_sem] theorem binC_neb : binC P .neq t (.bool x) (.bool y) = some (.bool (!(x == y)), isBoolT P t = true) := rfl
end
def unC (o : UnOp) (v : Value) : Option (Value × Prop) := match o, v with
  | .not, .bool b => some (.bool (!b), True)
  | .neg, .int k n => some (.int k (k.wrap (0 - n)), True)
  | _, _ => none
@[go_sem] theorem lc_un (o : UnOp) (t : TypeId) (x : Operand) : lc P w ev (.unOp o t x) = unC o (ev x) := rfl
@[go_sem] theorem unC_not (b : Bool) : unC .not (.bool b) = some (.bool (!b), True) := rfl
@[go_sem] theorem unC_neg (k : IntKind) (n : Int) : unC .neg (.int k n) = some (.int k (k.wrap (0 - n)), True) := rfl
def cvC (P : Program) (s : TypeId) (d : Option IntKind) (v : Value) : Option (Value × Prop) := match d, v with
  | some k, .int _ n => some (.int k (k.wrap n), (P.underlying s).isSome = true)
  | _, _ => none
@[go_sem] theorem lc_convert (s d : TypeId) (x : Operand) : lc P w ev (.convert s d x) = cvC P s (intK P d) (ev x) := rfl
@[go_sem] theorem cvC_int (s : TypeId) (k k' : IntKind) (n : Int) : cvC P s (some k) (.int k' n) = some (.int k (k.wrap n), (P.underlying s).isSome = true) := rfl
def nilC : Value → Option (Value × Prop)
  | .pointer (some a) => some (.pointer (some a), True)
  | _ => none
@[go_sem] theorem lc_nil (x : Operand) : lc P w ev (.nilCheck x) = nilC (ev x) := rfl
@[go_sem] theorem nilC_some (a : Addr) : nilC (.pointer (some a)) = some (.pointer (some a), True) := rfl
def bndV : Value → Nat
  | .int _ n => n.toNat
  | _ => 0
def bndP (top : Nat) : Value → Prop
  | .int _ n => 0 ≤ n ∧ n ≤ top
  | _ => False
@[go_sem] theorem bnd_none (d : Nat) : bnd ev d none = d := rfl
@[go_sem] theorem bnd_some (d : Nat) (x : Operand) : bnd ev d (some x) = bndV (ev x) := rfl
@[go_sem] theorem bndOk_none (d : Nat) : bndOk ev d none = True := rfl
@[go_sem] theorem bndOk_some (d : Nat) (x : Operand) : bndOk ev d (some x) = bndP d (ev x) := rfl
@[go_sem] theorem bndV_int (k : IntKind) (n : Int) : bndV (.int k n) = n.toNat := rfl
@[go_sem] theorem bndP_int (top : Nat) (k : IntKind) (n : Int) : bndP top (.int k n) = (0 ≤ n ∧ n ≤ top) := rfl
def slC (P : Program) (t : TypeId) (ev : Operand → Value) (lo hi : Option Operand) : Value → Option (Value × Prop)
  | .string s => some (.string (s.extract (bnd ev 0 lo) (bnd ev s.size hi)), isStr P t = true ∧ bndOk ev s.size hi ∧ bndOk ev (bnd ev s.size hi) lo)
  | .slice a len cap => some (.slice (if cap = bnd ev 0 lo then a else a.map (·.add (bnd ev 0 lo * (slE P t).getD 0))) (bnd ev len hi - bnd ev 0 lo) (cap - bnd ev 0 lo),
        (slE P t).isSome = true ∧ bndOk ev cap hi ∧ bndOk ev (bnd ev len hi) lo)
  | _ => none
@[go_sem] theorem lc_slice (t : TypeId) (x : Operand) (lo hi : Option Operand) : lc P w ev (.slice t x lo hi none) = slC P t ev lo hi (ev x) := by
  simp only [lc, slC]; cases ev x <;> rfl
@[go_sem] theorem slC_str (t : TypeId) (lo hi : Option Operand) (s : ByteArray) : slC P t ev lo hi (.string s) = some (.string (s.extract (bnd ev 0 lo) (bnd ev s.size hi)), isStr P t = true ∧ bndOk ev s.size hi ∧ bndOk ev (bnd ev s.size hi) lo) := rfl
@[go_sem] theorem slC_sl (t : TypeId) (lo hi : Option Operand) (a : Option Addr) (len cap : Nat) : slC P t ev lo hi (.slice a len cap) = some (.slice (if cap = bnd ev 0 lo then a else a.map (·.add (bnd ev 0 lo * (slE P t).getD 0))) (bnd ev len hi - bnd ev 0 lo) (cap - bnd ev 0 lo),
        (slE P t).isSome = true ∧ bndOk ev cap hi ∧ bndOk ev (bnd ev len hi) lo) := rfl
def faC (o : Option (TypeId × Nat)) (v : Value) : Option (Value × Prop) := match o, v with
  | some o, .pointer (some a) => some (.pointer (some (a.add o.2)), True)
  | _, _ => none
@[go_sem] theorem lc_fieldAddr (t : TypeId) (x : Operand) (f : Nat) : lc P w ev (.fieldAddr t x f) = faC (fldO P t f) (ev x) := rfl
@[go_sem] theorem faC_some (t o : Nat) (a : Addr) : faC (some (t, o)) (.pointer (some a)) = some (.pointer (some (a.add o)), True) := rfl
def iaC (s : Option Nat) (x i : Value) : Option (Value × Prop) := match s, x, i with
  | some size, .slice a len _, .int _ n => some (.pointer (some ((a.getD default).add (n.toNat * size))), 0 ≤ n ∧ n < len ∧ a.isSome = true)
  | _, _, _ => none
@[go_sem] theorem lc_indexAddr (t : TypeId) (x i : Operand) : lc P w ev (.indexAddr t x i) = iaC (slE P t) (ev x) (ev i) := rfl
@[go_sem] theorem iaC_some (size : Nat) (a : Option Addr) (len cap : Nat) (k : IntKind) (n : Int) : iaC (some size) (.slice a len cap) (.int k n) = some (.pointer (some ((a.getD default).add (n.toNat * size))), 0 ≤ n ∧ n < len ∧ a.isSome = true) := rfl
def ixC (P : Program) (t : TypeId) (x i : Value) : Option (Value × Prop) := match x, i with
  | .string s, .int _ n => some (.int .u8 (byteAt s n.toNat).toNat, isStr P t = true ∧ 0 ≤ n ∧ n < s.size)
  | _, _ => none
@[go_sem] theorem lc_index (t : TypeId) (x i : Operand) : lc P w ev (.index t x i) = ixC P t (ev x) (ev i) := rfl
@[go_sem] theorem ixC_str (t : TypeId) (s : ByteArray) (k : IntKind) (n : Int) : ixC P t (.string s) (.int k n) = some (.int .u8 (byteAt s n.toNat).toNat, isStr P t = true ∧ 0 ≤ n ∧ n < s.size) := rfl
def ldC (P : Program) (w : World) (t : TypeId) (o : Option Nat) (v : Value) : Option (Value × Prop) := match o, v with
  | none, .pointer (some a) => some (cellV w a, (w.cell? a).isSome = true)
  | some n, .pointer (some a) => some (.agg (rowV w a 0 n).toArray, (P.underlying t).isSome = true ∧ rowOk w a 0 n)
  | _, _ => none
@[go_sem] theorem lc_load (t : TypeId) (x : Operand) : lc P w ev (.load t x) = ldC P w t (aggT P t) (ev x) := rfl
@[go_sem] theorem ldC_one (t : TypeId) (a : Addr) : ldC P w t none (.pointer (some a)) = some (cellV w a, (w.cell? a).isSome = true) := rfl
@[go_sem] theorem ldC_row (t n : Nat) (a : Addr) : ldC P w t (some n) (.pointer (some a)) = some (.agg (rowV w a 0 n).toArray, (P.underlying t).isSome = true ∧ rowOk w a 0 n) := rfl
def exC (i : Nat) : Value → Option (Value × Prop)
  | .tuple vs => some (vs.getD i undef, i < vs.size)
  | _ => none
@[go_sem] theorem lc_extract (x : Operand) (i : Nat) : lc P w ev (.extract x i) = exC i (ev x) := by
  simp only [lc, exC]; cases ev x <;> rfl
@[go_sem] theorem exC_tuple (i : Nat) (vs : Array Value) : exC i (.tuple vs) = some (vs.getD i undef, i < vs.size) := rfl
def lenC (P : Program) (t : TypeId) : Value → Option (Value × Prop)
  | .string s => some (.int .i64 s.size, isStr P t = true)
  | .slice _ n _ => some (.int .i64 n, (slE P t).isSome = true)
  | _ => none
@[go_sem] theorem lc_len (x : Operand) (t : TypeId) : lc P w ev (.call { callee := .builtin .len, args := #[x], argTypes := #[t] }) = lenC P t (ev x) := by
  simp only [lc, lenC, List.map_cons, List.map_nil]; cases ev x <;> rfl
@[go_sem] theorem lenC_str (t : TypeId) (s : ByteArray) : lenC P t (.string s) = some (.int .i64 s.size, isStr P t = true) := rfl
@[go_sem] theorem lenC_sl (t : TypeId) (a : Option Addr) (n c : Nat) : lenC P t (.slice a n c) = some (.int .i64 n, (slE P t).isSome = true) := rfl
@[go_sem] theorem cellV_eq (a : Addr) : cellV w a = (w.cell? a).getD undef := rfl
end

/-! ### What is no light operation -/
section
variable {P : Program} {n : Nat} {ops : Array Oper} {g : G} {w : World} {nx : G → World → Prop} {k : Nat} {o : Oper}
/-- is the operation wanted? -/
def wantO (ops : Array Oper) (g : G) (o : Oper) : Bool := match o with
  | ⟨_, _, _, _, _, none⟩ => true
  | ⟨_, _, _, _, _, some (j, b)⟩ => gw (dstOf ops[j]?) g b
@[go_sem] theorem wantO_none (d : Option Nat) (op : Op) (ty : TypeId) (pos : String) (af : Array Edge) : wantO ops g ⟨d, op, ty, pos, af, none⟩ = true := rfl
@[go_sem] theorem wantO_some (d : Option Nat) (op : Op) (ty : TypeId) (pos : String) (af : Array Edge) (j : Nat) (b : Bool) : wantO ops g ⟨d, op, ty, pos, af, some (j, b)⟩ = gw (dstOf ops[j]?) g b := rfl
theorem wantO_eq (o : Oper) : Region.wanted o (yG ops g) = wantO ops g o := by
  obtain ⟨d, op, ty, pos, af, gd⟩ := o
  cases gd with
  | none => rfl
  | some jb => obtain ⟨j, b⟩ := jb; exact want_eq j b
theorem thenG_exit {K : G → World → Prop} {Q : Exit → G → World → Prop} {id : Nat} (h : Q (.exit id) g w) : thenG K Q (.exit id) g w := h
theorem thenG_ret {K : G → World → Prop} {Q : Exit → G → World → Prop} (h : Q .ret g w) : thenG K Q .ret g w := h
theorem inBlock_ret {Q : Exit → G → World → Prop} {id : Nat} (h : Q .ret g w) : inBlockG id Q .ret g w := h
theorem inBlock_same {Q : Exit → G → World → Prop} {id : Nat} (h : Q .normal g w) : inBlockG id Q (.exit id) g w := by
  simp only [inBlockG, if_true]; exact h
theorem inBlock_other {Q : Exit → G → World → Prop} {id id' : Nat} (hne : (id' == id) = false) (h : Q (.exit id') g w) : inBlockG id Q (.exit id') g w := by
  have : ¬ id' = id := by simpa using hne
  simp only [inBlockG, if_neg this]; exact h
theorem hv_open (hw : wantO ops g o = true) (h : hwp P (evG g) o w (fun v w' => (k = 0 → Below w.heap.size w w') ∧ nx (updO g o.dst v) w')) : hvX P ops o k nx g w := by
  unfold hvX
  rw [wantO_eq, if_pos hw]
  exact h
/-- an operation that is not wanted -/
theorem hv_skip (hw : wantO ops g o = false) (h : nx (updO g o.dst undef) w) : hvX P ops o k nx g w := by
  unfold hvX
  rw [wantO_eq, if_neg (by simp [hw])]
  exact h
@[go_sem] theorem hvX_skip (hw : wantO ops g o = false) : hvX P ops o k nx g w = nx (updO g o.dst undef) w := by
  unfold hvX
  rw [wantO_eq, if_neg (by simp [hw])]
/-- an operation whose run is known -/
theorem hv_run (hw : wantO ops g o = true) {v : Value} {w' : World} (hr : (execOp (evG g) o).run P w = .ok (.value v) w') (hb : k = 0 → Below w.heap.size w w') (h : nx (updO g o.dst v) w') : hvX P ops o k nx g w := by
  refine hv_open hw ?_
  unfold hwp
  rw [hr]
  exact ⟨hb, h⟩
theorem hv_unit (hw : wantO ops g o = true) {w' : World} (hr : (execOp (evG g) o).run P w = .ok .skip w') (hb : k = 0 → Below w.heap.size w w') (h : nx (updO g o.dst undef) w') : hvX P ops o k nx g w := by
  refine hv_open hw ?_
  unfold hwp
  rw [hr]
  exact ⟨hb, h⟩

/-- a call of a function of the program -/
theorem hv_call (hw : wantO ops g o = true) {f : FuncId} {args : Array Operand} {ts : Array TypeId} (hop : o.op = .call { callee := .value (.func f), args := args, argTypes := ts })
    (hcall : ∀ (args : Array Value) (w : World), (callFunc f args).run P w = .ok (.enter f args) w)
    (h : ∀ R : Value → World → Prop, (∀ v w', nx (updO g o.dst v) w' → R v w') → Calls P f (args.map (evG g)) w (fun e w' => ∃ v, e = .returned v ∧ (k = 0 → Below w.heap.size w w') ∧ R v w')) : hvX P ops o k nx g w := by
  refine hv_open hw ?_
  unfold hwp
  have hr : (execOp (evG g) o).run P w = .ok (.enter f (args.map (evG g))) w := by
    unfold execOp
    simp only [hop, resolve, Deferred.ofValue, evG, Sem.run_bind, Sem.run_pure, Result.andThen_ok, invoke, Array.append_empty, Array.empty_append, hcall]
  rw [hr]
  exact h _ (fun _ _ h => h)
end
end Go.V
