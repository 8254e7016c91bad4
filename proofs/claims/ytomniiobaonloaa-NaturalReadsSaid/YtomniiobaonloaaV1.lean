/- The machinery of the walks, first part: operations that only read, evaluated as a function of the slots; the rules of the code. -/
import Derived.WalkKit
namespace Go.V
open Go Go.RowKit

/-! ### Computations that only read -/

/-- What a computation yields that only reads what is there: 'none' if it does anything else. -/
def tame (P : Program) {α : Type} : Sem α → World → Option α
  | .pure a, _ => some a
  | .load _ a k, w => match w.cell? a with
    | some v => tame P (k v) w
    | none => none
  | .shape r k, w => if r < w.heap.size then tame P (k (w.shape? r)) w else none
  | .frozen a k, w => if a.block < w.heap.size then tame P (k (w.frozen? a)) w else none
  | .getObj r k, w => match w.heap[r]? with
    | some (.cells ..) => none
    | some o => tame P (k o) w
    | none => none
  | .program k, w => tame P (k P) w
  | .mark _ k, w => tame P k w
  | _, _ => none

theorem tame_run (P : Program) {α : Type} (s : Sem α) (w : World) (a : α) (h : tame P s w = some a) : s.run P w = .ok a w := by
  induction s with
  | pure b => simp [tame] at h; subst h; simp
  | load m ad k ih =>
    simp only [tame] at h
    cases hc : w.cell? ad with
    | none => simp [hc] at h
    | some v => simp only [hc] at h; simp only [Sem.run, hc]; exact ih v h
  | shape r k ih =>
    simp only [tame] at h
    split at h
    · simp only [Sem.run]; exact ih _ h
    · cases h
  | frozen ad k ih =>
    simp only [tame] at h
    split at h
    · simp only [Sem.run]; exact ih _ h
    · cases h
  | getObj r k ih =>
    simp only [tame] at h
    split at h
    · cases h
    · rename_i o hne ho
      simp only [Sem.run, ho]
      cases o <;> first | exact absurd rfl (hne _ _ _) | exact ih _ h
    · cases h
  | program k ih => simp only [tame] at h; simp only [Sem.run]; exact ih _ h
  | mark m k ih => simp only [tame] at h; simp only [Sem.run]; exact ih h
  | store m ad v k ih => simp [tame] at h
  | new o k ih => simp [tame] at h
  | freeze ad n k ih => simp [tame] at h
  | setObj r o k ih => simp [tame] at h
  | choose q k ih => simp [tame] at h
  | sys c k ih => simp [tame] at h
  | halt x => simp [tame] at h

theorem cell_below {w w' : World} (hb : Below w.heap.size w w') {a : Addr} {v : Value} (h : w.cell? a = some v) : w'.cell? a = some v := by
  rw [hb.cell (World.block_lt_of_cell? w a h)]; exact h

theorem tame_below (P : Program) {α : Type} (s : Sem α) {w w' : World} (hb : Below w.heap.size w w') (a : α) (h : tame P s w = some a) : tame P s w' = some a := by
  induction s with
  | pure b => simpa [tame] using h
  | load m ad k ih =>
    simp only [tame] at h ⊢
    cases hc : w.cell? ad with
    | none => simp [hc] at h
    | some v => simp only [hc] at h; simp only [cell_below hb hc]; exact ih v h
  | shape r k ih =>
    simp only [tame] at h ⊢
    split at h
    · rename_i hr
      have hs : w'.shape? r = w.shape? r := by unfold World.shape?; rw [hb.block r hr]
      rw [if_pos (Nat.lt_of_lt_of_le hr hb.size), hs]; exact ih _ h
    · cases h
  | frozen ad k ih =>
    simp only [tame] at h ⊢
    split at h
    · rename_i hr
      rw [if_pos (Nat.lt_of_lt_of_le hr hb.size), hb.frozen hr]; exact ih _ h
    · cases h
  | getObj r k ih =>
    simp only [tame] at h ⊢
    split at h
    · cases h
    · rename_i o hne ho
      have hr : r < w.heap.size := (Array.getElem?_eq_some_iff.1 ho).1
      rw [hb.block r hr, ho]
      cases o <;> first | exact absurd rfl (hne _ _ _) | exact ih _ h
    · cases h
  | program k ih => simp only [tame] at h ⊢; exact ih _ h
  | mark m k ih => simp only [tame] at h ⊢; exact ih h
  | store m ad v k ih => simp [tame] at h
  | new o k ih => simp [tame] at h
  | freeze ad n k ih => simp [tame] at h
  | setObj r o k ih => simp [tame] at h
  | choose q k ih => simp [tame] at h
  | sys c k ih => simp [tame] at h
  | halt x => simp [tame] at h

theorem tame_bind (P : Program) {α β : Type} (s : Sem α) (f : α → Sem β) (w : World) : tame P (s.bind f) w = (tame P s w).bind (fun a => tame P (f a) w) := by
  induction s with
  | pure b => simp [Sem.bind, tame]
  | load m ad k ih =>
    simp only [Sem.bind, tame]
    cases hc : w.cell? ad with
    | none => simp
    | some v => simp only []; exact ih v
  | shape r k ih => simp only [Sem.bind, tame]; split <;> simp [ih]
  | frozen ad k ih => simp only [Sem.bind, tame]; split <;> simp [ih]
  | getObj r k ih =>
    simp only [Sem.bind, tame]
    split
    · simp
    · rename_i o hne ho; exact ih _
    · simp
  | program k ih => simp only [Sem.bind, tame]; exact ih _
  | mark m k ih => simp only [Sem.bind, tame]; exact ih
  | store m ad v k ih => simp [Sem.bind, tame]
  | new o k ih => simp [Sem.bind, tame]
  | freeze ad n k ih => simp [Sem.bind, tame]
  | setObj r o k ih => simp [Sem.bind, tame]
  | choose q k ih => simp [Sem.bind, tame]
  | sys c k ih => simp [Sem.bind, tame]
  | halt x => simp [Sem.bind, tame]

theorem tame_bind' (P : Program) {α β : Type} (s : Sem α) (f : α → Sem β) (w : World) : tame P (s >>= f) w = (tame P s w).bind (fun a => tame P (f a) w) := tame_bind P s f w
theorem tame_pure (P : Program) {α : Type} (a : α) (w : World) : tame P (Pure.pure a : Sem α) w = some a := rfl
theorem tame_spure (P : Program) {α : Type} (a : α) (w : World) : tame P (Sem.pure a) w = some a := rfl

/-! ### Slots -/
abbrev G := Nat → Value
def upd (g : G) (d : Nat) (v : Value) : G := fun s => if s = d then v else g s
theorem upd_apply (g : G) (d : Nat) (v : Value) (s : Nat) : upd g d v s = if s = d then v else g s := rfl
def updO (g : G) : Option Nat → Value → G
  | none, _ => g
  | some d, v => upd g d v
def evG (g : G) : Operand → Value
  | .tmp t => g t
  | .const v => v
  | .global i => .pointer (some ⟨i, 0, none⟩)
  | .func f => .func (.func f) #[] #[]

structure Rel (n : Nat) (g : G) (a : Act) : Prop where
  size : a.tmps.size = n
  defers : a.defers = []
  at' : ∀ s, s < n → a.tmps.getD s undef = g s

def slotOk (n : Nat) : Operand → Bool
  | .tmp t => decide (t < n)
  | _ => true
theorem Rel.eval {n : Nat} {g : G} {a : Act} (h : Rel n g a) {x : Operand} (hx : slotOk n x = true) : a.eval x = evG g x := by
  cases x with
  | tmp t => exact h.at' t (by simpa [slotOk] using hx)
  | _ => rfl
theorem Rel.put {n : Nat} {g : G} {a : Act} (h : Rel n g a) (d : Option Nat) (hd : ∀ t, d = some t → t < n) (v : Value) : Rel n (updO g d v) (a.put d v) := by
  cases d with
  | none => exact h
  | some t =>
    have ht := hd t rfl
    refine ⟨by simp [Act.put, h.size], by simp [Act.put, h.defers], fun s hs => ?_⟩
    simp only [Act.put, updO, upd]
    by_cases e : s = t
    · subst e; simp [h.size, ht]
    · rw [if_neg e, ← h.at' s hs]
      have e' : ¬ t = s := fun h => e h.symm
      simp [e']

/-- what the operations of a region may name -/
def opsOk (n : Nat) (ops : Array Oper) : Bool := ops.all fun o =>
  o.op.operands.all (slotOk n) && (match o.dst with | some d => decide (d < n) | none => true) && (match o.op with | .select .. => false | _ => true)

theorem opsOk_at {n : Nat} {ops : Array Oper} (h : opsOk n ops = true) {i : Nat} {o : Oper} (ho : ops[i]? = some o) :
    (∀ x ∈ o.op.operands, slotOk n x = true) ∧ (∀ t, o.dst = some t → t < n) ∧ (∀ cs b, o.op ≠ .select cs b) := by
  have hm : o ∈ ops := Array.mem_of_getElem? ho
  have := (Array.all_eq_true_iff_forall_mem.1 h) o hm
  simp only [Bool.and_eq_true] at this
  obtain ⟨⟨h1, h2⟩, h3⟩ := this
  refine ⟨fun x hx => (Array.all_eq_true_iff_forall_mem.1 h1) x hx, fun t ht => ?_, fun cs b hb => ?_⟩
  · rw [ht] at h2; simpa using h2
  · rw [hb] at h3; simp at h3

/-- what a guard's operation has yielded, read off the slots -/
def yG (ops : Array Oper) (g : G) (j : Nat) : Option Bool :=
  match (ops[j]?).bind (·.dst) with
  | some d => match g d with
    | .bool b => some b
    | _ => none
  | none => none
theorem Rel.yielded {n : Nat} {g : G} {a : Act} (h : Rel n g a) {ops : Array Oper} (hok : opsOk n ops = true) (j : Nat) : yielded ops a.tmps j = yG ops g j := by
  unfold Go.yielded yG
  cases hj : ops[j]? with
  | none => rfl
  | some o =>
    cases hd : o.dst with
    | none => simp [hd]
    | some d =>
      have hlt : d < n := (opsOk_at hok hj).2.1 d hd
      have he := h.at' d hlt
      have hs : a.tmps[d]? = some (g d) := by
        have : d < a.tmps.size := by rw [h.size]; exact hlt
        rw [← he]; simp [this]
      simp only [Option.bind_some, hd, hs]
      cases g d <;> rfl

theorem wanted_G {n : Nat} {g : G} {a : Act} (h : Rel n g a) {ops : Array Oper} (hok : opsOk n ops = true) (o : Oper) : Region.wanted o (Go.yielded ops a.tmps) = Region.wanted o (yG ops g) := by
  have : Go.yielded ops a.tmps = yG ops g := funext (h.yielded hok)
  rw [this]

theorem execOp_G {n : Nat} {g : G} {a : Act} (h : Rel n g a) {ops : Array Oper} (hok : opsOk n ops = true) {i : Nat} {o : Oper} (ho : ops[i]? = some o) : execOp a.eval o = execOp (evG g) o :=
  execOp_congr o (opsOk_at hok ho).2.2 fun x hx => h.eval ((opsOk_at hok ho).1 x hx)

end Go.V
