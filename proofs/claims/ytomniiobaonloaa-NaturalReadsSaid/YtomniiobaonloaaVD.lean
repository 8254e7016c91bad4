/- The machinery of the walks, thirteenth part: pointers compared, conversions, functions without a body. -/
import Derived.Test.YtomniiobaonloaaVB
import Derived.Laws.Externs
import Derived.Lib.Builder
import Derived.Lib.UnsafeStr
namespace Go.V
open Go Go.RowKit
set_option linter.unusedSimpArgs false
set_option linter.unusedVariables false
/-- whether two pointers are equal, where that can be told at once -/
def ptrEq : Value → Value → Option Bool
  | .pointer none, .pointer q => some q.isNone
  | .pointer (some _), .pointer none => some false
  | .pointer (some a), .pointer (some b) => if a.block = b.block then some (decide (a = b)) else none
  | _, _ => none
@[go_sem] theorem ptrEq_nn (q : Option Addr) : ptrEq (.pointer none) (.pointer q) = some q.isNone := rfl
@[go_sem] theorem ptrEq_sn (a : Addr) : ptrEq (.pointer (some a)) (.pointer none) = some false := rfl
@[go_sem] theorem ptrEq_ss (a : Addr) : ptrEq (.pointer (some a)) (.pointer (some a)) = some true := by simp [ptrEq]
def eqPtrT (P : Program) (t : TypeId) : Bool := match P.underlying t with
  | some (.pointer e) => match P.info? e with
    | some i => decide (i.size ≠ 0)
    | none => false
  | _ => false
section
variable {P : Program} {w : World} {ev : Operand → Value} {ty : TypeId} {x y : Operand} {t u : TypeId}
@[go_sem] theorem binC_ptr (o : BinOp) (p q : Option Addr) : binC P o t (.pointer p) (.pointer q) = none := by cases o <;> rfl
theorem tame_ptrEq {d : Nat} {v v' : Value} {b : Bool} (hT : eqPtrT P t = true) (h : ptrEq v v' = some b) : tame P (Op.equalIn (d + 1) t v v') w = some b := by
  unfold eqPtrT at hT
  split at hT
  case h_2 => cases hT
  rename_i e he
  split at hT
  case h_2 => cases hT
  rename_i i hi
  have hsz : i.size ≠ 0 := by simpa using hT
  unfold ptrEq at h
  split at h
  · rename_i q
    cases q <;> simp [Op.equalIn, tame_bind', tame_underlying he, tame_pure] at h ⊢ <;> exact h
  · injection h with h
    subst h
    simp [Op.equalIn, tame_bind', tame_underlying he, tame_pure]
  · rename_i a c
    split at h
    · rename_i hb
      injection h with h
      have hs : tame P (sameAddr a c) w = some (decide (a = c)) := by
        unfold sameAddr
        simp only [hb, beq_self_eq_true, if_true]
        show some (a == c) = _
        by_cases hac : a = c <;> simp [hac]
      simp [Op.equalIn, tame_bind', tame_underlying he, tame_sizeOf hi, hsz, hs, h]
    · cases h
  · cases h
theorem run_ptrEq {b : Bool} (hT : eqPtrT P t = true) (h : ptrEq (ev x) (ev y) = some b) : run1 P w ev ty (.binOp .eql t x y u) = some (.value (.bool b)) ∧ run1 P w ev ty (.binOp .neq t x y u) = some (.value (.bool !b)) := by
  have e1 : tame P (Op.equal t (ev x) (ev y)) w = some b := tame_ptrEq (d := 9999) hT h
  have hg : ∀ o, tame P (eqGuard o t x y (ev x) (ev y)) w = some () := by
    intro o
    unfold eqGuard
    unfold ptrEq at h
    split at h <;> first | cases h | skip
    all_goals (rename_i h1 h2; try rw [h1, h2]; split <;> simp [tame_pure, tame_spure, tame_bind'])
  constructor
  · simp only [run1, execOp]
    simp only [tame_bind', tame_map, tame_pure, hg, Option.bind_some]
    generalize ev x = vx at *
    generalize ev y = vy at *
    unfold ptrEq at h
    split at h <;> first | cases h | skip
    all_goals simp [Go.binOp, tame_bind', tame_map, tame_pure, e1]
  · simp only [run1, execOp]
    simp only [tame_bind', tame_map, tame_pure, hg, Option.bind_some]
    generalize ev x = vx at *
    generalize ev y = vy at *
    unfold ptrEq at h
    split at h <;> first | cases h | skip
    all_goals simp [Go.binOp, tame_bind', tame_map, tame_pure, e1]
def someB : Option Bool → Bool
  | some b => b
  | none => false
@[go_sem] theorem someB_some (b : Bool) : someB (some b) = b := rfl
@[go_sem] theorem any_eqp_v (hT : eqPtrT P t = true) (h : (ptrEq (ev x) (ev y)).isSome = true) : anyV P w ev ty (.binOp .eql t x y u) = .bool (someB (ptrEq (ev x) (ev y))) := by
  obtain ⟨b, hb⟩ := Option.isSome_iff_exists.1 h
  simp [anyV, (run_ptrEq (w := w) (ty := ty) (u := u) hT hb).1, hb, someB]
@[go_sem] theorem any_eqp_ok (hT : eqPtrT P t = true) (h : (ptrEq (ev x) (ev y)).isSome = true) : anyOk P w ev ty (.binOp .eql t x y u) = True := by
  obtain ⟨b, hb⟩ := Option.isSome_iff_exists.1 h
  exact eq_true ⟨_, (run_ptrEq (w := w) (ty := ty) (u := u) hT hb).1⟩
@[go_sem] theorem any_nep_v (hT : eqPtrT P t = true) (h : (ptrEq (ev x) (ev y)).isSome = true) : anyV P w ev ty (.binOp .neq t x y u) = .bool (!someB (ptrEq (ev x) (ev y))) := by
  obtain ⟨b, hb⟩ := Option.isSome_iff_exists.1 h
  simp [anyV, (run_ptrEq (w := w) (ty := ty) (u := u) hT hb).2, hb, someB]
@[go_sem] theorem any_nep_ok (hT : eqPtrT P t = true) (h : (ptrEq (ev x) (ev y)).isSome = true) : anyOk P w ev ty (.binOp .neq t x y u) = True := by
  obtain ⟨b, hb⟩ := Option.isSome_iff_exists.1 h
  exact eq_true ⟨_, (run_ptrEq (w := w) (ty := ty) (u := u) hT hb).2⟩
end
section
variable {P : Program} {n : Nat} {ops : Array Oper} {g : G} {w : World} {nx : G → World → Prop} {k : Nat} {o : Oper}
/-- a conversion whose run is known -/
theorem hv_conv {s d : TypeId} {x : Operand} {v : Value} {w' : World} (hw : wantO ops g o = true) (ho : o.op = .convert s d x) (hr : (convert s d (evG g x)).run P w = .ok v w') (hb : k = 0 → Below w.heap.size w w') (h : nx (updO g o.dst v) w') : hvX P ops o k nx g w := by
  refine hv_run hw (v := v) (w' := w') ?_ hb h
  unfold execOp
  simp only [ho, Sem.run_bind, hr, Result.andThen_ok, Sem.run_pure]
/-- a call of a function without a body -/
theorem hv_ext {f : FuncId} {fn : Func} {e : Array Value → Sem Value} {args : Array Operand} {ts : Array TypeId} {v : Value} (hw : wantO ops g o = true) (hop : o.op = .call { callee := .value (.func f), args := args, argTypes := ts })
    (hf : P.funcs[f]? = some fn) (hname : (fn.name == "runtime.NumGoroutine") = false) (hb : fn.body.isNone = true) (hn : Extern.findNext fn = none) (he : Extern.find fn = some e)
    (hv : (e (args.map (evG g))).run P w = .ok v w) (h : nx (updO g o.dst v) w) : hvX P ops o k nx g w := by
  refine hv_run hw (v := v) (w' := w) ?_ (fun _ => Below.refl _ _) h
  unfold execOp
  simp only [hop, resolve, Deferred.ofValue, evG, Sem.run_bind, Sem.run_pure, Result.andThen_ok, invoke, Array.append_empty, Array.empty_append]
  rw [run_callFunc_extern hf hname hb hn he, hv]
  rfl
end
end Go.V
