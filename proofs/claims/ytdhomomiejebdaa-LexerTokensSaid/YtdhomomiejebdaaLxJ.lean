/- LexerTokens: the tokens of any string, or the first error and where it is. -/
import Derived.Test.YtdhomomiejebdaaLxI
import Derived.Laws.StructEq
namespace Go.Proofs.Ytdhomomiejebdaa
open Go.RowKit Go.V Go.ChangeMaps
set_option linter.unusedSimpArgs false
set_option linter.unusedVariables false

/-- a token, as a value -/
def isTok : Value → Bool
  | .agg ⟨[.int .i64 _, .int .i64 _, .int .i64 _, .string _]⟩ => true
  | _ => false
def neqTok : Value → Value → Value
  | .agg ⟨[.int .i64 a, .int .i64 b, .int .i64 c, .string s]⟩, .agg ⟨[.int .i64 a', .int .i64 b', .int .i64 c', .string s']⟩ => .bool (!decide (a = a' ∧ b = b' ∧ c = c' ∧ bs s = bs s'))
  | _, _ => undef
@[go_sem] theorem isTok_mk (a b c : Int) (s : ByteArray) : isTok (.agg #[.int .i64 a, .int .i64 b, .int .i64 c, .string s]) = true := rfl
@[go_sem] theorem neqTok_mk (a b c a' b' c' : Int) (s s' : ByteArray) : neqTok (.agg #[.int .i64 a, .int .i64 b, .int .i64 c, .string s]) (.agg #[.int .i64 a', .int .i64 b', .int .i64 c', .string s']) = .bool (!decide (a = a' ∧ b = b' ∧ c = c' ∧ bs s = bs s')) := rfl
theorem tame_program {P : Program} (w : World) : tame P program w = some P := rfl
theorem tame_ite {P : Program} {w : World} {α : Type} (c : Prop) [Decidable c] (x y : Sem α) : tame P (if c then x else y) w = if c then tame P x w else tame P y w := by split <;> rfl
theorem tame_equalIn_struct {P : Program} {w : World} (d : Nat) (t : TypeId) (xs ys : Array Value) (ht : P.underlying t = some (.struct (P.fieldsOf t))) (hp : P.stoodInHeld t = false) :
    tame P (Op.equalIn (d + 1) t (.agg xs) (.agg ys)) w = tame P (Op.eqFields d xs ys (P.fieldsOf t).toList) w := by
  simp only [Op.equalIn, tame_bind', tame_underlying ht, Option.bind_some, tame_program, hp, Bool.false_eq_true, if_false]
  rw [← Array.forIn_toList]
  generalize (P.fieldsOf t).toList = fs
  clear ht
  induction fs with
  | nil => simp [Op.eqFields, tame_pure, tame_bind']
  | cons f fs ih =>
    simp only [List.forIn_cons, Op.eqFields, tame_bind', tame_ite]
    by_cases hn : f.name ≠ "_"
    · simp only [if_pos hn]
      cases tame P (part f.type xs f.offset) w with
      | none => rfl
      | some a =>
        cases h2 : tame P (part f.type ys f.offset) w with
        | none => simp [h2]
        | some b =>
          cases h3 : tame P (Op.equalIn d f.type a b) w with
          | none => simp [h2, h3]
          | some r =>
            cases r
            · simp [h2, h3, tame_pure]
            · simp only [h2, h3, Option.bind_some, tame_pure, Bool.not_true, Bool.false_eq_true, if_false]
              exact ih
    · simp only [if_neg hn, tame_pure, Option.bind_some]
      exact ih
theorem tame_part {P : Program} {w : World} {t : TypeId} {xs : Array Value} {j : Nat} {v : Value} (ha : tame P (isAgg t) w = some false) (hv : xs[j]? = some v) : tame P (part t xs j) w = some v := by
  simp only [part, tame_bind', ha, Option.bind_some, Bool.false_eq_true, if_false, hv, tame_pure]
theorem tame_eq_int {P : Program} {w : World} (d : Nat) {t : TypeId} {k k' : IntKind} (a b : Int) (h : P.underlying t = some (.int k')) : tame P (Op.equalIn (d + 1) t (.int k a) (.int k b)) w = some (decide (a = b)) := by
  simp [Op.equalIn, tame_bind', tame_underlying h, tame_pure, beq_dec]
theorem tame_eq_str {P : Program} {w : World} (d : Nat) {t : TypeId} (a b : ByteArray) (h : P.underlying t = some .string) : tame P (Op.equalIn (d + 1) t (.string a) (.string b)) w = some (decide (bs a = bs b)) := by
  simp [Op.equalIn, tame_bind', tame_underlying h, tame_pure, beq_toListBytes, toList_eq_iff]
theorem eqF_cons {P : Program} {w : World} (d : Nat) (xs ys : Array Value) (f : Field) (fs : List Field) {a b : Value} {r : Bool} (hn : f.name ≠ "_") (h1 : tame P (part f.type xs f.offset) w = some a) (h2 : tame P (part f.type ys f.offset) w = some b) (h3 : tame P (Op.equalIn d f.type a b) w = some r) :
    tame P (Op.eqFields d xs ys (f :: fs)) w = if r then tame P (Op.eqFields d xs ys fs) w else some false := by
  simp only [Op.eqFields, tame_ite, if_pos hn, tame_bind', h1, h2, h3, Option.bind_some, tame_pure]
  cases r <;> rfl
theorem tok_eq (w : World) (d : Nat) (a b c a' b' c' : Int) (s s' : ByteArray) :
    tame Try.prog (Op.equalIn (d + 1 + 1) 31 (.agg #[.int .i64 a, .int .i64 b, .int .i64 c, .string s]) (.agg #[.int .i64 a', .int .i64 b', .int .i64 c', .string s'])) w = some (decide (a = a' ∧ b = b' ∧ c = c' ∧ bs s = bs s')) := by
  have hu : Try.prog.underlying 31 = some (.struct (Try.prog.fieldsOf 31)) := by kernel_rfl
  have hp : Try.prog.stoodInHeld 31 = false := by kernel_rfl
  have hf : (Try.prog.fieldsOf 31).toList = [⟨((Try.prog.fieldsOf 31).toList.getD 0 default).name, 3, 0, false, "", ((Try.prog.fieldsOf 31).toList.getD 0 default).pkgPath, 0⟩, ⟨((Try.prog.fieldsOf 31).toList.getD 1 default).name, 3, 1, false, "", ((Try.prog.fieldsOf 31).toList.getD 1 default).pkgPath, 8⟩, ⟨((Try.prog.fieldsOf 31).toList.getD 2 default).name, 3, 2, false, "", ((Try.prog.fieldsOf 31).toList.getD 2 default).pkgPath, 16⟩, ⟨((Try.prog.fieldsOf 31).toList.getD 3 default).name, 9, 3, false, "", ((Try.prog.fieldsOf 31).toList.getD 3 default).pkgPath, 24⟩] := by kernel_rfl
  have hn1 : ((Try.prog.fieldsOf 31).toList.getD 0 default).name ≠ "_" := of_decide_eq_false (by kernel_rfl)
  have hn2 : ((Try.prog.fieldsOf 31).toList.getD 1 default).name ≠ "_" := of_decide_eq_false (by kernel_rfl)
  have hn3 : ((Try.prog.fieldsOf 31).toList.getD 2 default).name ≠ "_" := of_decide_eq_false (by kernel_rfl)
  have hn4 : ((Try.prog.fieldsOf 31).toList.getD 3 default).name ≠ "_" := of_decide_eq_false (by kernel_rfl)
  rw [tame_equalIn_struct (d + 1) 31 _ _ hu hp, hf]
  have u3 : Try.prog.underlying 3 = some (.int .i64) := by kernel_rfl
  have u9 : Try.prog.underlying 9 = some .string := by kernel_rfl
  rw [eqF_cons (d + 1) _ _ _ _ (by exact hn1) (tame_part (tame_isAgg u3 w) rfl) (tame_part (tame_isAgg u3 w) rfl) (tame_eq_int d a a' u3),
    eqF_cons (d + 1) _ _ _ _ (by exact hn2) (tame_part (tame_isAgg u3 w) rfl) (tame_part (tame_isAgg u3 w) rfl) (tame_eq_int d b b' u3),
    eqF_cons (d + 1) _ _ _ _ (by exact hn3) (tame_part (tame_isAgg u3 w) rfl) (tame_part (tame_isAgg u3 w) rfl) (tame_eq_int d c c' u3),
    eqF_cons (d + 1) _ _ _ _ (by exact hn4) (tame_part (tame_isAgg u9 w) rfl) (tame_part (tame_isAgg u9 w) rfl) (tame_eq_str d s s' u9)]
  by_cases h1 : a = a' <;> by_cases h2 : b = b' <;> by_cases h3 : c = c' <;> by_cases h4 : bs s = bs s' <;> simp [h1, h2, h3, h4, Op.eqFields, tame_pure]
theorem guard_agg {P : Program} {w : World} (op : BinOp) (t : TypeId) (x y : Operand) (xs ys : Array Value) (hm : P.eqGuardType P.depth t = false) : tame P (eqGuard op t x y (.agg xs) (.agg ys)) w = some () := by
  cases op <;> simp [eqGuard, tame_bind', tame_program, hm, tame_pure, tame_ite]
theorem run_tok_neq {w : World} {ev : Operand → Value} {ty : TypeId} {x y : Operand} {u : TypeId} {a b c a' b' c' : Int} {s s' : ByteArray} (hx : ev x = .agg #[.int .i64 a, .int .i64 b, .int .i64 c, .string s]) (hy : ev y = .agg #[.int .i64 a', .int .i64 b', .int .i64 c', .string s']) :
    run1 Try.prog w ev ty (.binOp .neq 31 x y u) = some (.value (.bool (!decide (a = a' ∧ b = b' ∧ c = c' ∧ bs s = bs s')))) := by
  have hm : Try.prog.eqGuardType Try.prog.depth 31 = false := by kernel_rfl
  simp only [run1, execOp, hx, hy, Go.binOp, tame_bind', guard_agg _ _ _ _ _ _ hm, Option.bind_some, Op.equal, Op.maxDepth]
  rw [tok_eq w 9998]
  rfl
theorem isTok_of {v : Value} (h : isTok v = true) : ∃ a b c s, v = .agg #[.int .i64 a, .int .i64 b, .int .i64 c, .string s] := by
  unfold isTok at h
  split at h
  · exact ⟨_, _, _, _, rfl⟩
  · cases h
theorem any_tok_neq {w : World} {ev : Operand → Value} {ty : TypeId} {x y : Operand} {u : TypeId} (hx : isTok (ev x) = true) (hy : isTok (ev y) = true) :
    anyV Try.prog w ev ty (.binOp .neq 31 x y u) = neqTok (ev x) (ev y) ∧ anyOk Try.prog w ev ty (.binOp .neq 31 x y u) := by
  obtain ⟨a, b, c, s, hx⟩ := isTok_of hx
  obtain ⟨a', b', c', s', hy⟩ := isTok_of hy
  have h := run_tok_neq (w := w) (ty := ty) (u := u) hx hy
  refine ⟨?_, _, h⟩
  rw [hx, hy, neqTok_mk]
  simp [anyV, h]
end Go.Proofs.Ytdhomomiejebdaa
