/- The machinery of the walks, fourth part: a region in whatever order; the walk in one order serves all. -/
import Derived.Test.YtomniiobaonloaaV3
namespace Go.V
open Go Go.RowKit
set_option linter.unusedSimpArgs false
set_option linter.unusedVariables false

/-- What is asked of an operation that is no light one. -/
def hwp (P : Program) (ev : Operand → Value) (o : Oper) (w : World) (K : Value → World → Prop) : Prop :=
  match (execOp ev o).run P w with
  | .ok (.value v) w' => K v w'
  | .ok .skip w' => K undef w'
  | .ok (.enter f args) w' => Calls P f args w' (fun e w'' => ∃ v, e = .returned v ∧ K v w'')
  | _ => False

theorem hwp_mono {P : Program} {ev : Operand → Value} {o : Oper} {w : World} {K K' : Value → World → Prop} (h : ∀ v w', K v w' → K' v w') (hh : hwp P ev o w K) : hwp P ev o w K' := by
  unfold hwp at *
  generalize (execOp ev o).run P w = r at *
  cases r with
  | ok n w' =>
    cases n <;> first
      | exact h _ _ hh
      | exact Calls.mono hh (fun e w'' ⟨v, he, hk⟩ => ⟨v, he, h _ _ hk⟩)
      | exact hh.elim
  | halt x w' => exact hh.elim

theorem wp_of_hwp {P : Program} {o : Oper} {a : Act} {w : World} {K : Act → World → Prop} {Q : Exit → Act → World → Prop} (h : hwp P a.eval o w (fun v w' => K (a.put o.dst v) w')) : o.wp P a w K Q := by
  unfold hwp at h
  unfold Oper.wp
  generalize (execOp a.eval o).run P w = r at *
  cases r with
  | ok n w' =>
    cases n <;> first
      | exact h.elim
      | (simp only [Oper.upon]; exact h)
      | (simp only [Oper.upon]; exact Calls.mono h (fun e w'' ⟨v, he, hk⟩ => by subst he; exact hk))
  | halt x w' => exact h.elim

section
variable {P : Program} {md : Region.Mode} {ops : Array Oper} {tm : Nat → Bool}

def opR (P : Program) (ops : Array Oper) (tm : Nat → Bool) (i : Nat) (K : Act → World → Prop) (a : Act) (w : World) : Prop :=
  match ops[i]? with
  | none => K a w
  | some o => if Region.wanted o (yielded ops a.tmps) = true then hwp P a.eval o w (fun v w' => (tm i = true → Below w.heap.size w w') ∧ K (a.put o.dst v) w') else K (a.put o.dst undef) w

theorem opR_mono {i : Nat} {K K' : Act → World → Prop} {a : Act} {w : World} (h : ∀ a w, K a w → K' a w) (hh : opR P ops tm i K a w) : opR P ops tm i K' a w := by
  unfold opR at *
  split
  · rename_i ho; simp only [ho] at hh; exact h _ _ hh
  · rename_i o ho
    simp only [ho] at hh
    split
    · rename_i hw; rw [if_pos hw] at hh; exact hwp_mono (fun v w' ⟨h1, h2⟩ => ⟨h1, h _ _ h2⟩) hh
    · rename_i hw; rw [if_neg hw] at hh; exact h _ _ hh

def anyR (P : Program) (md : Region.Mode) (ops : Array Oper) (tm : Nat → Bool) (Q : Act → World → Prop) : Nat → Array Bool → Act → World → Prop
  | 0, listed, a, w => Region.ready md ops listed = [] ∧ Q a w
  | fuel + 1, listed, a, w => (Region.ready md ops listed = [] → Q a w) ∧ ∀ i ∈ Region.ready md ops listed, opR P ops tm i (anyR P md ops tm Q fuel (listed.setIfInBounds i true)) a w

theorem wpAny_of_anyR {Q : Act → World → Prop} {Q' : Exit → Act → World → Prop} (hQ : ∀ a w, Q a w → Q' .normal a w) : ∀ (fuel : Nat) (listed : Array Bool) (a : Act) (w : World), anyR P md ops tm Q fuel listed a w → wpAny P md ops Q' fuel listed a w
  | 0, _, _, _, h => ⟨h.1, hQ _ _ h.2⟩
  | fuel + 1, listed, a, w, h => by
    refine ⟨fun h0 => hQ _ _ (h.1 h0), fun i hi => ?_⟩
    have hi' := h.2 i hi
    unfold opR at hi'
    unfold wpOp
    split
    · rename_i ho; simp only [ho] at hi'; exact wpAny_of_anyR hQ fuel _ _ _ hi'
    · rename_i o ho
      simp only [ho] at hi'
      split
      · rename_i hw
        rw [if_pos hw] at hi'
        exact .inl (wp_of_hwp (hwp_mono (fun v w' ⟨_, h2⟩ => wpAny_of_anyR hQ fuel _ _ _ h2) hi'))
      · rename_i hw; rw [if_neg hw] at hi'; exact wpAny_of_anyR hQ fuel _ _ _ hi'

/-- In this state the operation leaves the value 'v', and only reads. -/
def YieldsT (P : Program) (ops : Array Oper) (o : Oper) (v : Value) (a : Act) (w : World) : Prop :=
  (Region.wanted o (yielded ops a.tmps) = true ∧ tame P (execOp a.eval o) w = some (.value v)) ∨ (Region.wanted o (yielded ops a.tmps) = false ∧ v = undef)

theorem YieldsT.opR {i : Nat} {o : Oper} {v : Value} {a : Act} {w : World} (hi : ops[i]? = some o) (hy : YieldsT P ops o v a w) {K : Act → World → Prop} (h : K (a.put o.dst v) w) : opR P ops tm i K a w := by
  unfold Go.V.opR
  simp only [hi]
  rcases hy with ⟨hw, hv⟩ | ⟨hw, rfl⟩
  · rw [if_pos hw]
    unfold hwp
    rw [tame_run _ _ _ _ hv]
    exact ⟨fun _ => Below.refl _ _, h⟩
  · rw [if_neg (by simp [hw])]; exact h

theorem YieldsT.put {oi oj : Oper} {v u : Value} {a : Act} {w w' : World} (hy : YieldsT P ops oi v a w) (hs : ∀ cs b, oi.op ≠ .select cs b) (h3 : ∀ d, oj.dst = some d → d ∉ oi.looksAt ops) (hb : Below w.heap.size w w') :
    YieldsT P ops oi v (a.put oj.dst u) w' := by
  unfold YieldsT at *
  rw [wanted_put oi a oj.dst u h3, execOp_put oi hs a oj.dst u h3]
  rcases hy with ⟨hw, hv⟩ | h
  · exact .inl ⟨hw, tame_below P _ hb _ hv⟩
  · exact .inr h

theorem opR_put {j : Nat} {oi oj : Oper} {v : Value} (hj : ops[j]? = some oj) (hap : oi.apart ops oj = true) (hsi : ∀ cs b, oi.op ≠ .select cs b) (hsj : ∀ cs b, oj.op ≠ .select cs b) (htm : tm j = true)
    {K : Act → World → Prop} {a : Act} {w : World} (hy : YieldsT P ops oi v a w) (h : opR P ops tm j K (a.put oi.dst v) w) :
    opR P ops tm j (fun a' w' => YieldsT P ops oi v a' w' ∧ K (a'.put oi.dst v) w') a w := by
  obtain ⟨h1, h2, h3⟩ := Oper.apart_spec hap
  unfold opR at *
  simp only [hj] at *
  rw [wanted_put oj a oi.dst v h1] at h
  split
  · rename_i hw
    rw [if_pos hw] at h
    unfold hwp at h ⊢
    rw [execOp_put oj hsj a oi.dst v h1] at h
    revert h
    generalize (execOp a.eval oj).run P w = r
    intro h
    cases r with
    | ok n w' =>
      cases n <;> first
        | exact h.elim
        | (exact ⟨h.1, hy.put hsi h3 (h.1 htm), by rw [← Act.put_comm a _ _ h2]; exact h.2⟩)
        | (exact Calls.mono h (fun e w'' ⟨u, he, hk⟩ => ⟨u, he, hk.1, hy.put hsi h3 (hk.1 htm), by rw [← Act.put_comm a _ _ h2]; exact hk.2⟩))
    | halt x w' => exact h.elim
  · rename_i hw
    rw [if_neg hw] at h
    exact ⟨hy.put hsi h3 (Below.refl _ _), by rw [← Act.put_comm a _ _ h2]; exact h⟩

/-- **A light operation that may come up now may be taken first.** 'M': those that wait for it. -/
theorem anyR_first {Q : Act → World → Prop} {i : Nat} {oi : Oper} {v : Value} (hi : ops[i]? = some oi) (hsel : ∀ (j : Nat) (o : Oper) cs b, ops[j]? = some o → o.op ≠ .select cs b) (M : List Nat) :
    ∀ (fuel : Nat) (listed : Array Bool) (a : Act) (w : World),
      (∀ j oj, ops[j]? = some oj → j ≠ i → listed.getD j true = false → j ∉ M → oi.apart ops oj = true ∧ tm j = true) →
      (∀ j ∈ M, listed.getD j false = false ∧ ∃ oj e, ops[j]? = some oj ∧ e ∈ oj.after ∧ Region.binds md e = true ∧ (e.on = i ∨ e.on ∈ M)) →
      i ∈ Region.ready md ops listed → YieldsT P ops oi v a w →
      anyR P md ops tm Q fuel (listed.setIfInBounds i true) (a.put oi.dst v) w → anyR P md ops tm Q (fuel + 1) listed a w := by
  intro fuel
  induction fuel with
  | zero =>
    intro listed a w _ _ hr hy H
    refine ⟨fun h => (by rw [h] at hr; cases hr), fun j hj => ?_⟩
    by_cases hji : j = i
    · subst hji; exact hy.opR hi H
    · have := ready_mono hj hji
      rw [H.1] at this
      cases this
  | succ fuel ih =>
    intro listed a w hfree hM hr hy H
    refine ⟨fun h => (by rw [h] at hr; cases hr), fun j hj => ?_⟩
    by_cases hji : j = i
    · subst hji; exact hy.opR hi H
    · have h1 := H.2 j (ready_mono hj hji)
      obtain ⟨hjun, oj, hoj, hall⟩ := mem_ready.1 hj
      have hiun : listed.getD i false = false := by
        have h0 := (mem_ready.1 hr).1
        rcases Nat.lt_or_ge i listed.size with h' | h'
        · simp [h'] at h0 ⊢; exact h0
        · simp [Array.getElem?_eq_none h'] at h0
      have hjM : j ∉ M := fun hm => by
        obtain ⟨_, oj', e, ho', he, hb, hon⟩ := hM j hm
        rw [hoj] at ho'
        injection ho' with ho'
        subst ho'
        have hl := hall e he hb
        rcases hon with hon | hon
        · rw [hon, hiun] at hl; cases hl
        · rw [(hM _ hon).1] at hl; cases hl
      obtain ⟨hap, htm⟩ := hfree j oj hoj hji hjun hjM
      have h2 := opR_put hoj hap (fun cs b => hsel i oi cs b hi) (fun cs b => hsel j oj cs b hoj) htm hy h1
      refine opR_mono (fun a' w' h3 => ih (listed.setIfInBounds j true) a' w' ?_ ?_ (ready_mono hr (Ne.symm hji)) h3.1 ?_) h2
      · intro k ok hk hki hun hkM
        refine hfree k ok hk hki ?_ hkM
        by_cases hjk : j = k
        · subst hjk; exact hjun
        · rw [getD_set_ne true hjk] at hun; exact hun
      · intro k hk
        obtain ⟨hk1, hk2⟩ := hM k hk
        refine ⟨?_, hk2⟩
        have hne : j ≠ k := fun e => hjM (e ▸ hk)
        rw [getD_set_ne false hne]; exact hk1
      · rw [Array.setIfInBounds_comm _ _ hji]
        exact h3.2

/-! ### The plan: the operations in one order, each with its kind (0 light, 1 tame, 2 wild) -/
def canA (P : Program) (ops : Array Oper) (tm : Nat → Bool) (Q : Act → World → Prop) : List (Nat × Nat) → Act → World → Prop
  | [], a, w => Q a w
  | (i, 0) :: rest, a, w => ∃ o v, ops[i]? = some o ∧ YieldsT P ops o v a w ∧ canA P ops tm Q rest (a.put o.dst v) w
  | (i, _ + 1) :: rest, a, w => opR P ops tm i (canA P ops tm Q rest) a w

def mustOf (md : Region.Mode) (ops : Array Oper) (i : Nat) : List Nat :=
  (List.range ops.size).foldl (fun M j => match ops[j]? with
    | some o => if o.after.any (fun e => Region.binds md e && (e.on == i || M.contains e.on)) then j :: M else M
    | none => M) []
def freeB (md : Region.Mode) (ops : Array Oper) (tm : Nat → Bool) (i : Nat) (M : List Nat) (listed : Array Bool) : Bool :=
  (M.all fun j => !(listed.getD j false) && (match ops[j]? with
    | some o => o.after.any (fun e => Region.binds md e && (e.on == i || M.contains e.on))
    | none => false)) &&
  (List.range ops.size).all fun j => j == i || listed.getD j true || M.contains j || (tm j && (match ops[i]?, ops[j]? with
    | some oi, some oj => oi.apart ops oj
    | _, _ => false))
def canB (md : Region.Mode) (ops : Array Oper) (tm : Nat → Bool) : List (Nat × Nat) → Array Bool → Bool
  | [], listed => (Region.ready md ops listed).isEmpty
  | (i, 0) :: rest, listed => (Region.ready md ops listed).contains i && freeB md ops tm i (mustOf md ops i) listed && canB md ops tm rest (listed.setIfInBounds i true)
  | (i, _ + 1) :: rest, listed => (Region.ready md ops listed == [i]) && canB md ops tm rest (listed.setIfInBounds i true)

theorem freeB_spec {i : Nat} {oi : Oper} {M : List Nat} {listed : Array Bool} (hi : ops[i]? = some oi) (h : freeB md ops tm i M listed = true) :
    (∀ j oj, ops[j]? = some oj → j ≠ i → listed.getD j true = false → j ∉ M → oi.apart ops oj = true ∧ tm j = true) ∧
    (∀ j ∈ M, listed.getD j false = false ∧ ∃ oj e, ops[j]? = some oj ∧ e ∈ oj.after ∧ Region.binds md e = true ∧ (e.on = i ∨ e.on ∈ M)) := by
  unfold freeB at h
  rw [Bool.and_eq_true] at h
  obtain ⟨h1, h2⟩ := h
  refine ⟨fun j oj hj hne hun hM => ?_, fun j hj => ?_⟩
  · have hlt : j < ops.size := (Array.getElem?_eq_some_iff.1 hj).1
    have := (List.all_eq_true.1 h2) j (List.mem_range.2 hlt)
    simp only [hi, hj, hun, Bool.or_eq_true, beq_iff_eq, Bool.false_eq_true, or_false, Bool.and_eq_true, List.contains_iff_mem] at this
    rcases this with (h | h) | h
    · exact absurd h hne
    · exact absurd h hM
    · exact ⟨h.2, h.1⟩
  · have := (List.all_eq_true.1 h1) j hj
    simp only [Bool.and_eq_true, Bool.not_eq_true'] at this
    obtain ⟨h3, h4⟩ := this
    refine ⟨h3, ?_⟩
    cases ho : ops[j]? with
    | none => simp [ho] at h4
    | some o =>
      simp only [ho] at h4
      rw [← Array.any_toList] at h4
      obtain ⟨e, he, hb⟩ := List.any_eq_true.1 h4
      rw [Array.mem_toList_iff] at he
      simp only [Bool.and_eq_true, Bool.or_eq_true, beq_iff_eq, List.contains_iff_mem] at hb
      exact ⟨o, e, rfl, he, hb.1, hb.2⟩

theorem anyR_of_can {Q : Act → World → Prop} (hsel : ∀ (j : Nat) (o : Oper) cs b, ops[j]? = some o → o.op ≠ .select cs b) : ∀ (plan : List (Nat × Nat)) (listed : Array Bool) (a : Act) (w : World),
    canB md ops tm plan listed = true → canA P ops tm Q plan a w → anyR P md ops tm Q plan.length listed a w
  | [], _, _, _, hB, h => ⟨by simpa [canB] using hB, h⟩
  | (i, 0) :: rest, listed, a, w, hB, h => by
    simp only [canB, Bool.and_eq_true] at hB
    obtain ⟨⟨hr, hf⟩, hB'⟩ := hB
    obtain ⟨o, v, hi, hy, hK⟩ := h
    obtain ⟨f1, f2⟩ := freeB_spec hi hf
    exact anyR_first hi hsel _ rest.length listed a w f1 f2 (by simpa using hr) hy (anyR_of_can hsel rest _ _ _ hB' hK)
  | (i, k + 1) :: rest, listed, a, w, hB, h => by
    simp only [canB, Bool.and_eq_true, beq_iff_eq] at hB
    obtain ⟨hr, hB'⟩ := hB
    refine ⟨fun h0 => (by rw [hr] at h0; cases h0), fun j hj => ?_⟩
    rw [hr] at hj
    have hji : j = i := by simpa using hj
    subst hji
    exact opR_mono (fun a w h => anyR_of_can hsel rest _ a w hB' h) h
end
end Go.V
