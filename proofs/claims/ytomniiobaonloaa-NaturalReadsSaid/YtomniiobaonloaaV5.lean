/- The machinery of the walks, fifth part: the rules by which a body of code is walked. -/
import Derived.Test.YtomniiobaonloaaV4
import Derived.Deep.LoopGhost
namespace Go.V
open Go Go.RowKit
set_option linter.unusedSimpArgs false
set_option linter.unusedVariables false
section
variable {P : Program} {n : Nat}

/-- The code, from slots g in the world w, comes to Q. -/
def W (P : Program) (n : Nat) (c : Code) (Q : Exit → G → World → Prop) (g : G) (w : World) : Prop :=
  ∀ a, Rel n g a → c.wp P (fun e a' w' => ∃ g', Rel n g' a' ∧ Q e g' w') a w

/-! ### The walk over a region's plan -/
def walk (P : Program) (ops : Array Oper) : List (Nat × Nat) → G → World → (G → World → Prop) → Prop
  | [], g, w, K => K g w
  | (i, 0) :: rest, g, w, K => match ops[i]? with
    | none => False
    | some o => (Region.wanted o (yG ops g) = true → lokO P w (evG g) o.type o.op) ∧
        walk P ops rest (updO g o.dst (if Region.wanted o (yG ops g) = true then lvO P w (evG g) o.type o.op else undef)) w K
  | (i, k + 1) :: rest, g, w, K => match ops[i]? with
    | none => False
    | some o => if Region.wanted o (yG ops g) = true then hwp P (evG g) o w (fun v w' => (k = 0 → Below w.heap.size w w') ∧ walk P ops rest (updO g o.dst v) w' K)
        else walk P ops rest (updO g o.dst undef) w K

def wildOf (plan : List (Nat × Nat)) (i : Nat) : Bool := plan.any fun p => p.1 == i && decide (2 ≤ p.2)

theorem canA_of_walk {ops : Array Oper} (hok : opsOk n ops = true) {tm : Nat → Bool} {K : G → World → Prop} {Q : Act → World → Prop} (hQ : ∀ g a w, Rel n g a → K g w → Q a w) :
    ∀ (plan : List (Nat × Nat)) (g : G) (a : Act) (w : World), (∀ p ∈ plan, 2 ≤ p.2 → tm p.1 = false) → Rel n g a → walk P ops plan g w K → canA P ops tm Q plan a w
  | [], g, a, w, _, hr, h => hQ g a w hr h
  | (i, 0) :: rest, g, a, w, hp, hr, h => by
    simp only [walk] at h
    cases ho : ops[i]? with
    | none => simp [ho] at h
    | some o =>
      simp only [ho] at h
      obtain ⟨h1, h2⟩ := h
      have hd := (opsOk_at hok ho).2.1
      refine ⟨o, (if Region.wanted o (yG ops g) = true then lvO P w (evG g) o.type o.op else undef), ho, ?_, canA_of_walk hok hQ rest _ _ w (fun p hm => hp p (List.mem_cons_of_mem _ hm)) (hr.put o.dst hd _) h2⟩
      unfold YieldsT
      rw [wanted_G hr hok o, execOp_G hr hok ho]
      cases hw : Region.wanted o (yG ops g)
      · exact .inr ⟨rfl, by simp⟩
      · exact .inl ⟨rfl, by rw [if_pos rfl]; exact lok_exec (h1 hw)⟩
  | (i, k + 1) :: rest, g, a, w, hp, hr, h => by
    simp only [walk] at h
    cases ho : ops[i]? with
    | none => simp [ho] at h
    | some o =>
      simp only [ho] at h
      have hd := (opsOk_at hok ho).2.1
      have hk : tm i = true → k = 0 := fun ht => by
        rcases Nat.eq_zero_or_pos k with h | h
        · exact h
        · have := hp (i, k + 1) List.mem_cons_self (by show 2 ≤ k + 1; omega)
          rw [this] at ht; cases ht
      show opR P ops tm i _ a w
      unfold opR
      simp only [ho]
      rw [wanted_G hr hok o]
      split
      · rename_i hw
        rw [if_pos hw] at h
        unfold hwp at h ⊢
        rw [execOp_G hr hok ho]
        have step : ∀ v w', ((k = 0 → Below w.heap.size w w') ∧ walk P ops rest (updO g o.dst v) w' K) → ((tm i = true → Below w.heap.size w w') ∧ canA P ops tm Q rest (a.put o.dst v) w') := fun v w' ⟨h1, h2⟩ =>
          ⟨fun ht => h1 (hk ht), canA_of_walk hok hQ rest _ _ w' (fun p hm => hp p (List.mem_cons_of_mem _ hm)) (hr.put o.dst hd v) h2⟩
        exact hwp_mono step h
      · rename_i hw
        rw [if_neg hw] at h
        exact canA_of_walk hok hQ rest _ _ w (fun p hm => hp p (List.mem_cons_of_mem _ hm)) (hr.put o.dst hd _) h

theorem wildOf_spec (plan : List (Nat × Nat)) : ∀ p ∈ plan, 2 ≤ p.2 → (!wildOf plan p.1) = false := fun p hp h => by
  have : wildOf plan p.1 = true := by
    unfold wildOf
    rw [List.any_eq_true]
    exact ⟨p, hp, by simp [h]⟩
  simp [this]

def drawOk (n : Nat) (ops : Array Oper) (plan : List (Nat × Nat)) : Bool :=
  opsOk n ops && plan.length == ops.size && canB .any ops (fun i => !wildOf plan i) plan (Array.replicate ops.size false)

/-- A region that draws its order. -/
theorem W_draw (plan : List (Nat × Nat)) {id : Nat} {ops : Array Oper} {Q : Exit → G → World → Prop} {g : G} {w : World} (hm : P.follows .mixedOrders = true) (hB : drawOk n ops plan = true)
    (h : ∀ K : G → World → Prop, (∀ g w, Q .normal g w → K g w) → walk P ops plan g w.drew K) : W P n (.region id ops true) Q g w := by
  simp only [drawOk, Bool.and_eq_true, beq_iff_eq] at hB
  obtain ⟨⟨hok, hl⟩, hB⟩ := hB
  intro a hr
  refine wp_region_any hm ?_
  have hw := h _ (fun _ _ h => h)
  have hc := canA_of_walk hok (tm := fun i => !wildOf plan i) (Q := fun a w => ∃ g', Rel n g' a ∧ Q .normal g' w) (fun g a w hr hk => ⟨g, hr, hk⟩) plan g a _ (wildOf_spec plan) hr hw
  have hany := anyR_of_can (fun j o cs b hj => (opsOk_at hok hj).2.2 cs b) plan _ a _ hB hc
  rw [hl] at hany
  exact wpAny_of_anyR (fun a w h => h) _ _ _ _ hany

/-! A region in the order of the text -/
theorem wpOps_of_walk {ops : Array Oper} (hok : opsOk n ops = true) {Q : Exit → G → World → Prop} : ∀ (plan : List (Nat × Nat)) (g : G) (a : Act) (w : World), Rel n g a → walk P ops plan g w (fun g w => Q .normal g w) →
    wpOps P ops (fun e a' w' => ∃ g', Rel n g' a' ∧ Q e g' w') (plan.map (·.1)) a w
  | [], g, a, w, hr, h => ⟨g, hr, h⟩
  | (i, 0) :: rest, g, a, w, hr, h => by
    simp only [walk] at h
    show wpOps P ops _ (i :: rest.map (·.1)) a w
    rw [wpOps_cons]
    unfold wpOp
    cases ho : ops[i]? with
    | none => simp [ho] at h
    | some o =>
      simp only [ho] at h ⊢
      obtain ⟨h1, h2⟩ := h
      have hd := (opsOk_at hok ho).2.1
      rw [wanted_G hr hok o]
      split
      · rename_i hw
        rw [if_pos hw] at h2
        refine .inl (wp_of_hwp ?_)
        unfold hwp
        rw [execOp_G hr hok ho, tame_run _ _ _ _ (lok_exec (h1 hw))]
        exact wpOps_of_walk hok rest _ _ w (hr.put o.dst hd _) h2
      · rename_i hw
        rw [if_neg hw] at h2
        exact wpOps_of_walk hok rest _ _ w (hr.put o.dst hd _) h2
  | (i, k + 1) :: rest, g, a, w, hr, h => by
    simp only [walk] at h
    show wpOps P ops _ (i :: rest.map (·.1)) a w
    rw [wpOps_cons]
    unfold wpOp
    cases ho : ops[i]? with
    | none => simp [ho] at h
    | some o =>
      simp only [ho] at h ⊢
      have hd := (opsOk_at hok ho).2.1
      rw [wanted_G hr hok o]
      split
      · rename_i hw
        rw [if_pos hw] at h
        refine .inl (wp_of_hwp ?_)
        have he := execOp_G hr hok ho
        unfold hwp at h ⊢
        rw [he]
        exact hwp_mono (K := fun v w' => (k = 0 → Below w.heap.size w w') ∧ walk P ops rest (updO g o.dst v) w' _) (fun v w' ⟨_, h2⟩ => wpOps_of_walk hok rest _ _ w' (hr.put o.dst hd v) h2) h
      · rename_i hw
        rw [if_neg hw] at h
        exact wpOps_of_walk hok rest _ _ w (hr.put o.dst hd _) h

/-- operations that may do more than read -/
def heavyO (P : Program) : Op → Bool
  | .alloc _ | .box .. | .build .. | .buildSlice .. | .store .. | .makeSlice .. | .makeMap .. | .mapUpdate .. | .insert .. | .mapEntry .. | .entryStore .. | .range .. | .next .. | .entry _ | .lookup .. | .ready _ | .waits _
  | .go _ | .defer _ | .panic _ | .send .. | .recv .. | .select .. | .makeChan .. => true
  | .call { callee := .builtin .len, .. } => false
  | .call { callee := .builtin .cap, .. } => false
  | .call { callee := .builtin .max, .. } => false
  | .call { callee := .builtin .min, .. } => false
  | .call _ => true
  | .convert s d _ => (intK P d).isNone && !(isStr P d && isStr P s)
  | _ => false

/-- the walk over a region in the order of the text -/
def walkL (P : Program) (ops : Array Oper) : List Oper → G → World → (G → World → Prop) → Prop
  | [], g, w, K => K g w
  | o :: rest, g, w, K => if heavyO P o.op = true then
      (if Region.wanted o (yG ops g) = true then hwp P (evG g) o w (fun v w' => (1 = 0 → Below w.heap.size w w') ∧ walkL P ops rest (updO g o.dst v) w' K) else walkL P ops rest (updO g o.dst undef) w K)
    else (Region.wanted o (yG ops g) = true → lokO P w (evG g) o.type o.op) ∧
        walkL P ops rest (updO g o.dst (if Region.wanted o (yG ops g) = true then lvO P w (evG g) o.type o.op else undef)) w K

def planFrom (P : Program) : Nat → List Oper → List (Nat × Nat)
  | _, [] => []
  | i, o :: r => (i, if heavyO P o.op = true then 2 else 0) :: planFrom P (i + 1) r
theorem planFrom_fst (P : Program) : ∀ (i : Nat) (l : List Oper), (planFrom P i l).map (·.1) = List.range' i l.length
  | i, [] => rfl
  | i, o :: r => by simp [planFrom, planFrom_fst P (i + 1) r, List.range'_succ]
theorem walk_of_walkL {ops : Array Oper} {K : G → World → Prop} : ∀ (l : List Oper) (i : Nat) (g : G) (w : World), (∀ j, l[j]? = ops[i + j]?) → walkL P ops l g w K → walk P ops (planFrom P i l) g w K
  | [], _, _, _, _, h => h
  | o :: r, i, g, w, hl, h => by
    have h0 : ops[i]? = some o := by simpa using (hl 0).symm
    have hr : ∀ j, r[j]? = ops[i + 1 + j]? := fun j => by have := hl (j + 1); simpa [Nat.add_assoc, Nat.add_comm 1 j] using this
    unfold walkL at h
    unfold planFrom
    split at h
    · rename_i hh
      rw [if_pos hh]
      show walk P ops ((i, 1 + 1) :: planFrom P (i + 1) r) g w K
      simp only [walk, h0]
      split at h
      · rename_i hw
        rw [if_pos hw]
        exact hwp_mono (fun v w' ⟨h1, h2⟩ => ⟨h1, walk_of_walkL r (i + 1) _ _ hr h2⟩) h
      · rename_i hw
        rw [if_neg hw]
        exact walk_of_walkL r (i + 1) _ _ hr h
    · rename_i hh
      rw [if_neg hh]
      simp only [walk, h0]
      exact ⟨h.1, walk_of_walkL r (i + 1) _ _ hr h.2⟩

theorem W_text {id : Nat} {l : List Oper} {Q : Exit → G → World → Prop} {g : G} {w : World} (hok : opsOk n l.toArray = true)
    (h : ∀ K : G → World → Prop, (∀ g w, Q .normal g w → K g w) → walkL P l.toArray l g w K) : W P n (.region id l.toArray false) Q g w := by
  intro a hr
  refine wp_region ?_
  have h1 := walk_of_walkL l 0 g w (by simp) (h _ (fun _ _ h => h))
  have h2 := wpOps_of_walk hok _ g a w hr h1
  rw [planFrom_fst] at h2
  rw [List.range_eq_range']
  simpa using h2

theorem walkL_mono {ops : Array Oper} {K K' : G → World → Prop} (h : ∀ g w, K g w → K' g w) : ∀ (l : List Oper) (g : G) (w : World), walkL P ops l g w K → walkL P ops l g w K'
  | [], g, w, hk => h g w hk
  | o :: r, g, w, hk => by
    unfold walkL at hk ⊢
    split at hk
    · rename_i hh
      rw [if_pos hh]
      split at hk
      · rename_i hw; rw [if_pos hw]; exact hwp_mono (fun v w' ⟨a, b⟩ => ⟨a, walkL_mono h r _ _ b⟩) hk
      · rename_i hw; rw [if_neg hw]; exact walkL_mono h r _ _ hk
    · rename_i hh
      rw [if_neg hh]
      exact ⟨hk.1, walkL_mono h r _ _ hk.2⟩
theorem walk_mono {ops : Array Oper} {K K' : G → World → Prop} (h : ∀ g w, K g w → K' g w) : ∀ (l : List (Nat × Nat)) (g : G) (w : World), walk P ops l g w K → walk P ops l g w K'
  | [], g, w, hk => h g w hk
  | (i, 0) :: r, g, w, hk => by
    simp only [walk] at hk ⊢
    cases ho : ops[i]? with
    | none => simp [ho] at hk
    | some o => simp only [ho] at hk ⊢; exact ⟨hk.1, walk_mono h r _ _ hk.2⟩
  | (i, k + 1) :: r, g, w, hk => by
    simp only [walk] at hk ⊢
    cases ho : ops[i]? with
    | none => simp [ho] at hk
    | some o =>
      simp only [ho] at hk ⊢
      split at hk
      · rename_i hw; rw [if_pos hw]; exact hwp_mono (fun v w' ⟨a, b⟩ => ⟨a, walk_mono h r _ _ b⟩) hk
      · rename_i hw; rw [if_neg hw]; exact walk_mono h r _ _ hk

/-! ### The rules of the code -/
variable {Q : Exit → G → World → Prop} {g : G} {w : World}
def thenG (K : G → World → Prop) (Q : Exit → G → World → Prop) : Exit → G → World → Prop
  | .normal, g, w => K g w
  | e, g, w => Q e g w
def inBlockG (id : Nat) (Q : Exit → G → World → Prop) : Exit → G → World → Prop
  | .exit id', g, w => if id' = id then Q .normal g w else Q (.exit id') g w
  | e, g, w => Q e g w

theorem W_mono {c : Code} {Q' : Exit → G → World → Prop} (hq : ∀ e g w, Q e g w → Q' e g w) (h : W P n c Q g w) : W P n c Q' g w :=
  fun a hr => wp_mono (h a hr) (fun e a' w' ⟨g', hr', hq'⟩ => ⟨g', hr', hq _ _ _ hq'⟩)
theorem W_seq {x y : Code} (h : ∀ K : G → World → Prop, (∀ g w, W P n y Q g w → K g w) → W P n x (thenG K Q) g w) : W P n (.seq x y) Q g w := by
  intro a hr
  refine wp_seq ?_
  refine wp_mono (h _ (fun _ _ h => h) a hr) ?_
  rintro e a' w' ⟨g', hr', hq⟩
  cases e <;> first | exact hq a' hr' | exact ⟨g', hr', hq⟩
/-- a region in the order of the text, and what stands behind it -/
theorem W_rt {id : Nat} {l : List Oper} {y : Code} (hok : opsOk n l.toArray = true) (h : ∀ K : G → World → Prop, (∀ g w, W P n y Q g w → K g w) → walkL P l.toArray l g w K) : W P n (.seq (.region id l.toArray false) y) Q g w :=
  W_seq (fun K1 h1 => W_text hok (fun K2 h2 => h K2 (fun g w hy => h2 g w (h1 g w hy))))
/-- a region that draws its order, and what stands behind it -/
theorem W_rd (plan : List (Nat × Nat)) {id : Nat} {ops : Array Oper} {y : Code} (hm : P.follows .mixedOrders = true) (hB : drawOk n ops plan = true)
    (h : ∀ K : G → World → Prop, (∀ g w, W P n y Q g w → K g w) → walk P ops plan g w.drew K) : W P n (.seq (.region id ops true) y) Q g w :=
  W_seq (fun K1 h1 => W_draw plan hm hB (fun K2 h2 => h K2 (fun g w hy => h2 g w (h1 g w hy))))
/-- the same, with what holds behind the region said -/
theorem W_rtJ (J : G → World → Prop) {id : Nat} {l : List Oper} {y : Code} (hok : opsOk n l.toArray = true) (h1 : walkL P l.toArray l g w J) (h2 : ∀ g w, J g w → W P n y Q g w) : W P n (.seq (.region id l.toArray false) y) Q g w :=
  W_seq (fun K1 hk => W_text hok (fun K2 hk2 => by
    have : ∀ (l' : List Oper) (g : G) (w : World), walkL P l.toArray l' g w J → walkL P l.toArray l' g w K2 := fun l' => walkL_mono (fun g w hj => hk2 g w (hk g w (h2 g w hj))) l'
    exact this l g w h1))
theorem W_rdJ (J : G → World → Prop) (plan : List (Nat × Nat)) {id : Nat} {ops : Array Oper} {y : Code} (hm : P.follows .mixedOrders = true) (hB : drawOk n ops plan = true)
    (h1 : walk P ops plan g w.drew J) (h2 : ∀ g w, J g w → W P n y Q g w) : W P n (.seq (.region id ops true) y) Q g w :=
  W_seq (fun K1 hk => W_draw plan hm hB (fun K2 hk2 => walk_mono (fun g w hj => hk2 g w (hk g w (h2 g w hj))) plan _ _ h1))
theorem W_skip (h : Q .normal g w) : W P n .skip Q g w := fun a hr => wp_skip ⟨g, hr, h⟩
theorem W_exit {id : Nat} (h : Q (.exit id) g w) : W P n (.exit id) Q g w := fun a hr => wp_exit ⟨g, hr, h⟩
theorem W_ret (h : Q .ret g w) : W P n .ret Q g w := fun a hr => wp_ret ⟨g, hr, h⟩
theorem W_block {id : Nat} {c : Code} (h : W P n c (inBlockG id Q) g w) : W P n (.block id c) Q g w := by
  intro a hr
  refine wp_block ?_
  refine wp_mono (h a hr) ?_
  rintro e a' w' ⟨g', hr', hq⟩
  cases e <;> first | exact ⟨g', hr', hq⟩ | skip
  rename_i id'
  simp only [Exit.inBlock, inBlockG] at *
  split
  · rename_i e; rw [if_pos e] at hq; exact ⟨g', hr', hq⟩
  · rename_i e; rw [if_neg e] at hq; exact ⟨g', hr', hq⟩
theorem W_cond {c : Operand} {x y : Code} (hs : slotOk n c = true) {t : Bool} (hc : evG g c = .bool t) (h1 : t = true → W P n x Q g w) (h2 : t = false → W P n y Q g w) : W P n (.cond c x y) Q g w := by
  intro a hr
  refine wp_cond_split (t := t) (by rw [hr.eval hs]; exact hc) (fun ht => h1 ht a hr) (fun ht => h2 ht a hr)
/-- A loop: 'I m g w' holds at each round's head, and m goes down. -/
theorem W_if {c : Operand} {x y : Code} {t : Bool} (hc : evG g c = .bool t) (hs : slotOk n c = true) (h : W P n (bif t then x else y) Q g w) : W P n (.cond c x y) Q g w := by
  cases t
  · exact W_cond hs hc (fun h => by cases h) (fun _ => h)
  · exact W_cond hs hc (fun _ => h) (fun h => by cases h)
theorem W_loop {c : Code} (I : Nat → G → World → Prop) (m : Nat) (h0 : I m g w)
    (round : ∀ m g w, I m g w → W P n c (thenG (fun g' w' => ∃ k, k < m ∧ I k g' w') Q) g w) : W P n (.loop c) Q g w := by
  intro a hr
  refine wp_loop_ghost (fun m a w => ∃ g, Rel n g a ∧ I m g w) m ⟨g, hr, h0⟩ ?_
  rintro m a w ⟨g, hr, hI⟩
  refine wp_mono (round m g w hI a hr) ?_
  rintro e a' w' ⟨g', hr', hq⟩
  cases e <;> first | exact ⟨g', hr', hq⟩ | skip
  obtain ⟨k, hk, hI'⟩ := hq
  exact ⟨k, hk, g', hr', hI'⟩

/-! ### Forgetting slots -/
/-- What stands behind depends on the slots through what is said of a few of them. -/
theorem W_forget {c : Code} (ss : List Nat) (h : ∀ g', (∀ s ∈ ss, g' s = g s) → W P n c Q g' w) : W P n c Q g w := h g (fun _ _ => rfl)

/-! ### A function's body -/
def resOk (P : Program) (w : World) (g : G) : List ResultVar → Prop
  | [] => True
  | .tmp t :: r => resOk P w g r
  | .cell a t :: r => lokO P w (evG g) 0 (.load t (.tmp a)) ∧ resOk P w g r
def resL (P : Program) (w : World) (g : G) : List ResultVar → List Value
  | [] => []
  | .tmp t :: r => g t :: resL P w g r
  | .cell a t :: r => lvO P w (evG g) 0 (.load t (.tmp a)) :: resL P w g r
def resIn (n : Nat) : List ResultVar → Bool
  | [] => true
  | .tmp t :: r => decide (t < n) && resIn n r
  | .cell a t :: r => decide (a < n) && resIn n r
def pack : List Value → Value
  | [v] => v
  | l => .tuple l.toArray

theorem resOne {g : G} {a : Act} {w : World} (hr : Rel n g a) : ∀ (l : List ResultVar), resIn n l = true → resOk P w g l →
    (l.mapM fun
      | ResultVar.tmp t => pure (a.tmps.getD t undef)
      | ResultVar.cell ad t => do loadVar t (← asAddr (a.tmps.getD ad undef)) : Sem (List Value)).run P w = .ok (resL P w g l) w
  | [], _, _ => by simp [resL]
  | .tmp t :: r, hi, ho => by
    simp only [resIn, Bool.and_eq_true, decide_eq_true_eq] at hi
    have ih := resOne hr r hi.2 ho
    simp only [List.mapM_cons, Sem.run_bind, Sem.run_pure, Result.andThen_ok, resL, ih]
    rw [hr.at' t hi.1]
  | .cell ad t :: r, hi, ho => by
    simp only [resIn, Bool.and_eq_true, decide_eq_true_eq] at hi
    have ih := resOne hr r hi.2 ho.2
    have h1 := lok_sound (ty := 0) ho.1
    have h2 : (loadVar t =<< asAddr (g ad) : Sem Value).run P w = .ok (lvO P w (evG g) 0 (.load t (.tmp ad))) w := by
      have h3 := tame_run _ _ _ _ h1
      simp only [execOp, Instr.loadAt, evG] at h3
      cases hg : g ad <;> simp only [hg] at h3 ⊢ <;> first
        | (simp [Instr.sureAddr, stuck] at h3; done)
        | skip
      rename_i o
      cases o with
      | none => simp [Instr.sureAddr, stuck] at h3
      | some x =>
        simp only [Instr.sureAddr, Sem.run_bind, Sem.run_pure, Result.andThen_ok] at h3
        simp only [asAddr, Bind.bindLeft, Sem.run_bind, Sem.run_pure, Result.andThen_ok]
        generalize (loadVar t x).run P w = r at h3 ⊢
        cases r with
        | ok v w2 => simp [Result.andThen] at h3; obtain ⟨h3, h4⟩ := h3; subst h4; rw [h3]
        | halt x w2 => simp [Result.andThen] at h3
    simp only [List.mapM_cons, Sem.run_bind, Sem.run_pure, resL]
    rw [hr.at' ad hi.1]
    have h4 : ((do let x ← asAddr (g ad); loadVar t x) : Sem Value).run P w = .ok (lvO P w (evG g) 0 (.load t (.tmp ad))) w := h2
    simp only [Sem.run_bind] at h4
    simp only [h4, Result.andThen_ok, ih]

theorem pack_eq (l : List Value) : (if h : l.toArray.size = 1 then l.toArray[0] else .tuple l.toArray) = pack l := by
  match l with
  | [] => rfl
  | [v] => rfl
  | v :: u :: r => simp [pack]
theorem results_G {fn : Func} {g : G} {a : Act} {w : World} (hr : Rel n g a) (hi : resIn n fn.results.toList = true) (ho : resOk P w g fn.results.toList) :
    (results fn a.tmps).run P w = .ok (pack (resL P w g fn.results.toList)) w := by
  have h := resOne hr _ hi ho
  unfold results
  simp only [Array.mapM_eq_mapM_toList, bind_map_left, Sem.run_bind, Sem.run_pure]
  generalize fn.results.toList = rs at *
  refine (congrArg (fun r => Result.andThen r _) h).trans ?_
  simp only [Result.andThen_ok]
  rw [pack_eq]

def fnQ (P : Program) (rs : List ResultVar) (R : Ending → World → Prop) : Exit → G → World → Prop
  | .normal, g, w | .ret, g, w => resOk P w g rs ∧ R (.returned (pack (resL P w g rs))) w
  | _, _, _ => False

/-- the slots at the start -/
def argG : List Value → G
  | [] => fun _ => undef
  | v :: r => fun s => match s with
    | 0 => v
    | s + 1 => argG r s
theorem argG_getD : ∀ (l : List Value) (s : Nat), argG l s = l.getD s undef
  | [], s => rfl
  | v :: r, 0 => rfl
  | v :: r, s + 1 => by simpa [argG] using argG_getD r s

theorem calls_of_W {f : FuncId} {fn : Func} {c : Code} {args : List Value} {w : World} {R : Ending → World → Prop} {rs : List ResultVar}
    (hf : P.funcs[f]? = some fn) (hb : fn.body = some c) (hn : fn.ntmps = n) (hrs : fn.results = rs.toArray) (hi : (resIn n rs && decide (args.length ≤ n)) = true) (h : W P n c (fnQ P rs R) (argG args) w) : Calls P f args.toArray w R := by
  simp only [Bool.and_eq_true, decide_eq_true_eq] at hi
  refine calls_of_wp hf hb ?_
  have hrel : Rel n (argG args) { tmps := args.toArray ++ Array.replicate (fn.ntmps - args.toArray.size) undef, defers := [] } := by
    refine ⟨by simp [hn]; omega, rfl, fun s hs => ?_⟩
    rw [argG_getD]
    by_cases hlt : s < args.length
    · simp [Array.getElem?_append, List.getD_eq_getElem?_getD, hlt]
    · simp [Array.getElem?_append, List.getD_eq_getElem?_getD, hlt, Array.getElem?_replicate]
      split <;> rfl
  refine wp_mono (h _ hrel) ?_
  rintro e a' w' ⟨g', hr', hq⟩
  have hrs' : fn.results.toList = rs := by rw [hrs]
  cases e <;> first
    | exact hq.elim
    | (refine ⟨hr'.defers, _, results_G hr' (by rw [hrs']; exact hi.1) (by rw [hrs']; exact hq.1), ?_⟩; rw [hrs']; exact hq.2)
end
end Go.V
