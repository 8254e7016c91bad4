/- The machinery of the walks, twelfth part: a region that draws its order, in which new blocks are written while what was there is read, and in which several operations may come up together. -/
import Derived.Test.YtomniiobaonloaaVB
namespace Go.V
open Go Go.RowKit
set_option linter.unusedSimpArgs false
set_option linter.unusedVariables false
section
variable {P : Program} {n : Nat} {md : Region.Mode} {ops : Array Oper} {tm : Nat → Bool} {w0 : World}

/-- one operation; those of 'tm' leave what was there at the region's start as it was -/
def opB (P : Program) (ops : Array Oper) (tm : Nat → Bool) (w0 : World) (i : Nat) (K : Act → World → Prop) (a : Act) (w : World) : Prop :=
  match ops[i]? with
  | none => K a w
  | some o => if Region.wanted o (yielded ops a.tmps) = true then hwp P a.eval o w (fun v w' => (tm i = true → Below w0.heap.size w w') ∧ K (a.put o.dst v) w') else K (a.put o.dst undef) w
theorem opB_mono {i : Nat} {K K' : Act → World → Prop} {a : Act} {w : World} (h : ∀ a w, K a w → K' a w) (hh : opB P ops tm w0 i K a w) : opB P ops tm w0 i K' a w := by
  unfold opB at *
  split
  · rename_i ho; simp only [ho] at hh; exact h _ _ hh
  · rename_i o ho
    simp only [ho] at hh
    split
    · rename_i hw; rw [if_pos hw] at hh; exact hwp_mono (fun v w' ⟨h1, h2⟩ => ⟨h1, h _ _ h2⟩) hh
    · rename_i hw; rw [if_neg hw] at hh; exact h _ _ hh
def anyB (P : Program) (md : Region.Mode) (ops : Array Oper) (tm : Nat → Bool) (w0 : World) (Q : Act → World → Prop) : Nat → Array Bool → Act → World → Prop
  | 0, listed, a, w => Region.ready md ops listed = [] ∧ Q a w
  | fuel + 1, listed, a, w => (Region.ready md ops listed = [] → Q a w) ∧ ∀ i ∈ Region.ready md ops listed, opB P ops tm w0 i (anyB P md ops tm w0 Q fuel (listed.setIfInBounds i true)) a w
theorem wpAny_of_anyB {Q : Act → World → Prop} {Q' : Exit → Act → World → Prop} (hQ : ∀ a w, Q a w → Q' .normal a w) : ∀ (fuel : Nat) (listed : Array Bool) (a : Act) (w : World), anyB P md ops tm w0 Q fuel listed a w → wpAny P md ops Q' fuel listed a w
  | 0, _, _, _, h => ⟨h.1, hQ _ _ h.2⟩
  | fuel + 1, listed, a, w, h => by
    refine ⟨fun h0 => hQ _ _ (h.1 h0), fun i hi => ?_⟩
    have hi' := h.2 i hi
    unfold opB at hi'
    unfold wpOp
    split
    · rename_i ho; simp only [ho] at hi'; exact wpAny_of_anyB hQ fuel _ _ _ hi'
    · rename_i o ho
      simp only [ho] at hi'
      split
      · rename_i hw
        rw [if_pos hw] at hi'
        exact .inl (wp_of_hwp (hwp_mono (fun v w' ⟨_, h2⟩ => wpAny_of_anyB hQ fuel _ _ _ h2) hi'))
      · rename_i hw; rw [if_neg hw] at hi'; exact wpAny_of_anyB hQ fuel _ _ _ hi'
/-- the operation leaves the value 'v', and reads only what was there at the region's start -/
def YieldsB (P : Program) (ops : Array Oper) (w0 : World) (o : Oper) (v : Value) (a : Act) : Prop :=
  (Region.wanted o (yielded ops a.tmps) = true ∧ tame P (execOp a.eval o) w0 = some (.value v)) ∨ (Region.wanted o (yielded ops a.tmps) = false ∧ v = undef)
theorem YieldsB.opB {i : Nat} {o : Oper} {v : Value} {a : Act} {w : World} (hi : ops[i]? = some o) (hy : YieldsB P ops w0 o v a) (hb : Below w0.heap.size w0 w) {K : Act → World → Prop} (h : K (a.put o.dst v) w) : opB P ops tm w0 i K a w := by
  unfold Go.V.opB
  simp only [hi]
  rcases hy with ⟨hw, hv⟩ | ⟨hw, rfl⟩
  · rw [if_pos hw]
    unfold hwp
    rw [tame_run _ _ _ _ (tame_below P _ hb _ hv)]
    exact ⟨fun _ => Below.refl _ _, h⟩
  · rw [if_neg (by simp [hw])]; exact h
theorem hvI_mono {o : Option Oper} {k : Nat} {g : G} {w : World} {nx nx' : G → World → Prop} (h : ∀ g w, nx g w → nx' g w) (hh : hvI P ops o k nx g w) : hvI P ops o k nx' g w := by
  cases o with
  | none => exact hh
  | some o =>
    simp only [hvI_some, hvX] at hh ⊢
    split at hh
    · rename_i hw; rw [if_pos hw]; exact hwp_mono (fun v w' ⟨a, b⟩ => ⟨a, h _ _ b⟩) hh
    · rename_i hw; rw [if_neg hw]; exact h _ _ hh
theorem YieldsB.put {oi oj : Oper} {v u : Value} {a : Act} (hy : YieldsB P ops w0 oi v a) (hs : ∀ cs b, oi.op ≠ .select cs b) (h3 : ∀ d, oj.dst = some d → d ∉ oi.looksAt ops) :
    YieldsB P ops w0 oi v (a.put oj.dst u) := by
  unfold YieldsB at *
  rw [wanted_put oi a oj.dst u h3, execOp_put oi hs a oj.dst u h3]
  exact hy
theorem opB_put {j : Nat} {oi oj : Oper} {v : Value} (hj : ops[j]? = some oj) (hap : oi.apart ops oj = true) (hsi : ∀ cs b, oi.op ≠ .select cs b) (hsj : ∀ cs b, oj.op ≠ .select cs b) (htm : tm j = true)
    {K : Act → World → Prop} {a : Act} {w : World} (hb : Below w0.heap.size w0 w) (hy : YieldsB P ops w0 oi v a) (h : opB P ops tm w0 j K (a.put oi.dst v) w) :
    opB P ops tm w0 j (fun a' w' => (YieldsB P ops w0 oi v a' ∧ Below w0.heap.size w0 w') ∧ K (a'.put oi.dst v) w') a w := by
  obtain ⟨h1, h2, h3⟩ := Oper.apart_spec hap
  unfold opB at *
  simp only [hj] at *
  rw [wanted_put oj a oi.dst v h1] at h
  split
  · rename_i hw
    rw [if_pos hw] at h
    unfold hwp at h ⊢
    rw [execOp_put oj hsj a oi.dst v h1] at h
    revert h
    generalize (execOp a.eval oj).run P w = r
    intro h
    cases r with
    | ok n w' =>
      cases n <;> first
        | exact h.elim
        | (exact ⟨h.1, ⟨hy.put hsi h3, hb.trans (h.1 htm)⟩, by rw [← Act.put_comm a _ _ h2]; exact h.2⟩)
        | (exact Calls.mono h (fun e w'' ⟨u, he, hk⟩ => ⟨u, he, hk.1, ⟨hy.put hsi h3, hb.trans (hk.1 htm)⟩, by rw [← Act.put_comm a _ _ h2]; exact hk.2⟩))
    | halt x w' => exact h.elim
  · rename_i hw
    rw [if_neg hw] at h
    exact ⟨⟨hy.put hsi h3, hb⟩, by rw [← Act.put_comm a _ _ h2]; exact h⟩
/-- A light operation that may come up now may be taken first. -/
theorem anyB_first {Q : Act → World → Prop} {i : Nat} {oi : Oper} {v : Value} (hi : ops[i]? = some oi) (hsel : ∀ (j : Nat) (o : Oper) cs b, ops[j]? = some o → o.op ≠ .select cs b) (M : List Nat) :
    ∀ (fuel : Nat) (listed : Array Bool) (a : Act) (w : World),
      (∀ j oj, ops[j]? = some oj → j ≠ i → listed.getD j true = false → j ∉ M → oi.apart ops oj = true ∧ tm j = true) →
      (∀ j ∈ M, listed.getD j false = false ∧ ∃ oj e, ops[j]? = some oj ∧ e ∈ oj.after ∧ Region.binds md e = true ∧ (e.on = i ∨ e.on ∈ M)) →
      i ∈ Region.ready md ops listed → YieldsB P ops w0 oi v a → Below w0.heap.size w0 w →
      anyB P md ops tm w0 Q fuel (listed.setIfInBounds i true) (a.put oi.dst v) w → anyB P md ops tm w0 Q (fuel + 1) listed a w := by
  intro fuel
  induction fuel with
  | zero =>
    intro listed a w _ _ hr hy hb H
    refine ⟨fun h => (by rw [h] at hr; cases hr), fun j hj => ?_⟩
    by_cases hji : j = i
    · subst hji; exact hy.opB hi hb H
    · have := ready_mono hj hji
      rw [H.1] at this
      cases this
  | succ fuel ih =>
    intro listed a w hfree hM hr hy hbw H
    refine ⟨fun h => (by rw [h] at hr; cases hr), fun j hj => ?_⟩
    by_cases hji : j = i
    · subst hji; exact hy.opB hi hbw H
    · have h1 := H.2 j (ready_mono hj hji)
      obtain ⟨hjun, oj, hoj, hall⟩ := mem_ready.1 hj
      have hiun : listed.getD i false = false := by
        have h0 := (mem_ready.1 hr).1
        rcases Nat.lt_or_ge i listed.size with h' | h'
        · simp [h'] at h0 ⊢; exact h0
        · simp [Array.getElem?_eq_none h'] at h0
      have hjM : j ∉ M := fun hm => by
        obtain ⟨_, oj', e, ho', he, hb, hon⟩ := hM j hm
        rw [hoj] at ho'
        injection ho' with ho'
        subst ho'
        have hl := hall e he hb
        rcases hon with hon | hon
        · rw [hon, hiun] at hl; cases hl
        · rw [(hM _ hon).1] at hl; cases hl
      obtain ⟨hap, htm⟩ := hfree j oj hoj hji hjun hjM
      have h2 := opB_put hoj hap (fun cs b => hsel i oi cs b hi) (fun cs b => hsel j oj cs b hoj) htm hbw hy h1
      refine opB_mono (fun a' w' h3 => ih (listed.setIfInBounds j true) a' w' ?_ ?_ (ready_mono hr (Ne.symm hji)) h3.1.1 h3.1.2 ?_) h2
      · intro k ok hk hki hun hkM
        refine hfree k ok hk hki ?_ hkM
        by_cases hjk : j = k
        · subst hjk; exact hjun
        · rw [getD_set_ne true hjk] at hun; exact hun
      · intro k hk
        obtain ⟨hk1, hk2⟩ := hM k hk
        refine ⟨?_, hk2⟩
        have hne : j ≠ k := fun e => hjM (e ▸ hk)
        rw [getD_set_ne false hne]; exact hk1
      · rw [Array.setIfInBounds_comm _ _ hji]
        exact h3.2

/-! ### The plan, a tree: light operations, others, and places where several may come up -/
inductive Pl where
  | done
  | li (i : Nat) (r : Pl)
  | hv (i : Nat) (r : Pl)
  | fork (i : Nat) (r o : Pl)
def Pl.len : Pl → Nat
  | .done => 0
  | .li _ r => r.len + 1
  | .hv _ r => r.len + 1
  | .fork _ r _ => r.len + 1
def walkT (P : Program) (ops : Array Oper) (w0 : World) : Pl → G → World → (G → World → Prop) → Prop
  | .done, g, w, K => K g w
  | .li i r, g, w, K => match ops[i]? with
    | none => False
    | some o => (Region.wanted o (yG ops g) = true → lokO P w0 (evG g) o.type o.op) ∧
        walkT P ops w0 r (updO g o.dst (if Region.wanted o (yG ops g) = true then lvO P w0 (evG g) o.type o.op else undef)) w K
  | .hv i r, g, w, K => hvI P ops ops[i]? 1 (fun g' w' => Below w0.heap.size w w' ∧ walkT P ops w0 r g' w' K) g w
  | .fork i r o, g, w, K => hvI P ops ops[i]? 1 (fun g' w' => Below w0.heap.size w w' ∧ walkT P ops w0 r g' w' K) g w ∧ walkT P ops w0 o g w K
def canT (md : Region.Mode) (ops : Array Oper) : Pl → Array Bool → Option (List Nat) → Bool
  | .done, listed, none => (Region.ready md ops listed).isEmpty
  | .li i r, listed, none => (Region.ready md ops listed).contains i && freeB md ops (fun _ => true) i (mustOf md ops i) listed && canT md ops r (listed.setIfInBounds i true) none
  | .hv i r, listed, x => (x.getD (Region.ready md ops listed) == [i]) && canT md ops r (listed.setIfInBounds i true) none
  | .fork i r o, listed, x => (match x.getD (Region.ready md ops listed) with
    | j :: rest => j == i && canT md ops r (listed.setIfInBounds i true) none && canT md ops o listed (some rest) && o.len == r.len + 1
    | [] => false)
  | .done, _, some _ => false
  | .li .., _, some _ => false

theorem hvB_step (hok : opsOk n ops = true) {i fuel : Nat} {r : Pl} {K : G → World → Prop} {Q : Act → World → Prop} {g : G} {a : Act} {w : World} {listed : Array Bool} (hr : Rel n g a)
    (h : hvI P ops ops[i]? 1 (fun g' w' => Below w0.heap.size w w' ∧ walkT P ops w0 r g' w' K) g w) (hb : Below w0.heap.size w0 w)
    (next : ∀ g' a' w', Rel n g' a' → Below w0.heap.size w0 w' → walkT P ops w0 r g' w' K → anyB P md ops tm w0 Q fuel (listed.setIfInBounds i true) a' w') :
    opB P ops tm w0 i (anyB P md ops tm w0 Q fuel (listed.setIfInBounds i true)) a w := by
  unfold opB
  cases ho : ops[i]? with
  | none => simp [ho, hvI] at h
  | some o =>
    simp only [ho, hvI_some, hvX] at h
    simp only []
    have hd := (opsOk_at hok ho).2.1
    rw [wanted_G hr hok o]
    split
    · rename_i hw
      rw [if_pos hw] at h
      unfold hwp at h ⊢
      rw [execOp_G hr hok ho]
      exact hwp_mono (K := fun v w' => (1 = 0 → Below w.heap.size w w') ∧ Below w0.heap.size w w' ∧ walkT P ops w0 r (updO g o.dst v) w' K) (fun v w' ⟨_, h1, h2⟩ => ⟨fun _ => h1, next _ _ _ (hr.put o.dst hd v) (hb.trans h1) h2⟩) h
    · rename_i hw
      rw [if_neg hw] at h
      exact next _ _ _ (hr.put o.dst hd _) hb h.2
theorem anyB_of_walkT (hok : opsOk n ops = true) {K : G → World → Prop} {Q : Act → World → Prop} (hQ : ∀ g a w, Rel n g a → K g w → Q a w) :
    ∀ (p : Pl) (x : Option (List Nat)) (listed : Array Bool) (g : G) (a : Act) (w : World), canT md ops p listed x = true → Rel n g a → Below w0.heap.size w0 w → walkT P ops w0 p g w K →
      (x = none → anyB P md ops (fun _ => true) w0 Q p.len listed a w) ∧ (∀ l f, x = some l → p.len = f + 1 → ∀ i ∈ l, opB P ops (fun _ => true) w0 i (anyB P md ops (fun _ => true) w0 Q f (listed.setIfInBounds i true)) a w)
  | .done, none, listed, g, a, w, hB, hr, hb, h => ⟨fun _ => ⟨by simpa [canT] using hB, hQ _ _ _ hr h⟩, fun l f e => by cases e⟩
  | .done, some _, _, _, _, _, hB, _, _, _ => by simp [canT] at hB
  | .li _ _, some _, _, _, _, _, hB, _, _, _ => by simp [canT] at hB
  | .li i r, none, listed, g, a, w, hB, hr, hb, h => by
    refine ⟨fun _ => ?_, fun l f e => by cases e⟩
    simp only [canT, Bool.and_eq_true] at hB
    obtain ⟨⟨hrd, hf⟩, hB'⟩ := hB
    simp only [walkT] at h
    cases ho : ops[i]? with
    | none => simp [ho] at h
    | some o =>
      simp only [ho] at h
      obtain ⟨h1, h2⟩ := h
      have hd := (opsOk_at hok ho).2.1
      obtain ⟨f1, f2⟩ := freeB_spec ho hf
      refine anyB_first (v := if Region.wanted o (yG ops g) = true then lvO P w0 (evG g) o.type o.op else undef) ho (fun j o cs b hj => (opsOk_at hok hj).2.2 cs b) _ r.len listed a w f1 f2 (by simpa using hrd) ?_ hb ?_
      · unfold YieldsB
        rw [wanted_G hr hok o, execOp_G hr hok ho]
        cases hw : Region.wanted o (yG ops g)
        · exact .inr ⟨rfl, by simp⟩
        · exact .inl ⟨rfl, by rw [if_pos rfl]; exact lok_exec (h1 hw)⟩
      · exact (anyB_of_walkT hok hQ r none _ _ _ w hB' (hr.put o.dst hd _) hb h2).1 rfl
  | .hv i r, x, listed, g, a, w, hB, hr, hb, h => by
    simp only [canT, Bool.and_eq_true, beq_iff_eq] at hB
    obtain ⟨hrd, hB'⟩ := hB
    have key : opB P ops (fun _ => true) w0 i (anyB P md ops (fun _ => true) w0 Q r.len (listed.setIfInBounds i true)) a w :=
      hvB_step hok hr h hb (fun g' a' w' hr' hb' hw' => (anyB_of_walkT hok hQ r none _ g' a' w' hB' hr' hb' hw').1 rfl)
    refine ⟨fun e => ?_, fun l f e hf j hj => ?_⟩
    · subst e
      have hrd' : Region.ready md ops listed = [i] := hrd
      refine ⟨fun h0 => (by rw [hrd'] at h0; cases h0), fun j hj => ?_⟩
      rw [hrd'] at hj
      have hji : j = i := by simpa using hj
      subst hji
      exact key
    · subst e
      have hrd' : l = [i] := hrd
      rw [hrd'] at hj
      have hji : j = i := by simpa using hj
      subst hji
      have : f = r.len := by simp [Pl.len] at hf; omega
      rw [this]; exact key
  | .fork i r o, x, listed, g, a, w, hB, hr, hb, h => by
    simp only [canT] at hB
    split at hB
    · rename_i j0 rest hrd
      simp only [Bool.and_eq_true, beq_iff_eq] at hB
      obtain ⟨⟨⟨hji, hB'⟩, hBo⟩, hlen⟩ := hB
      subst hji
      have key : opB P ops (fun _ => true) w0 j0 (anyB P md ops (fun _ => true) w0 Q r.len (listed.setIfInBounds j0 true)) a w :=
        hvB_step hok hr h.1 hb (fun g' a' w' hr' hb' hw' => (anyB_of_walkT hok hQ r none _ g' a' w' hB' hr' hb' hw').1 rfl)
      have others := (anyB_of_walkT hok hQ o (some rest) listed g a w hBo hr hb h.2).2 rest r.len rfl hlen
      refine ⟨fun e => ?_, fun l f e hf j hj => ?_⟩
      · subst e
        have hrd' : Region.ready md ops listed = j0 :: rest := hrd
        refine ⟨fun h0 => (by rw [hrd'] at h0; cases h0), fun j hj => ?_⟩
        rw [hrd'] at hj
        rcases List.mem_cons.1 hj with rfl | hj
        · exact key
        · exact others j hj
      · subst e
        have hrd' : l = j0 :: rest := hrd
        rw [hrd'] at hj
        have : f = r.len := by simp [Pl.len] at hf; omega
        rw [this]
        rcases List.mem_cons.1 hj with rfl | hj
        · exact key
        · exact others j hj
    · cases hB
def drawOkT (n : Nat) (ops : Array Oper) (p : Pl) : Bool :=
  opsOk n ops && p.len == ops.size && canT .any ops p (Array.replicate ops.size false) none
theorem walkT_mono {K K' : G → World → Prop} (h : ∀ g w, K g w → K' g w) : ∀ (p : Pl) (g : G) (w : World), walkT P ops w0 p g w K → walkT P ops w0 p g w K'
  | .done, g, w, hk => h g w hk
  | .li i r, g, w, hk => by
    simp only [walkT] at hk ⊢
    cases ho : ops[i]? with
    | none => simp [ho] at hk
    | some o => simp only [ho] at hk ⊢; exact ⟨hk.1, walkT_mono h r _ _ hk.2⟩
  | .hv i r, g, w, hk => by
    simp only [walkT] at hk ⊢
    exact hvI_mono (fun g w h' => ⟨h'.1, walkT_mono h r _ _ h'.2⟩) hk
  | .fork i r o, g, w, hk => by
    simp only [walkT] at hk ⊢
    exact ⟨hvI_mono (fun g w h' => ⟨h'.1, walkT_mono h r _ _ h'.2⟩) hk.1, walkT_mono h o _ _ hk.2⟩
theorem W_drawT (p : Pl) {id : Nat} {ops : Array Oper} {Q : Exit → G → World → Prop} {g : G} {w : World} (hm : P.follows .mixedOrders = true) (hB : drawOkT n ops p = true)
    (h : ∀ K : G → World → Prop, (∀ g w, Q .normal g w → K g w) → walkT P ops w.drew p g w.drew K) : W P n (.region id ops true) Q g w := by
  simp only [drawOkT, Bool.and_eq_true, beq_iff_eq] at hB
  obtain ⟨⟨hok, hl⟩, hB⟩ := hB
  intro a hr
  refine wp_region_any hm ?_
  have hw := h _ (fun _ _ h => h)
  have hany := (anyB_of_walkT hok (Q := fun a w => ∃ g', Rel n g' a ∧ Q .normal g' w) (fun g a w hr hk => ⟨g, hr, hk⟩) p none _ g a _ hB hr (Below.refl _ _) hw).1 rfl
  rw [hl] at hany
  exact wpAny_of_anyB (fun a w h => h) _ _ _ _ hany
/-- a region that draws its order, and what holds behind it said -/
theorem W_rdTJ (J : G → World → Prop) (p : Pl) {id : Nat} {ops : Array Oper} {y : Code} {Q : Exit → G → World → Prop} {g : G} {w : World} (hm : P.follows .mixedOrders = true) (hB : drawOkT n ops p = true)
    (h1 : ∀ w0, w0 = w.drew → walkT P ops w0 p g w0 J) (h2 : ∀ g w, J g w → W P n y Q g w) : W P n (.seq (.region id ops true) y) Q g w :=
  W_seq (fun K1 hk => W_drawT p hm hB (fun K2 hk2 => walkT_mono (fun g w hj => hk2 g w (hk g w (h2 g w hj))) _ _ _ (h1 _ rfl)))

/-! the equations -/
section
variable {g : G} {w : World} {K : G → World → Prop} {r o : Pl} {i : Nat}
def nxT (P : Program) (ops : Array Oper) (w0 w : World) (r : Pl) (K : G → World → Prop) : G → World → Prop := fun g' w' => Below w0.heap.size w w' ∧ walkT P ops w0 r g' w' K
theorem nxT_intro {g' : G} {w' : World} (h1 : Below w0.heap.size w w') (h2 : walkT P ops w0 r g' w' K) : nxT P ops w0 w r K g' w' := ⟨h1, h2⟩
@[go_sem] theorem walkT_done : walkT P ops w0 .done g w K = K g w := rfl
def lightT (P : Program) (ops : Array Oper) (w0 : World) (o : Option Oper) (r : Pl) (g : G) (w : World) (K : G → World → Prop) : Prop := match o with
  | none => False
  | some ⟨d, op, ty, _, _, none⟩ => lokO P w0 (evG g) ty op ∧ walkT P ops w0 r (updO g d (lvO P w0 (evG g) ty op)) w K
  | some ⟨d, op, ty, _, _, some (j, b)⟩ => (gw (dstOf ops[j]?) g b = true → lokO P w0 (evG g) ty op) ∧
      walkT P ops w0 r (updO g d (if gw (dstOf ops[j]?) g b = true then lvO P w0 (evG g) ty op else undef)) w K
theorem walkT_li' (o : Option Oper) (h : ops[i]? = o) : walkT P ops w0 (.li i r) g w K = lightT P ops w0 o r g w K := by
  subst h
  simp only [walkT]
  cases ops[i]? with
  | none => rfl
  | some o =>
    obtain ⟨d, op, ty, pos, af, gd⟩ := o
    cases gd with
    | none => simp [lightT, Region.wanted]
    | some jb =>
      obtain ⟨j, b⟩ := jb
      have e : Region.wanted ⟨d, op, ty, pos, af, some (j, b)⟩ (yG ops g) = gw (dstOf ops[j]?) g b := want_eq j b
      simp only [e, lightT]
@[go_sem] theorem walkT_li : walkT P ops w0 (.li i r) g w K = lightT P ops w0 (ops[i]?) r g w K := walkT_li' _ rfl
@[go_sem] theorem lightT_plain (d : Option Nat) (op : Op) (ty : TypeId) (pos : String) (af : Array Edge) :
    lightT P ops w0 (some ⟨d, op, ty, pos, af, none⟩) r g w K = (lokO P w0 (evG g) ty op ∧ walkT P ops w0 r (updO g d (lvO P w0 (evG g) ty op)) w K) := rfl
@[go_sem] theorem lightT_guard (d : Option Nat) (op : Op) (ty : TypeId) (pos : String) (af : Array Edge) (j : Nat) (b : Bool) :
    lightT P ops w0 (some ⟨d, op, ty, pos, af, some (j, b)⟩) r g w K = ((gw (dstOf ops[j]?) g b = true → lokO P w0 (evG g) ty op) ∧
      walkT P ops w0 r (updO g d (if gw (dstOf ops[j]?) g b = true then lvO P w0 (evG g) ty op else undef)) w K) := rfl
@[go_sem] theorem walkT_hv : walkT P ops w0 (.hv i r) g w K = hvI P ops ops[i]? 1 (nxT P ops w0 w r K) g w := rfl
@[go_sem] theorem walkT_fork : walkT P ops w0 (.fork i r o) g w K = (hvI P ops ops[i]? 1 (nxT P ops w0 w r K) g w ∧ walkT P ops w0 o g w K) := rfl
end
end
end Go.V
