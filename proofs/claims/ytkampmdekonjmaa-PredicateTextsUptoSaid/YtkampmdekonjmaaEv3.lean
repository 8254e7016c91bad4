/- Symbolic evaluation: operations that write memory; calls. -/
import Derived.Test.YtkampmdekonjmaaEv2
namespace Go.Proofs.Ytkampmdekonjmaa
open Go Go.RowKit Go.V
set_option linter.unusedSimpArgs false
set_option linter.unusedVariables false

/-! ### What stays when more is done -/
structure Ext (B : Nat) (E : En) (w : World) (E' : En) (w' : World) : Prop where
  le : E.Le E'
  new : ∀ b β, E'.bl b = some β → E.bl b = some β ∨ w.heap.size ≤ β
  bel : Below B w w'
theorem Ext.refl (B : Nat) (E : En) (w : World) : Ext B E w E w := ⟨En.Le.refl E, fun _ _ h => .inl h, Below.refl _ _⟩
theorem Ext.trans {B : Nat} {E E' E'' : En} {w w' w'' : World} (h : Ext B E w E' w') (h' : Ext B E' w' E'' w'') : Ext B E w E'' w'' := by
  refine ⟨h.le.trans h'.le, fun b β hb => ?_, h.bel.trans h'.bel⟩
  rcases h'.new b β hb with h1 | h1
  · exact h.new b β h1
  · exact .inr (Nat.le_trans h.bel.size h1)
theorem Ext.weak {B C : Nat} {E E' : En} {w w' : World} (h : Ext B E w E' w') (hc : C ≤ B) : Ext C E w E' w' := ⟨h.le, h.new, h.bel.mono hc⟩
theorem SatG.le {E E' : En} {l : List SV} {g : G} (h : SatG E l g) (hle : E.Le E') : SatG E' l g := fun t v hv => denV_mono hle (h t v hv)
theorem SatG.put {E : En} {S : SS} {g : G} (h : SatG E S.g g) (d : Option Nat) {x : SV} {v : Value} (hx : denV E x = some v) : SatG E (S.put d x).g (updO g d v) := by
  cases d with
  | none => exact h
  | some d =>
    intro t y hy
    simp only [SS.put] at hy
    simp only [updO, upd]
    by_cases e : t = d
    · subst e
      rw [if_pos rfl]
      rw [List.getElem?_set] at hy
      simp at hy
      rw [← hy.2]; exact hx
    · rw [if_neg e]
      rw [List.getElem?_set_ne (Ne.symm e)] at hy
      exact h t y hy
theorem SatG.und {E : En} {S : SS} {g : G} (h : SatG E S.g g) (d : Option Nat) : SatG E (S.put d undS).g (updO g d undef) := h.put d rfl
theorem put_h (S : SS) (d : Option Nat) (x : SV) : (S.put d x).h = S.h := by cases d <;> rfl
theorem put_sz (S : SS) (d : Option Nat) (x : SV) : (S.put d x).sz = S.sz := by cases d <;> rfl

/-! ### Cells that are no limbs -/
theorem Rep_cell {w : World} {a : At} {cs : List Value} (h : a.Rep w cs) : ∀ v ∈ cs, v.oneCell' = true ∧ no16 v = true := by
  cases a
  · simp only [At.Rep] at h; subst h; simp [Value.oneCell', no16]
  · simp only [At.Rep] at h; subst h; simp [Value.oneCell', no16]
  · simp only [At.Rep] at h; subst h; simp [Value.oneCell', no16]
  · obtain ⟨a, c, a', c', rfl, _⟩ := h; simp [Value.oneCell', no16]
  · obtain ⟨a, c, rfl, _⟩ := h; simp [Value.oneCell', no16]
  · obtain ⟨a, c, rfl, _⟩ := h; simp [Value.oneCell', no16]
  · obtain ⟨rfl, h1, h2⟩ := h; intro x hx; rw [List.mem_singleton.1 hx]; exact ⟨h1, h2⟩
  · simp only [At.Rep] at h; subst h; simp [Value.oneCell', no16]
  · simp only [At.Rep] at h; subst h; simp [Value.oneCell', no16]
section
variable {s : Nat} {E : En} {h : List (Option (List SC))} {sz : Szs} {w : World} (H : SatM s E h sz w)
include H
theorem cell_ok {c : SC} {v : Value} (hc : denC E c = some v) : (c.okc = true → v.oneCell' = true) ∧ (c.no16 = true → no16 v = true) := by
  cases c with
  | lit u =>
    injection hc with hc; subst hc
    refine ⟨id, fun h => ?_⟩
    unfold SC.no16 at h
    unfold no16
    split
    · simp at h
    · rfl
  | ob k j =>
    simp only [denC] at hc
    cases hk : E.ob k with
    | none => simp [hk, obC] at hc
    | some q =>
      obtain ⟨p, hp⟩ := H.odom k q hk
      obtain ⟨a, cs, h1, _, h3, _⟩ := H.objs k p hp
      rw [hk] at h1; injection h1 with h1; subst h1
      simp only [hk, obC] at hc
      have := Rep_cell h3 v (List.mem_of_getElem? hc)
      exact ⟨fun _ => this.1, fun _ => this.2⟩
  | ix e => obtain ⟨z, _, rfl⟩ := op1_some hc; exact ⟨fun _ => rfl, fun _ => rfl⟩
  | bx e => obtain ⟨z, _, rfl⟩ := op1_some hc; exact ⟨fun _ => rfl, fun _ => rfl⟩
  | ptr b off => obtain ⟨z, _, rfl⟩ := op1_some hc; exact ⟨fun _ => rfl, fun _ => rfl⟩
  | sl b off n c => obtain ⟨z, _, rfl⟩ := op1_some hc; exact ⟨fun _ => rfl, fun _ => rfl⟩
  | sv b n => obtain ⟨z, _, rfl⟩ := op1_some hc; exact ⟨fun _ => rfl, fun _ => rfl⟩
theorem cells_ok : ∀ {l : List SC} {vs : List Value}, denL E l = some vs → (l.all SC.okc = true → ∀ v ∈ vs, v.oneCell' = true) ∧ (l.all SC.no16 = true → ∀ v ∈ vs, no16 v = true)
  | [], _, hl => by injection hl with hl; subst hl; simp
  | c :: r, _, hl => by
    obtain ⟨a, b, h1, h2, rfl⟩ := op2_some hl
    have i1 := cell_ok H h1
    have i2 := cells_ok h2
    simp only [List.all_cons, Bool.and_eq_true, List.mem_cons]
    refine ⟨fun hh v hv => ?_, fun hh v hv => ?_⟩
    · rcases hv with rfl | hv
      · exact i1.1 hh.1
      · exact i2.1 hh.2 v hv
    · rcases hv with rfl | hv
      · exact i1.2 hh.1
      · exact i2.2 hh.2 v hv
end
theorem cells_one {v : Value} (h : v.oneCell' = true) : v.cells = #[v] := by
  cases v <;> first | rfl | simp [Value.oneCell'] at h
theorem cells1_den {s : Nat} {E : En} {h : List (Option (List SC))} {sz : Szs} {w : World} (H : SatM s E h sz w) {x : S1} {l : List SC} {v : Value} (hx : den1 E x = some v) (hl : cells1 x = some l) : ∃ vs, denL E l = some vs ∧ v.cells = vs.toArray := by
  cases x with
  | one c =>
    simp only [cells1] at hl
    split at hl
    · rename_i hok
      injection hl with hl; subst hl
      exact ⟨[v], denL_cons hx rfl, cells_one ((cell_ok H hx).1 hok)⟩
    · cases hl
  | agg l' =>
    injection hl with hl; subst hl
    obtain ⟨vs, h1, rfl⟩ := op1_some hx
    exact ⟨vs, h1, rfl⟩
theorem cellsV_den {s : Nat} {E : En} {h : List (Option (List SC))} {sz : Szs} {w : World} (H : SatM s E h sz w) {gl : List SV} {g : G} (HG : SatG E gl g) {x : Operand} {l : List SC} (hl : cellsV (opnd gl x) = some l) : ∃ vs, denL E l = some vs ∧ (evG g x).cells = vs.toArray := by
  unfold cellsV at hl
  split at hl
  · rename_i y hy
    exact cells1_den H (opnd_den HG hy) hl
  · cases hl

/-! ### Memory -/
theorem RD.off16 {w : World} {a : Option Addr} {c b : Nat} {l : List Nat} {vs : List Value} {t : TypeId} (h : RD w a c l) (hB : Bx w b vs.toArray t) (hv : ∀ v ∈ vs, no16 v = true) : ∀ ad, a = some ad → l ≠ [] → ad.block ≠ b := by
  intro ad ha hl e
  rcases h.sl with e0 | ⟨b', off, e1, hc⟩
  · exact hl (List.map_eq_nil_iff.1 e0)
  · rw [ha] at e1
    injection e1 with e1
    subst e1
    subst e
    obtain ⟨x, r, rfl⟩ : ∃ x r, l = x :: r := by
      cases l with
      | nil => exact absurd rfl hl
      | cons x r => exact ⟨x, r, rfl⟩
    have h1 := hc 0 (.int .u16 x) rfl
    rw [hB.cell] at h1
    have h2 : (Value.int .u16 x) ∈ vs := List.mem_of_getElem? (by simpa using h1)
    exact absurd (hv _ h2) (by simp [no16])
theorem At.Rep.keep {w w' : World} {a : At} {cs : List Value} (h : a.Rep w cs) (hb : Below w.heap.size w w') : a.Rep w' cs := by
  cases a with
  | n z => exact h
  | b z => exact h
  | s z => exact h
  | w z => exact h
  | k z => exact h
  | kb z => exact h
  | r neg l m => obtain ⟨a, c, a', c', e, h1, h2⟩ := h; exact ⟨a, c, a', c', e, h1.ext hb, h2.ext hb⟩
  | y neg l => obtain ⟨a, c, e, h1⟩ := h; exact ⟨a, c, e, h1.ext hb⟩
  | u l => obtain ⟨a, c, e, h1⟩ := h; exact ⟨a, c, e, h1.ext hb⟩
theorem At.Rep.sto {w w' : World} {a : At} {cs : List Value} {b : Nat} {vs : List Value} {t : TypeId} (h : a.Rep w cs) (hs : Sto w w' b) (hB : Bx w b vs.toArray t) (hv : ∀ v ∈ vs, no16 v = true) : a.Rep w' cs := by
  cases a with
  | n z => exact h
  | b z => exact h
  | s z => exact h
  | w z => exact h
  | k z => exact h
  | kb z => exact h
  | r neg l m => obtain ⟨a, c, a', c', e, h1, h2⟩ := h; exact ⟨a, c, a', c', e, h1.sto hs (h1.off16 hB hv), h2.sto hs (h2.off16 hB hv)⟩
  | y neg l => obtain ⟨a, c, e, h1⟩ := h; exact ⟨a, c, e, h1.sto hs (h1.off16 hB hv)⟩
  | u l => obtain ⟨a, c, e, h1⟩ := h; exact ⟨a, c, e, h1.sto hs (h1.off16 hB hv)⟩
theorem SatM.keep {s : Nat} {E : En} {h : List (Option (List SC))} {sz : Szs} {w w' : World} (H : SatM s E h sz w) (hb : Below w.heap.size w w') : SatM s E h sz w' := by
  refine ⟨fun b cs hc => ?_, H.inj, fun b β hβ => Nat.lt_of_lt_of_le (H.dom b β hβ) hb.size, H.hdom, fun k p hk => ?_, H.odom⟩
  · obtain ⟨β, t, vs, h1, h2, h3⟩ := H.blocks b cs hc
    exact ⟨β, t, vs, h1, h2, h3.keep hb⟩
  · obtain ⟨a, cs, h1, h2, h3, h4⟩ := H.objs k p hk
    exact ⟨a, cs, h1, h2, h3.keep hb, h4⟩
/-- a new block -/
theorem SatM.new {s : Nat} {E : En} {h : List (Option (List SC))} {sz : Szs} {w w1 : World} (H : SatM s E h sz w) {nb b : Nat} {cs : List SC} {vs : List Value} {t : TypeId} (hn : h[nb]? = some none) (hE : Below w.heap.size w w1) (hle : w.heap.size ≤ b) (hB : Bx w1 b vs.toArray t) (hd : denL E cs = some vs) :
    ∃ E', SatM s E' (h.set nb (some cs)) sz w1 ∧ E'.env = E.env ∧ E'.bl nb = some b ∧ Ext w.heap.size E w E' w1 := by
  have hnone : E.bl nb = none := by
    cases hb : E.bl nb with
    | none => rfl
    | some β => obtain ⟨cs', hc⟩ := H.hdom nb β hb; rw [hn] at hc; cases hc
  let E' : En := { E with bl := fun x => if x = nb then some b else E.bl x }
  have hle' : E.Le E' := ⟨fun x β hx => by
    show (if x = nb then some b else E.bl x) = some β
    by_cases e : x = nb
    · subst e; rw [hnone] at hx; cases hx
    · rw [if_neg e]; exact hx, fun _ _ h => h, rfl⟩
  have hnl : nb < h.length := (List.getElem?_eq_some_iff.1 hn).1
  have hbl : ∀ x β, E'.bl x = some β → (x = nb ∧ β = b) ∨ (x ≠ nb ∧ E.bl x = some β) := by
    intro x β hx
    have hx' : (if x = nb then some b else E.bl x) = some β := hx
    by_cases e : x = nb
    · rw [if_pos e] at hx'; injection hx' with hx'; exact .inl ⟨e, hx'.symm⟩
    · rw [if_neg e] at hx'; exact .inr ⟨e, hx'⟩
  refine ⟨E', ⟨fun x cs' hc => ?_, fun x y β hx hy => ?_, fun x β hx => ?_, fun x β hx => ?_, fun k p hk => ?_, H.odom⟩, rfl, if_pos rfl, hle', fun x β hx => ?_, hE⟩
  · by_cases e : x = nb
    · subst e
      rw [List.getElem?_set] at hc
      simp [hnl] at hc
      subst hc
      exact ⟨b, t, vs, if_pos rfl, denL_mono hle' hd, .inl hB⟩
    · rw [List.getElem?_set_ne (Ne.symm e)] at hc
      obtain ⟨β, t', vs', h1, h2, h3⟩ := H.blocks x cs' hc
      exact ⟨β, t', vs', hle'.bl x β h1, denL_mono hle' h2, h3.keep hE⟩
  · rcases hbl x β hx with ⟨h1, h2⟩ | ⟨h1, h2⟩ <;> rcases hbl y β hy with ⟨h3, h4⟩ | ⟨h3, h4⟩
    · rw [h1, h3]
    · have := H.dom y β h4; omega
    · have := H.dom x β h2; omega
    · exact H.inj x y β h2 h4
  · rcases hbl x β hx with ⟨h1, h2⟩ | ⟨h1, h2⟩
    · rw [h2]; exact hB.lt
    · exact Nat.lt_of_lt_of_le (H.dom x β h2) hE.size
  · rcases hbl x β hx with ⟨h1, h2⟩ | ⟨h1, h2⟩
    · subst h1
      exact ⟨cs, by rw [List.getElem?_set]; simp [hnl]⟩
    · obtain ⟨cs', hc⟩ := H.hdom x β h2
      exact ⟨cs', by rw [List.getElem?_set_ne (Ne.symm h1)]; exact hc⟩
  · obtain ⟨a, cs', h1, h2, h3, h4⟩ := H.objs k p hk
    exact ⟨a, cs', h1, h2, h3.keep hE, h4⟩
  · rcases hbl x β hx with ⟨h1, h2⟩ | ⟨h1, h2⟩
    · exact .inr (by rw [h2]; exact hle)
    · exact .inl h2
/-- a block written -/
theorem SatM.write {s : Nat} {E : En} {h : List (Option (List SC))} {sz : Szs} {w w1 : World} (H : SatM s E h sz w) {b β : Nat} {cs cs' : List SC} {vs vs' : List Value} {t : TypeId} (hh : h[b]? = some (some cs)) (hβ : E.bl b = some β) (hB : Bx w β vs.toArray t) (hv : ∀ v ∈ vs, no16 v = true)
    (hS : Sto w w1 β) (hB' : Bx w1 β vs'.toArray t) (hd : denL E cs' = some vs') : SatM s E (h.set b (some cs')) sz w1 := by
  have hnl : b < h.length := (List.getElem?_eq_some_iff.1 hh).1
  refine ⟨fun x cs2 hc => ?_, H.inj, fun x γ hx => by rw [hS.size]; exact H.dom x γ hx, fun x γ hx => ?_, fun k p hk => ?_, H.odom⟩
  · by_cases e : x = b
    · subst e
      rw [List.getElem?_set] at hc
      simp [hnl] at hc
      subst hc
      exact ⟨β, t, vs', hβ, hd, .inl hB'⟩
    · rw [List.getElem?_set_ne (Ne.symm e)] at hc
      obtain ⟨γ, t', us, h1, h2, h3⟩ := H.blocks x cs2 hc
      exact ⟨γ, t', us, h1, h2, h3.sto hS (fun e' => e (H.inj x b β (by rw [h1, e']) hβ))⟩
  · obtain ⟨c2, hc⟩ := H.hdom x γ hx
    by_cases e : x = b
    · subst e; exact ⟨cs', by rw [List.getElem?_set]; simp [hnl]⟩
    · exact ⟨c2, by rw [List.getElem?_set_ne (Ne.symm e)]; exact hc⟩
  · obtain ⟨a, c2, h1, h2, h3, h4⟩ := H.objs k p hk
    exact ⟨a, c2, h1, h2, h3.sto hS hB hv, h4⟩

/-! ### Composite values -/
def All2 {α β : Type} (R : α → β → Prop) : List α → List β → Prop
  | [], [] => True
  | a :: l, b :: m => R a b ∧ All2 R l m
  | _, _ => False
theorem putS_den {E : En} : ∀ {cs : List SC} {us : List Value} {l : List SC} {vs : List Value} (i : Nat), denL E l = some vs → denL E cs = some us → denL E (putS l i cs) = some (putC vs.toArray i us).toList
  | [], _, l, vs, i, hl, hc => by injection hc with hc; subst hc; simpa [putS, putC] using hl
  | c :: r, _, l, vs, i, hl, hc => by
    obtain ⟨a, b, h1, h2, rfl⟩ := op2_some hc
    have := putS_den (i + 1) (denL_set i hl h1) h2
    simpa [putS, putC] using this
theorem putS_len : ∀ (cs l : List SC) (i : Nat), (putS l i cs).length = l.length
  | [], _, _ => rfl
  | c :: r, l, i => by rw [putS, putS_len r]; simp
theorem fold_put (off : Nat) : ∀ (vs : List Value) (j : Nat) (cells : Array Value), (vs.zipIdx j).foldl (fun cs (x : Value × Nat) => cs.setIfInBounds (off + x.2) x.1) cells = putC cells (off + j) vs
  | [], _, _ => rfl
  | v :: r, j, cells => by
    rw [List.zipIdx_cons, List.foldl_cons, fold_put off r (j + 1)]
    rw [putC]; rfl
theorem fillS_den {E : En} {place : Nat → Option (Nat × Nat)} : ∀ {pl : List (Nat × List SC)} {pv : List (Nat × Value)} {cells cs : List SC} {vs : List Value}, denL E cells = some vs →
    All2 (fun (p : Nat × List SC) (q : Nat × Value) => p.1 = q.1 ∧ ∃ us, denL E p.2 = some us ∧ q.2.cells = us.toArray) pl pv → fillS place cells pl = some cs → ∃ us, denL E cs = some us ∧ Instr.fill place vs.toArray pv = some us.toArray
  | [], [], cells, cs, vs, hc, hp, h => by
    injection h with h; subst h
    exact ⟨vs, hc, rfl⟩
  | [], _ :: _, _, _, _, _, hp, _ => hp.elim
  | _ :: _, [], _, _, _, _, hp, _ => hp.elim
  | (i, c) :: r, (i', v) :: pv, cells, cs, vs, hc, hp, h => by
      obtain ⟨⟨h3, us, h4, h5⟩, h2⟩ := hp
      simp only at h3 h5 h4
      subst h3
      simp only [fillS] at h
      simp only [Instr.fill]
      split at h
      · cases h
      · rename_i off size hpl
        split at h
        · rename_i hcond
          simp only [Bool.and_eq_true, Nat.beq_eq, Nat.ble_eq] at hcond
          have hl1 := denL_len h4
          have hl2 := denL_len hc
          have e1 : ¬ (v.cells.size ≠ size ∨ off + v.cells.size > vs.toArray.size) := by
            rw [h5]; simp; omega
          simp only [hpl]
          rw [if_neg (by simpa using e1)]
          have e2 : (v.cells.zipIdx.foldl (fun cs (x : Value × Nat) => cs.setIfInBounds (off + x.2) x.1) vs.toArray) = putC vs.toArray off us := by
            rw [h5]
            have := fold_put off us 0 vs.toArray
            rw [← Array.foldl_toList]
            simpa using this
          have ih := fillS_den (putS_den off hc h4) h2 h
          simp only [Array.toArray_toList] at ih
          rw [show (v.cells.zipIdx.foldl (fun cs x => match x with | (c, j) => cs.setIfInBounds (off + j) c) vs.toArray) = putC vs.toArray off us from e2]
          exact ih
        · cases h
theorem partsS_den {s : Nat} {E : En} {h : List (Option (List SC))} {sz : Szs} {w : World} (H : SatM s E h sz w) {gl : List SV} {g : G} (HG : SatG E gl g) : ∀ {ps : List (Nat × Operand)} {pl : List (Nat × List SC)}, partsS gl ps = some pl →
    All2 (fun (p : Nat × List SC) (q : Nat × Value) => p.1 = q.1 ∧ ∃ us, denL E p.2 = some us ∧ q.2.cells = us.toArray) pl (ps.map fun x => (x.1, evG g x.2))
  | [], _, hp => by injection hp with hp; subst hp; exact trivial
  | (i, x) :: r, _, hp => by
    obtain ⟨c, l, h1, h2, rfl⟩ := op2_some hp
    exact ⟨⟨rfl, cellsV_den H HG h1⟩, partsS_den H HG h2⟩
end Go.Proofs.Ytkampmdekonjmaa
