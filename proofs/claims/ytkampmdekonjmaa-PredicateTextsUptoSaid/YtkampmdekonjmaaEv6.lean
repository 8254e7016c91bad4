/- Symbolic evaluation: a region. -/
import Derived.Test.YtkampmdekonjmaaEv5
namespace Go.Proofs.Ytkampmdekonjmaa
open Go Go.RowKit Go.V
set_option linter.unusedSimpArgs false
set_option linter.unusedVariables false

/-- one operation, of whatever kind -/
def opW (P : Program) (ops : Array Oper) (light : Bool) (w0 : World) (k : Nat) (o : Oper) (nx : G → World → Prop) (g : G) (w : World) : Prop := match light with
  | true => (wantO ops g o = true → lokO P w0 (evG g) o.type o.op) ∧ nx (updO g o.dst (if wantO ops g o = true then lvO P w0 (evG g) o.type o.op else undef)) w
  | false => hvX P ops o k nx g w
theorem SatG.set {E : En} {l : List SV} {g : G} (h : SatG E l g) {d : Nat} {x : SV} (hx : denV E x = some (g d)) : SatG E (l.set d x) g := by
  intro t y hy
  by_cases e : t = d
  · subst e
    rw [List.getElem?_set] at hy
    simp at hy
    rw [← hy.2]; exact hx
  · rw [List.getElem?_set_ne (Ne.symm e)] at hy
    exact h t y hy
theorem force_sound {Γ : Gam} {S : SS} {d : Option Nat} {k : SS → Tr SS} {E : En} {g : G} {Q : SS → Ev → Prop} (HG : SatG E S.g g) (HO : SatO E S.sz) (h : (forceS S d k).sat Γ Q E.env) :
    ∃ S', SatG E S'.g g ∧ S'.h = S.h ∧ S'.sz = S.sz ∧ (k S').sat Γ Q E.env := by
  unfold forceS at h
  split at h
  · exact ⟨S, HG, rfl, rfl, h⟩
  · rename_i d
    split at h
    · rename_i c hc
      split at h
      · exact ⟨S, HG, rfl, rfl, h⟩
      · split at h
        · rename_i e he
          obtain ⟨z, h1, h2⟩ := bOf_den HO he (HG d _ hc)
          cases z with
          | true => exact ⟨{ S with g := S.g.set d (.v (.one (.lit (.bool true)))) }, HG.set (by rw [h2]; rfl), rfl, rfl, h.1 h1⟩
          | false => exact ⟨{ S with g := S.g.set d (.v (.one (.lit (.bool false)))) }, HG.set (by rw [h2]; rfl), rfl, rfl, h.2 h1⟩
        · exact h.elim
    · exact h.elim
theorem wantS_eq {ops : Array Oper} {S : SS} {o : Oper} {b : Bool} {E : En} {g : G} (HG : SatG E S.g g) (h : wantS ops S o = some b) : wantO ops g o = b := by
  obtain ⟨d, op, ty, pos, af, gd⟩ := o
  cases gd with
  | none => injection h
  | some jb =>
    obtain ⟨j, b'⟩ := jb
    simp only [wantS] at h
    show gw (dstOf ops[j]?) g b' = b
    split at h
    · rename_i hd
      rw [hd]; injection h
    · rename_i d hd
      rw [hd]
      split at h
      · rename_i v hv
        injection h with h; subst h
        have := HG d _ hv
        injection this with this
        rw [this]; rfl
      · cases h
theorem SatM.room {s : Nat} {E : En} {h : List (Option (List SC))} {sz : Szs} {w : World} (H : SatM s E h sz w) (n : Nat) : SatM s E (h ++ List.replicate n none) sz w := by
  refine ⟨fun b cs hb => ?_, H.inj, H.dom, fun b β hb => ?_, H.objs, H.odom⟩
  · by_cases hlt : b < h.length
    · rw [List.getElem?_append_left hlt] at hb
      exact H.blocks b cs hb
    · rw [List.getElem?_append_right (by omega), List.getElem?_replicate] at hb
      split at hb <;> simp at hb
  · obtain ⟨cs, hc⟩ := H.hdom b β hb
    exact ⟨cs, by rw [List.getElem?_append_left (List.getElem?_eq_some_iff.1 hc).1]; exact hc⟩
theorem SatM.roomO {s : Nat} {E : En} {h : List (Option (List SC))} {sz : Szs} {w : World} (H : SatM s E h sz w) (n : Nat) : SatM s E h (sz ++ List.replicate n none) w := by
  refine ⟨H.blocks, H.inj, H.dom, H.hdom, fun k p hk => ?_, fun k q hq => ?_⟩
  · by_cases hlt : k < sz.length
    · rw [List.getElem?_append_left hlt] at hk
      exact H.objs k p hk
    · rw [List.getElem?_append_right (by omega), List.getElem?_replicate] at hk
      split at hk <;> simp at hk
  · obtain ⟨p, hp⟩ := H.odom k q hq
    exact ⟨p, by rw [List.getElem?_append_left (List.getElem?_eq_some_iff.1 hp).1]; exact hp⟩
theorem Fr_ext {lo B C : Nat} {E E' : En} {w w' : World} (Fr : ∀ b β, E.bl b = some β → lo ≤ b → B ≤ β) (hB : B ≤ w.heap.size) (hx : Ext C E w E' w') : ∀ b β, E'.bl b = some β → lo ≤ b → B ≤ β := by
  intro b β hb hl
  rcases hx.new b β hb with h | h
  · exact Fr b β h hl
  · exact Nat.le_trans hB h
theorem ext_weak {B : Nat} {o : Op} {E E' : En} {w w' : World} (hB : B ≤ w.heap.size) (h : Ext (if isStore o = true then B else w.heap.size) E w E' w') : Ext B E w E' w' := h.weak (by split <;> omega)
theorem stepL_of_opW {P : Program} {ops : Array Oper} {o : Oper} {r : List Oper} {g : G} {w : World} {K : G → World → Prop} (h : opW P ops (!heavyO P o.op) w 1 o (fun g w => walkL P ops r g w K) g w) : walkL P ops (o :: r) g w K := by
  rw [walkL_cons]
  unfold opW at h
  cases hh : heavyO P o.op with
  | true => rw [hh] at h; exact h
  | false =>
    rw [hh] at h
    obtain ⟨d, op, ty, pos, af, gd⟩ := o
    cases gd with
    | none =>
      obtain ⟨h1, h2⟩ := h
      exact ⟨h1 rfl, h2⟩
    | some jb =>
      obtain ⟨j, b⟩ := jb
      exact h
theorem walk_of_opW {P : Program} {ops : Array Oper} {i k : Nat} {o : Oper} {r : List (Nat × Nat)} {g : G} {w : World} {K : G → World → Prop} (ho : ops[i]? = some o) (h : opW P ops (Nat.beq k 0) w (k - 1) o (fun g w => walk P ops r g w K) g w) : walk P ops ((i, k) :: r) g w K := by
  cases k with
  | zero =>
    simp only [walk, ho]
    obtain ⟨h1, h2⟩ := h
    rw [wantO_eq]
    exact ⟨h1, h2⟩
  | succ k =>
    rw [walk_heavy, ho]
    exact h
theorem SatB.le {E E' : En} {h : List (Option (List SC))} {w : World} (H : SatB E h w) (hle : E.Le E') : SatB E' h w := fun b cs hb => by
  obtain ⟨β, t, vs, h1, h2, h3⟩ := H b cs hb
  exact ⟨β, t, vs, hle.bl b β h1, denL_mono hle h2, h3⟩
section
variable {P : Program} {Γ : Gam} {s L : Nat} {call : Nat → List SV → SS → Tr (List S1 × SS)} (hΓ : GamOk P Γ) (hs : s ≤ L) (hcall : CallOk P Γ s call)
variable {ops : Array Oper}
include hΓ hs hcall
theorem step_sound {lo B k : Nat} {light : Bool} {h0 : Option (List (Option (List SC)))} {nb : Option (Nat × Nat)} {S : SS} {o : Oper} {E : En} {g : G} {w w0 : World} {Q : SS → Ev → Prop} {nx : G → World → Prop} (HG : SatG E S.g g) (HM : SatM s E S.h S.sz w) (Fr : ∀ b β, E.bl b = some β → lo ≤ b → B ≤ β) (hB : B ≤ w.heap.size)
    (hl : light = true → match h0 with | some h => SatB E h w0 | none => w0 = w) (hk : light = false → k = 0 → isStore o.op = false) (hsat : (stepS P Γ L call ops lo light h0 nb S o).sat Γ Q E.env)
    (himp : ∀ S' E' g' w', Q S' E'.env → SatG E' S'.g g' → SatM s E' S'.h S'.sz w' → Ext (if isStore o.op = true then B else w.heap.size) E w E' w' → nx g' w') : opW P ops light w0 k o nx g w := by
  unfold stepS at hsat
  obtain ⟨S1, HG1, e1, e2, h1⟩ := force_sound HG HM.o hsat
  split at h1
  · rename_i hw
    have hw' := wantS_eq HG1 hw
    have hfin : nx (updO g o.dst undef) w := himp _ E _ w h1 (HG1.und o.dst) (by rw [put_h, put_sz, e1, e2]; exact HM) (Ext.refl _ _ _)
    cases light with
    | true => exact ⟨fun h => (by rw [hw'] at h; cases h), (by rw [hw', if_neg (by decide)]; exact hfin)⟩
    | false => exact hv_skip hw' hfin
  · rename_i hw
    have hw' := wantS_eq HG1 hw
    cases light with
    | true =>
      replace hl := hl rfl
      rw [if_pos rfl] at h1
      obtain ⟨S2, HG2, e3, e4, h2⟩ := force_sound HG1 (by rw [e2]; exact HM.o) h1
      split at h2
      · rename_i v hv
        have HO2 : SatO E S2.sz := by rw [e4, e2]; exact HM.o
        have key : lokO P w0 (evG g) o.type o.op ∧ denV E v = some (lvO P w0 (evG g) o.type o.op) := by
          cases h0 with
          | none =>
            simp only at hl hv
            subst hl
            exact light_den HG2 HO2 (by rw [e3, e1]; exact HM.blocks) hv
          | some h => exact light_den (S := { S2 with h := h }) HG2 HO2 hl hv
        refine ⟨fun _ => key.1, ?_⟩
        rw [hw', if_pos rfl]
        exact himp _ E _ w h2 (HG2.put o.dst key.2) (by rw [put_h, put_sz, e3, e4, e1, e2]; exact HM) (Ext.refl _ _ _)
      · exact h2.elim
    | false =>
      rw [if_neg (by decide)] at h1
      have HM1 : SatM s E S1.h S1.sz w := by rw [e1, e2]; exact HM
      split at h1
      · exact heavy_sound hΓ hs hcall HG1 HM1 Fr hB hw' (hk rfl) h1 (fun S' E' g' w' q1 q2 q3 q4 _ => himp S' E' g' w' q1 q2 q3 q4)
      · exact heavy_sound hΓ hs hcall (S := room S1) HG1 (HM1.room 1) Fr hB hw' (hk rfl) h1 (fun S' E' g' w' q1 q2 q3 q4 _ => himp S' E' g' w' q1 q2 q3 q4)
  · exact h1.elim
theorem evL_sound {lo B : Nat} {Q : SS → Ev → Prop} {K : G → World → Prop} : ∀ (l : List Oper) (S : SS) (E : En) (g : G) (w : World), SatG E S.g g → SatM s E S.h S.sz w → (∀ b β, E.bl b = some β → lo ≤ b → B ≤ β) → B ≤ w.heap.size → (evL P Γ L call ops lo l S).sat Γ Q E.env →
    (∀ S' E' g' w', Q S' E'.env → SatG E' S'.g g' → SatM s E' S'.h S'.sz w' → Ext B E w E' w' → K g' w') → walkL P ops l g w K
  | [], S, E, g, w, HG, HM, Fr, hB, hsat, himp => himp S E g w hsat HG HM (Ext.refl _ _ _)
  | o :: r, S, E, g, w, HG, HM, Fr, hB, hsat, himp => by
    simp only [evL] at hsat
    rw [sat_bind] at hsat
    refine stepL_of_opW (step_sound hΓ hs hcall HG HM Fr hB (h0 := none) (fun _ => rfl) (fun _ e => by cases e) hsat ?_)
    intro S' E' g' w' hq hg hm hx
    have hx' := ext_weak hB hx
    exact evL_sound r S' E' g' w' hg hm (Fr_ext Fr hB hx) (Nat.le_trans hB hx.bel.size) hq (fun S2 E2 g2 w2 q1 q2 q3 q4 => himp S2 E2 g2 w2 q1 q2 q3 (hx'.trans q4))
theorem evP_sound {lo B : Nat} {Q : SS → Ev → Prop} {K : G → World → Prop} : ∀ (l : List (Nat × Nat)) (S : SS) (E : En) (g : G) (w : World), SatG E S.g g → SatM s E S.h S.sz w → (∀ b β, E.bl b = some β → lo ≤ b → B ≤ β) → B ≤ w.heap.size → (evP P Γ L call ops lo l S).sat Γ Q E.env →
    (∀ S' E' g' w', Q S' E'.env → SatG E' S'.g g' → SatM s E' S'.h S'.sz w' → Ext B E w E' w' → K g' w') → walk P ops l g w K
  | [], S, E, g, w, HG, HM, Fr, hB, hsat, himp => himp S E g w hsat HG HM (Ext.refl _ _ _)
  | (i, k) :: r, S, E, g, w, HG, HM, Fr, hB, hsat, himp => by
    simp only [evP] at hsat
    split at hsat
    · exact hsat.elim
    · rename_i o ho
      split at hsat
      · exact hsat.elim
      · rename_i hc
        rw [sat_bind] at hsat
        refine walk_of_opW ho (step_sound hΓ hs hcall HG HM Fr hB (h0 := none) (fun _ => rfl) ?_ hsat ?_)
        · intro h1 h2
          have hk1 : k = 1 := by
            have : k ≠ 0 := fun e => by subst e; cases h1
            omega
          subst hk1
          simpa using hc
        intro S' E' g' w' hq hg hm hx
        have hx' := ext_weak hB hx
        exact evP_sound r S' E' g' w' hg hm (Fr_ext Fr hB hx) (Nat.le_trans hB hx.bel.size) hq (fun S2 E2 g2 w2 q1 q2 q3 q4 => himp S2 E2 g2 w2 q1 q2 q3 (hx'.trans q4))
end

/-! ### The same computation -/
theorem ieq_eq : ∀ {x y : IE}, ieq x y = true → x = y := by
  intro x
  induction x with
  | lit a => intro y h; cases y <;> simp [ieq] at h; rw [h]
  | var a => intro y h; cases y <;> simp [ieq] at h; rw [h]
  | len a i => intro y h; cases y <;> simp [ieq] at h; rw [h.1, h.2]
  | add a b iha ihb => intro y h; cases y <;> simp [ieq] at h; rw [iha h.1, ihb h.2]
  | sub a b iha ihb => intro y h; cases y <;> simp [ieq] at h; rw [iha h.1, ihb h.2]
  | mul a b iha ihb => intro y h; cases y <;> simp [ieq] at h; rw [iha h.1, ihb h.2]
  | neg a iha => intro y h; cases y <;> simp [ieq] at h; rw [iha h]
theorem seq_eq {x y : SE} (h : seq x y = true) : x = y := by cases x <;> cases y <;> simp [seq] at h <;> rw [h]
theorem beq_eq : ∀ {x y : BE}, beq x y = true → x = y := by
  intro x
  induction x with
  | lit a => intro y h; cases y <;> simp [beq] at h; rw [h]
  | var a => intro y h; cases y <;> simp [beq] at h; rw [h]
  | bit a => intro y h; cases y <;> simp [beq] at h; rw [h]
  | eq a b => intro y h; cases y <;> simp [beq] at h; rw [ieq_eq h.1, ieq_eq h.2]
  | lt a b => intro y h; cases y <;> simp [beq] at h; rw [ieq_eq h.1, ieq_eq h.2]
  | le a b => intro y h; cases y <;> simp [beq] at h; rw [ieq_eq h.1, ieq_eq h.2]
  | not a iha => intro y h; cases y <;> simp [beq] at h; rw [iha h]
  | beq a b iha ihb => intro y h; cases y <;> simp [beq] at h; rw [iha h.1, ihb h.2]
  | seq a b => intro y h; cases y <;> simp [beq] at h; rw [seq_eq h.1, seq_eq h.2]
theorem leq_eq {x y : LE} (h : leq x y = true) : x = y := by cases x <;> cases y <;> simp [leq] at h <;> first | rfl | rw [h.1, h.2]
theorem aeq_eq {x y : SA} (h : aeq x y = true) : x = y := by
  cases x <;> cases y <;> simp [aeq] at h
  · rw [h]
  · rw [ieq_eq h]
  · rw [beq_eq h]
  · rw [seq_eq h]
  · rw [beq_eq h.1.1, leq_eq h.1.2, leq_eq h.2]
  · rw [beq_eq h.1, leq_eq h.2]
  · rw [leq_eq h]
  · rw [h]
theorem veq_eq {x y : Value} (h : veq x y = true) : x = y := by
  unfold veq at h
  split at h
  · simp at h; rw [h.1, h.2]
  · simp at h; rw [h]
  · simp at h; rw [bs_inj h]
  · rfl
  · simp at h; rw [h.1, h.2]
  · simp at h; rw [h.1, h.2]
  · cases h
theorem ceq_eq {x y : SC} (h : ceq x y = true) : x = y := by
  cases x <;> cases y <;> simp [ceq] at h
  · rw [veq_eq h]
  · rw [h.1, h.2]
  · rw [ieq_eq h]
  · rw [beq_eq h]
  · rw [h.1, h.2]
  · rw [h.1.1.1, h.1.1.2, h.1.2, h.2]
  · rw [h.1, h.2]
theorem lseq_eq {α : Type} {f : α → α → Bool} (hf : ∀ a b, f a b = true → a = b) : ∀ {l m : List α}, lseq f l m = true → l = m
  | [], [], _ => rfl
  | [], _ :: _, h => by cases h
  | _ :: _, [], h => by cases h
  | a :: l, b :: m, h => by
    simp only [lseq, Bool.and_eq_true] at h
    rw [hf a b h.1, lseq_eq hf h.2]
theorem oeq_eq {α : Type} {f : α → α → Bool} (hf : ∀ a b, f a b = true → a = b) {x y : Option α} (h : oeq f x y = true) : x = y := by
  cases x <;> cases y <;> simp [oeq] at h
  · rfl
  · rw [hf _ _ h]
theorem s1eq_eq {x y : S1} (h : s1eq x y = true) : x = y := by
  cases x <;> cases y <;> simp [s1eq] at h
  · rw [ceq_eq h]
  · rw [lseq_eq (fun _ _ => ceq_eq) h]
theorem sveq_eq {x y : SV} (h : sveq x y = true) : x = y := by
  cases x <;> cases y <;> simp [sveq] at h
  · rw [s1eq_eq h]
  · rw [lseq_eq (fun _ _ => s1eq_eq) h]
theorem zn_inj {a b : Int} (h : zn a = zn b) : a = b := by
  cases a <;> cases b <;> simp only [zn] at h <;> congr 1 <;> omega
theorem num_eq {i j : Sh} (h : i.num = j.num) : i = j := by
  cases i <;> cases j <;> first
    | rfl
    | (simp only [Sh.num] at h; omega)
    | (rename_i x; cases x <;> simp only [Sh.num] at h <;> omega)
    | (rename_i x y; cases x <;> cases y <;> first | rfl | (simp only [Sh.num] at h; omega))
    | (rename_i x y; simp only [Sh.num] at h; cases x <;> omega)
    | (rename_i x y; simp only [Sh.num] at h; cases y <;> omega)
    | (rename_i x y; simp only [Sh.num] at h; have e : x = y := (by omega); rw [e])
    | (rename_i x y; simp only [Sh.num] at h; rw [zn_inj (a := x) (b := y) (by omega)])
theorem szeq_eq {x y : Sh × Nat × Nat} (h : szeq x y = true) : x = y := by
  obtain ⟨a, b, c⟩ := x
  obtain ⟨a', b', c'⟩ := y
  simp [szeq] at h
  rw [num_eq h.1.1, h.1.2, h.2]
theorem sseq_eq {x y : SS} (h : sseq x y = true) : x = y := by
  obtain ⟨a, b, c⟩ := x
  obtain ⟨a', b', c'⟩ := y
  simp only [sseq, Bool.and_eq_true] at h
  rw [lseq_eq (fun _ _ => sveq_eq) h.1.1, lseq_eq (fun _ _ => oeq_eq (fun _ _ => lseq_eq (fun _ _ => ceq_eq))) h.1.2, lseq_eq (fun _ _ => oeq_eq (fun _ _ => szeq_eq)) h.2]
theorem treq_eq : ∀ {x y : Tr SS}, treq x y = true → x = y := by
  intro x
  induction x with
  | leaf a => intro y h; cases y <;> simp [treq] at h; rw [sseq_eq h]
  | br c t f iht ihf => intro y h; cases y <;> simp [treq] at h; rw [beq_eq h.1.1, iht h.1.2, ihf h.2]
  | call f l b t iht => intro y h; cases y <;> simp [treq] at h; rw [h.1.1.1, lseq_eq (fun _ _ => aeq_eq) h.1.1.2, h.1.2, iht h.2]
  | obj l b t iht => intro y h; cases y <;> simp [treq] at h; rw [h.1.1, h.1.2, iht h.2]
  | bad => intro y h; cases y <;> simp [treq] at h

theorem extE_comm {e : Ev} {b k : Nat} {x y : At} (h : b ≠ k) : extE (extE e b [x]) k [y] = extE (extE e k [y]) b [x] := by
  funext i
  have one : ∀ (e : Ev) (b : Nat) (x : At) (i : Nat), extE e b [x] i = if i = b then some x else e i := by
    intro e b x i
    unfold extE
    by_cases h1 : i = b
    · subst h1; simp
    · rw [if_neg h1]
      by_cases e2 : b ≤ i
      · rw [if_pos (Nat.ble_eq_true_of_le e2), List.getElem?_eq_none (by simp; omega)]
      · rw [if_neg (fun h => e2 (Nat.le_of_ble_eq_true h))]
  simp only [one]
  by_cases h1 : i = b
  · subst h1; simp [h]
  · simp [h1]
theorem treqU_sat {Γ : Gam} {Q : SS → Ev → Prop} {t t' : Tr SS} (h : treqU t t' = true) : ∀ e, t.sat Γ Q e → t'.sat Γ Q e := by
  fun_induction treqU t t' with
  | case1 c t f c' t' f' ih1 ih2 =>
    simp only [Bool.and_eq_true] at h
    intro e hs
    have := beq_eq h.1.1
    subst this
    exact ⟨fun hc => ih1 h.1.2 e (hs.1 hc), fun hc => ih2 h.2 e (hs.2 hc)⟩
  | case2 => cases h
  | case3 l b m k u m' k' l' b' u' hn hb =>
    simp only [Bool.and_eq_true, decide_eq_true_eq, Nat.beq_eq] at h
    obtain ⟨⟨⟨rfl, rfl⟩, rfl⟩, hu⟩ := h
    have hb := Nat.eq_of_beq_eq_true hb
    subst hb
    have := treq_eq hu
    subst this
    intro e hs
    simp only [Tr.sat] at hs ⊢
    rw [extE_comm (fun h => hn (by rw [h]; exact Nat.beq_refl _))]
    exact hs
  | case4 => intro e hs; rw [← treq_eq h]; exact hs
  | case5 => intro e hs; rw [← treq_eq h]; exact hs

/-! ### A region in which several operations may come up -/
section
variable {P : Program} {Γ : Gam} {s L : Nat} {call : Nat → List SV → SS → Tr (List S1 × SS)} (hΓ : GamOk P Γ) (hs : s ≤ L) (hcall : CallOk P Γ s call)
variable {ops : Array Oper}
include hΓ hs hcall
def TS (P : Program) (Γ : Gam) (s L : Nat) (call : Nat → List SV → SS → Tr (List S1 × SS)) (ops : Array Oper) (lo so : Nat) (h0 : List (Option (List SC))) (w0 : World) (Q : SS → Ev → Prop) (K : G → World → Prop) (p : Pl) : Prop :=
  ∀ (S : SS) (E : En) (g : G) (w : World), SatG E S.g g → SatM s E S.h S.sz w → SatB E h0 w0 → (∀ b β, E.bl b = some β → lo ≤ b → w0.heap.size ≤ β) → w0.heap.size ≤ w.heap.size → (evT P Γ L call ops lo so h0 p S).sat Γ Q E.env →
    (∀ S' E' g' w', Q S' E'.env → SatG E' S'.g g' → SatM s E' S'.h S'.sz w' → Ext w0.heap.size E w E' w' → K g' w') → walkT P ops w0 p g w K
theorem evT_hv {lo so : Nat} {h0 : List (Option (List SC))} {w0 : World} {Q : SS → Ev → Prop} {K : G → World → Prop} {i : Nat} {r : Pl} (ih : TS P Γ s L call ops lo so h0 w0 Q K r) : TS P Γ s L call ops lo so h0 w0 Q K (.hv i r) := by
  intro S E g w HG HM HB Fr hB hsat himp
  simp only [evT] at hsat
  split at hsat
  · exact hsat.elim
  · rename_i o ho
    rw [sat_bind] at hsat
    have := step_sound hΓ hs hcall (k := 1) (w0 := w0) (nx := fun g' w' => Below w0.heap.size w w' ∧ walkT P ops w0 r g' w' K) HG HM Fr hB (fun h => by cases h) (fun _ h => by cases h) hsat (fun S' E' g' w' hq hg hm hx => by
      have hx' := ext_weak hB hx
      exact ⟨hx'.bel, ih S' E' g' w' hg hm (SatB.le HB hx.le) (Fr_ext Fr hB hx) (Nat.le_trans hB hx.bel.size) hq (fun S2 E2 g2 w2 q1 q2 q3 q4 => himp S2 E2 g2 w2 q1 q2 q3 (hx'.trans q4))⟩)
    simp only [walkT, ho, hvI_some]
    exact this
theorem evT_sound {lo so : Nat} {h0 : List (Option (List SC))} {w0 : World} {Q : SS → Ev → Prop} {K : G → World → Prop} (p : Pl) : TS P Γ s L call ops lo so h0 w0 Q K p := by
  induction p with
  | done =>
    intro S E g w HG HM HB Fr hB hsat himp
    exact himp S E g w hsat HG HM (Ext.refl _ _ _)
  | li i r ih =>
    intro S E g w HG HM HB Fr hB hsat himp
    simp only [evT] at hsat
    split at hsat
    · exact hsat.elim
    · rename_i o ho
      rw [sat_bind] at hsat
      have := step_sound hΓ hs hcall (k := 1) (nx := fun g w => walkT P ops w0 r g w K) HG HM Fr hB (h0 := some h0) (fun _ => HB) (fun h => by cases h) hsat (fun S' E' g' w' hq hg hm hx => by
        have hx' := ext_weak hB hx
        exact ih S' E' g' w' hg hm (SatB.le HB hx.le) (Fr_ext Fr hB hx) (Nat.le_trans hB hx.bel.size) hq (fun S2 E2 g2 w2 q1 q2 q3 q4 => himp S2 E2 g2 w2 q1 q2 q3 (hx'.trans q4)))
      simp only [walkT, ho]
      obtain ⟨h1, h2⟩ := this
      rw [wantO_eq]
      exact ⟨h1, h2⟩
  | hv i r ih => exact evT_hv hΓ hs hcall ih
  | fork i r q ih1 ih2 =>
    intro S E g w HG HM HB Fr hB hsat himp
    have hsat' : (evT P Γ L call ops lo so h0 (.hv i r) S).sat Γ Q E.env ∧ (evT P Γ L call ops lo so h0 q S).sat Γ Q E.env := by
      simp only [evT] at hsat ⊢
      split at hsat
      · exact hsat.elim
      · rename_i o ho
        split at hsat
        · rename_i he
          exact ⟨hsat, treqU_sat he _ hsat⟩
        · exact hsat.elim
    have h1 := evT_hv hΓ hs hcall ih1 S E g w HG HM HB Fr hB hsat'.1 himp
    have h2 := ih2 S E g w HG HM HB Fr hB hsat'.2 himp
    simp only [walkT] at h1 ⊢
    exact ⟨h1, h2⟩
end
end Go.Proofs.Ytkampmdekonjmaa
