/- Symbolic evaluation: contracts and calls. -/
import Derived.Test.YtkampmdekonjmaaEv3
namespace Go.Proofs.Ytkampmdekonjmaa
open Go Go.RowKit Go.V
set_option linter.unusedSimpArgs false
set_option linter.unusedVariables false

/-! ### Contracts -/
def Reps (w : World) : List Sh → List At → List Value → Prop
  | [], als, cs => als = [] ∧ cs = []
  | sh :: shs, als, cs => ∃ a r c1 c2, als = a :: r ∧ cs = c1 ++ c2 ∧ a.sh = sh ∧ a.Rep w c1 ∧ Reps w shs r c2
def mkV (shs : List Sh) (cs : List Value) : Value := match single shs, cs with
  | true, [v] => v
  | _, cs => .agg cs.toArray
def RepV (w : World) : List Sh → List At → Value → Prop
  | .sl n :: r, als, v => ∃ ad c cs, v = .slice ad n c ∧ SL w ad cs ∧ Reps w r als cs
  | shs, als, v => ∃ cs, Reps w shs als cs ∧ v = mkV shs cs
theorem RepV_of {w : World} {shs : List Sh} {als : List At} {v : Value} (h : noSl shs = true) : RepV w shs als v ↔ ∃ cs, Reps w shs als cs ∧ v = mkV shs cs := by
  cases shs with
  | nil => exact Iff.rfl
  | cons sh r => cases sh <;> first | exact Iff.rfl | cases h
def RepVs (w : World) : List (List Sh) → List At → List Value → Prop
  | [], als, vs => als = [] ∧ vs = []
  | shs :: r, als, vs => ∃ a1 a2 v q, als = a1 ++ a2 ∧ vs = v :: q ∧ RepV w shs a1 v ∧ RepVs w r a2 q
/-- What a call of f answers. -/
def Ct.ok (P : Program) (f : Nat) (c : Ct) : Prop := ∀ (s : Nat) (w : World) (vs : List Value) (als r : List At), s ≤ c.L → RepVs w c.args als vs → (∀ a ∈ als, a.sz ≤ s) → c.F als = some r →
  Calls P f vs.toArray w fun e w' => ∃ rvs, e = .returned (pack rvs) ∧ RepVs w' c.res r rvs ∧ (∀ a ∈ r, a.sz ≤ c.A * s + c.B) ∧ Below w.heap.size w w'
def GamOk (P : Program) (Γ : Gam) : Prop := ∀ f c, Γ f = some c → c.ok P (f % 8192)

theorem sat_bind {α β : Type} {Γ : Gam} {Q : β → Ev → Prop} {k : α → Tr β} : ∀ (t : Tr α) (e : Ev), (t.bind k).sat Γ Q e ↔ t.sat Γ (fun a e' => (k a).sat Γ Q e') e
  | .leaf a, e => Iff.rfl
  | .br c t f, e => by simp only [Tr.bind, Tr.sat, sat_bind t e, sat_bind f e]
  | .call f args base t, e => by simp only [Tr.bind, Tr.sat, sat_bind t]
  | .obj l base t, e => by simp only [Tr.bind, Tr.sat, sat_bind t]
  | .bad, e => Iff.rfl
theorem sat_mono {α : Type} {Γ : Gam} {Q Q' : α → Ev → Prop} (h : ∀ a e, Q a e → Q' a e) : ∀ (t : Tr α) (e : Ev), t.sat Γ Q e → t.sat Γ Q' e
  | .leaf a, e, ht => h a e ht
  | .br c t f, e, ht => ⟨fun hc => sat_mono h t e (ht.1 hc), fun hc => sat_mono h f e (ht.2 hc)⟩
  | .call f args base t, e, ⟨c, als, r, h1, h2, h3, h4⟩ => ⟨c, als, r, h1, h2, h3, sat_mono h t _ h4⟩
  | .obj l base t, e, ht => sat_mono h t _ ht
  | .bad, e, ht => ht

/-! ### The arguments -/
section
variable {s : Nat} {E : En} {h : List (Option (List SC))} {sz : Szs} {w : World} (H : SatM s E h sz w)
include H
theorem shOf_rep {k : Nat} {sh : Sh} (hs : shOf sz k = some sh) : ∃ a cs, E.ob k = some (a, cs) ∧ E.env k = some a ∧ a.sh = sh ∧ a.Rep w cs ∧ ∃ p, szK sz k = some p ∧ a.sz ≤ p.1 * s + p.2 := by
  unfold shOf at hs
  split at hs
  · rename_i p hp
    injection hs with hs; subst hs
    obtain ⟨a, cs, h1, h2, h3, h4⟩ := H.objs k p hp
    exact ⟨a, cs, h1, env_of h1, h2, h3, p.2, by simp [szK, hp], h4⟩
  · cases hs
theorem lOf_rd {c : SC} {e : LE} {v : Value} (hl : lOf sz c = some e) (hc : denC E c = some v) : ∃ l a cap, e.ev E.env = some l ∧ v = .slice a l.length cap ∧ RD w a cap l ∧ (∀ p, szL sz e = some p → l.length ≤ p.1 * s + p.2) := by
  unfold lOf at hl
  split at hl
  · injection hl with hl; subst hl; injection hc with hc; subst hc; exact ⟨[], _, _, rfl, rfl, RD.nil _ _ _, fun p _ => by simp⟩
  · rename_i k j
    have key : ∀ sh, shOf sz k = some sh → (∀ a : At, a.sh = sh → ∃ l, a.lst j = some l ∧ l.length ≤ a.sz) → ∃ l a cap, (LE.var k j).ev E.env = some l ∧ v = .slice a l.length cap ∧ RD w a cap l ∧ (∀ p, szL sz (.var k j) = some p → l.length ≤ p.1 * s + p.2) := by
      intro sh hs hsh
      obtain ⟨a, cs, h1, h0, h2, h3, p, h5, h6⟩ := shOf_rep H hs
      obtain ⟨l, hl, hle⟩ := hsh a h2
      obtain ⟨ad, c, h4, hrd⟩ := Rep_lst h3 hl
      simp only [denC, h1, obC, h4] at hc
      injection hc with hc
      refine ⟨l, ad, c, by simp [LE.ev, h0, evLst, hl], hc.symm, hrd, fun q hq => ?_⟩
      simp only [szL, h5] at hq
      injection hq with hq; subst hq
      omega
    split at hl
    all_goals first
      | (rename_i hs; injection hl with hl; subst hl; refine key _ hs ?_; intro a ha; cases a <;> simp [At.sh] at ha; exact ⟨_, rfl, by simp only [At.sz]; omega⟩)
      | (cases hl; done)
  · cases hl
theorem obj_den {sh : Sh} {cs : List SC} {k : Nat} {vs : List Value} (ho : objS sz sh cs = some k) (hd : denL E cs = some vs) : ∃ a, E.env k = some a ∧ a.sh = sh ∧ a.Rep w vs ∧ (∀ p, szK sz k = some p → a.sz ≤ p.1 * s + p.2) := by
  unfold objS at ho
  split at ho
  · rename_i k1 k2 k3
    split at ho
    · rename_i hs
      split at ho
      · rename_i hc
        injection ho with ho; subst ho
        simp only [Bool.and_eq_true, Nat.beq_eq] at hc
        obtain ⟨rfl, rfl⟩ := hc
        obtain ⟨a, cs, h1, h0, h2, h3, p, h5, h6⟩ := shOf_rep H hs
        refine ⟨a, h0, h2, ?_, fun q hq => by rw [h5] at hq; injection hq with hq; subst hq; exact h6⟩
        cases a <;> simp [At.sh] at h2
        obtain ⟨a, c, a', c', rfl, h7, h8⟩ := h3
        simp [denL, denC, h1, obC, op2] at hd
        exact ⟨a, c, a', c', hd.symm, h7, h8⟩
      · cases ho
    · cases ho
  · rename_i k1 k2
    split at ho
    · rename_i hs
      split at ho
      · rename_i hc
        injection ho with ho; subst ho
        simp only [Nat.beq_eq] at hc
        subst hc
        obtain ⟨a, cs, h1, h0, h2, h3, p, h5, h6⟩ := shOf_rep H hs
        refine ⟨a, h0, h2, ?_, fun q hq => by rw [h5] at hq; injection hq with hq; subst hq; exact h6⟩
        cases a <;> simp [At.sh] at h2
        obtain ⟨a, c, rfl, h7⟩ := h3
        simp [denL, denC, h1, obC, op2] at hd
        exact ⟨a, c, hd.symm, h7⟩
      · cases ho
    · cases ho
  · split at ho
    · rename_i hs
      injection ho with ho; subst ho
      obtain ⟨a, cs, h1, h0, h2, h3, p, h5, h6⟩ := shOf_rep H hs
      refine ⟨a, h0, h2, ?_, fun q hq => by rw [h5] at hq; injection hq with hq; subst hq; exact h6⟩
      cases a <;> simp [At.sh] at h2
      obtain ⟨rfl, h3, h4⟩ := h3
      simp [denL, denC, h1, obC, op2] at hd
      exact ⟨hd.symm, h3, h4⟩
    · cases ho
  · cases ho
theorem parseA_den {sh : Sh} {cs : List SC} {a : SA} {vs : List Value} (hp : parseA sz sh cs = some a) (hd : denL E cs = some vs) : ∃ x, a.ev E.env = some x ∧ x.sh = sh ∧ x.Rep w vs ∧ (∀ p, szA sz a = some p → x.sz ≤ p.1 * s + p.2) := by
  unfold parseA at hp
  split at hp
  · rename_i k hk
    injection hp with hp; subst hp
    exact obj_den H hk hd
  · split at hp
    · rename_i c
      obtain ⟨e, h1, rfl⟩ := op1_some hp
      obtain ⟨v, q, h2, h3, rfl⟩ := op2_some hd
      injection h3 with h3; subst h3
      obtain ⟨z, h4, rfl⟩ := iOf_den h1 h2
      exact ⟨.n z, by simp [SA.ev, h4, op1], rfl, rfl, fun p _ => by simp [At.sz]⟩
    · rename_i c
      obtain ⟨e, h1, rfl⟩ := op1_some hp
      obtain ⟨v, q, h2, h3, rfl⟩ := op2_some hd
      injection h3 with h3; subst h3
      obtain ⟨z, h4, rfl⟩ := bOf_den H.o h1 h2
      exact ⟨.b z, by simp [SA.ev, h4, op1], rfl, rfl, fun p _ => by simp [At.sz]⟩
    · rename_i c
      obtain ⟨e, h1, rfl⟩ := op1_some hp
      obtain ⟨v, q, h2, h3, rfl⟩ := op2_some hd
      injection h3 with h3; subst h3
      obtain ⟨z, h4, rfl⟩ := sOf_den H.o h1 h2
      exact ⟨.s (bs z), by simp [SA.ev, h4, op1], rfl, by simp [At.Rep, bs], fun p _ => by simp [At.sz]⟩
    · rename_i c d e
      obtain ⟨x, l, m, h1, h2, h3, rfl⟩ := op3_some hp
      obtain ⟨v, q, h4, h5, rfl⟩ := op2_some hd
      obtain ⟨v2, q2, h6, h7, rfl⟩ := op2_some h5
      obtain ⟨v3, q3, h8, h9, rfl⟩ := op2_some h7
      injection h9 with h9; subst h9
      obtain ⟨z, e1, rfl⟩ := bOf_den H.o h1 h4
      obtain ⟨l1, a1, c1, e2, rfl, r1, s1⟩ := lOf_rd H h2 h6
      obtain ⟨l2, a2, c2, e3, rfl, r2, s2⟩ := lOf_rd H h3 h8
      refine ⟨.r z l1 l2, by simp [SA.ev, e1, e2, e3, op3], rfl, ⟨a1, c1, a2, c2, rfl, r1, r2⟩, fun p hp => ?_⟩
      obtain ⟨p1, p2, g1, g2, rfl⟩ := op2_some hp
      have := s1 p1 g1
      have := s2 p2 g2
      simp only [At.sz, max2]
      have m1 : p1.1 * s ≤ max p1.1 p2.1 * s := Nat.mul_le_mul_right _ (by omega)
      have m2 : p2.1 * s ≤ max p1.1 p2.1 * s := Nat.mul_le_mul_right _ (by omega)
      omega
    · rename_i c d
      obtain ⟨x, l, h1, h2, rfl⟩ := op2_some hp
      obtain ⟨v, q, h4, h5, rfl⟩ := op2_some hd
      obtain ⟨v2, q2, h6, h7, rfl⟩ := op2_some h5
      injection h7 with h7; subst h7
      obtain ⟨z, e1, rfl⟩ := bOf_den H.o h1 h4
      obtain ⟨l1, a1, c1, e2, rfl, r1, s1⟩ := lOf_rd H h2 h6
      exact ⟨.y z l1, by simp [SA.ev, e1, e2, op2], rfl, ⟨a1, c1, rfl, r1⟩, fun p hp => s1 p hp⟩
    · rename_i c
      obtain ⟨l, h1, rfl⟩ := op1_some hp
      obtain ⟨v, q, h2, h3, rfl⟩ := op2_some hd
      injection h3 with h3; subst h3
      obtain ⟨l1, a1, c1, e2, rfl, r1, s1⟩ := lOf_rd H h1 h2
      exact ⟨.u l1, by simp [SA.ev, e2, op1], rfl, ⟨a1, c1, rfl, r1⟩, fun p hp => s1 p hp⟩
    · rename_i z _
      injection hp with hp; subst hp
      obtain ⟨v, q, h2, h3, rfl⟩ := op2_some hd
      injection h3 with h3; subst h3
      injection h2 with h2; subst h2
      exact ⟨.w (.int .u64 z), rfl, rfl, ⟨rfl, rfl, rfl⟩, fun p _ => by simp [At.sz]⟩
    · cases hp
theorem parseL_den : ∀ {shs : List Sh} {cs : List SC} {sas : List SA} {vs : List Value}, parseL sz shs cs = some sas → denL E cs = some vs → ∃ als, evAll E.env sas = some als ∧ Reps w shs als vs ∧ (∀ p, szAll sz sas = some p → ∀ a ∈ als, a.sz ≤ p.1 * s + p.2)
  | [], [], sas, vs, hp, hd => by
    injection hp with hp; subst hp; injection hd with hd; subst hd
    exact ⟨[], rfl, ⟨rfl, rfl⟩, fun p _ a ha => by cases ha⟩
  | [], _ :: _, _, _, hp, _ => by cases hp
  | sh :: r, cs, sas, vs, hp, hd => by
    simp only [parseL] at hp
    split at hp
    · rename_i hle
      obtain ⟨a, l, h1, h2, rfl⟩ := op2_some hp
      obtain ⟨x, h3, h4, h5, h6⟩ := parseA_den H h1 (denL_take sh.size hd)
      obtain ⟨als, g1, g2, g3⟩ := parseL_den h2 (denL_drop sh.size hd)
      refine ⟨x :: als, by simp [evAll, h3, g1, op2], ⟨x, als, _, _, rfl, (List.take_append_drop sh.size vs).symm, h4, h5, g2⟩, fun p hp => ?_⟩
      obtain ⟨p1, p2, q1, q2, rfl⟩ := op2_some hp
      have m1 : p1.1 * s ≤ max p1.1 p2.1 * s := Nat.mul_le_mul_right _ (by omega)
      have m2 : p2.1 * s ≤ max p1.1 p2.1 * s := Nat.mul_le_mul_right _ (by omega)
      intro b hb
      simp only [max2]
      rcases List.mem_cons.1 hb with rfl | hb
      · have := h6 p1 q1; omega
      · have := g3 p2 q2 b hb; omega
    · cases hp
theorem parseB_den {n : Nat} {r : List Sh} {b off m c : Nat} {sas : List SA} {v : Value} (hp : parseB sz h n r b off m = some sas) (hd : op1 (fun β => Value.slice (some ⟨β, off, none⟩) m c) (E.bl b) = some v) : ∃ als, evAll E.env sas = some als ∧ RepV w (.sl n :: r) als v ∧ (∀ p, szAll sz sas = some p → ∀ a ∈ als, a.sz ≤ p.1 * s + p.2) := by
  unfold parseB at hp
  · split at hp
    · rename_i hm
      split at hp
      · rename_i cs hb
        split at hp
        · rename_i hle
          simp only [Bool.and_eq_true] at hle
          obtain ⟨hle, hn16⟩ := hle
          obtain ⟨β, t, vs, h1, h2, h3⟩ := H.blocks b cs hb
          obtain ⟨als, g1, g2, g3⟩ := parseL_den H hp (denL_take (slTot r) (denL_drop off h2))
          have hm' := Nat.eq_of_beq_eq_true hm
          subst hm'
          have hv : v = .slice (some ⟨β, off, none⟩) m c := by
            simp only [h1, op1] at hd
            injection hd with hd
            exact hd.symm
          refine ⟨als, g1, ⟨_, c, _, hv, .inr ⟨β, off, rfl, fun j u hu => ?_⟩, g2⟩, g3⟩
          rw [List.getElem?_take] at hu
          split at hu
          · rename_i hj
            rw [List.getElem?_drop] at hu
            have hj2 : off + j < cs.length := by rw [← denL_len h2]; exact (List.getElem?_eq_some_iff.1 hu).1
            have hc := List.getElem?_eq_getElem hj2
            exact h3.cell hc (all_no16 hn16 (by omega) (by omega) hc) hu
          · cases hu
        · cases hp
      · cases hp
    · cases hp
theorem parseS_den {n : Nat} {r : List Sh} {x : S1} {sas : List SA} {v : Value} (hp : parseS sz h n r x = some sas) (hd : den1 E x = some v) : ∃ als, evAll E.env sas = some als ∧ RepV w (.sl n :: r) als v ∧ (∀ p, szAll sz sas = some p → ∀ a ∈ als, a.sz ≤ p.1 * s + p.2) := by
  unfold parseS at hp
  split at hp
  · exact parseB_den H hp hd
  · exact parseB_den H hp hd
  · cases hp
theorem parse1_den {shs : List Sh} {x : S1} {sas : List SA} {v : Value} (hp : parse1 sz h shs x = some sas) (hd : den1 E x = some v) : ∃ als, evAll E.env sas = some als ∧ RepV w shs als v ∧ (∀ p, szAll sz sas = some p → ∀ a ∈ als, a.sz ≤ p.1 * s + p.2) := by
  by_cases hn : noSl shs = true
  · have e : parse1 sz h shs x = parseO sz shs x := by
      cases shs with
      | nil => rfl
      | cons sh r => cases sh <;> first | rfl | cases hn
    rw [e] at hp
    unfold parseO at hp
    split at hp
    · rename_i c
      split at hp
      · rename_i hs
        obtain ⟨als, h1, h2, h3⟩ := parseL_den H hp (denL_cons hd rfl)
        exact ⟨als, h1, (RepV_of hn).2 ⟨_, h2, by simp [mkV, hs]⟩, h3⟩
      · cases hp
    · rename_i l
      split at hp
      · cases hp
      · rename_i hs
        obtain ⟨vs, h1, rfl⟩ := op1_some hd
        obtain ⟨als, h2, h3, h4⟩ := parseL_den H hp h1
        exact ⟨als, h2, (RepV_of hn).2 ⟨_, h3, by simp [mkV, hs]⟩, h4⟩
  · obtain ⟨n, r, rfl⟩ : ∃ n r, shs = .sl n :: r := by
      cases shs with
      | nil => exact absurd rfl hn
      | cons sh r => cases sh <;> first | exact ⟨_, _, rfl⟩ | exact absurd rfl hn
    exact parseS_den H hp hd
end
theorem evAll_app {e : Ev} : ∀ {l m : List SA} {als bs : List At}, evAll e l = some als → evAll e m = some bs → evAll e (l ++ m) = some (als ++ bs)
  | [], _, _, _, h, h' => by injection h with h; subst h; simpa using h'
  | c :: r, _, _, _, h, h' => by
    obtain ⟨a, b, h1, h2, rfl⟩ := op2_some h
    simp [evAll, h1, evAll_app h2 h', op2]
theorem szAll_app {sz : Szs} : ∀ {l m : List SA} {p : Nat × Nat}, szAll sz (l ++ m) = some p → ∃ p1 p2, szAll sz l = some p1 ∧ szAll sz m = some p2 ∧ p1.1 ≤ p.1 ∧ p1.2 ≤ p.2 ∧ p2.1 ≤ p.1 ∧ p2.2 ≤ p.2
  | [], m, p, h => ⟨(0, 0), p, rfl, h, Nat.zero_le _, Nat.zero_le _, Nat.le_refl _, Nat.le_refl _⟩
  | c :: r, m, p, h => by
    obtain ⟨a, b, h1, h2, rfl⟩ := op2_some h
    obtain ⟨p1, p2, h3, h4, h5, h6, h7, h8⟩ := szAll_app h2
    refine ⟨max2 a p1, p2, by simp [szAll, h1, h3, op2], h4, ?_⟩
    simp only [max2]
    omega
def denVs (E : En) : List SV → Option (List Value)
  | [] => some []
  | c :: r => op2 List.cons (denV E c) (denVs E r)
theorem parseArgs_den {s : Nat} {E : En} {h : List (Option (List SC))} {sz : Szs} {w : World} (H : SatM s E h sz w) : ∀ {shss : List (List Sh)} {xs : List SV} {sas : List SA} {vs : List Value}, parseArgs sz h shss xs = some sas → denVs E xs = some vs →
    ∃ als, evAll E.env sas = some als ∧ RepVs w shss als vs ∧ (∀ p, szAll sz sas = some p → ∀ a ∈ als, a.sz ≤ p.1 * s + p.2)
  | [], [], sas, vs, hp, hd => by
    injection hp with hp; subst hp; injection hd with hd; subst hd
    exact ⟨[], rfl, ⟨rfl, rfl⟩, fun p _ a ha => by cases ha⟩
  | [], _ :: _, _, _, hp, _ => by simp [parseArgs] at hp
  | _ :: _, [], _, _, hp, _ => by simp [parseArgs] at hp
  | _ :: _, .t _ :: _, _, _, hp, _ => by simp [parseArgs] at hp
  | shs :: r, .v x :: q, sas, vs, hp, hd => by
    simp only [parseArgs] at hp
    obtain ⟨l, m, h1, h2, rfl⟩ := op2_some hp
    obtain ⟨v, us, h3, h4, rfl⟩ := op2_some hd
    obtain ⟨als, g1, g2, g3⟩ := parse1_den H h1 h3
    obtain ⟨bs, e1, e2, e3⟩ := parseArgs_den H h2 h4
    refine ⟨als ++ bs, evAll_app g1 e1, ⟨als, bs, v, us, rfl, rfl, g2, e2⟩, fun p hp a ha => ?_⟩
    obtain ⟨p1, p2, q1, q2, q3, q4, q5, q6⟩ := szAll_app hp
    have m1 : p1.1 * s ≤ p.1 * s := Nat.mul_le_mul_right _ q3
    have m2 : p2.1 * s ≤ p.1 * s := Nat.mul_le_mul_right _ q5
    rcases List.mem_append.1 ha with ha | ha
    · have := g3 p1 q1 a ha; omega
    · have := e3 p2 q2 a ha; omega

/-! ### The results -/
theorem Reps_obs {w : World} : ∀ {shs : List Sh} {als : List At} {cs : List Value}, Reps w shs als cs → ∃ obs : List (At × List Value), obs.map (·.1) = als ∧ (∀ q ∈ obs, q.1.Rep w q.2) ∧ obs.map (fun q => q.1.sh) = shs ∧
    (∀ (E' : En) (base : Nat), (∀ i q, obs[i]? = some q → E'.ob (base + i) = some q) → denL E' (cellsFrom base shs) = some cs)
  | [], _, _, h => by
    obtain ⟨rfl, rfl⟩ := h
    exact ⟨[], rfl, fun q hq => by (cases hq), rfl, fun _ _ _ => rfl⟩
  | sh :: shs, _, _, h => by
    obtain ⟨a, r, c1, c2, rfl, rfl, h1, h2, h3⟩ := h
    obtain ⟨obs, g1, g2, g3, g4⟩ := Reps_obs h3
    refine ⟨(a, c1) :: obs, by simp [g1], fun q hq => ?_, by simp [g3, h1], fun E' base hE => ?_⟩
    · rcases List.mem_cons.1 hq with rfl | hq
      · exact h2
      · exact g2 q hq
    · have h0 : E'.ob base = some (a, c1) := hE 0 (a, c1) rfl
      have hr := g4 E' (base + 1) (fun i q hi => by have := hE (i + 1) q (by simpa using hi); rw [← this]; congr 1; omega)
      simp only [cellsFrom]
      refine denL_app ?_ hr
      subst h1
      have he := env_of h0
      cases a with
      | n z => simp only [At.Rep] at h2; subst h2; simp [At.sh, cellsAt, denL, denC, IE.ev, he, evN, op1, op2]
      | b z => simp only [At.Rep] at h2; subst h2; simp [At.sh, cellsAt, denL, denC, BE.ev, he, evB, op1, op2]
      | s z => simp only [At.Rep] at h2; subst h2; simp [At.sh, cellsAt, denL, denC, h0, obC, op2]
      | r neg l m => obtain ⟨a, c, a', c', rfl, _⟩ := h2; simp [At.sh, cellsAt, denL, denC, h0, obC, op2]
      | y neg l => obtain ⟨a, c, rfl, _⟩ := h2; simp [At.sh, cellsAt, denL, denC, h0, obC, op2]
      | u l => obtain ⟨a, c, rfl, _⟩ := h2; simp [At.sh, cellsAt, denL, denC, h0, obC, op2]
      | w z => obtain ⟨rfl, _⟩ := h2; simp [At.sh, cellsAt, denL, denC, h0, obC, op2]
      | k z => simp only [At.Rep] at h2; subst h2; simp [At.sh, cellsAt, denL, denC, op2]
      | kb z => simp only [At.Rep] at h2; subst h2; simp [At.sh, cellsAt, denL, denC, op2]
theorem comp_den {E : En} {base : Nat} {shs : List Sh} {cs : List Value} (h : denL E (cellsFrom base shs) = some cs) : den1 E (comp1 base shs) = some (mkV shs cs) := by
  have hl := denL_len h
  unfold comp1 mkV
  generalize cellsFrom base shs = l at *
  cases hs : single shs with
  | false => simp [den1, h, op1]
  | true =>
    match l, cs, hl with
    | [c], [v], _ =>
      obtain ⟨a, b, h1, h2, h3⟩ := op2_some h
      injection h3 with h3 h4
      subst h3
      exact h1
    | [], [], _ => simp [den1, h, op1]
    | c :: d :: r, v :: u :: q, _ => simp [den1, h, op1]
theorem RepVs_obs {w : World} : ∀ {shss : List (List Sh)} {als : List At} {vs : List Value}, shss.all noSl = true → RepVs w shss als vs → ∃ obs : List (At × List Value), obs.map (·.1) = als ∧ (∀ q ∈ obs, q.1.Rep w q.2) ∧ obs.map (fun q => q.1.sh) = shss.flatten ∧
    (∀ (E' : En) (base : Nat), (∀ i q, obs[i]? = some q → E'.ob (base + i) = some q) → denT E' (compL base shss) = some vs)
  | [], _, _, _, h => by
    obtain ⟨rfl, rfl⟩ := h
    exact ⟨[], rfl, fun q hq => by (cases hq), rfl, fun _ _ _ => rfl⟩
  | shs :: r, _, _, hn, h => by
    simp only [List.all_cons, Bool.and_eq_true] at hn
    obtain ⟨a1, a2, v, q, rfl, rfl, hv, h3⟩ := h
    obtain ⟨cs, h1, rfl⟩ := (RepV_of hn.1).1 hv
    obtain ⟨o1, g1, g2, g3, g4⟩ := Reps_obs h1
    obtain ⟨o2, e1, e2, e3, e4⟩ := RepVs_obs hn.2 h3
    have hlen : o1.length = shs.length := by rw [← g3]; simp
    refine ⟨o1 ++ o2, by simp [g1, e1], fun q hq => ?_, by simp [g3, e3], fun E' base hE => ?_⟩
    · rcases List.mem_append.1 hq with hq | hq
      · exact g2 q hq
      · exact e2 q hq
    · have k1 := g4 E' base (fun i q hi => hE i q (by rw [List.getElem?_append_left (List.getElem?_eq_some_iff.1 hi).1]; exact hi))
      have k2 := e4 E' (base + shs.length) (fun i q hi => by
        have := hE (o1.length + i) q (by rw [List.getElem?_append_right (by omega)]; simpa using hi)
        rw [← this, hlen]; congr 1; omega)
      simp only [compL, denT, comp_den k1, k2, op2]

/-! ### A call whose contract is known -/
theorem callS_ok {P : Program} {Γ : Gam} {s L : Nat} {c : Ct} {f : Nat} {E : En} {S : SS} {w : World} {xs : List SV} {vs : List Value} {R : Ending → World → Prop} (hΓ : GamOk P Γ) (hs : s ≤ L) (hc : Γ f = some c) (H : SatM s E S.h S.sz w) (hx : denVs E xs = some vs)
    (hsat : (callS L c f xs S).sat Γ (fun p e' => ∀ E' w' rvs, SatM s E' p.2.h p.2.sz w' → E'.env = e' → denT E' p.1 = some rvs → Ext w.heap.size E w E' w' → R (.returned (pack rvs)) w') E.env) : Calls P (f % 8192) vs.toArray w R := by
  unfold callS at hsat
  split at hsat
  · rename_i sas hp
    split at hsat
    · rename_i p hsz
      split at hsat
      · rename_i hle
        rw [Bool.and_eq_true] at hle
        obtain ⟨hle, hno⟩ := hle
        obtain ⟨c', als, r, h1, h2, h3, h4⟩ := hsat
        rw [hc] at h1; injection h1 with h1; subst h1
        obtain ⟨as', g1, g2, g3⟩ := parseArgs_den H hp hx
        rw [h2] at g1; injection g1 with g1; subst g1
        have hle' := Nat.le_of_ble_eq_true hle
        have hps : p.1 * s + p.2 ≤ c.L := Nat.le_trans (Nat.add_le_add_right (by rw [Nat.mul_comm p.1 s]; exact Nat.mul_le_mul_right _ hs) _) hle'
        refine (hΓ f c hc (p.1 * s + p.2) w vs als r hps g2 (g3 p hsz) h3).mono ?_
        rintro e w' ⟨rvs, rfl, hr, hz, hE⟩
        obtain ⟨obs, o1, o2, o3, o4⟩ := RepVs_obs hno hr
        let n := S.sz.length
        let E' : En := { E with ob := fun k => match (if Nat.ble n k then obs[k - n]? else none) with
          | some q => some q
          | none => E.ob k }
        have hnone : ∀ k, n ≤ k → E.ob k = none := by
          intro k hk
          cases hq : E.ob k with
          | none => rfl
          | some q =>
            obtain ⟨p, hp⟩ := H.odom k q hq
            have := (List.getElem?_eq_some_iff.1 hp).1
            omega
        have hlow : ∀ k, k < n → E'.ob k = E.ob k := by
          intro k hk
          have : Nat.ble n k = false := by
            cases hb : Nat.ble n k with
            | false => rfl
            | true => have := Nat.le_of_ble_eq_true hb; omega
          simp [E', this]
        have hhigh : ∀ i q, obs[i]? = some q → E'.ob (n + i) = some q := by
          intro i q hi
          have : Nat.ble n (n + i) = true := Nat.ble_eq_true_of_le (by omega)
          simp [E', this, hi]
        have hdom : ∀ k q, E'.ob k = some q → (k < n ∧ E.ob k = some q) ∨ ∃ i, k = n + i ∧ obs[i]? = some q := by
          intro k q hk
          by_cases hlt : k < n
          · rw [hlow k hlt] at hk; exact .inl ⟨hlt, hk⟩
          · refine .inr ⟨k - n, by omega, ?_⟩
            have : Nat.ble n k = true := Nat.ble_eq_true_of_le (by omega)
            simp only [E', this, if_true] at hk
            cases ho : obs[k - n]? with
            | none => simp [ho, hnone k (by omega)] at hk
            | some q' => simpa [ho] using hk
        have hle2 : E.Le E' := ⟨fun _ _ h => h, fun k q hk => by
          by_cases hlt : k < n
          · rw [hlow k hlt]; exact hk
          · rw [hnone k (by omega)] at hk; exact (by cases hk), rfl⟩
        have HK := H.keep hE
        have hol : obs.length = c.res.flatten.length := by rw [← o3]; simp
        refine h4 E' w' rvs ⟨fun b cs hb => ?_, H.inj, HK.dom, H.hdom, fun k q hk => ?_, fun k q hk => ?_⟩ ?_ (o4 E' n hhigh) ⟨hle2, fun b β hb => .inl hb, hE⟩
        · obtain ⟨β, t, us, k1, k2, k3⟩ := HK.blocks b cs hb
          exact ⟨β, t, us, k1, denL_mono hle2 k2, k3⟩
        · by_cases hlt : k < n
          · rw [List.getElem?_append_left hlt] at hk
            obtain ⟨a, cs, k1, k2, k3, k4⟩ := HK.objs k q hk
            exact ⟨a, cs, hle2.ob k _ k1, k2, k3, k4⟩
          · rw [List.getElem?_append_right (by omega)] at hk
            rw [List.getElem?_map] at hk
            cases hf : c.res.flatten[k - S.sz.length]? with
            | none => simp [hf] at hk
            | some sh =>
              simp only [hf, Option.map_some, Option.some.injEq] at hk
              subst hk
              rw [← o3, List.getElem?_map] at hf
              cases ho : obs[k - S.sz.length]? with
              | none => simp [ho] at hf
              | some q =>
                simp only [ho, Option.map_some, Option.some.injEq] at hf
                have hkn : k = n + (k - S.sz.length) := by omega
                have hm := List.mem_of_getElem? ho
                refine ⟨q.1, q.2, ?_, hf, o2 q hm, ?_⟩
                · rw [hkn]; exact hhigh _ _ ho
                · have := hz q.1 (by rw [← o1]; exact List.mem_map_of_mem hm)
                  simp only
                  have e1 : c.A * (p.1 * s + p.2) = c.A * p.1 * s + c.A * p.2 := by rw [Nat.mul_add, Nat.mul_assoc]
                  omega
        · rcases hdom k q hk with ⟨h1, h2⟩ | ⟨i, rfl, hi⟩
          · obtain ⟨p, hp⟩ := H.odom k q h2
            exact ⟨p, by rw [List.getElem?_append_left h1]; exact hp⟩
          · have hil := (List.getElem?_eq_some_iff.1 hi).1
            rw [List.getElem?_append_right (by omega), List.getElem?_map]
            have : i < c.res.flatten.length := by omega
            exact ⟨_, by rw [show n + i - S.sz.length = i by omega, List.getElem?_eq_getElem this]; rfl⟩
        · funext k
          unfold En.env extE
          by_cases hlt : k < n
          · rw [hlow k hlt]
            have : Nat.ble n k = false := by
              cases hb : Nat.ble n k with
              | false => rfl
              | true => have := Nat.le_of_ble_eq_true hb; omega
            simp [n] at this
            simp [this]
          · have : Nat.ble n k = true := Nat.ble_eq_true_of_le (by omega)
            have this' : Nat.ble S.sz.length k = true := this
            simp only [E', this, this', if_true]
            rw [← o1, List.getElem?_map]
            cases ho : obs[k - n]? with
            | none => simp [n] at ho; simp [ho, n, hnone k (by omega)]
            | some q => simp [n] at ho; simp [ho, n]
      · exact hsat.elim
    · exact hsat.elim
  · exact hsat.elim

/-- one object more -/
theorem SatM.obj {s : Nat} {E : En} {h : List (Option (List SC))} {sz : Szs} {w : World} (H : SatM s E h sz w) {a : At} {cs : List Value} {sh : Sh} {A B : Nat} (hsh : a.sh = sh) (hr : a.Rep w cs) (hz : a.sz ≤ A * s + B) :
    ∃ E', SatM s E' h (sz ++ [some (sh, A, B)]) w ∧ E'.env = extE E.env sz.length [a] ∧ E'.ob sz.length = some (a, cs) ∧ E.Le E' ∧ E'.bl = E.bl := by
  have hnone : ∀ k, sz.length ≤ k → E.ob k = none := by
    intro k hk
    cases hq : E.ob k with
    | none => rfl
    | some q =>
      obtain ⟨p, hp⟩ := H.odom k q hq
      have := (List.getElem?_eq_some_iff.1 hp).1
      omega
  let E' : En := { E with ob := fun k => if k = sz.length then some (a, cs) else E.ob k }
  have hle : E.Le E' := ⟨fun _ _ h => h, fun k q hk => by
    show (if k = sz.length then some (a, cs) else E.ob k) = some q
    by_cases e : k = sz.length
    · rw [hnone k (by omega)] at hk; cases hk
    · rw [if_neg e]; exact hk, rfl⟩
  refine ⟨E', ⟨fun b c hb => ?_, H.inj, H.dom, H.hdom, fun k p hk => ?_, fun k q hk => ?_⟩, ?_, if_pos rfl, hle, rfl⟩
  · obtain ⟨β, t, us, k1, k2, k3⟩ := H.blocks b c hb
    exact ⟨β, t, us, k1, denL_mono hle k2, k3⟩
  · by_cases e : k < sz.length
    · rw [List.getElem?_append_left e] at hk
      obtain ⟨x, c, k1, k2, k3, k4⟩ := H.objs k p hk
      exact ⟨x, c, hle.ob k _ k1, k2, k3, k4⟩
    · rw [List.getElem?_append_right (by omega)] at hk
      have e2 : k - sz.length = 0 := by
        have := (List.getElem?_eq_some_iff.1 hk).1
        simp at this; omega
      rw [e2] at hk
      simp at hk
      subst hk
      exact ⟨a, cs, if_pos (by omega), hsh, hr, hz⟩
  · by_cases e : k = sz.length
    · subst e; exact ⟨_, by rw [List.getElem?_append_right (by omega), Nat.sub_self]; rfl⟩
    · have hk' : (if k = sz.length then some (a, cs) else E.ob k) = some q := hk
      rw [if_neg e] at hk'
      obtain ⟨p, hp⟩ := H.odom k q hk'
      exact ⟨p, by rw [List.getElem?_append_left (List.getElem?_eq_some_iff.1 hp).1]; exact hp⟩
  · funext k
    show (if k = sz.length then some (a, cs) else E.ob k).map (·.1) = _
    unfold extE
    by_cases e : k = sz.length
    · subst e; simp
    · rw [if_neg e]
      by_cases e2 : sz.length ≤ k
      · rw [if_pos (Nat.ble_eq_true_of_le e2), List.getElem?_eq_none (by simp; omega)]; rfl
      · rw [if_neg (fun h => e2 (Nat.le_of_ble_eq_true h))]; rfl
theorem SatM.objAt {s : Nat} {E : En} {h : List (Option (List SC))} {sz sz' : Szs} {w : World} (H : SatM s E h sz w) {a : At} {cs : List Value} {sh : Sh} {A B n : Nat} (hp : putO sz n (sh, A, B) = some sz') (hsh : a.sh = sh) (hr : a.Rep w cs) (hz : a.sz ≤ A * s + B) :
    ∃ E', SatM s E' h sz' w ∧ E'.env = extE E.env n [a] ∧ E'.ob n = some (a, cs) ∧ E.Le E' ∧ E'.bl = E.bl := by
  unfold putO at hp
  split at hp
  · rename_i hn
    have hn := Nat.eq_of_beq_eq_true hn
    subst hn
    injection hp with hp; subst hp
    exact H.obj hsh hr hz
  · split at hp
    · rename_i hn0
      injection hp with hp; subst hp
      have hnone : E.ob n = none := by
        cases hq : E.ob n with
        | none => rfl
        | some q =>
          obtain ⟨p, hp⟩ := H.odom n q hq
          rw [hn0] at hp; cases hp
      have hlt := (List.getElem?_eq_some_iff.1 hn0).1
      let E' : En := { E with ob := fun k => if k = n then some (a, cs) else E.ob k }
      have hle : E.Le E' := ⟨fun _ _ h => h, fun k q hk => by
        show (if k = n then some (a, cs) else E.ob k) = some q
        by_cases e : k = n
        · rw [e, hnone] at hk; cases hk
        · rw [if_neg e]; exact hk, rfl⟩
      refine ⟨E', ⟨fun b c hb => ?_, H.inj, H.dom, H.hdom, fun k p hk => ?_, fun k q hk => ?_⟩, ?_, if_pos rfl, hle, rfl⟩
      · obtain ⟨β, t, us, k1, k2, k3⟩ := H.blocks b c hb
        exact ⟨β, t, us, k1, denL_mono hle k2, k3⟩
      · by_cases e : k = n
        · subst e
          rw [List.getElem?_set_self hlt] at hk
          injection hk with hk; injection hk with hk; subst hk
          exact ⟨a, cs, if_pos rfl, hsh, hr, hz⟩
        · rw [List.getElem?_set_ne (fun h => e h.symm)] at hk
          obtain ⟨x, c, k1, k2, k3, k4⟩ := H.objs k p hk
          exact ⟨x, c, hle.ob k _ k1, k2, k3, k4⟩
      · by_cases e : k = n
        · subst e; exact ⟨_, List.getElem?_set_self hlt⟩
        · have hk' : (if k = n then some (a, cs) else E.ob k) = some q := hk
          rw [if_neg e] at hk'
          obtain ⟨p, hp⟩ := H.odom k q hk'
          exact ⟨p, by rw [List.getElem?_set_ne (fun h => e h.symm)]; exact hp⟩
      · funext k
        show (if k = n then some (a, cs) else E.ob k).map (·.1) = _
        unfold extE
        by_cases e : k = n
        · subst e; simp
        · rw [if_neg e]
          by_cases e2 : n ≤ k
          · rw [if_pos (Nat.ble_eq_true_of_le e2), List.getElem?_eq_none (by simp; omega)]; rfl
          · rw [if_neg (fun h => e2 (Nat.le_of_ble_eq_true h))]; rfl
    · cases hp
theorem natLits_den {E : En} : ∀ {cs : List SC} {l : List Nat} {vs : List Value}, natLits cs = some l → denL E cs = some vs → vs = l.map (fun (x : Nat) => Value.int .u16 (x : Int)) ∧ ∀ x ∈ l, x < 65536
  | [], l, vs, h, hd => by
    injection h with h; subst h; injection hd with hd; subst hd
    exact ⟨rfl, by simp⟩
  | c :: r, l, vs, h, hd => by
    unfold natLits at h
    split at h
    · rename_i e; cases e
    · rename_i n r' e
      injection e with e1 e2
      subst e1; subst e2
      split at h
      · rename_i hn
        obtain ⟨a, b, h1, h2, rfl⟩ := op2_some h
        injection h1 with h1; subst h1
        obtain ⟨v, us, h3, h4, rfl⟩ := op2_some hd
        injection h3 with h3; subst h3
        obtain ⟨h5, h6⟩ := natLits_den h2 h4
        refine ⟨by rw [h5]; rfl, fun x hx => ?_⟩
        rcases List.mem_cons.1 hx with rfl | hx
        · have : x ≤ 65535 := by simpa [Nat.blt] using hn
          omega
        · exact h6 x hx
      · cases h
    · cases h
end Go.Proofs.Ytkampmdekonjmaa
