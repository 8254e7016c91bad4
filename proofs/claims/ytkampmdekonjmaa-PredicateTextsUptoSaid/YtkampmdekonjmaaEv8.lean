/- Symbolic evaluation: contracts, opened and made. -/
import Derived.Test.YtkampmdekonjmaaEv7
namespace Go.Proofs.Ytkampmdekonjmaa
open Go Go.RowKit Go.V
set_option linter.unusedSimpArgs false
set_option linter.unusedVariables false

def pickO (x y : Option At) : Option At := match x with
  | some a => some a
  | none => y
theorem extE_eq (e : Ev) (base : Nat) (als : List At) (k : Nat) : extE e base als k = if base ≤ k then pickO als[k - base]? (e k) else e k := by
  unfold extE pickO
  by_cases h : base ≤ k
  · rw [if_pos h, if_pos (Nat.ble_eq_true_of_le h)]; cases als[k - base]? <;> rfl
  · rw [if_neg h, if_neg (fun h' => h (Nat.le_of_ble_eq_true h'))]
def gamOf : List (Nat × Ct) → Gam
  | [], _ => none
  | (f, c) :: r, g => if Nat.beq f g then some c else gamOf r g
def AllOk (P : Program) : List (Nat × Ct) → Prop
  | [] => True
  | p :: r => p.2.ok P (p.1 % 8192) ∧ AllOk P r
theorem gamOk_of {P : Program} : ∀ {l : List (Nat × Ct)}, AllOk P l → GamOk P (gamOf l)
  | [], _ => fun f c h => by cases h
  | (g, d) :: r, h => fun f c hc => by
    simp only [gamOf] at hc
    split at hc
    · rename_i e
      injection hc with hc; subst hc
      have e' : g = f := by simpa using e
      subst e'
      exact h.1
    · exact gamOk_of h.2 f c hc
def lookP : List (Nat × Nat × Pn) → Nat → Nat → Option Pn
  | [], _, _ => none
  | (f, i, p) :: r, g, j => if Nat.beq f g && Nat.beq i j then some p else lookP r g j
theorem Ct.ok.weaken {P : Program} {f : Nat} {c : Ct} (h : c.ok P f) {F : List At → Option (List At)} (hF : ∀ als r, F als = some r → c.F als = some r) : Ct.ok P f { c with F := F } :=
  fun s w vs als r h1 h2 h3 h4 => h s w vs als r h1 h2 h3 (hF als r h4)

def inI (z : Int) : Prop := -9223372036854775808 ≤ z ∧ z < 9223372036854775808
instance (z : Int) : Decidable (inI z) := inferInstanceAs (Decidable (_ ∧ _))

/-- sizes given for each atom -/
def argsZ (l : List Sh) (zs : List (Nat × Nat)) : List (Option (Sh × Nat × Nat)) := (l.zip zs).map fun q => some (q.1, q.2.1, q.2.2)
def evTopZ (P : Program) (Γ : Gam) (plans : Nat → Nat → Option Pn) (lf k f : Nat) (args res : List (List Sh)) (zs : List (Nat × Nat)) (L : Nat) : Tr (List SA) :=
  if Nat.beq zs.length args.flatten.length && args.all noSl then (evF P Γ L plans lf k f ((compL 0 args).map .v) { g := [], h := [], sz := argsZ args.flatten zs }).bind fun p => match parseArgs p.2.sz p.2.h res (p.1.map .v) with
    | some sas => .leaf sas
    | none => .bad
  else .bad
/-- A function answers what its code computes, where its arguments are as small as is said. -/
theorem top_okZ {P : Program} {Γ : Gam} (hm : P.follows .mixedOrders = true) (hΓ : GamOk P Γ) {plans : Nat → Nat → Option Pn} {lf k f L : Nat} {args res : List (List Sh)} {zs : List (Nat × Nat)} {t : Tr (List SA)} (h : evTopZ P Γ plans lf k f args res zs L = t) :
    ∀ (s : Nat) (w : World) (vs : List Value) (als r : List At), s ≤ L → RepVs w args als vs → (∀ (i : Nat) (a : At) (p : Nat × Nat), als[i]? = some a → zs[i]? = some p → a.sz ≤ p.1 * s + p.2) → t.den Γ (env0 als) = some r →
      Calls P f vs.toArray w fun e w' => ∃ rvs, e = .returned (pack rvs) ∧ RepVs w' res r rvs ∧ Below w.heap.size w w' := by
  intro s w vs als r hs hr hz hF
  have hno : args.all noSl = true := by
    cases hb : args.all noSl with
    | true => rfl
    | false =>
      have hsat := den_sat t (env0 als) hF
      rw [← h] at hsat
      unfold evTopZ at hsat
      rw [hb, Bool.and_false] at hsat
      exact hsat.elim
  obtain ⟨obs, o1, o2, o3, o4⟩ := RepVs_obs hno hr
  let E : En := { bl := fun _ => none, ob := fun k => obs[k]?, cv := fun _ => 0 }
  have henv : E.env = env0 als := by
    funext k
    unfold En.env env0 extE
    simp only [E]
    have : Nat.ble 0 k = true := by simp
    rw [this, if_pos rfl, Nat.sub_zero, ← o1, List.getElem?_map]
    cases obs[k]? <;> rfl
  have hdt := o4 E 0 (fun i q hi => by simpa [E] using hi)
  have hsat := den_sat t (env0 als) hF
  rw [← h, ← henv] at hsat
  unfold evTopZ at hsat
  split at hsat
  · rename_i hlz
    rw [Bool.and_eq_true] at hlz
    have hlz := Nat.eq_of_beq_eq_true hlz.1
    have HM : SatM s E [] (argsZ args.flatten zs) w := by
      refine ⟨fun b cs hb => (by simp at hb), (fun b b' β hb => by cases hb), (fun b β hb => by cases hb), (fun b β hb => by cases hb), fun k p hk => ?_, fun k q hk => ?_⟩
      · simp only [argsZ, List.getElem?_map, List.getElem?_zip_eq_some, Option.map_eq_some_iff] at hk
        obtain ⟨⟨sh, z⟩, ⟨hf, hzk⟩, hp⟩ := hk
        injection hp with hp; subst hp
        rw [← o3, List.getElem?_map] at hf
        cases ho : obs[k]? with
        | none => simp [ho] at hf
        | some q =>
          simp only [ho, Option.map_some, Option.some.injEq] at hf
          refine ⟨q.1, q.2, ho, hf, o2 q (List.mem_of_getElem? ho), ?_⟩
          exact hz k q.1 z (by rw [← o1, List.getElem?_map, ho]; rfl) hzk
      · have hlt := (List.getElem?_eq_some_iff.1 hk).1
        have hlen : obs.length = args.flatten.length := by rw [← o3]; simp
        have h1 : k < args.flatten.length := by omega
        have h2 : k < zs.length := by omega
        exact ⟨_, by simp only [argsZ, List.getElem?_map]; rw [(List.getElem?_zip_eq_some (z := (args.flatten[k], zs[k]))).2 ⟨List.getElem?_eq_getElem h1, List.getElem?_eq_getElem h2⟩]; rfl⟩
    rw [sat_bind] at hsat
    refine evF_sound hm hΓ hs plans lf k f _ _ E w vs _ _ HM (denT_map hdt) hsat ?_
    intro p E' w' rvs hq hm' hdt' hx
    split at hq
    · rename_i sas hp
      obtain ⟨als', g1, g2, g3⟩ := parseArgs_den hm' hp (denT_map hdt')
      have hq' : evAll E'.env sas = some r := hq
      rw [g1] at hq'; injection hq' with hq'; subst hq'
      exact ⟨rvs, rfl, g2, hx.bel⟩
    · exact hq.elim
  · exact hsat.elim
/-! ### What represents what -/
section
variable {w : World} {als : List At} {vs : List Value} {v : Value}
theorem repVs_nil : RepVs w [] als vs ↔ als = [] ∧ vs = [] := Iff.rfl
theorem repVs_cons {shs : List Sh} {r : List (List Sh)} : RepVs w (shs :: r) als vs ↔ ∃ a1 a2 v q, als = a1 ++ a2 ∧ vs = v :: q ∧ RepV w shs a1 v ∧ RepVs w r a2 q := Iff.rfl
theorem repV_n : RepV w [.n] als v ↔ ∃ z, als = [.n z] ∧ v = .int .i64 z := by
  constructor
  · rintro ⟨cs, ⟨a, r, c1, c2, rfl, rfl, h1, h2, rfl, rfl⟩, rfl⟩
    cases a <;> simp [At.sh] at h1
    simp only [At.Rep] at h2; subst h2
    exact ⟨_, rfl, rfl⟩
  · rintro ⟨z, rfl, rfl⟩
    exact ⟨[_], ⟨_, _, [_], [], rfl, rfl, rfl, rfl, rfl, rfl⟩, rfl⟩
theorem repV_b : RepV w [.b] als v ↔ ∃ z, als = [.b z] ∧ v = .bool z := by
  constructor
  · rintro ⟨cs, ⟨a, r, c1, c2, rfl, rfl, h1, h2, rfl, rfl⟩, rfl⟩
    cases a <;> simp [At.sh] at h1
    simp only [At.Rep] at h2; subst h2
    exact ⟨_, rfl, rfl⟩
  · rintro ⟨z, rfl, rfl⟩
    exact ⟨[_], ⟨_, _, [_], [], rfl, rfl, rfl, rfl, rfl, rfl⟩, rfl⟩
theorem repV_s : RepV w [.s] als v ↔ ∃ l : List UInt8, als = [.s l] ∧ v = .string ⟨l.toArray⟩ := by
  constructor
  · rintro ⟨cs, ⟨a, r, c1, c2, rfl, rfl, h1, h2, rfl, rfl⟩, rfl⟩
    cases a <;> simp [At.sh] at h1
    simp only [At.Rep] at h2; subst h2
    exact ⟨_, rfl, rfl⟩
  · rintro ⟨z, rfl, rfl⟩
    exact ⟨[_], ⟨_, _, [_], [], rfl, rfl, rfl, rfl, rfl, rfl⟩, rfl⟩
theorem repV_w : RepV w [.w] als v ↔ ∃ z, als = [.w z] ∧ v = z ∧ z.oneCell' = true ∧ no16 z = true := by
  constructor
  · rintro ⟨cs, ⟨a, r, c1, c2, rfl, rfl, h1, h2, rfl, rfl⟩, rfl⟩
    cases a <;> simp [At.sh] at h1
    obtain ⟨rfl, h3, h4⟩ := h2
    exact ⟨_, rfl, rfl, h3, h4⟩
  · rintro ⟨z, rfl, rfl, h3, h4⟩
    exact ⟨[_], ⟨_, _, [_], [], rfl, rfl, rfl, ⟨rfl, h3, h4⟩, rfl, rfl⟩, rfl⟩
theorem repV_u : RepV w [.u] als v ↔ ∃ l a c, als = [.u l] ∧ v = .slice a l.length c ∧ RD w a c l := by
  constructor
  · rintro ⟨cs, ⟨a, r, c1, c2, rfl, rfl, h1, h2, rfl, rfl⟩, rfl⟩
    cases a <;> simp [At.sh] at h1
    obtain ⟨a, c, rfl, h3⟩ := h2
    exact ⟨_, a, c, rfl, rfl, h3⟩
  · rintro ⟨l, a, c, rfl, rfl, h⟩
    exact ⟨[_], ⟨_, _, [_], [], rfl, rfl, rfl, ⟨a, c, rfl, h⟩, rfl, rfl⟩, rfl⟩
theorem repV_y : RepV w [.y] als v ↔ ∃ neg l a c, als = [.y neg l] ∧ v = .agg #[.bool neg, .slice a l.length c] ∧ RD w a c l := by
  constructor
  · rintro ⟨cs, ⟨a, r, c1, c2, rfl, rfl, h1, h2, rfl, rfl⟩, rfl⟩
    cases a <;> simp [At.sh] at h1
    obtain ⟨a, c, rfl, h3⟩ := h2
    exact ⟨_, _, a, c, rfl, rfl, h3⟩
  · rintro ⟨neg, l, a, c, rfl, rfl, h⟩
    exact ⟨[_, _], ⟨_, _, [_, _], [], rfl, rfl, rfl, ⟨a, c, rfl, h⟩, rfl, rfl⟩, rfl⟩
theorem repV_r : RepV w [.r] als v ↔ ∃ neg l m a c a' c', als = [.r neg l m] ∧ v = .agg #[.bool neg, .slice a l.length c, .slice a' m.length c'] ∧ RD w a c l ∧ RD w a' c' m := by
  constructor
  · rintro ⟨cs, ⟨a, r, c1, c2, rfl, rfl, h1, h2, rfl, rfl⟩, rfl⟩
    cases a <;> simp [At.sh] at h1
    obtain ⟨a, c, a', c', rfl, h3, h4⟩ := h2
    exact ⟨_, _, _, a, c, a', c', rfl, rfl, h3, h4⟩
  · rintro ⟨neg, l, m, a, c, a', c', rfl, rfl, h, h'⟩
    exact ⟨[_, _, _], ⟨_, _, [_, _, _], [], rfl, rfl, rfl, ⟨a, c, a', c', rfl, h, h'⟩, rfl, rfl⟩, rfl⟩
end
/-- results of one value -/
theorem ret1 {w w' : World} {c : Ct} {s : Nat} {r : List At} {e : Ending} {v : Value} {shs : List Sh} (hres : c.res = [shs]) (he : e = .returned v) (hv : RepV w' shs r v) (hz : ∀ a ∈ r, a.sz ≤ c.A * s + c.B) (hE : Below w.heap.size w w') :
    ∃ rvs, e = .returned (pack rvs) ∧ RepVs w' c.res r rvs ∧ (∀ a ∈ r, a.sz ≤ c.A * s + c.B) ∧ Below w.heap.size w w' :=
  ⟨[v], he, by rw [hres]; exact ⟨r, [], v, [], by simp, rfl, hv, rfl, rfl⟩, hz, hE⟩
/-- of two values -/
theorem ret2 {w w' : World} {c : Ct} {s : Nat} {r1 r2 : List At} {e : Ending} {v u : Value} {shs tss : List Sh} (hres : c.res = [shs, tss]) (he : e = .returned (.tuple #[v, u])) (hv : RepV w' shs r1 v) (hu : RepV w' tss r2 u) (hz : ∀ a ∈ r1 ++ r2, a.sz ≤ c.A * s + c.B) (hE : Below w.heap.size w w') :
    ∃ rvs, e = .returned (pack rvs) ∧ RepVs w' c.res (r1 ++ r2) rvs ∧ (∀ a ∈ r1 ++ r2, a.sz ≤ c.A * s + c.B) ∧ Below w.heap.size w w' :=
  ⟨[v, u], he, by rw [hres]; exact ⟨r1, r2, v, [u], rfl, rfl, hv, r2, [], u, [], by simp, rfl, hu, rfl, rfl⟩, hz, hE⟩
theorem ret3 {w w' : World} {c : Ct} {s : Nat} {r1 r2 r3 : List At} {e : Ending} {v u x : Value} {shs tss uss : List Sh} (hres : c.res = [shs, tss, uss]) (he : e = .returned (.tuple #[v, u, x])) (hv : RepV w' shs r1 v) (hu : RepV w' tss r2 u) (hx : RepV w' uss r3 x) (hz : ∀ a ∈ r1 ++ (r2 ++ r3), a.sz ≤ c.A * s + c.B) (hE : Below w.heap.size w w') :
    ∃ rvs, e = .returned (pack rvs) ∧ RepVs w' c.res (r1 ++ (r2 ++ r3)) rvs ∧ (∀ a ∈ r1 ++ (r2 ++ r3), a.sz ≤ c.A * s + c.B) ∧ Below w.heap.size w w' :=
  ⟨[v, u, x], he, by rw [hres]; exact ⟨r1, r2 ++ r3, v, [u, x], rfl, rfl, hv, r2, r3, u, [x], rfl, rfl, hu, r3, [], x, [], by simp, rfl, hx, rfl, rfl⟩, hz, hE⟩
theorem law_ret {w w' : World} {A B s : Nat} {e : Ending} (h : ∃ rvs, e = .returned (pack rvs) ∧ RepVs w' [[.b]] [.b true] rvs ∧ (∀ a ∈ [At.b true], a.sz ≤ A * s + B) ∧ Below w.heap.size w w') : e = .returned (.bool true) ∧ Below w.heap.size w w' := by
  obtain ⟨rvs, he, ⟨a1, a2, v, q, e1, rfl, h1, rfl, rfl⟩, _, hE⟩ := h
  obtain ⟨z, e2, rfl⟩ := repV_b.1 h1
  rw [e2] at e1
  simp at e1
  subst e1
  exact ⟨he, hE⟩
/-! ### Results that are known -/
def baseSh : Sh → Sh
  | .k _ => .n
  | .kb _ => .b
  | sh => sh
/-- results, with those known that are said to be -/
def kA : Sh → At → Option At
  | .k z, .n z' => if z = z' then some (.k z) else none
  | .kb x, .b x' => if x = x' then some (.kb x) else none
  | .k _, _ => none
  | .kb _, _ => none
  | .sl _, _ => none
  | _, a => some a
def kAs : List Sh → List At → Option (List At)
  | [], [] => some []
  | sh :: s, a :: l => op2 List.cons (kA sh a) (kAs s l)
  | _, _ => none
theorem kA_rep {sh : Sh} {a a' : At} {w : World} {cs : List Value} (h : kA sh a = some a') (hs : a.sh = baseSh sh) (hr : a.Rep w cs) : a'.sh = sh ∧ a'.Rep w cs ∧ a'.sz ≤ a.sz := by
  cases sh <;> cases a <;> simp [kA, baseSh, At.sh] at h hs <;> first | (subst h; exact ⟨rfl, hr, Nat.le_refl _⟩) | (obtain ⟨rfl, rfl⟩ := h; exact ⟨rfl, hr, Nat.le_refl _⟩)
theorem kAs_reps {w : World} : ∀ {shs : List Sh} {r r' : List At} {cs : List Value}, kAs shs r = some r' → Reps w (shs.map baseSh) r cs → Reps w shs r' cs
  | [], r, r', cs, h, hr => by
    obtain ⟨rfl, rfl⟩ := hr
    injection h with h; subst h
    exact ⟨rfl, rfl⟩
  | sh :: s, r, r', cs, h, hr => by
    obtain ⟨a, l, c1, c2, rfl, rfl, h1, h2, h3⟩ := hr
    obtain ⟨a', l', g1, g2, rfl⟩ := op2_some h
    obtain ⟨k1, k2, _⟩ := kA_rep g1 h1 h2
    exact ⟨a', l', c1, c2, rfl, rfl, k1, k2, kAs_reps g2 h3⟩
theorem kAs_len : ∀ {shs : List Sh} {r r' : List At}, kAs shs r = some r' → r.length = shs.length ∧ r'.length = shs.length
  | [], [], r', h => by injection h with h; subst h; exact ⟨rfl, rfl⟩
  | sh :: s, a :: l, r', h => by
    obtain ⟨a', l', _, g2, rfl⟩ := op2_some h
    have := kAs_len g2
    simp [this.1, this.2]
  | [], _ :: _, _, h => by cases h
  | _ :: _, [], _, h => by cases h
theorem kAs_app : ∀ {s1 s2 : List Sh} {r1 r2 r' : List At}, r1.length = s1.length → kAs (s1 ++ s2) (r1 ++ r2) = some r' → ∃ q1 q2, r' = q1 ++ q2 ∧ kAs s1 r1 = some q1 ∧ kAs s2 r2 = some q2
  | [], s2, [], r2, r', _, h => ⟨[], r', rfl, rfl, h⟩
  | sh :: s, s2, a :: l, r2, r', hl, h => by
    obtain ⟨a', l', g1, g2, rfl⟩ := op2_some h
    obtain ⟨q1, q2, rfl, h1, h2⟩ := kAs_app (by simpa using hl) g2
    exact ⟨a' :: q1, q2, rfl, by simp [kAs, g1, h1, op2], h2⟩
  | [], _, _ :: _, _, _, hl, _ => by simp at hl
  | _ :: _, _, [], _, _, hl, _ => by simp at hl
theorem kAs_sz {w : World} : ∀ {shs : List Sh} {r r' : List At} {B : Nat}, kAs shs r = some r' → (∀ a ∈ r, a.sz ≤ B) → ∀ a ∈ r', a.sz ≤ B
  | [], [], r', B, h, hz => by injection h with h; subst h; intro a ha; cases ha
  | sh :: s, a :: l, r', B, h, hz => by
    obtain ⟨a', l', g1, g2, rfl⟩ := op2_some h
    intro x hx
    rcases List.mem_cons.1 hx with rfl | hx
    · have h0 := hz a (List.mem_cons_self ..)
      cases sh <;> cases a <;> simp [kA] at g1 <;> first | (subst g1; exact h0) | (obtain ⟨_, rfl⟩ := g1; exact Nat.zero_le _)
    · exact kAs_sz (w := w) g2 (fun y hy => hz y (List.mem_cons_of_mem _ hy)) x hx
  | [], _ :: _, _, _, h, _ => by cases h
  | _ :: _, [], _, _, h, _ => by cases h
theorem single_base : ∀ shs : List Sh, single (shs.map baseSh) = single shs
  | [] => rfl
  | [sh] => by cases sh <;> rfl
  | a :: _ :: _ => by cases a <;> rfl
theorem kAs_noSl {shs : List Sh} {r r' : List At} (h : kAs shs r = some r') : noSl shs = true ∧ noSl (shs.map baseSh) = true := by
  cases shs with
  | nil => exact ⟨rfl, rfl⟩
  | cons sh s =>
    cases sh <;> first
      | exact ⟨rfl, rfl⟩
      | (cases r with
        | nil => cases h
        | cons a l => simp only [kAs, kA, op2] at h; cases h)
theorem kAs_repV {w : World} {shs : List Sh} {r r' : List At} {v : Value} (h : kAs shs r = some r') (hr : RepV w (shs.map baseSh) r v) : RepV w shs r' v := by
  obtain ⟨n1, n2⟩ := kAs_noSl h
  obtain ⟨cs, h1, h2⟩ := (RepV_of n2).1 hr
  refine (RepV_of n1).2 ⟨cs, kAs_reps h h1, ?_⟩
  rw [h2]
  unfold mkV
  rw [single_base]
theorem Reps_len {w : World} : ∀ {shs : List Sh} {r : List At} {cs : List Value}, Reps w shs r cs → r.length = shs.length
  | [], r, cs, h => by obtain ⟨rfl, _⟩ := h; rfl
  | sh :: s, r, cs, h => by
    obtain ⟨a, l, c1, c2, rfl, _, _, _, h3⟩ := h
    simp [Reps_len h3]
theorem kAs_pre : ∀ {s1 s2 : List Sh} {r r' : List At}, kAs (s1 ++ s2) r = some r' → noSl s1 = true ∧ noSl (s1.map baseSh) = true
  | [], _, _, _, _ => ⟨rfl, rfl⟩
  | sh :: s, s2, r, r', h => by
    cases sh <;> first
      | exact ⟨rfl, rfl⟩
      | (cases r with
        | nil => cases h
        | cons a l => simp only [List.cons_append, kAs, kA, op2] at h; cases h)
theorem kAs_repVs {w : World} : ∀ {res : List (List Sh)} {r r' : List At} {rvs : List Value}, kAs res.flatten r = some r' → RepVs w (res.map (·.map baseSh)) r rvs → RepVs w res r' rvs
  | [], r, r', rvs, h, hr => by
    obtain ⟨rfl, rfl⟩ := hr
    injection h with h; subst h
    exact ⟨rfl, rfl⟩
  | shs :: res, r, r', rvs, h, hr => by
    obtain ⟨a1, a2, v, q, rfl, rfl, h1, h2⟩ := hr
    obtain ⟨n1, n2⟩ := kAs_pre (s1 := shs) h
    have hl : a1.length = shs.length := by
      obtain ⟨cs, hc, _⟩ := (RepV_of n2).1 h1
      have := Reps_len hc
      simpa using this
    obtain ⟨q1, q2, rfl, k1, k2⟩ := kAs_app hl h
    exact ⟨q1, q2, v, q, rfl, rfl, kAs_repV k1 h1, kAs_repVs k2 h2⟩
/-- a contract whose results are known in part -/
theorem Ct.ok.konst {P : Program} {f : Nat} {c : Ct} (h : c.ok P f) {res : List (List Sh)} (hres : res.map (·.map baseSh) = c.res) {F : List At → Option (List At)} (hF : ∀ als r', F als = some r' → ∃ r, c.F als = some r ∧ kAs res.flatten r = some r') :
    Ct.ok P f { c with res := res, F := F } := by
  intro s w vs als r' hs hr hz hFF
  obtain ⟨r, h1, h2⟩ := hF als r' hFF
  refine (h s w vs als r hs hr hz h1).mono ?_
  rintro e w' ⟨rvs, he, hrv, hsz, hb⟩
  rw [← hres] at hrv
  exact ⟨rvs, he, kAs_repVs h2 hrv, kAs_sz (w := w') h2 hsz, hb⟩
end Go.Proofs.Ytkampmdekonjmaa
