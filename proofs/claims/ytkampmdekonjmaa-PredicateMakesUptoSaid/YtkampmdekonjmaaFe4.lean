/- PredicateSymmetric: for four points. -/
import Derived.Test.YtkampmdekonjmaaFe3
import Derived.OpenShut
namespace Go.Proofs.Ytkampmdekonjmaa
open Go Go.RowKit Go.V Go.ChangeMaps
set_option linter.unusedSimpArgs false
set_option linter.unusedVariables false
set_option maxRecDepth 20000
theorem TR_array {t e n c : Nat} {shs : List Sh} (hu : Try.prog.underlying t = some (.array n e)) (h : TR e shs) (hc : Try.prog.cellsOf e = c) (ht : Try.prog.cellsOf t = n * c) : TR t (List.replicate n shs).flatten := by
  intro H enc W fuel cs x hf
  obtain ⟨xs, m, _, hx, hl, hlen, hall⟩ := DataW.trod_array hu hf
  rw [hc] at hall
  have key : ∀ k, k ≤ n → ∃ als, Reps W (List.replicate k shs).flatten als (cs.take (k * c)) ∧ ∀ a ∈ als, a.rngB (Rows.uptoBulk x.1) := by
    intro k
    induction k with
    | zero => intro _; exact ⟨[], ⟨rfl, by simp⟩, fun a h => by cases h⟩
    | succ k ih =>
      intro hk
      obtain ⟨als, r1, g1⟩ := ih (by omega)
      have h1 := hall k (by omega)
      have hkx : k < xs.length := by omega
      rw [List.getElem?_eq_getElem hkx] at h1
      obtain ⟨als2, r2, g2⟩ := h h1
      have hb : Rows.uptoBulk (xs[k]'hkx).1 ≤ Rows.uptoBulk x.1 := by
        have h3 : (xs[k]'hkx).1 ∈ xs.map (·.1) := List.mem_map.2 ⟨_, List.getElem_mem hkx, rfl⟩
        have h4 := bulk_part h3
        rw [hx]
        simp only [Rows.uptoBulk]
        omega
      refine ⟨als ++ als2, ?_, fun a ha => (List.mem_append.1 ha).elim (g1 a) (fun h => (g2 a h).mono hb)⟩
      have e1 : (List.replicate (k + 1) shs).flatten = (List.replicate k shs).flatten ++ shs := by
        rw [List.replicate_succ', List.flatten_append]; simp
      have e2 : cs.take ((k + 1) * c) = cs.take (k * c) ++ (cs.drop (k * c)).take c := by
        rw [Nat.succ_mul, List.take_add]
      rw [e1, e2]
      exact Reps_app r1 r2
  obtain ⟨als, r, g⟩ := key n (Nat.le_refl _)
  rw [List.take_of_length_le (by rw [hl, ht]; exact Nat.le_refl _)] at r
  exact ⟨als, r, g⟩
theorem okWide_array {t e n : Nat} {W : World} {r : Reach} {base : Nat} {v : Value} (hu : Try.prog.underlying t = some (.array n e)) (h : Value.okWide Try.prog W r base t v) : ∃ cs, v = .agg cs := by
  simp only [Value.okWide, hu] at h
  obtain ⟨cs, h1, h2, _⟩ := h
  exact ⟨cs, h1⟩
theorem TR_openA {t e n : Nat} {shs : List Sh} (h : TR t shs) (hu : Try.prog.underlying t = some (.array n e)) (hs : single shs = false) {H : Type} {enc : TypeId × Value → H} {W : World} {r : Reach} {base : Nat} {v : Value} {d : DataW H} {ps : List MemPlace}
    (hval : Value.okWide Try.prog W r base t v) (hd : DataW.Trod enc Try.prog W 0 (fun _ => true) true t v d ps) (hn : noSl shs = true := by rfl) : ∃ als, RepV W shs als v ∧ ∀ a ∈ als, a.rngB (Rows.uptoBulk d) := by
  obtain ⟨cs, rfl⟩ := okWide_array hu hval
  obtain ⟨fuel, hf⟩ := hd
  obtain ⟨als, hr, hg⟩ := h hf
  exact ⟨als, (RepV_of hn).2 ⟨_, hr, by simp [mkV, hs, Value.cells]⟩, hg⟩
theorem open_P3 {H : Type} {enc : TypeId × Value → H} {W : World} {r : Reach} {base : Nat} {v : Value} {d : DataW H} {ps : List MemPlace}
    (hval : Value.okWide Try.prog W r base 57 v) (hd : DataW.Trod enc Try.prog W 0 (fun _ => true) true 57 v d ps) : ∃ als, RepV W [.r, .r, .r, .r, .r, .r] als v ∧ ∀ a ∈ als, a.rngB (Rows.uptoBulk d) :=
  TR_openA (TR_array (n := 3) Try.underlying57 TR_point (c := 6) (by kernel_rfl) (by kernel_rfl)) Try.underlying57 rfl hval hd
theorem open_Q3 {H : Type} {enc : TypeId × Value → H} {W : World} {r : Reach} {base : Nat} {v : Value} {d : DataW H} {ps : List MemPlace}
    (hval : Value.okWide Try.prog W r base 58 v) (hd : DataW.Trod enc Try.prog W 0 (fun _ => true) true 58 v d ps) : ∃ als, RepV W [.r, .r, .r] als v ∧ ∀ a ∈ als, a.rngB (Rows.uptoBulk d) :=
  TR_openA (TR_array (n := 3) Try.underlying58 TR_rat (c := 3) (by kernel_rfl) (by kernel_rfl)) Try.underlying58 rfl hval hd
/-- atoms that are numbers of short form -/
theorem short2 {als : List At} (hs : ∀ a ∈ als, a.sh = .r) (ho : ∀ a ∈ als, a.okA) : ∀ {l : List (List At)}, chunk2 als = l → l.all qSh2 = true → als.length % 2 = 0 → ∃ qs : List Rat, als = qs.map (fun x => QA.at (.q x)) ∧ ∀ x ∈ qs, (QA.at (.q x)).sz ≤ 2 := by
  intro l hl
  subst hl
  intro hq he
  induction als using chunk2.induct with
  | case1 a b r ih =>
    simp only [chunk2, List.all_cons, Bool.and_eq_true] at hq
    obtain ⟨hq1, hq2⟩ := hq
    obtain ⟨qs, h1, h2⟩ := ih (fun a h => hs a (by simp [h])) (fun a h => ho a (by simp [h])) hq2 (by simp at he; omega)
    have sa := hs a (by simp)
    have sb := hs b (by simp)
    have oa := ho a (by simp)
    have ob := ho b (by simp)
    cases a <;> simp [At.sh] at sa
    cases b <;> simp [At.sh] at sb
    rename_i n1 l1 m1 n2 l2 m2
    simp only [qSh2, Bool.and_eq_true] at hq1
    obtain ⟨e1, e2, e3⟩ := qSh_can oa.1 oa.2 hq1.1
    obtain ⟨e4, e5, e6⟩ := qSh_can ob.1 ob.2 hq1.2
    refine ⟨qv n1 l1 m1 :: qv n2 l2 m2 :: qs, by simp only [List.map_cons]; rw [← e1, ← e4, ← h1], fun x hx => ?_⟩
    simp only [List.mem_cons] at hx
    rcases hx with rfl | rfl | hx
    · rw [← e1]; exact Nat.max_le.2 ⟨e2, e3⟩
    · rw [← e4]; exact Nat.max_le.2 ⟨e5, e6⟩
    · exact h2 x hx
  | case2 als hno =>
    match als, hno, he with
    | [], _, _ => exact ⟨[], rfl, fun x h => by cases h⟩
    | [a], _, he => simp at he
    | a :: b :: r, hno, _ => exact absurd rfl (hno a b r)
theorem szM_of {D : Nat} : ∀ {als : List At}, (∀ a ∈ als, a.sz ≤ D) → szM als ≤ D
  | [], _ => Nat.zero_le _
  | a :: r, h => Nat.max_le.2 ⟨h a (List.mem_cons_self ..), szM_of (fun b hb => h b (List.mem_cons_of_mem _ hb))⟩

end Go.Proofs.Ytkampmdekonjmaa
