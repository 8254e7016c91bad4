/- PredicateSymmetric: for four points. -/
import Derived.Test.YtkampmdekonjmaaFe3
import Derived.OpenShut
namespace Go.Proofs.Ytkampmdekonjmaa
open Go Go.RowKit Go.V Go.ChangeMaps
set_option linter.unusedSimpArgs false
set_option linter.unusedVariables false
set_option maxRecDepth 20000
theorem TR_array {t e n c : Nat} {shs : List Sh} (hu : Try.prog.underlying t = some (.array n e)) (h : TR e shs) (hc : Try.prog.cellsOf e = c) (ht : Try.prog.cellsOf t = n * c) : TR t (List.replicate n shs).flatten := by
  intro H enc W fuel cs x hf
  obtain ⟨xs, m, _, hx, hl, hlen, hall⟩ := DataW.trod_array hu hf
  rw [hc] at hall
  have key : ∀ k, k ≤ n → ∃ als, Reps W (List.replicate k shs).flatten als (cs.take (k * c)) ∧ ∀ a ∈ als, a.rngB (Rows.uptoBulk x.1) := by
    intro k
    induction k with
    | zero => intro _; exact ⟨[], ⟨rfl, by simp⟩, fun a h => by cases h⟩
    | succ k ih =>
      intro hk
      obtain ⟨als, r1, g1⟩ := ih (by omega)
      have h1 := hall k (by omega)
      have hkx : k < xs.length := by omega
      rw [List.getElem?_eq_getElem hkx] at h1
      obtain ⟨als2, r2, g2⟩ := h h1
      have hb : Rows.uptoBulk (xs[k]'hkx).1 ≤ Rows.uptoBulk x.1 := by
        have h3 : (xs[k]'hkx).1 ∈ xs.map (·.1) := List.mem_map.2 ⟨_, List.getElem_mem hkx, rfl⟩
        have h4 := bulk_part h3
        rw [hx]
        simp only [Rows.uptoBulk]
        omega
      refine ⟨als ++ als2, ?_, fun a ha => (List.mem_append.1 ha).elim (g1 a) (fun h => (g2 a h).mono hb)⟩
      have e1 : (List.replicate (k + 1) shs).flatten = (List.replicate k shs).flatten ++ shs := by
        rw [List.replicate_succ', List.flatten_append]; simp
      have e2 : cs.take ((k + 1) * c) = cs.take (k * c) ++ (cs.drop (k * c)).take c := by
        rw [Nat.succ_mul, List.take_add]
      rw [e1, e2]
      exact Reps_app r1 r2
  obtain ⟨als, r, g⟩ := key n (Nat.le_refl _)
  rw [List.take_of_length_le (by rw [hl, ht]; exact Nat.le_refl _)] at r
  exact ⟨als, r, g⟩
theorem okWide_array {t e n : Nat} {W : World} {r : Reach} {base : Nat} {v : Value} (hu : Try.prog.underlying t = some (.array n e)) (h : Value.okWide Try.prog W r base t v) : ∃ cs, v = .agg cs := by
  simp only [Value.okWide, hu] at h
  obtain ⟨cs, h1, h2, _⟩ := h
  exact ⟨cs, h1⟩
theorem TR_openA {t e n : Nat} {shs : List Sh} (h : TR t shs) (hu : Try.prog.underlying t = some (.array n e)) (hs : single shs = false) {H : Type} {enc : TypeId × Value → H} {W : World} {r : Reach} {base : Nat} {v : Value} {d : DataW H} {ps : List MemPlace}
    (hval : Value.okWide Try.prog W r base t v) (hd : DataW.Trod enc Try.prog W 0 (fun _ => true) true t v d ps) (hn : noSl shs = true := by rfl) : ∃ als, RepV W shs als v ∧ ∀ a ∈ als, a.rngB (Rows.uptoBulk d) := by
  obtain ⟨cs, rfl⟩ := okWide_array hu hval
  obtain ⟨fuel, hf⟩ := hd
  obtain ⟨als, hr, hg⟩ := h hf
  exact ⟨als, (RepV_of hn).2 ⟨_, hr, by simp [mkV, hs, Value.cells]⟩, hg⟩
theorem open_P4 {H : Type} {enc : TypeId × Value → H} {W : World} {r : Reach} {base : Nat} {v : Value} {d : DataW H} {ps : List MemPlace}
    (hval : Value.okWide Try.prog W r base 53 v) (hd : DataW.Trod enc Try.prog W 0 (fun _ => true) true 53 v d ps) : ∃ als, RepV W [.r, .r, .r, .r, .r, .r, .r, .r] als v ∧ ∀ a ∈ als, a.rngB (Rows.uptoBulk d) :=
  TR_openA (TR_array (n := 4) Try.underlying53 TR_point (c := 6) (by kernel_rfl) (by kernel_rfl)) Try.underlying53 rfl hval hd
theorem open_P3 {H : Type} {enc : TypeId × Value → H} {W : World} {r : Reach} {base : Nat} {v : Value} {d : DataW H} {ps : List MemPlace}
    (hval : Value.okWide Try.prog W r base 57 v) (hd : DataW.Trod enc Try.prog W 0 (fun _ => true) true 57 v d ps) : ∃ als, RepV W [.r, .r, .r, .r, .r, .r] als v ∧ ∀ a ∈ als, a.rngB (Rows.uptoBulk d) :=
  TR_openA (TR_array (n := 3) Try.underlying57 TR_point (c := 6) (by kernel_rfl) (by kernel_rfl)) Try.underlying57 rfl hval hd
theorem open_Q3 {H : Type} {enc : TypeId × Value → H} {W : World} {r : Reach} {base : Nat} {v : Value} {d : DataW H} {ps : List MemPlace}
    (hval : Value.okWide Try.prog W r base 58 v) (hd : DataW.Trod enc Try.prog W 0 (fun _ => true) true 58 v d ps) : ∃ als, RepV W [.r, .r, .r] als v ∧ ∀ a ∈ als, a.rngB (Rows.uptoBulk d) :=
  TR_openA (TR_array (n := 3) Try.underlying58 TR_rat (c := 3) (by kernel_rfl) (by kernel_rfl)) Try.underlying58 rfl hval hd
/-- atoms that are numbers of short form -/
theorem short2 {als : List At} (hs : ∀ a ∈ als, a.sh = .r) (ho : ∀ a ∈ als, a.okA) : ∀ {l : List (List At)}, chunk2 als = l → l.all qSh2 = true → als.length % 2 = 0 → ∃ qs : List Rat, als = qs.map (fun x => QA.at (.q x)) ∧ ∀ x ∈ qs, (QA.at (.q x)).sz ≤ 2 := by
  intro l hl
  subst hl
  intro hq he
  induction als using chunk2.induct with
  | case1 a b r ih =>
    simp only [chunk2, List.all_cons, Bool.and_eq_true] at hq
    obtain ⟨hq1, hq2⟩ := hq
    obtain ⟨qs, h1, h2⟩ := ih (fun a h => hs a (by simp [h])) (fun a h => ho a (by simp [h])) hq2 (by simp at he; omega)
    have sa := hs a (by simp)
    have sb := hs b (by simp)
    have oa := ho a (by simp)
    have ob := ho b (by simp)
    cases a <;> simp [At.sh] at sa
    cases b <;> simp [At.sh] at sb
    rename_i n1 l1 m1 n2 l2 m2
    simp only [qSh2, Bool.and_eq_true] at hq1
    obtain ⟨e1, e2, e3⟩ := qSh_can oa.1 oa.2 hq1.1
    obtain ⟨e4, e5, e6⟩ := qSh_can ob.1 ob.2 hq1.2
    refine ⟨qv n1 l1 m1 :: qv n2 l2 m2 :: qs, by simp only [List.map_cons]; rw [← e1, ← e4, ← h1], fun x hx => ?_⟩
    simp only [List.mem_cons] at hx
    rcases hx with rfl | rfl | hx
    · rw [← e1]; exact Nat.max_le.2 ⟨e2, e3⟩
    · rw [← e4]; exact Nat.max_le.2 ⟨e5, e6⟩
    · exact h2 x hx
  | case2 als hno =>
    match als, hno, he with
    | [], _, _ => exact ⟨[], rfl, fun x h => by cases h⟩
    | [a], _, he => simp at he
    | a :: b :: r, hno, _ => exact absurd rfl (hno a b r)
theorem szM_of {D : Nat} : ∀ {als : List At}, (∀ a ∈ als, a.sz ≤ D) → szM als ≤ D
  | [], _ => Nat.zero_le _
  | a :: r, h => Nat.max_le.2 ⟨h a (List.mem_cons_self ..), szM_of (fun b hb => h b (List.mem_cons_of_mem _ hb))⟩
theorem predicateSymmetric_any {v : Value} {B : Nat} {w : World} {als : List At} (hr : RepV w [.r, .r, .r, .r, .r, .r, .r, .r] als v) (hg : ∀ a ∈ als, a.rngB B) (hB : B ≤ 1048576) :
    Calls Try.prog 6 #[v] w fun e w' => e = .returned (.bool true) ∧ Below w.heap.size w w' := by
  have hrs : RepVs w [[.r, .r, .r, .r, .r, .r, .r, .r]] als [v] := ⟨als, _, _, _, by simp, rfl, hr, rfl, rfl⟩
  obtain ⟨ho, hs⟩ := RepV_okA hr
  have hz : ∀ a ∈ als, a.sz ≤ 1048576 := fun a ha => Nat.le_trans (hg a ha).2 hB
  have hsr : ∀ a ∈ als, a.sh = .r := by
    intro a ha
    have : a.sh ∈ als.map At.sh := List.mem_map_of_mem ha
    rw [hs] at this
    simp only [List.mem_cons, List.not_mem_nil, or_false, or_self] at this
    exact this
  have hl8 : als.length = 8 := by have := congrArg List.length hs; simpa using this
  cases hf : fitB (chunk2 als) with
  | false =>
    obtain ⟨e1, e2, e3, e4, e5, e6, e7, e8, rfl⟩ := len8 hl8
    obtain ⟨a1, l1, m1, rfl⟩ := sh_r (hsr e1 (by simp))
    obtain ⟨a2, l2, m2, rfl⟩ := sh_r (hsr e2 (by simp))
    obtain ⟨a3, l3, m3, rfl⟩ := sh_r (hsr e3 (by simp))
    obtain ⟨a4, l4, m4, rfl⟩ := sh_r (hsr e4 (by simp))
    obtain ⟨a5, l5, m5, rfl⟩ := sh_r (hsr e5 (by simp))
    obtain ⟨a6, l6, m6, rfl⟩ := sh_r (hsr e6 (by simp))
    obtain ⟨a7, l7, m7, rfl⟩ := sh_r (hsr e7 (by simp))
    obtain ⟨a8, l8, m8, rfl⟩ := sh_r (hsr e8 (by simp))
    exact law_two ev_symB ev_symB hrs hz (.inr (symB_den _ _ _ _ _ _ _ _ _ _ _ _ _ _ _ _ _ _ _ _ _ _ _ _ hf))
  | true =>
    have hf' := hf
    unfold fitB at hf'
    rw [Bool.and_eq_true] at hf'
    obtain ⟨qs, rfl, hq2⟩ := short2 hsr ho rfl hf'.1 (by rw [hl8])
    have hq8 : qs.length = 8 := by simpa using hl8
    obtain ⟨x1, x2, x3, x4, x5, x6, x7, x8, rfl⟩ := len8 hq8
    exact law_two ev_symA ev_symB hrs hz (.inl ⟨szM_of (fun a ha => by
      obtain ⟨x, hx, rfl⟩ := List.mem_map.1 ha
      exact hq2 x hx), symA_den _ _ _ _ _ _ _ _ hf⟩)
set_option maxRecDepth 100000 in
theorem predicateSymmetric_liftedU (os : Os) (started : os.Started) (H : Type) (enc : TypeId × Value → H) (F : Stop.Interp) :
    ReturnsInHanded {} Try.checked os 6 .any ((Rows.OpenSpec.upto Rows.predicateSymmetricSpec).pre6 enc Try.prog Try.f6 Rows.predicateSymmetricUptoRow.domain false) (((Rows.OpenSpec.upto Rows.predicateSymmetricSpec).at F).post enc Try.prog Try.f6 false true false false) := by
  refine law_liftedU (C := Try.checked) (s := Rows.predicateSymmetricSpec) Try.own Try.laidOut (by kernel_rfl) Try.func6 rfl 4 rfl Try.underlying4 (by kernel_rfl) enc ?_ ?_ os started F
    (OpenSpec.witness (enc := enc) (C := Try.checked) (s := Rows.OpenSpec.upto Rows.predicateSymmetricSpec) (k := Rows.uptoSmall) rfl false ⟨#[], #[.agg #[.bool false, .slice none 0 0, .slice none 0 0, .bool false, .slice none 0 0, .slice none 0 0, .bool false, .slice none 0 0, .slice none 0 0, .bool false, .slice none 0 0, .slice none 0 0, .bool false, .slice none 0 0, .slice none 0 0, .bool false, .slice none 0 0, .slice none 0 0, .bool false, .slice none 0 0, .slice none 0 0, .bool false, .slice none 0 0, .slice none 0 0]], []⟩ 8 (by kernel_rfl) (by kernel_rfl) (by kernel_rfl) (x := ([.agg [.agg [.agg [.agg [.lit (.bool false), .nil], .nil], .agg [.agg [.lit (.bool false), .nil], .nil]], .agg [.agg [.agg [.lit (.bool false), .nil], .nil], .agg [.agg [.lit (.bool false), .nil], .nil]], .agg [.agg [.agg [.lit (.bool false), .nil], .nil], .agg [.agg [.lit (.bool false), .nil], .nil]], .agg [.agg [.agg [.lit (.bool false), .nil], .nil], .agg [.agg [.lit (.bool false), .nil], .nil]]]], [], [])) (by kernel_rfl) rfl (by kernel_rfl))
  · intro ds hl
    match ds, hl with
    | [d0], _ => rfl
  · intro W base args ds ps hval hA hlt hk
    have hA' : DataW.TrodAll enc Try.prog W 0 (fun _ => true) true [53] args.toList ds ps := hA
    have hval' : ∀ (j : Nat) t v, Try.f6.params[j]? = some t → args[j]? = some v → Value.okWide Try.prog W .any base t v := hval
    obtain ⟨v0, d0, rfl, rfl, h0⟩ := Go.ChangeShapes.trodAll_one hA'
    simp only [Rows.uptoBulkAll] at hk
    have hb_p : Rows.uptoBulk d0 ≤ 1048576 := by omega
    obtain ⟨als_p, hr_p, hg_p⟩ := open_P4 (hval' 0 53 v0 rfl rfl) h0
    exact predicateSymmetric_any hr_p hg_p hb_p

theorem predicateSymmetricUpto_holds : Rows.PredicateSymmetricUptoSaid :=
  OpenClaim.holds_of_cond 6 Try.f6 rfl rfl rfl rfl rfl rfl rfl ⟨rfl, rfl, rfl, rfl, rfl⟩ rfl rfl rfl rfl rfl (by kernel_rfl) Try.func6 (by kernel_rfl)
    (of_decide_eq_true (by kernel_rfl)) (by unfold Func.isWrapper; first | (rw [if_pos (by decide +kernel)]; kernel_rfl) | (rw [if_neg (by decide +kernel)]; exact ⟨rfl, rfl⟩))
    (fun os started H enc _ F => predicateSymmetric_liftedU os started H enc F)
end Go.Proofs.Ytkampmdekonjmaa
