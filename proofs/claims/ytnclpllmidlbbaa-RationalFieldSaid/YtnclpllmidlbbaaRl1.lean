/- Rational numbers: the laws' arguments; alive. -/
import Derived.Test.YtnclpllmidlbbaaRa5
import Derived.Test.YtnclpllmidlbbaaRow
import Derived.ChangeSlices
import Derived.ChangeSame
namespace Go.Proofs.Ytnclpllmidlbbaa
open Go Go.RowKit Go.V Go.ChangeMaps
set_option linter.unusedSimpArgs false
set_option linter.unusedVariables false
set_option maxRecDepth 20000

theorem Reps_app {w : World} : ∀ {s1 s2 : List Sh} {a1 a2 : List At} {c1 c2 : List Value}, Reps w s1 a1 c1 → Reps w s2 a2 c2 → Reps w (s1 ++ s2) (a1 ++ a2) (c1 ++ c2)
  | [], s2, a1, a2, c1, c2, h, h' => by obtain ⟨rfl, rfl⟩ := h; exact h'
  | sh :: s1, s2, a1, a2, c1, c2, h, h' => by
    obtain ⟨a, r, d1, d2, rfl, rfl, h1, h2, h3⟩ := h
    exact ⟨a, r ++ a2, d1, d2 ++ c2, rfl, by simp, h1, h2, Reps_app h3 h'⟩
/-- what lies in memory at a type reads as these atoms -/
def TR (t : TypeId) (shs : List Sh) : Prop := ∀ {H : Type} {enc : TypeId × Value → H} {W : World} {fuel : Nat} {cs : List Value} {x : DataW H × List MemPlace}, DataW.trod enc Try.prog W 0 (fun _ => true) true fuel t cs = some x → ∃ als, Reps W shs als cs
theorem TR.struct2 {t : TypeId} {f0 f1 : Field} {s0 s1 : List Sh} (hu : Try.prog.underlying t = some (.struct #[f0, f1])) (h0 : TR f0.type s0) (h1 : TR f1.type s1) (o0 : f0.offset = 0) (o1 : f1.offset = Try.prog.cellsOf f0.type) (hc : Try.prog.cellsOf t = Try.prog.cellsOf f0.type + Try.prog.cellsOf f1.type) : TR t (s0 ++ s1) := by
  intro H enc W fuel cs x hf
  obtain ⟨y0, y1, n, _, hl, g0, g1⟩ := Go.ChangeShapes.trod_struct2 hu hf
  obtain ⟨a0, r0⟩ := h0 g0
  obtain ⟨a1, r1⟩ := h1 g1
  rw [o0, List.drop_zero] at r0
  rw [o1, List.take_of_length_le (by simp; omega)] at r1
  have := Reps_app r0 r1
  rw [List.take_append_drop] at this
  exact ⟨a0 ++ a1, this⟩
theorem TR.nat : TR 23 [.u] := by
  intro H enc W fuel cs x hf
  obtain ⟨l, a, c, rfl, hr⟩ := nat_cells hf
  exact ⟨[.u l], ⟨_, _, [_], [], rfl, rfl, rfl, ⟨a, c, rfl, hr⟩, rfl, rfl⟩⟩
theorem TR.bool : TR 4 [.b] := by
  intro H enc W fuel cs x hf
  obtain ⟨b, hb, _⟩ := DataW.trod_bool Try.underlying4 hf
  exact ⟨[.b b], ⟨_, _, [_], [], rfl, hb, rfl, rfl, rfl, rfl⟩⟩
theorem TR.mono {t : TypeId} {s s' : List Sh} (h : TR t s) (hs : ∀ w als cs, Reps w s als cs → ∃ als', Reps w s' als' cs) : TR t s' := by
  intro H enc W fuel cs x hf
  obtain ⟨als, hr⟩ := h hf
  exact hs _ _ _ hr
theorem bu_y {w : World} {als : List At} {cs : List Value} (h : Reps w [.b, .u] als cs) : ∃ als', Reps w [.y] als' cs := by
  obtain ⟨a, r, c1, c2, rfl, rfl, h1, h2, b, r', c3, c4, rfl, rfl, h3, h4, rfl, rfl⟩ := h
  cases a <;> simp [At.sh] at h1
  cases b <;> simp [At.sh] at h3
  simp only [At.Rep] at h2; subst h2
  obtain ⟨a, c, rfl, hr⟩ := h4
  exact ⟨[.y _ _], ⟨_, _, [_, _], [], rfl, rfl, rfl, ⟨a, c, rfl, hr⟩, rfl, rfl⟩⟩
theorem yu_r {w : World} {als : List At} {cs : List Value} (h : Reps w [.y, .u] als cs) : ∃ als', Reps w [.r] als' cs := by
  obtain ⟨a, r, c1, c2, rfl, rfl, h1, h2, b, r', c3, c4, rfl, rfl, h3, h4, rfl, rfl⟩ := h
  cases a <;> simp [At.sh] at h1
  cases b <;> simp [At.sh] at h3
  obtain ⟨a, c, rfl, hr⟩ := h2
  obtain ⟨a', c', rfl, hr'⟩ := h4
  exact ⟨[.r _ _ _], ⟨_, _, [_, _, _], [], rfl, rfl, rfl, ⟨a, c, a', c', rfl, hr, hr'⟩, rfl, rfl⟩⟩
theorem TR.int : TR 25 [.y] := TR.mono (TR.struct2 Try.underlying25 TR.bool TR.nat rfl (by kernel_rfl) (by kernel_rfl)) fun _ _ _ h => bu_y h
theorem TR.rat : TR 30 [.r] := TR.mono (TR.struct2 Try.underlying30 TR.int TR.nat rfl (by kernel_rfl) (by kernel_rfl)) fun _ _ _ h => yu_r h
theorem TR.open {t : TypeId} {shs : List Sh} {fs : Array Field} (h : TR t shs) (hu : Try.prog.underlying t = some (.struct fs)) (hs : single shs = false) {H : Type} {enc : TypeId × Value → H} {W : World} {r : Reach} {base : Nat} {v : Value} {d : DataW H} {ps : List MemPlace}
    (hval : Value.okWide Try.prog W r base t v) (hd : DataW.Trod enc Try.prog W 0 (fun _ => true) true t v d ps) : ∃ als, RepV W shs als v := by
  obtain ⟨cs, rfl, hsz⟩ := Go.WideShapes.okWide_struct hu hval
  obtain ⟨fuel, hf⟩ := hd
  obtain ⟨als, hr⟩ := h hf
  exact ⟨als, _, hr, by simp [mkV, hs, Value.cells]⟩
theorem open_IntR {H : Type} {enc : TypeId × Value → H} {W : World} {r : Reach} {base : Nat} {v : Value} {d : DataW H} {ps : List MemPlace}
    (hval : Value.okWide Try.prog W r base 25 v) (hd : DataW.Trod enc Try.prog W 0 (fun _ => true) true 25 v d ps) : ∃ als, RepV W [.y] als v := TR.open TR.int Try.underlying25 rfl hval hd
theorem open_Rat {H : Type} {enc : TypeId × Value → H} {W : World} {r : Reach} {base : Nat} {v : Value} {d : DataW H} {ps : List MemPlace}
    (hval : Value.okWide Try.prog W r base 30 v) (hd : DataW.Trod enc Try.prog W 0 (fun _ => true) true 30 v d ps) : ∃ als, RepV W [.r] als v := TR.open TR.rat Try.underlying30 rfl hval hd
def f_true : List At → Option (List At)
  | [] => some [.b true]
  | _ => none
def GR6 : Gam := gamOf [(12, ct_qmake), (20, ct_qsqrt), (17, ct_qfrac), (14, ct_rqsame)]
theorem GR6_ok : GamOk Try.prog GR6 := gamOk_of ⟨ok_qmake, ok_qsqrt, ok_qfrac, ok_rqsame, trivial⟩
theorem GR6_qmake : GR6 12 = some ct_qmake := rfl
theorem GR6_qsqrt : GR6 20 = some ct_qsqrt := rfl
theorem GR6_qfrac : GR6 17 = some ct_qfrac := rfl
theorem GR6_rqsame : GR6 14 = some ct_rqsame := rfl
def tr_alive3 : Tr (List SA) := (.obj [2] 0 (.obj [4] 1 (.call 12 [(.y (.lit false) (.var 0 0)), (.y (.lit true) (.var 1 0))] 2 (.call 17 [(.n (.lit 9)), (.n (.lit 4))] 4 (.call 20 [(.ob 4)] 5 (.br (.eq (.var 3) (.lit 0)) (.obj [1] 11 (.obj [2] 13 (.call 14 [(.ob 2), (.r (.lit true) (.var 11 0) (.var 13 0))] 26 (.br (.var 26) (.br (.var 6) (.call 17 [(.n (.lit 3)), (.n (.lit 2))] 27 (.call 14 [(.ob 5), (.ob 27)] 28 (.leaf [(.b (.var 28))]))) (.leaf [(.b (.lit false))])) (.leaf [(.b (.lit false))]))))) (.leaf [(.b (.lit false))])))))))
theorem ev_alive3 : Ct.ok Try.prog 11 { args := [], res := [[.b]], F := fun als => tr_alive3.den GR6 (env0 als), L := 100, A := 0, B := 0 } :=
  top_ok (by kernel_rfl) GR6_ok (plans := planF) (lf := 60) (k := 20) (by kernel_rfl)
theorem alive3_den : tr_alive3.den GR6 (env0 []) = some [.b true] := by kernel_rfl
def ct_alive3 : Ct := { args := [], res := [[.b]], F := f_true, L := 100, A := 0, B := 0 }
theorem ctF_alive3 : ct_alive3.F = f_true := rfl
theorem ok_alive3 : ct_alive3.ok Try.prog 11 := by
  refine ev_alive3.weaken fun als r h => ?_
  unfold f_true at h
  split at h
  · rw [← h]; exact alive3_den
  · cases h
def szM (als : List At) : Nat := als.foldr (fun a n => max a.sz n) 0
theorem szM_le : ∀ {als : List At} {a : At}, a ∈ als → a.sz ≤ szM als
  | x :: r, a, h => by
    show a.sz ≤ max x.sz (szM r)
    rcases List.mem_cons.1 h with rfl | h
    · omega
    · have := szM_le h; omega
/-- a law whose arguments are small, or not -/
theorem law_small {f D A1 A2 B1 B2 : Nat} {shss : List (List Sh)} {FA FB : List At → Option (List At)} (evA : Ct.ok Try.prog f { args := shss, res := [[.b]], F := FA, L := D, A := A1, B := B1 }) (evB : ∀ L, Ct.ok Try.prog f { args := shss, res := [[.b]], F := FB, L := L, A := A2, B := B2 })
    {w : World} {als : List At} {vs : List Value} (hr : RepVs w shss als vs) (hA : szM als ≤ D → FA als = some [.b true]) (hB : ¬ szM als ≤ D → FB als = some [.b true]) :
    Calls Try.prog f vs.toArray w fun e w' => e = .returned (.bool true) ∧ Below w.heap.size w w' := by
  by_cases h : szM als ≤ D
  · exact (evA D w vs als [.b true] (Nat.le_refl _) hr (fun a ha => Nat.le_trans (szM_le ha) h) (hA h)).mono fun e w' h => law_ret h
  · exact (evB (szM als) (szM als) w vs als [.b true] (Nat.le_refl _) hr (fun a ha => szM_le ha) (hB h)).mono fun e w' h => law_ret h
theorem law_r {f D A1 A2 B1 B2 : Nat} {FA FB : List At → Option (List At)} (evA : Ct.ok Try.prog f { args := [[.r]], res := [[.b]], F := FA, L := D, A := A1, B := B1 }) (evB : ∀ L, Ct.ok Try.prog f { args := [[.r]], res := [[.b]], F := FB, L := L, A := A2, B := B2 })
    (hA : ∀ a l m, l.length ≤ D ∧ m.length ≤ D → FA [.r a l m] = some [.b true]) (hB : ∀ a l m, ¬ (l.length ≤ D ∧ m.length ≤ D) → FB [.r a l m] = some [.b true])
    {w : World} {als1 : List At} {v1 : Value} (h1 : RepV w [.r] als1 v1) :
    Calls Try.prog f #[v1] w fun e w' => e = .returned (.bool true) ∧ Below w.heap.size w w' := by
  have hr : RepVs w [[.r]] als1 [v1] := ⟨als1, _, _, _, by simp, rfl, h1, rfl, rfl⟩
  obtain ⟨a, l, m, _, _, _, _, rfl, rfl, _, _⟩ := repV_r.1 h1
  exact law_small evA evB hr (fun h => hA _ _ _ (by simp only [szM, List.foldr, At.sz] at h; omega)) (fun h => hB _ _ _ (by simp only [szM, List.foldr, At.sz] at h; omega))
theorem law_rr {f D A1 A2 B1 B2 : Nat} {FA FB : List At → Option (List At)} (evA : Ct.ok Try.prog f { args := [[.r], [.r]], res := [[.b]], F := FA, L := D, A := A1, B := B1 }) (evB : ∀ L, Ct.ok Try.prog f { args := [[.r], [.r]], res := [[.b]], F := FB, L := L, A := A2, B := B2 })
    (hA : ∀ a l m b k n, l.length ≤ D ∧ m.length ≤ D ∧ k.length ≤ D ∧ n.length ≤ D → FA [.r a l m, .r b k n] = some [.b true]) (hB : ∀ a l m b k n, ¬ (l.length ≤ D ∧ m.length ≤ D ∧ k.length ≤ D ∧ n.length ≤ D) → FB [.r a l m, .r b k n] = some [.b true])
    {w : World} {als1 als2 : List At} {v1 v2 : Value} (h1 : RepV w [.r] als1 v1) (h2 : RepV w [.r] als2 v2) :
    Calls Try.prog f #[v1, v2] w fun e w' => e = .returned (.bool true) ∧ Below w.heap.size w w' := by
  have hr : RepVs w [[.r], [.r]] (als1 ++ als2) [v1, v2] := ⟨als1, als2, _, _, rfl, rfl, h1, als2, _, _, _, by simp, rfl, h2, rfl, rfl⟩
  obtain ⟨a, l, m, _, _, _, _, rfl, rfl, _, _⟩ := repV_r.1 h1
  obtain ⟨b, k, n, _, _, _, _, rfl, rfl, _, _⟩ := repV_r.1 h2
  exact law_small evA evB hr (fun h => hA _ _ _ _ _ _ (by simp only [szM, List.cons_append, List.nil_append, List.foldr, At.sz] at h; omega)) (fun h => hB _ _ _ _ _ _ (by simp only [szM, List.cons_append, List.nil_append, List.foldr, At.sz] at h; omega))
theorem law_rrr {f D A1 A2 B1 B2 : Nat} {FA FB : List At → Option (List At)} (evA : Ct.ok Try.prog f { args := [[.r], [.r], [.r]], res := [[.b]], F := FA, L := D, A := A1, B := B1 }) (evB : ∀ L, Ct.ok Try.prog f { args := [[.r], [.r], [.r]], res := [[.b]], F := FB, L := L, A := A2, B := B2 })
    (hA : ∀ a l m b k n c i j, l.length ≤ D ∧ m.length ≤ D ∧ k.length ≤ D ∧ n.length ≤ D ∧ i.length ≤ D ∧ j.length ≤ D → FA [.r a l m, .r b k n, .r c i j] = some [.b true]) (hB : ∀ a l m b k n c i j, ¬ (l.length ≤ D ∧ m.length ≤ D ∧ k.length ≤ D ∧ n.length ≤ D ∧ i.length ≤ D ∧ j.length ≤ D) → FB [.r a l m, .r b k n, .r c i j] = some [.b true])
    {w : World} {als1 als2 als3 : List At} {v1 v2 v3 : Value} (h1 : RepV w [.r] als1 v1) (h2 : RepV w [.r] als2 v2) (h3 : RepV w [.r] als3 v3) :
    Calls Try.prog f #[v1, v2, v3] w fun e w' => e = .returned (.bool true) ∧ Below w.heap.size w w' := by
  have hr : RepVs w [[.r], [.r], [.r]] (als1 ++ (als2 ++ als3)) [v1, v2, v3] := ⟨als1, _, _, _, rfl, rfl, h1, als2, als3, _, _, rfl, rfl, h2, als3, _, _, _, by simp, rfl, h3, rfl, rfl⟩
  obtain ⟨a, l, m, _, _, _, _, rfl, rfl, _, _⟩ := repV_r.1 h1
  obtain ⟨b, k, n, _, _, _, _, rfl, rfl, _, _⟩ := repV_r.1 h2
  obtain ⟨c, i, j, _, _, _, _, rfl, rfl, _, _⟩ := repV_r.1 h3
  exact law_small evA evB hr (fun h => hA _ _ _ _ _ _ _ _ _ (by simp only [szM, List.cons_append, List.nil_append, List.foldr, At.sz] at h; omega)) (fun h => hB _ _ _ _ _ _ _ _ _ (by simp only [szM, List.cons_append, List.nil_append, List.foldr, At.sz] at h; omega))
end Go.Proofs.Ytnclpllmidlbbaa
