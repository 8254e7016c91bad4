/- What lies in memory reads as atoms. -/
import Derived.Test.YtnclpllmidlbbaaEv8
import Derived.Test.YtnclpllmidlbbaaRow
import Derived.Test.YtnclpllmidlbbaaInA
import Derived.ChangeSlices
import Derived.ChangeSame
namespace Go.Proofs.Ytnclpllmidlbbaa
open Go Go.RowKit Go.V Go.ChangeMaps
set_option linter.unusedSimpArgs false
set_option linter.unusedVariables false
set_option maxRecDepth 20000
/-- an int is in its range; lists are no longer than memory -/
def At.rng : At → Prop
  | .n z => inI z
  | a => a.sz ≤ 9223372036854775808
theorem Reps_app {w : World} : ∀ {s1 s2 : List Sh} {a1 a2 : List At} {c1 c2 : List Value}, Reps w s1 a1 c1 → Reps w s2 a2 c2 → Reps w (s1 ++ s2) (a1 ++ a2) (c1 ++ c2)
  | [], s2, a1, a2, c1, c2, h, h' => by obtain ⟨rfl, rfl⟩ := h; exact h'
  | sh :: s1, s2, a1, a2, c1, c2, h, h' => by
    obtain ⟨a, r, d1, d2, rfl, rfl, h1, h2, h3⟩ := h
    exact ⟨a, r ++ a2, d1, d2 ++ c2, rfl, by simp, h1, h2, Reps_app h3 h'⟩
/-- what lies in memory at a type reads as these atoms -/
def TR (t : TypeId) (shs : List Sh) : Prop := ∀ {H : Type} {enc : TypeId × Value → H} {W : World} {fuel : Nat} {cs : List Value} {x : DataW H × List MemPlace}, DataW.trod enc Try.prog W 0 (fun _ => true) true fuel t cs = some x → ∃ als, Reps W shs als cs ∧ ∀ a ∈ als, a.rng
/-- the fields, one after another -/
def FT : Nat → List Field → List Sh → Nat → Prop
  | _, [], shs, tot => shs = [] ∧ tot = 0
  | off, f :: r, shs, tot => ∃ s1 s2 c t', shs = s1 ++ s2 ∧ f.offset = off ∧ TR f.type s1 ∧ Try.prog.cellsOf f.type = c ∧ tot = c + t' ∧ FT (off + c) r s2 t'
theorem TR_fields {H : Type} {enc : TypeId × Value → H} {W : World} {n : Nat} {cs : List Value} : ∀ {fs : List Field} {off : Nat} {shs : List Sh} {tot : Nat}, (∀ f ∈ fs, ∃ y, DataW.trod enc Try.prog W 0 (fun _ => true) true n f.type ((cs.drop f.offset).take (Try.prog.cellsOf f.type)) = some y) →
    FT off fs shs tot → off + tot = cs.length → ∃ als, Reps W shs als (cs.drop off) ∧ ∀ a ∈ als, a.rng
  | [], off, shs, tot, hf, h, hl => by
    obtain ⟨rfl, rfl⟩ := h
    exact ⟨[], ⟨rfl, List.drop_eq_nil_of_le (by omega)⟩, fun a h => by cases h⟩
  | f :: r, off, shs, tot, hf, h, hl => by
    obtain ⟨s1, s2, c, t', rfl, ho, h1, hc, rfl, h2⟩ := h
    obtain ⟨y, hy⟩ := hf f (List.mem_cons_self ..)
    obtain ⟨a1, r1, g1⟩ := h1 hy
    obtain ⟨a2, r2, g2⟩ := TR_fields (fun f hm => hf f (List.mem_cons_of_mem _ hm)) h2 (by omega)
    rw [ho, hc] at r1
    refine ⟨a1 ++ a2, ?_, fun a ha => (List.mem_append.1 ha).elim (g1 a) (g2 a)⟩
    have := Reps_app r1 r2
    rw [← List.drop_drop, List.take_append_drop] at this
    exact this
theorem TR_struct {t : TypeId} {fs : Array Field} {shs : List Sh} {tot : Nat} (hu : Try.prog.underlying t = some (.struct fs)) (h : FT 0 fs.toList shs tot) (hc : Try.prog.cellsOf t = tot) : TR t shs := by
  intro H enc W fuel cs x hf
  obtain ⟨xs, n, _, _, hl, hlen, hall⟩ := DataW.trod_struct hu hf
  have := TR_fields (H := H) (enc := enc) (W := W) (n := n) (cs := cs) (fs := fs.toList) (off := 0) (fun f hm => by
    obtain ⟨i, hi, rfl⟩ := List.getElem_of_mem hm
    have hi' : i < fs.size := by simpa using hi
    have h1 := hall i fs[i] (by simp [hi'])
    have h2 : xs[i]? = some xs[i] := List.getElem?_eq_getElem (by omega)
    rw [h2] at h1
    exact ⟨_, by simpa using h1⟩) h (by rw [hl, hc]; omega)
  simpa using this
theorem nat_len {H : Type} {enc : TypeId × Value → H} {W : World} {fuel : Nat} {x : DataW H × List MemPlace} {ad : Option Addr} {n c : Nat}
    (hf : DataW.trod enc Try.prog W 0 (fun _ => true) true fuel 23 [.slice ad n c] = some x) : n ≤ 9223372036854775808 := by
  rcases Go.ChangeShapes.open_ints Try.underlying23 Try.underlying50 (by kernel_rfl) hf with ⟨h, _⟩ | ⟨ad, len, cap, zs, h, _, hle, hmax, _⟩
  · simp only [List.cons.injEq, Value.slice.injEq, and_true] at h
    omega
  · simp only [List.cons.injEq, Value.slice.injEq, and_true] at h
    have : maxLen = 9223372036854775807 := by decide
    omega
theorem TR_nat : TR 23 [.u] := by
  intro H enc W fuel cs x hf
  obtain ⟨l, a, c, rfl, hr⟩ := nat_cells hf
  have hn := nat_len hf
  exact ⟨[.u l], ⟨_, _, [_], [], rfl, rfl, rfl, ⟨a, c, rfl, hr⟩, rfl, rfl⟩, fun a h => by rw [List.mem_singleton.1 h]; exact hn⟩
theorem TR_bool : TR 4 [.b] := by
  intro H enc W fuel cs x hf
  obtain ⟨b, hb, _⟩ := DataW.trod_bool Try.underlying4 hf
  exact ⟨[.b b], ⟨_, _, [_], [], rfl, hb, rfl, rfl, rfl, rfl⟩, fun a h => by rw [List.mem_singleton.1 h]; exact Nat.zero_le _⟩
theorem rng_i64 {n : Int} (h : (Lit.int .i64 n).wf = true) : inI n := by
  simp only [Lit.wf, Bool.and_eq_true, decide_eq_true_eq] at h
  have h1 : IntKind.i64.min = -9223372036854775808 := by decide
  have h2 : IntKind.i64.max = 9223372036854775807 := by decide
  rw [h1, h2] at h
  exact ⟨by omega, by omega⟩
theorem TR_n : TR 3 [.n] := by
  intro H enc W fuel cs x hf
  obtain ⟨n, hn, _, hw⟩ := DataW.trod_int Try.underlying3 hf
  exact ⟨[.n n], ⟨_, _, [_], [], rfl, hn, rfl, rfl, rfl, rfl⟩, fun a h => by rw [List.mem_singleton.1 h]; exact rng_i64 hw⟩
theorem TR_mono {t : TypeId} {s s' : List Sh} (h : TR t s) (hs : ∀ w als cs, Reps w s als cs → (∀ a ∈ als, a.rng) → ∃ als', Reps w s' als' cs ∧ ∀ a ∈ als', a.rng) : TR t s' := by
  intro H enc W fuel cs x hf
  obtain ⟨als, hr, hg⟩ := h hf
  exact hs _ _ _ hr hg
theorem bu_y {w : World} {als : List At} {cs : List Value} (h : Reps w [.b, .u] als cs) (hg : ∀ a ∈ als, a.rng) : ∃ als', Reps w [.y] als' cs ∧ ∀ a ∈ als', a.rng := by
  obtain ⟨a, r, c1, c2, rfl, rfl, h1, h2, b, r', c3, c4, rfl, rfl, h3, h4, rfl, rfl⟩ := h
  cases a <;> simp [At.sh] at h1
  cases b <;> simp [At.sh] at h3
  simp only [At.Rep] at h2; subst h2
  obtain ⟨a, c, rfl, hr⟩ := h4
  exact ⟨[.y _ _], ⟨_, _, [_, _], [], rfl, rfl, rfl, ⟨a, c, rfl, hr⟩, rfl, rfl⟩, fun a h => by rw [List.mem_singleton.1 h]; exact hg (.u _) (by simp)⟩
theorem yu_r {w : World} {als : List At} {cs : List Value} (h : Reps w [.y, .u] als cs) (hg : ∀ a ∈ als, a.rng) : ∃ als', Reps w [.r] als' cs ∧ ∀ a ∈ als', a.rng := by
  obtain ⟨a, r, c1, c2, rfl, rfl, h1, h2, b, r', c3, c4, rfl, rfl, h3, h4, rfl, rfl⟩ := h
  cases a <;> simp [At.sh] at h1
  cases b <;> simp [At.sh] at h3
  obtain ⟨a, c, rfl, hr⟩ := h2
  obtain ⟨a', c', rfl, hr'⟩ := h4
  exact ⟨[.r _ _ _], ⟨_, _, [_, _, _], [], rfl, rfl, rfl, ⟨a, c, a', c', rfl, hr, hr'⟩, rfl, rfl⟩, fun a h => by rw [List.mem_singleton.1 h]; exact Nat.max_le.2 ⟨hg _ (List.mem_cons_self ..), hg _ (List.mem_cons_of_mem _ (List.mem_singleton.2 rfl))⟩⟩
/-- the fields' proofs -/
theorem FT_nil {off : Nat} : FT off [] [] 0 := ⟨rfl, rfl⟩
theorem FT_cons {off c t' : Nat} {f : Field} {r : List Field} {s1 s2 : List Sh} (h1 : TR f.type s1) (ho : f.offset = off) (hc : Try.prog.cellsOf f.type = c) (h : FT (off + c) r s2 t') : FT off (f :: r) (s1 ++ s2) (c + t') := ⟨s1, s2, c, t', rfl, ho, h1, hc, rfl, h⟩
theorem TR_int : TR 25 [.y] := TR_mono (TR_struct Try.underlying25 (FT_cons TR_bool rfl (c := 1) (by kernel_rfl) (FT_cons TR_nat rfl (c := 1) (by kernel_rfl) FT_nil)) (by kernel_rfl)) fun _ _ _ h hg => bu_y h hg
theorem TR_rat : TR 30 [.r] := TR_mono (TR_struct Try.underlying30 (FT_cons TR_int rfl (c := 2) (by kernel_rfl) (FT_cons TR_nat rfl (c := 1) (by kernel_rfl) FT_nil)) (by kernel_rfl)) fun _ _ _ h hg => yu_r h hg
theorem TR_two : TR 27 [.n, .n] := TR_struct Try.underlying27 (FT_cons TR_n rfl (c := 1) (by kernel_rfl) (FT_cons TR_n rfl (c := 1) (by kernel_rfl) FT_nil)) (by kernel_rfl)
theorem TR_open {t : TypeId} {shs : List Sh} {fs : Array Field} (h : TR t shs) (hu : Try.prog.underlying t = some (.struct fs)) (hs : single shs = false ∨ (∃ sh r, shs = sh :: r ∧ single shs = false)) {H : Type} {enc : TypeId × Value → H} {W : World} {r : Reach} {base : Nat} {v : Value} {d : DataW H} {ps : List MemPlace}
    (hval : Value.okWide Try.prog W r base t v) (hd : DataW.Trod enc Try.prog W 0 (fun _ => true) true t v d ps) : ∃ als, RepV W shs als v ∧ ∀ a ∈ als, a.rng := by
  obtain ⟨cs, rfl, hsz⟩ := Go.WideShapes.okWide_struct hu hval
  obtain ⟨fuel, hf⟩ := hd
  obtain ⟨als, hr, hg⟩ := h hf
  have hs' : single shs = false := hs.elim id (fun ⟨_, _, _, h⟩ => h)
  exact ⟨als, ⟨_, hr, by simp [mkV, hs', Value.cells]⟩, hg⟩
theorem open_IntR {H : Type} {enc : TypeId × Value → H} {W : World} {r : Reach} {base : Nat} {v : Value} {d : DataW H} {ps : List MemPlace}
    (hval : Value.okWide Try.prog W r base 25 v) (hd : DataW.Trod enc Try.prog W 0 (fun _ => true) true 25 v d ps) : ∃ als, RepV W [.y] als v ∧ ∀ a ∈ als, a.rng := TR_open TR_int Try.underlying25 (.inl rfl) hval hd
theorem open_Rat {H : Type} {enc : TypeId × Value → H} {W : World} {r : Reach} {base : Nat} {v : Value} {d : DataW H} {ps : List MemPlace}
    (hval : Value.okWide Try.prog W r base 30 v) (hd : DataW.Trod enc Try.prog W 0 (fun _ => true) true 30 v d ps) : ∃ als, RepV W [.r] als v ∧ ∀ a ∈ als, a.rng := TR_open TR_rat Try.underlying30 (.inl rfl) hval hd
theorem open_Two {H : Type} {enc : TypeId × Value → H} {W : World} {r : Reach} {base : Nat} {v : Value} {d : DataW H} {ps : List MemPlace}
    (hval : Value.okWide Try.prog W r base 27 v) (hd : DataW.Trod enc Try.prog W 0 (fun _ => true) true 27 v d ps) : ∃ als, RepV W [.n, .n] als v ∧ ∀ a ∈ als, a.rng := TR_open TR_two Try.underlying27 (.inl rfl) hval hd
def szM (als : List At) : Nat := als.foldr (fun a n => max a.sz n) 0
theorem szM_le : ∀ {als : List At} {a : At}, a ∈ als → a.sz ≤ szM als
  | x :: r, a, h => by
    show a.sz ≤ max x.sz (szM r)
    rcases List.mem_cons.1 h with rfl | h
    · omega
    · have := szM_le h; omega
/-- a law whose arguments are small, or not -/
theorem law_small {f D A1 A2 B1 B2 : Nat} {shss : List (List Sh)} {FA FB : List At → Option (List At)} (evA : Ct.ok Try.prog f { args := shss, res := [[.b]], F := FA, L := D, A := A1, B := B1 }) (evB : ∀ L, Ct.ok Try.prog f { args := shss, res := [[.b]], F := FB, L := L, A := A2, B := B2 })
    {w : World} {als : List At} {vs : List Value} (hr : RepVs w shss als vs) (hA : szM als ≤ D → FA als = some [.b true]) (hB : ¬ szM als ≤ D → FB als = some [.b true]) :
    Calls Try.prog f vs.toArray w fun e w' => e = .returned (.bool true) ∧ Below w.heap.size w w' := by
  by_cases h : szM als ≤ D
  · exact (evA D w vs als [.b true] (Nat.le_refl _) hr (fun a ha => Nat.le_trans (szM_le ha) h) (hA h)).mono fun e w' h => law_ret h
  · exact (evB (szM als) (szM als) w vs als [.b true] (Nat.le_refl _) hr (fun a ha => szM_le ha) (hB h)).mono fun e w' h => law_ret h
theorem law_r {f D A1 A2 B1 B2 : Nat} {FA FB : List At → Option (List At)} (evA : Ct.ok Try.prog f { args := [[.r]], res := [[.b]], F := FA, L := D, A := A1, B := B1 }) (evB : ∀ L, Ct.ok Try.prog f { args := [[.r]], res := [[.b]], F := FB, L := L, A := A2, B := B2 })
    (hA : ∀ a l m, l.length ≤ D ∧ m.length ≤ D → FA [.r a l m] = some [.b true]) (hB : ∀ a l m, ¬ (l.length ≤ D ∧ m.length ≤ D) → FB [.r a l m] = some [.b true])
    {w : World} {als1 : List At} {v1 : Value} (h1 : RepV w [.r] als1 v1) :
    Calls Try.prog f #[v1] w fun e w' => e = .returned (.bool true) ∧ Below w.heap.size w w' := by
  have hr : RepVs w [[.r]] als1 [v1] := ⟨als1, _, _, _, by simp, rfl, h1, rfl, rfl⟩
  obtain ⟨a, l, m, _, _, _, _, rfl, rfl, _, _⟩ := repV_r.1 h1
  exact law_small evA evB hr (fun h => hA _ _ _ (by simp only [szM, List.foldr, At.sz] at h; omega)) (fun h => hB _ _ _ (by simp only [szM, List.foldr, At.sz] at h; omega))
theorem law_rr {f D A1 A2 B1 B2 : Nat} {FA FB : List At → Option (List At)} (evA : Ct.ok Try.prog f { args := [[.r], [.r]], res := [[.b]], F := FA, L := D, A := A1, B := B1 }) (evB : ∀ L, Ct.ok Try.prog f { args := [[.r], [.r]], res := [[.b]], F := FB, L := L, A := A2, B := B2 })
    (hA : ∀ a l m b k n, l.length ≤ D ∧ m.length ≤ D ∧ k.length ≤ D ∧ n.length ≤ D → FA [.r a l m, .r b k n] = some [.b true]) (hB : ∀ a l m b k n, ¬ (l.length ≤ D ∧ m.length ≤ D ∧ k.length ≤ D ∧ n.length ≤ D) → FB [.r a l m, .r b k n] = some [.b true])
    {w : World} {als1 als2 : List At} {v1 v2 : Value} (h1 : RepV w [.r] als1 v1) (h2 : RepV w [.r] als2 v2) :
    Calls Try.prog f #[v1, v2] w fun e w' => e = .returned (.bool true) ∧ Below w.heap.size w w' := by
  have hr : RepVs w [[.r], [.r]] (als1 ++ als2) [v1, v2] := ⟨als1, als2, _, _, rfl, rfl, h1, als2, _, _, _, by simp, rfl, h2, rfl, rfl⟩
  obtain ⟨a, l, m, _, _, _, _, rfl, rfl, _, _⟩ := repV_r.1 h1
  obtain ⟨b, k, n, _, _, _, _, rfl, rfl, _, _⟩ := repV_r.1 h2
  exact law_small evA evB hr (fun h => hA _ _ _ _ _ _ (by simp only [szM, List.cons_append, List.nil_append, List.foldr, At.sz] at h; omega)) (fun h => hB _ _ _ _ _ _ (by simp only [szM, List.cons_append, List.nil_append, List.foldr, At.sz] at h; omega))
theorem law_rrr {f D A1 A2 B1 B2 : Nat} {FA FB : List At → Option (List At)} (evA : Ct.ok Try.prog f { args := [[.r], [.r], [.r]], res := [[.b]], F := FA, L := D, A := A1, B := B1 }) (evB : ∀ L, Ct.ok Try.prog f { args := [[.r], [.r], [.r]], res := [[.b]], F := FB, L := L, A := A2, B := B2 })
    (hA : ∀ a l m b k n c i j, l.length ≤ D ∧ m.length ≤ D ∧ k.length ≤ D ∧ n.length ≤ D ∧ i.length ≤ D ∧ j.length ≤ D → FA [.r a l m, .r b k n, .r c i j] = some [.b true]) (hB : ∀ a l m b k n c i j, ¬ (l.length ≤ D ∧ m.length ≤ D ∧ k.length ≤ D ∧ n.length ≤ D ∧ i.length ≤ D ∧ j.length ≤ D) → FB [.r a l m, .r b k n, .r c i j] = some [.b true])
    {w : World} {als1 als2 als3 : List At} {v1 v2 v3 : Value} (h1 : RepV w [.r] als1 v1) (h2 : RepV w [.r] als2 v2) (h3 : RepV w [.r] als3 v3) :
    Calls Try.prog f #[v1, v2, v3] w fun e w' => e = .returned (.bool true) ∧ Below w.heap.size w w' := by
  have hr : RepVs w [[.r], [.r], [.r]] (als1 ++ (als2 ++ als3)) [v1, v2, v3] := ⟨als1, _, _, _, rfl, rfl, h1, als2, als3, _, _, rfl, rfl, h2, als3, _, _, _, by simp, rfl, h3, rfl, rfl⟩
  obtain ⟨a, l, m, _, _, _, _, rfl, rfl, _, _⟩ := repV_r.1 h1
  obtain ⟨b, k, n, _, _, _, _, rfl, rfl, _, _⟩ := repV_r.1 h2
  obtain ⟨c, i, j, _, _, _, _, rfl, rfl, _, _⟩ := repV_r.1 h3
  exact law_small evA evB hr (fun h => hA _ _ _ _ _ _ _ _ _ (by simp only [szM, List.cons_append, List.nil_append, List.foldr, At.sz] at h; omega)) (fun h => hB _ _ _ _ _ _ _ _ _ (by simp only [szM, List.cons_append, List.nil_append, List.foldr, At.sz] at h; omega))
theorem law_retZ {w w' : World} {e : Ending} (h : ∃ rvs, e = .returned (pack rvs) ∧ RepVs w' [[.b]] [.b true] rvs ∧ Below w.heap.size w w') : e = .returned (.bool true) ∧ Below w.heap.size w w' := by
  obtain ⟨rvs, h1, h2, h3⟩ := h
  exact law_ret (A := 0) (B := 0) (s := 0) ⟨rvs, h1, h2, fun a ha => by rw [List.mem_singleton.1 ha]; exact Nat.le_refl _, h3⟩
end Go.Proofs.Ytnclpllmidlbbaa
