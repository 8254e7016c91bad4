/- What lies in memory reads as atoms, no greater than the reading's bulk. -/
import Derived.Test.YtkampmdekonjmaaEv8
import Derived.Test.YtkampmdekonjmaaRowU
import Derived.Test.YtkampmdekonjmaaInA
import Derived.ChangeSlices
import Derived.ChangeSame
namespace Go.Proofs.Ytkampmdekonjmaa
open Go Go.RowKit Go.V Go.ChangeMaps
set_option linter.unusedSimpArgs false
set_option linter.unusedVariables false
set_option maxRecDepth 20000
/-- an int is in its range; lists are no longer than memory -/
def At.rng : At → Prop
  | .n z => inI z
  | a => a.sz ≤ 9223372036854775808
theorem Reps_app {w : World} : ∀ {s1 s2 : List Sh} {a1 a2 : List At} {c1 c2 : List Value}, Reps w s1 a1 c1 → Reps w s2 a2 c2 → Reps w (s1 ++ s2) (a1 ++ a2) (c1 ++ c2)
  | [], s2, a1, a2, c1, c2, h, h' => by obtain ⟨rfl, rfl⟩ := h; exact h'
  | sh :: s1, s2, a1, a2, c1, c2, h, h' => by
    obtain ⟨a, r, d1, d2, rfl, rfl, h1, h2, h3⟩ := h
    exact ⟨a, r ++ a2, d1, d2 ++ c2, rfl, by simp, h1, h2, Reps_app h3 h'⟩
/-- in its range, and no greater than a bound -/
def At.rngB (B : Nat) (a : At) : Prop := a.rng ∧ a.sz ≤ B
theorem At.rngB.mono {a : At} {B C : Nat} (h : a.rngB B) (hB : B ≤ C) : a.rngB C := ⟨h.1, Nat.le_trans h.2 hB⟩
/-- what lies in memory at a type reads as these atoms -/
def TR (t : TypeId) (shs : List Sh) : Prop := ∀ {H : Type} {enc : TypeId × Value → H} {W : World} {fuel : Nat} {cs : List Value} {x : DataW H × List MemPlace}, DataW.trod enc Try.prog W 0 (fun _ => true) true fuel t cs = some x → ∃ als, Reps W shs als cs ∧ ∀ a ∈ als, a.rngB (Rows.uptoBulk x.1)
/-- the fields, one after another -/
def FT : Nat → List Field → List Sh → Nat → Prop
  | _, [], shs, tot => shs = [] ∧ tot = 0
  | off, f :: r, shs, tot => ∃ s1 s2 c t', shs = s1 ++ s2 ∧ f.offset = off ∧ TR f.type s1 ∧ Try.prog.cellsOf f.type = c ∧ tot = c + t' ∧ FT (off + c) r s2 t'
theorem TR_fields {H : Type} {enc : TypeId × Value → H} {W : World} {n B : Nat} {cs : List Value} : ∀ {fs : List Field} {off : Nat} {shs : List Sh} {tot : Nat}, (∀ f ∈ fs, ∃ y, DataW.trod enc Try.prog W 0 (fun _ => true) true n f.type ((cs.drop f.offset).take (Try.prog.cellsOf f.type)) = some y ∧ Rows.uptoBulk y.1 ≤ B) →
    FT off fs shs tot → off + tot = cs.length → ∃ als, Reps W shs als (cs.drop off) ∧ ∀ a ∈ als, a.rngB B
  | [], off, shs, tot, hf, h, hl => by
    obtain ⟨rfl, rfl⟩ := h
    exact ⟨[], ⟨rfl, List.drop_eq_nil_of_le (by omega)⟩, fun a h => by cases h⟩
  | f :: r, off, shs, tot, hf, h, hl => by
    obtain ⟨s1, s2, c, t', rfl, ho, h1, hc, rfl, h2⟩ := h
    obtain ⟨y, hy, hyB⟩ := hf f (List.mem_cons_self ..)
    obtain ⟨a1, r1, g1⟩ := h1 hy
    obtain ⟨a2, r2, g2⟩ := TR_fields (fun f hm => hf f (List.mem_cons_of_mem _ hm)) h2 (by omega)
    rw [ho, hc] at r1
    refine ⟨a1 ++ a2, ?_, fun a ha => (List.mem_append.1 ha).elim (fun h => (g1 a h).mono hyB) (g2 a)⟩
    have := Reps_app r1 r2
    rw [← List.drop_drop, List.take_append_drop] at this
    exact this
theorem TR_struct {t : TypeId} {fs : Array Field} {shs : List Sh} {tot : Nat} (hu : Try.prog.underlying t = some (.struct fs)) (h : FT 0 fs.toList shs tot) (hc : Try.prog.cellsOf t = tot) : TR t shs := by
  intro H enc W fuel cs x hf
  obtain ⟨xs, n, _, hx, hl, hlen, hall⟩ := DataW.trod_struct hu hf
  have := TR_fields (H := H) (enc := enc) (W := W) (n := n) (B := Rows.uptoBulk x.1) (cs := cs) (fs := fs.toList) (off := 0) (fun f hm => by
    obtain ⟨i, hi, rfl⟩ := List.getElem_of_mem hm
    have hi' : i < fs.size := by simpa using hi
    have h1 := hall i fs[i] (by simp [hi'])
    have hix : i < xs.length := by omega
    have h2 : xs[i]? = some xs[i] := List.getElem?_eq_getElem hix
    rw [h2] at h1
    refine ⟨_, by simpa using h1, ?_⟩
    have h3 : xs[i].1 ∈ xs.map (·.1) := List.mem_map.2 ⟨_, List.getElem_mem hix, rfl⟩
    have h4 := bulk_part h3
    rw [hx]
    simp only [Rows.uptoBulk]
    omega) h (by rw [hl, hc]; omega)
  simpa using this
theorem nat_len {H : Type} {enc : TypeId × Value → H} {W : World} {fuel : Nat} {x : DataW H × List MemPlace} {ad : Option Addr} {n c : Nat}
    (hf : DataW.trod enc Try.prog W 0 (fun _ => true) true fuel 24 [.slice ad n c] = some x) : n ≤ 9223372036854775808 ∧ n ≤ Rows.uptoBulk x.1 := by
  rcases Go.ChangeShapes.open_ints Try.underlying24 Try.underlying88 (by kernel_rfl) hf with ⟨h, _⟩ | ⟨ad, len, cap, zs, h, _, hle, hmax, hz, hx, _⟩
  · simp only [List.cons.injEq, Value.slice.injEq, and_true] at h
    omega
  · simp only [List.cons.injEq, Value.slice.injEq, and_true] at h
    have : maxLen = 9223372036854775807 := by decide
    refine ⟨by omega, ?_⟩
    simp only [if_true] at hz
    rw [hx]
    have h1 := bulk_slice (H := H) (Go.ChangeShapes.lits .u16 (zs.take len)) (Go.ChangeShapes.lits .u16 (zs.drop len))
    simp only [Go.ChangeShapes.lits, List.length_map, List.length_take, List.length_drop] at h1 ⊢
    omega
theorem TR_nat : TR 24 [.u] := by
  intro H enc W fuel cs x hf
  obtain ⟨l, a, c, rfl, hr⟩ := nat_cells hf
  have hn := nat_len hf
  exact ⟨[.u l], ⟨_, _, [_], [], rfl, rfl, rfl, ⟨a, c, rfl, hr⟩, rfl, rfl⟩, fun a h => by rw [List.mem_singleton.1 h]; exact hn⟩
theorem TR_bool : TR 4 [.b] := by
  intro H enc W fuel cs x hf
  obtain ⟨b, hb, _⟩ := DataW.trod_bool Try.underlying4 hf
  exact ⟨[.b b], ⟨_, _, [_], [], rfl, hb, rfl, rfl, rfl, rfl⟩, fun a h => by rw [List.mem_singleton.1 h]; exact ⟨Nat.zero_le _, Nat.zero_le _⟩⟩
theorem rng_i64 {n : Int} (h : (Lit.int .i64 n).wf = true) : inI n := by
  simp only [Lit.wf, Bool.and_eq_true, decide_eq_true_eq] at h
  have h1 : IntKind.i64.min = -9223372036854775808 := by decide
  have h2 : IntKind.i64.max = 9223372036854775807 := by decide
  rw [h1, h2] at h
  exact ⟨by omega, by omega⟩
theorem TR_n : TR 3 [.n] := by
  intro H enc W fuel cs x hf
  obtain ⟨n, hn, _, hw⟩ := DataW.trod_int Try.underlying3 hf
  exact ⟨[.n n], ⟨_, _, [_], [], rfl, hn, rfl, rfl, rfl, rfl⟩, fun a h => by rw [List.mem_singleton.1 h]; exact ⟨rng_i64 hw, Nat.zero_le _⟩⟩
theorem TR_mono {t : TypeId} {s s' : List Sh} (h : TR t s) (hs : ∀ B w als cs, Reps w s als cs → (∀ a ∈ als, a.rngB B) → ∃ als', Reps w s' als' cs ∧ ∀ a ∈ als', a.rngB B) : TR t s' := by
  intro H enc W fuel cs x hf
  obtain ⟨als, hr, hg⟩ := h hf
  exact hs _ _ _ _ hr hg
theorem bu_y {B : Nat} {w : World} {als : List At} {cs : List Value} (h : Reps w [.b, .u] als cs) (hg : ∀ a ∈ als, a.rngB B) : ∃ als', Reps w [.y] als' cs ∧ ∀ a ∈ als', a.rngB B := by
  obtain ⟨a, r, c1, c2, rfl, rfl, h1, h2, b, r', c3, c4, rfl, rfl, h3, h4, rfl, rfl⟩ := h
  cases a <;> simp [At.sh] at h1
  cases b <;> simp [At.sh] at h3
  simp only [At.Rep] at h2; subst h2
  obtain ⟨a, c, rfl, hr⟩ := h4
  exact ⟨[.y _ _], ⟨_, _, [_, _], [], rfl, rfl, rfl, ⟨a, c, rfl, hr⟩, rfl, rfl⟩, fun a h => by rw [List.mem_singleton.1 h]; exact hg (.u _) (by simp)⟩
theorem yu_r {B : Nat} {w : World} {als : List At} {cs : List Value} (h : Reps w [.y, .u] als cs) (hg : ∀ a ∈ als, a.rngB B) : ∃ als', Reps w [.r] als' cs ∧ ∀ a ∈ als', a.rngB B := by
  obtain ⟨a, r, c1, c2, rfl, rfl, h1, h2, b, r', c3, c4, rfl, rfl, h3, h4, rfl, rfl⟩ := h
  cases a <;> simp [At.sh] at h1
  cases b <;> simp [At.sh] at h3
  obtain ⟨a, c, rfl, hr⟩ := h2
  obtain ⟨a', c', rfl, hr'⟩ := h4
  exact ⟨[.r _ _ _], ⟨_, _, [_, _, _], [], rfl, rfl, rfl, ⟨a, c, a', c', rfl, hr, hr'⟩, rfl, rfl⟩, fun a h => by rw [List.mem_singleton.1 h]; exact ⟨Nat.max_le.2 ⟨(hg _ (List.mem_cons_self ..)).1, (hg _ (List.mem_cons_of_mem _ (List.mem_singleton.2 rfl))).1⟩, Nat.max_le.2 ⟨(hg _ (List.mem_cons_self ..)).2, (hg _ (List.mem_cons_of_mem _ (List.mem_singleton.2 rfl))).2⟩⟩⟩
/-- the fields' proofs -/
theorem FT_nil {off : Nat} : FT off [] [] 0 := ⟨rfl, rfl⟩
theorem FT_cons {off c t' : Nat} {f : Field} {r : List Field} {s1 s2 : List Sh} (h1 : TR f.type s1) (ho : f.offset = off) (hc : Try.prog.cellsOf f.type = c) (h : FT (off + c) r s2 t') : FT off (f :: r) (s1 ++ s2) (c + t') := ⟨s1, s2, c, t', rfl, ho, h1, hc, rfl, h⟩
theorem TR_int : TR 26 [.y] := TR_mono (TR_struct Try.underlying26 (FT_cons TR_bool rfl (c := 1) (by kernel_rfl) (FT_cons TR_nat rfl (c := 1) (by kernel_rfl) FT_nil)) (by kernel_rfl)) fun _ _ _ _ h hg => bu_y h hg
theorem TR_rat : TR 28 [.r] := TR_mono (TR_struct Try.underlying28 (FT_cons TR_int rfl (c := 2) (by kernel_rfl) (FT_cons TR_nat rfl (c := 1) (by kernel_rfl) FT_nil)) (by kernel_rfl)) fun _ _ _ _ h hg => yu_r h hg
theorem TR_point : TR 41 [.r, .r] := TR_struct Try.underlying41 (FT_cons TR_rat rfl (c := 3) (by kernel_rfl) (FT_cons TR_rat rfl (c := 3) (by kernel_rfl) FT_nil)) (by kernel_rfl)
theorem TR_open {t : TypeId} {shs : List Sh} {fs : Array Field} (h : TR t shs) (hu : Try.prog.underlying t = some (.struct fs)) (hs : single shs = false ∨ (∃ sh r, shs = sh :: r ∧ single shs = false)) {H : Type} {enc : TypeId × Value → H} {W : World} {r : Reach} {base : Nat} {v : Value} {d : DataW H} {ps : List MemPlace}
    (hval : Value.okWide Try.prog W r base t v) (hd : DataW.Trod enc Try.prog W 0 (fun _ => true) true t v d ps) (hn : noSl shs = true := by rfl) : ∃ als, RepV W shs als v ∧ ∀ a ∈ als, a.rngB (Rows.uptoBulk d) := by
  obtain ⟨cs, rfl, hsz⟩ := Go.WideShapes.okWide_struct hu hval
  obtain ⟨fuel, hf⟩ := hd
  obtain ⟨als, hr, hg⟩ := h hf
  have hs' : single shs = false := hs.elim id (fun ⟨_, _, _, h⟩ => h)
  exact ⟨als, (RepV_of hn).2 ⟨_, hr, by simp [mkV, hs', Value.cells]⟩, hg⟩
theorem open_IntR {H : Type} {enc : TypeId × Value → H} {W : World} {r : Reach} {base : Nat} {v : Value} {d : DataW H} {ps : List MemPlace}
    (hval : Value.okWide Try.prog W r base 26 v) (hd : DataW.Trod enc Try.prog W 0 (fun _ => true) true 26 v d ps) : ∃ als, RepV W [.y] als v ∧ ∀ a ∈ als, a.rngB (Rows.uptoBulk d) := TR_open TR_int Try.underlying26 (.inl rfl) hval hd
theorem open_Rat {H : Type} {enc : TypeId × Value → H} {W : World} {r : Reach} {base : Nat} {v : Value} {d : DataW H} {ps : List MemPlace}
    (hval : Value.okWide Try.prog W r base 28 v) (hd : DataW.Trod enc Try.prog W 0 (fun _ => true) true 28 v d ps) : ∃ als, RepV W [.r] als v ∧ ∀ a ∈ als, a.rngB (Rows.uptoBulk d) := TR_open TR_rat Try.underlying28 (.inl rfl) hval hd
theorem open_Point {H : Type} {enc : TypeId × Value → H} {W : World} {r : Reach} {base : Nat} {v : Value} {d : DataW H} {ps : List MemPlace}
    (hval : Value.okWide Try.prog W r base 41 v) (hd : DataW.Trod enc Try.prog W 0 (fun _ => true) true 41 v d ps) : ∃ als, RepV W [.r, .r] als v ∧ ∀ a ∈ als, a.rngB (Rows.uptoBulk d) := TR_open TR_point Try.underlying41 (.inl rfl) hval hd
def szM (als : List At) : Nat := als.foldr (fun a n => max a.sz n) 0
theorem szM_le : ∀ {als : List At} {a : At}, a ∈ als → a.sz ≤ szM als
  | x :: r, a, h => by
    show a.sz ≤ max x.sz (szM r)
    rcases List.mem_cons.1 h with rfl | h
    · omega
    · have := szM_le h; omega
/-- a law whose arguments are small, or not -/
theorem law_small {f D A1 A2 B1 B2 : Nat} {shss : List (List Sh)} {FA FB : List At → Option (List At)} (evA : Ct.ok Try.prog f { args := shss, res := [[.b]], F := FA, L := D, A := A1, B := B1 }) (evB : ∀ L, Ct.ok Try.prog f { args := shss, res := [[.b]], F := FB, L := L, A := A2, B := B2 })
    {w : World} {als : List At} {vs : List Value} (hr : RepVs w shss als vs) (hA : szM als ≤ D → FA als = some [.b true]) (hB : ¬ szM als ≤ D → FB als = some [.b true]) :
    Calls Try.prog f vs.toArray w fun e w' => e = .returned (.bool true) ∧ Below w.heap.size w w' := by
  by_cases h : szM als ≤ D
  · exact (evA D w vs als [.b true] (Nat.le_refl _) hr (fun a ha => Nat.le_trans (szM_le ha) h) (hA h)).mono fun e w' h => law_ret h
  · exact (evB (szM als) (szM als) w vs als [.b true] (Nat.le_refl _) hr (fun a ha => szM_le ha) (hB h)).mono fun e w' h => law_ret h
/-- a law of valid numbers, or not; all of them smaller than a bound -/
theorem law_two {f D B A1 A2 B1 B2 : Nat} {shss : List (List Sh)} {FA FB : List At → Option (List At)} (evA : Ct.ok Try.prog f { args := shss, res := [[.b]], F := FA, L := D, A := A1, B := B1 }) (evB : Ct.ok Try.prog f { args := shss, res := [[.b]], F := FB, L := B, A := A2, B := B2 })
    {w : World} {als : List At} {vs : List Value} (hr : RepVs w shss als vs) (hz : ∀ a ∈ als, a.sz ≤ B) (h : (szM als ≤ D ∧ FA als = some [.b true]) ∨ FB als = some [.b true]) :
    Calls Try.prog f vs.toArray w fun e w' => e = .returned (.bool true) ∧ Below w.heap.size w w' := by
  rcases h with ⟨h, hA⟩ | hB
  · exact (evA D w vs als [.b true] (Nat.le_refl _) hr (fun a ha => Nat.le_trans (szM_le ha) h) hA).mono fun e w' h => law_ret h
  · exact (evB B w vs als [.b true] (Nat.le_refl _) hr hz hB).mono fun e w' h => law_ret h
/-- the limbs of what is represented are limbs -/
def At.okA : At → Prop
  | .r _ l m => Ok l ∧ Ok m
  | .y _ l => Ok l
  | .u l => Ok l
  | _ => True
theorem Rep_okA {w : World} {a : At} {cs : List Value} (h : a.Rep w cs) : a.okA := by
  cases a <;> simp only [At.Rep, At.okA] at h ⊢
  · obtain ⟨_, _, _, _, _, h1, h2⟩ := h; exact ⟨h1.ok, h2.ok⟩
  · obtain ⟨_, _, _, h1⟩ := h; exact h1.ok
  · obtain ⟨_, _, _, h1⟩ := h; exact h1.ok
theorem Reps_okA {w : World} : ∀ {shs : List Sh} {als : List At} {cs : List Value}, Reps w shs als cs → (∀ a ∈ als, a.okA) ∧ als.map At.sh = shs
  | [], als, cs, h => by obtain ⟨rfl, _⟩ := h; exact ⟨(fun a h => by cases h), rfl⟩
  | sh :: r, als, cs, h => by
    obtain ⟨a, als', c1, c2, rfl, rfl, h1, h2, h3⟩ := h
    obtain ⟨g1, g2⟩ := Reps_okA h3
    exact ⟨fun x hx => (List.mem_cons.1 hx).elim (fun e => e ▸ Rep_okA h2) (g1 x), by rw [List.map_cons, h1, g2]⟩
theorem RepV_okA {w : World} {shs : List Sh} {als : List At} {v : Value} (h : RepV w shs als v) (hn : noSl shs = true := by rfl) : (∀ a ∈ als, a.okA) ∧ als.map At.sh = shs := by
  obtain ⟨cs, h, _⟩ := (RepV_of hn).1 h
  exact Reps_okA h
theorem sh_r {a : At} (h : a.sh = .r) : ∃ x l m, a = .r x l m := by cases a <;> simp [At.sh] at h <;> exact ⟨_, _, _, rfl⟩
theorem sh_b {a : At} (h : a.sh = .b) : ∃ x, a = .b x := by cases a <;> simp [At.sh] at h <;> exact ⟨_, rfl⟩
theorem sh_n {a : At} (h : a.sh = .n) : ∃ x, a = .n x := by cases a <;> simp [At.sh] at h <;> exact ⟨_, rfl⟩
end Go.Proofs.Ytkampmdekonjmaa
