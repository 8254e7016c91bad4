/- Facts: the laws' arguments; PredicateRights. -/
import Derived.Test.YtkampmdekonjmaaFc3
import Derived.Test.YtkampmdekonjmaaRt2
namespace Go.Proofs.Ytkampmdekonjmaa
open Go Go.RowKit Go.V Go.ChangeMaps
set_option linter.unusedSimpArgs false
set_option linter.unusedVariables false
set_option maxRecDepth 20000
theorem ints_cells {H : Type} {enc : TypeId × Value → H} {W : World} {fuel : Nat} {cs : List Value} {x : DataW H × List MemPlace}
    (hf : DataW.trod enc Try.prog W 0 (fun _ => true) true fuel 22 cs = some x) : ∃ l a c, cs = [.slice a l.length c] ∧ SL W a (intC l) ∧ l.length ≤ maxLen ∧ l.length ≤ Rows.uptoBulk x.1 := by
  rcases Go.ChangeShapes.open_ints Try.underlying22 Try.underlying3 (by kernel_rfl) hf with ⟨h, _⟩ | ⟨ad, len, cap, zs, h, _, hle, hmax, hz, hx, hcell, hwf⟩
  · exact ⟨[], none, 0, h, SL.nil _ _, Nat.zero_le _, Nat.zero_le _⟩
  · simp only [if_true] at hz
    have hlen : (zs.take len).length = len := by rw [List.length_take]; omega
    refine ⟨zs.take len, some ad, cap, by rw [hlen]; exact h, ?_, by rw [hlen]; omega, ?_⟩
    · by_cases h0 : len = 0
      · subst h0; exact .inl (by simp [intC])
      · have g0 := hcell 0 (by omega)
        obtain ⟨b, off, spot⟩ := ad
        have hspot : spot = none := by simpa [Addr.add] using World.cell?_spot g0
        subst hspot
        refine .inr ⟨b, off, rfl, fun j u hu => ?_⟩
        have hj : j < len := by
          have := (List.getElem?_eq_some_iff.1 hu).1
          unfold intC at this
          rw [List.length_map, hlen] at this
          exact this
        have g := hcell j (by omega)
        rw [add_mk] at g
        rw [g]
        have hjz : j < zs.length := by omega
        unfold intC at hu
        rw [List.getElem?_map, List.getElem?_take_of_lt hj, List.getElem?_eq_getElem hjz] at hu
        simp only [Option.map_some, Option.some.injEq] at hu
        rw [← hu]
        simp [List.getD_eq_getElem?_getD, hjz]
    · rw [hx]
      have h1 := bulk_slice (H := H) (Go.ChangeShapes.lits .i64 (zs.take len)) (Go.ChangeShapes.lits .i64 (zs.drop len))
      simp only [Go.ChangeShapes.lits, List.length_map, List.length_take, List.length_drop] at h1 ⊢
      omega
theorem fact_cells {H : Type} {enc : TypeId × Value → H} {W : World} {fuel : Nat} {cs : List Value} {x : DataW H × List MemPlace}
    (hf : DataW.trod enc Try.prog W 0 (fun _ => true) true fuel 30 cs = some x) : ∃ k args neg l m ad a b cap c d, cs = [.int .i64 k, .slice ad args.length cap, .bool neg, .slice a l.length c, .slice b m.length d] ∧ SL W ad (intC args) ∧ args.length ≤ maxLen ∧ RD W a c l ∧ RD W b d m ∧ l.length ≤ Rows.uptoBulk x.1 ∧ m.length ≤ Rows.uptoBulk x.1 ∧ args.length ≤ Rows.uptoBulk x.1 := by
  obtain ⟨xs, n, _, hx, hl, hlen, hall⟩ := DataW.trod_struct Try.underlying30 hf
  have c3 : Try.prog.cellsOf 3 = 1 := by kernel_rfl
  have c22 : Try.prog.cellsOf 22 = 1 := by kernel_rfl
  have c28 : Try.prog.cellsOf 28 = 3 := by kernel_rfl
  have cF : Try.prog.cellsOf 30 = 5 := by kernel_rfl
  rw [cF] at hl
  obtain ⟨v0, v1, v2, v3, v4, rfl⟩ : ∃ v0 v1 v2 v3 v4, cs = [v0, v1, v2, v3, v4] := by
    match cs, hl with
    | [v0, v1, v2, v3, v4], _ => exact ⟨_, _, _, _, _, rfl⟩
  obtain ⟨x0, x1, x2, rfl⟩ : ∃ x0 x1 x2, xs = [x0, x1, x2] := by
    match xs, hlen with
    | [x0, x1, x2], _ => exact ⟨_, _, _, rfl⟩
  have h0 : DataW.trod enc Try.prog W 0 (fun _ => true) true n 3 (([v0, v1, v2, v3, v4].drop 0).take (Try.prog.cellsOf 3)) = some x0 := hall 0 _ rfl
  have h1 : DataW.trod enc Try.prog W 0 (fun _ => true) true n 22 (([v0, v1, v2, v3, v4].drop 1).take (Try.prog.cellsOf 22)) = some x1 := hall 1 _ rfl
  have h2 : DataW.trod enc Try.prog W 0 (fun _ => true) true n 28 (([v0, v1, v2, v3, v4].drop 2).take (Try.prog.cellsOf 28)) = some x2 := hall 2 _ rfl
  rw [c3] at h0
  rw [c22] at h1
  rw [c28] at h2
  simp only [List.drop_zero, List.drop_succ_cons, List.take_succ_cons, List.take_zero] at h0 h1 h2
  obtain ⟨k, hk, _⟩ := DataW.trod_int Try.underlying3 h0
  obtain ⟨args, ad, cap, ha, hs, hml, hb⟩ := ints_cells h1
  obtain ⟨als, hr, hg⟩ := TR_rat h2
  obtain ⟨a0, r, c1, c2, e1, e2, hsh, hrep, e3, e4⟩ := hr
  subst e3; subst e4; subst e1
  cases a0 <;> simp [At.sh] at hsh
  rename_i neg l m
  obtain ⟨a, c, b, d, e5, r1, r2⟩ := hrep
  rw [e5] at e2
  simp only [List.append_nil, List.cons.injEq, and_true] at e2 hk ha
  obtain ⟨rfl, rfl, rfl⟩ := e2
  subst hk; subst ha
  have hz := (hg _ (List.mem_singleton.2 rfl)).2
  simp only [At.sz] at hz
  have bk : ∀ y ∈ [x0, x1, x2], Rows.uptoBulk y.1 ≤ Rows.uptoBulk x.1 := by
    intro y hy
    have h3 : y.1 ∈ [x0, x1, x2].map (·.1) := List.mem_map.2 ⟨_, hy, rfl⟩
    have h4 := bulk_part h3
    rw [hx]
    simp only [Rows.uptoBulk]
    omega
  have b1 := bk x1 (by simp)
  have b2 := bk x2 (by simp)
  exact ⟨k, args, neg, l, m, ad, a, b, cap, c, d, rfl, hs, hml, r1, r2, by omega, by omega, by omega⟩
/-- a fact, as a value -/
def FactV (W : World) (v : Value) (B : Nat) : Prop := ∃ k args neg l m ad a b cap c d, v = .agg #[.int .i64 k, .slice ad args.length cap, .bool neg, .slice a l.length c, .slice b m.length d] ∧ SL W ad (intC args) ∧ args.length ≤ maxLen ∧ RD W a c l ∧ RD W b d m ∧ l.length ≤ B ∧ m.length ≤ B ∧ args.length ≤ B
theorem open_Fact {H : Type} {enc : TypeId × Value → H} {W : World} {r : Reach} {base : Nat} {v : Value} {d : DataW H} {ps : List MemPlace}
    (hval : Value.okWide Try.prog W r base 30 v) (hd : DataW.Trod enc Try.prog W 0 (fun _ => true) true 30 v d ps) : ∃ (_ _ : Unit), FactV W v (Rows.uptoBulk d) := by
  obtain ⟨cs, rfl, hsz⟩ := Go.WideShapes.okWide_struct Try.underlying30 hval
  obtain ⟨fuel, hf⟩ := hd
  obtain ⟨k, args, neg, l, m, ad, a, b, cap, c, d, e, h⟩ := fact_cells hf
  refine ⟨(), (), k, args, neg, l, m, ad, a, b, cap, c, d, ?_, h⟩
  simp only [Value.cells] at e
  rw [show cs = cs.toList.toArray from by simp, e]

end Go.Proofs.Ytkampmdekonjmaa
