/- Integers: the laws' small and alive; the arguments opened. -/
import Derived.Test.YtkampmdekonjmaaIn8
import Derived.Test.YtkampmdekonjmaaRow
import Derived.ChangeSlices
import Derived.ChangeSame
namespace Go.Proofs.Ytkampmdekonjmaa
open Go.RowKit Go.V Go.ChangeMaps
set_option linter.unusedSimpArgs false
set_option linter.unusedVariables false
set_option maxRecDepth 20000

theorem Try.own : ownKnob Try.prog.godebug = none := by kernel_rfl
theorem Try.laidOut : laidOutB Try.prog = true := by kernel_rfl
theorem lim_1' (x : Nat) (h : 0 < x) (hx : x < 65536) : lim x = [x] := by
  rw [lim_pos x (by omega), Nat.mod_eq_of_lt hx, Nat.div_eq_of_lt hx, lim_zero]
theorem iOf_n1 (z : Int) (x : Nat) (w : World) (hz : z = -(x : Int)) (h : 0 < x) (hx : x < 65536) :
    Calls Try.prog 90 #[.int .i64 z] w fun e w' => ∃ a c, e = .returned (.agg #[.bool true, .slice a 1 c]) ∧ RD w' a c [x] ∧ Below w.heap.size w w' := by
  refine (iOf_any z w (by omega) (by omega)).mono ?_
  rintro e w' ⟨a, c, he, hr, hE⟩
  have h1 : z.natAbs = x := by omega
  rw [h1, lim_1' x h hx] at hr
  refine ⟨a, c, ?_, hr, hE⟩
  rw [he, iR, h1, lim_1' x h hx, decide_eq_true (by omega)]; rfl
theorem iOf_p1 (z : Int) (x : Nat) (w : World) (hz : z = (x : Int)) (h : 0 < x) (hx : x < 65536) :
    Calls Try.prog 90 #[.int .i64 z] w fun e w' => ∃ a c, e = .returned (.agg #[.bool false, .slice a 1 c]) ∧ RD w' a c [x] ∧ Below w.heap.size w w' := by
  refine (iOf_any z w (by omega) (by omega)).mono ?_
  rintro e w' ⟨a, c, he, hr, hE⟩
  have h1 : z.natAbs = x := by omega
  rw [h1, lim_1' x h hx] at hr
  refine ⟨a, c, ?_, hr, hE⟩
  rw [he, iR, h1, lim_1' x h hx, decide_eq_false (by omega)]; rfl
theorem cmpI_aw (a b : Option Addr) (c d : Nat) (w : World) (hr : RD w a c [3]) (hs : RD w b d [2]) :
    Calls Try.prog 143 #[.agg #[.bool true, .slice a 1 c], .agg #[.bool true, .slice b 1 d]] w fun e w' => e = .returned (.int .i64 (-1)) ∧ Below w.heap.size w w' :=
  iCmp_any true true [3] [2] a b c d w hr hs (by decide) (by decide)
theorem nat_cells {H : Type} {enc : TypeId × Value → H} {W : World} {fuel : Nat} {cs : List Value} {x : DataW H × List MemPlace}
    (hf : DataW.trod enc Try.prog W 0 (fun _ => true) true fuel 24 cs = some x) : ∃ l a c, cs = [.slice a l.length c] ∧ RD W a c l := by
  rcases Go.ChangeShapes.open_ints Try.underlying24 Try.underlying88 (by kernel_rfl) hf with ⟨h, _⟩ | ⟨ad, len, cap, zs, h, _, hle, hmax, hz, _, hcell, hwf⟩
  · exact ⟨[], none, 0, h, RD.nil _ _ _⟩
  · simp at hz
    have hlen : ((zs.take len).map Int.toNat).length = len := by rw [List.length_map, List.length_take]; omega
    refine ⟨(zs.take len).map Int.toNat, some ad, cap, by rw [hlen]; exact h, ⟨?_, ?_, by rw [hlen]; exact hle⟩⟩
    · by_cases h0 : len = 0
      · subst h0; exact .inl (by simp [lmC])
      · have g0 := hcell 0 (by omega)
        obtain ⟨b, off, spot⟩ := ad
        have hspot : spot = none := by simpa [Addr.add] using World.cell?_spot g0
        subst hspot
        refine .inr ⟨b, off, rfl, fun j u hu => ?_⟩
        have hj : j < len := by
          have := (List.getElem?_eq_some_iff.1 hu).1
          rwa [lmC_len, hlen] at this
        have g := hcell j (by omega)
        rw [add_mk] at g
        rw [g]
        have hjz : j < zs.length := by omega
        have hw := hwf _ (List.getElem_mem hjz)
        have hn : 0 ≤ zs[j] := by
          simp only [Lit.wf, Bool.and_eq_true, decide_eq_true_eq] at hw
          have e1 : IntKind.u16.min = 0 := by decide
          omega
        rw [lmC_get, List.getElem?_map, List.getElem?_take_of_lt hj, List.getElem?_eq_getElem hjz] at hu
        simp only [Option.map_some, Option.some.injEq] at hu
        rw [← hu, List.getD_eq_getElem?_getD, List.getElem?_eq_getElem hjz, Option.getD_some]
        congr 2
        omega
    · intro x hx
      simp only [List.mem_map] at hx
      obtain ⟨y, hy, rfl⟩ := hx
      have hw := hwf y (List.mem_of_mem_take hy)
      simp only [Lit.wf, Bool.and_eq_true, decide_eq_true_eq] at hw
      have e1 : IntKind.u16.min = 0 := by decide
      have e2 : IntKind.u16.max = 65535 := by decide
      omega
theorem open_Int {H : Type} {enc : TypeId × Value → H} {W : World} {r : Reach} {base : Nat} {v : Value} {d : DataW H} {ps : List MemPlace}
    (hval : Value.okWide Try.prog W r base 26 v) (hd : DataW.Trod enc Try.prog W 0 (fun _ => true) true 26 v d ps) : ∃ n l a c, v = .agg #[.bool n, .slice a l.length c] ∧ RD W a c l := by
  obtain ⟨cs, rfl, hsz⟩ := Go.WideShapes.okWide_struct Try.underlying26 hval
  obtain ⟨fuel, hf⟩ := hd
  obtain ⟨y0, y1, n, _, hl, h0, h1⟩ := Go.ChangeShapes.trod_struct2 Try.underlying26 hf
  have hc2 : Try.prog.cellsOf 26 = 2 := by kernel_rfl
  have hcb : Try.prog.cellsOf 4 = 1 := by kernel_rfl
  have hcn : Try.prog.cellsOf 24 = 1 := by kernel_rfl
  rw [hc2] at hsz
  obtain ⟨x0, x1, rfl⟩ : ∃ x0 x1, cs = #[x0, x1] := by
    obtain ⟨L⟩ := cs
    match L, hsz with
    | [x0, x1], _ => exact ⟨x0, x1, rfl⟩
  simp [Value.cells, hcb, hcn] at h0 h1
  obtain ⟨b, hb, _⟩ := DataW.trod_bool Try.underlying4 h0
  obtain ⟨l, a, c, hs, hr⟩ := nat_cells h1
  simp at hb hs
  subst hb hs
  exact ⟨b, l, a, c, rfl, hr⟩
end Go.Proofs.Ytkampmdekonjmaa
