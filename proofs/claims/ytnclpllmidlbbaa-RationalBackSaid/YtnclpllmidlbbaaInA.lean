/- Integers: the laws' small and alive; the arguments opened. -/
import Derived.Test.YtnclpllmidlbbaaIn8
import Derived.Test.YtnclpllmidlbbaaRow
import Derived.ChangeSlices
import Derived.ChangeSame
namespace Go.Proofs.Ytnclpllmidlbbaa
open Go.RowKit Go.V Go.ChangeMaps
set_option linter.unusedSimpArgs false
set_option linter.unusedVariables false
set_option maxRecDepth 20000

theorem Try.own : ownKnob Try.prog.godebug = none := by kernel_rfl
theorem Try.laidOut : laidOutB Try.prog = true := by kernel_rfl
theorem lim_1' (x : Nat) (h : 0 < x) (hx : x < 65536) : lim x = [x] := by
  rw [lim_pos x (by omega), Nat.mod_eq_of_lt hx, Nat.div_eq_of_lt hx, lim_zero]
theorem iOf_n1 (z : Int) (x : Nat) (w : World) (hz : z = -(x : Int)) (h : 0 < x) (hx : x < 65536) :
    Calls Try.prog 53 #[.int .i64 z] w fun e w' => ∃ a c, e = .returned (.agg #[.bool true, .slice a 1 c]) ∧ RD w' a c [x] ∧ Below w.heap.size w w' := by
  refine (iOf_any z w (by omega) (by omega)).mono ?_
  rintro e w' ⟨a, c, he, hr, hE⟩
  have h1 : z.natAbs = x := by omega
  rw [h1, lim_1' x h hx] at hr
  refine ⟨a, c, ?_, hr, hE⟩
  rw [he, iR, h1, lim_1' x h hx, decide_eq_true (by omega)]; rfl
theorem iOf_p1 (z : Int) (x : Nat) (w : World) (hz : z = (x : Int)) (h : 0 < x) (hx : x < 65536) :
    Calls Try.prog 53 #[.int .i64 z] w fun e w' => ∃ a c, e = .returned (.agg #[.bool false, .slice a 1 c]) ∧ RD w' a c [x] ∧ Below w.heap.size w w' := by
  refine (iOf_any z w (by omega) (by omega)).mono ?_
  rintro e w' ⟨a, c, he, hr, hE⟩
  have h1 : z.natAbs = x := by omega
  rw [h1, lim_1' x h hx] at hr
  refine ⟨a, c, ?_, hr, hE⟩
  rw [he, iR, h1, lim_1' x h hx, decide_eq_false (by omega)]; rfl
theorem divI_aw (a b : Option Addr) (c d : Nat) (w : World) (hr : RD w a c [7]) (hs : RD w b d [2]) :
    Calls Try.prog 63 #[.agg #[.bool true, .slice a 1 c], .agg #[.bool false, .slice b 1 d]] w fun e w' => ∃ a c a' c', e = .returned (.tuple #[.agg #[.bool true, .slice a 1 c], .agg #[.bool false, .slice a' 1 c'], .int .i64 0]) ∧ RD w' a c [4] ∧ RD w' a' c' [1] ∧ Below w.heap.size w w' := by
  refine (iDivMod_any true false [7] [2] a b c d w hr hs (by decide) (by decide)).mono ?_
  rintro e w' ⟨a, c, a', c', he, hr, hs, hE⟩
  have e1 : iv true (val [7]) = -7 := rfl
  have e2 : iv false (val [2]) = 2 := rfl
  have e3 : qq (-7) 2 = -4 := by decide
  have e4 : rr (-7) 2 = 1 := by decide
  have e5 : ee 2 = 0 := by decide
  have n4 : Int.natAbs (-4) = 4 := rfl
  have n1 : Int.natAbs 1 = 1 := rfl
  have l4 : lim 4 = [4] := lim_1' 4 (by decide) (by decide)
  have l1 : lim 1 = [1] := lim_1' 1 (by decide) (by decide)
  rw [e1, e2, e3, n4, l4] at hr
  rw [e1, e2, e4, n1, l1] at hs
  rw [e1, e2, e3, e4, e5, iR, iR, n4, n1, l4, l1] at he
  exact ⟨a, c, a', c', he, hr, hs, hE⟩
theorem sameI_aw (s : Bool) (x : Nat) (h : 0 < x) (hx : x < 65536) (a b : Option Addr) (c d : Nat) (w : World) (hr : RD w a c [x]) (hs : RD w b d [x]) :
    Calls Try.prog 22 #[.agg #[.bool s, .slice a 1 c], .agg #[.bool s, .slice b 1 d]] w fun e w' => e = .returned (.bool true) ∧ Below w.heap.size w w' := by
  have e1 : (iv s x).natAbs = x := iv_abs s x
  have e2 : decide (iv s x < 0) = s := by rw [iv_neg, lim_1' x h hx]; simp
  have := iSame_any (iv s x) a b c d w (by rw [e1, lim_1' x h hx]; exact hr) (by rw [e1, lim_1' x h hx]; exact hs) (by rw [e1, lim_1' x h hx]; simp [lenB])
  rwa [iR, iR, e1, e2, lim_1' x h hx] at this
theorem cmpI_aw (a b : Option Addr) (c d : Nat) (w : World) (hr : RD w a c [3]) (hs : RD w b d [2]) :
    Calls Try.prog 71 #[.agg #[.bool true, .slice a 1 c], .agg #[.bool true, .slice b 1 d]] w fun e w' => e = .returned (.int .i64 (-1)) ∧ Below w.heap.size w w' :=
  iCmp_any true true [3] [2] a b c d w hr hs (by decide) (by decide)
theorem nat_cells {H : Type} {enc : TypeId × Value → H} {W : World} {fuel : Nat} {cs : List Value} {x : DataW H × List MemPlace}
    (hf : DataW.trod enc Try.prog W 0 (fun _ => true) true fuel 23 cs = some x) : ∃ l a c, cs = [.slice a l.length c] ∧ RD W a c l := by
  rcases Go.ChangeShapes.open_ints Try.underlying23 Try.underlying50 (by kernel_rfl) hf with ⟨h, _⟩ | ⟨ad, len, cap, zs, h, _, hle, hmax, hz, _, hcell, hwf⟩
  · exact ⟨[], none, 0, h, RD.nil _ _ _⟩
  · simp at hz
    have hlen : ((zs.take len).map Int.toNat).length = len := by rw [List.length_map, List.length_take]; omega
    refine ⟨(zs.take len).map Int.toNat, some ad, cap, by rw [hlen]; exact h, ⟨?_, ?_, by rw [hlen]; exact hle⟩⟩
    · by_cases h0 : len = 0
      · subst h0; exact .inl (by simp [lmC])
      · have g0 := hcell 0 (by omega)
        obtain ⟨b, off, spot⟩ := ad
        have hspot : spot = none := by simpa [Addr.add] using World.cell?_spot g0
        subst hspot
        refine .inr ⟨b, off, rfl, fun j u hu => ?_⟩
        have hj : j < len := by
          have := (List.getElem?_eq_some_iff.1 hu).1
          rwa [lmC_len, hlen] at this
        have g := hcell j (by omega)
        rw [add_mk] at g
        rw [g]
        have hjz : j < zs.length := by omega
        have hw := hwf _ (List.getElem_mem hjz)
        have hn : 0 ≤ zs[j] := by
          simp only [Lit.wf, Bool.and_eq_true, decide_eq_true_eq] at hw
          have e1 : IntKind.u16.min = 0 := by decide
          omega
        rw [lmC_get, List.getElem?_map, List.getElem?_take_of_lt hj, List.getElem?_eq_getElem hjz] at hu
        simp only [Option.map_some, Option.some.injEq] at hu
        rw [← hu, List.getD_eq_getElem?_getD, List.getElem?_eq_getElem hjz, Option.getD_some]
        congr 2
        omega
    · intro x hx
      simp only [List.mem_map] at hx
      obtain ⟨y, hy, rfl⟩ := hx
      have hw := hwf y (List.mem_of_mem_take hy)
      simp only [Lit.wf, Bool.and_eq_true, decide_eq_true_eq] at hw
      have e1 : IntKind.u16.min = 0 := by decide
      have e2 : IntKind.u16.max = 65535 := by decide
      omega
theorem open_Int {H : Type} {enc : TypeId × Value → H} {W : World} {r : Reach} {base : Nat} {v : Value} {d : DataW H} {ps : List MemPlace}
    (hval : Value.okWide Try.prog W r base 25 v) (hd : DataW.Trod enc Try.prog W 0 (fun _ => true) true 25 v d ps) : ∃ n l a c, v = .agg #[.bool n, .slice a l.length c] ∧ RD W a c l := by
  obtain ⟨cs, rfl, hsz⟩ := Go.WideShapes.okWide_struct Try.underlying25 hval
  obtain ⟨fuel, hf⟩ := hd
  obtain ⟨y0, y1, n, _, hl, h0, h1⟩ := Go.ChangeShapes.trod_struct2 Try.underlying25 hf
  have hc2 : Try.prog.cellsOf 25 = 2 := by kernel_rfl
  have hcb : Try.prog.cellsOf 4 = 1 := by kernel_rfl
  have hcn : Try.prog.cellsOf 23 = 1 := by kernel_rfl
  rw [hc2] at hsz
  obtain ⟨x0, x1, rfl⟩ : ∃ x0 x1, cs = #[x0, x1] := by
    obtain ⟨L⟩ := cs
    match L, hsz with
    | [x0, x1], _ => exact ⟨x0, x1, rfl⟩
  simp [Value.cells, hcb, hcn] at h0 h1
  obtain ⟨b, hb, _⟩ := DataW.trod_bool Try.underlying4 h0
  obtain ⟨l, a, c, hs, hr⟩ := nat_cells h1
  simp at hb hs
  subst hb hs
  exact ⟨b, l, a, c, rfl, hr⟩
end Go.Proofs.Ytnclpllmidlbbaa
