/- Integers: the laws' small and alive; the arguments opened. -/
import Derived.Test.YtocdcpkdcljabaaIn8
import Derived.Test.YtocdcpkdcljabaaRow
import Derived.ChangeSlices
import Derived.ChangeSame
namespace Go.Proofs.Ytocdcpkdcljabaa
open Go.RowKit Go.V Go.ChangeMaps
set_option linter.unusedSimpArgs false
set_option linter.unusedVariables false
set_option maxRecDepth 20000

theorem Try.own : ownKnob Try.prog.godebug = none := by kernel_rfl
theorem Try.laidOut : laidOutB Try.prog = true := by kernel_rfl
set_option maxHeartbeats 400000 in
theorem smallI_any (ts : List (Option Addr × Nat × Nat)) (b : Nat) (w : World) (hr : ∀ i (h : i < ts.length), w.cell? ⟨b, i * 2 + 1, none⟩ = some (.slice ts[i].1 ts[i].2.1 ts[i].2.2)) (hl : ts.length ≤ 10) :
    Calls Try.prog 10 #[.slice (some ⟨b, 0, none⟩) ts.length ts.length] w fun e w' => e = .returned (.bool (ts.all fun t => decide (t.2.1 ≤ 24))) ∧ w = w' := by
  refine calls_of_W (args := [.slice (some ⟨b, 0, none⟩) ts.length ts.length]) (rs := [.tmp 2]) (n := 17) Try.func10 rfl rfl rfl (by kernel_rfl) ?_
  first | refine W_rt (by kernel_rfl) (fun K hK => ?_) | refine W_text (by kernel_rfl) (fun K hK => ?_)
  simp [go_sem]
  refine hK _ _ ?_; clear hK K
  refine W_seq (fun K1 hK1 => ?_)
  first | refine W_rt (by kernel_rfl) (fun K hK => ?_) | refine W_text (by kernel_rfl) (fun K hK => ?_)
  simp [go_sem]
  refine hK _ _ ?_; clear hK K
  refine W_block ?_
  refine W_loop (fun k g w' => w' = w ∧ ∃ i : Nat, i ≤ ts.length ∧ k = ts.length - i ∧ g 0 = .slice (some ⟨b, 0, none⟩) ts.length ts.length ∧ g 3 = .int .i64 i ∧ (ts.all fun t => decide (t.2.1 ≤ 24)) = ((ts.drop i).all fun t => decide (t.2.1 ≤ 24))) (ts.length) ?_ ?_
  · exact ⟨rfl, 0, by omega, rfl, rfl, rfl, rfl⟩
  · rintro k g w' ⟨rfl, i, hi, rfl, g0, g3, hA⟩
    refine W_seq (fun K2 hK2 => ?_)
    first | refine W_rt (by kernel_rfl) (fun K hK => ?_) | refine W_text (by kernel_rfl) (fun K hK => ?_)
    simp [go_sem, g0, g3]
    refine hK _ _ ?_; clear hK K
    by_cases hlt : i < ts.length
    · have hlt' : (i : Int) < ts.length := by omega
      have hw1 : IntKind.i64.wrap (↑i + 1) = (i : Int) + 1 := IntWalk.i64_in _ (by omega)
      have hc' := hr i hlt
      rw [List.drop_eq_getElem_cons hlt] at hA
      generalize ts[i] = t at hA hc'
      refine W_if (by simp [go_sem, hlt, hlt']; rfl) rfl ?_
      refine W_skip ?_
      refine hK2 _ _ ?_; clear hK2 K2
      refine W_seq (fun K2 hK2 => ?_)
      refine W_block ?_
      first | refine W_rt (by kernel_rfl) (fun K hK => ?_) | refine W_text (by kernel_rfl) (fun K hK => ?_)
      simp [go_sem, g0, g3, hlt, hlt', add_mk, hc']
      refine hK _ _ ?_; clear hK K
      by_cases h24 : t.2.1 ≤ 24
      · have h24' : ¬ (24 : Int) < t.2.1 := by omega
        refine W_if (by simp [go_sem, h24']; rfl) rfl ?_
        refine W_skip ?_
        refine hK2 _ _ ?_; clear hK2 K2
        refine W_text (by kernel_rfl) (fun K hK => ?_)
        simp [go_sem, g3, hw1]
        refine hK _ _ ⟨ts.length - (i + 1), by omega, rfl, i + 1, by omega, rfl, by simp [go_sem, g0], by simp [go_sem], ?_⟩
        rw [hA, List.all_cons, decide_eq_true h24, Bool.true_and]
      · have h24' : (24 : Int) < t.2.1 := by omega
        refine W_if (by simp [go_sem, h24']; rfl) rfl ?_
        first | refine W_rt (by kernel_rfl) (fun K hK => ?_) | refine W_text (by kernel_rfl) (fun K hK => ?_)
        simp [go_sem]
        refine hK _ _ ?_; clear hK K
        refine W_ret ?_
        repeat (first | refine thenG_ret ?_ | refine inBlock_ret ?_)
        refine ⟨trivial, ?_, rfl⟩
        rw [hA, List.all_cons, decide_eq_false h24, Bool.false_and]
        simp [go_sem, pack, resL]
    · have hil : i = ts.length := by omega
      refine W_if (by simp [go_sem, hlt]; rfl) rfl ?_
      refine W_exit ?_
      repeat (first | refine thenG_exit ?_ | refine inBlock_other rfl ?_ | refine inBlock_same ?_)
      refine hK1 _ _ ?_; clear hK1 K1 hK2 K2
      rw [hil, List.drop_length] at hA
      rw [hA]
      first | refine W_rt (by kernel_rfl) (fun K hK => ?_) | refine W_text (by kernel_rfl) (fun K hK => ?_)
      simp [go_sem]
      refine hK _ _ ?_; clear hK K
      refine W_ret ?_
      repeat (first | refine thenG_ret ?_ | refine inBlock_ret ?_)
      refine ⟨trivial, ?_, rfl⟩
      simp [go_sem, pack, resL]
theorem lim_1' (x : Nat) (h : 0 < x) (hx : x < 65536) : lim x = [x] := by
  rw [lim_pos x (by omega), Nat.mod_eq_of_lt hx, Nat.div_eq_of_lt hx, lim_zero]
theorem iOf_n1 (z : Int) (x : Nat) (w : World) (hz : z = -(x : Int)) (h : 0 < x) (hx : x < 65536) :
    Calls Try.prog 23 #[.int .i64 z] w fun e w' => ∃ a c, e = .returned (.agg #[.bool true, .slice a 1 c]) ∧ RD w' a c [x] ∧ Below w.heap.size w w' := by
  refine (iOf_any z w (by omega) (by omega)).mono ?_
  rintro e w' ⟨a, c, he, hr, hE⟩
  have h1 : z.natAbs = x := by omega
  rw [h1, lim_1' x h hx] at hr
  refine ⟨a, c, ?_, hr, hE⟩
  rw [he, iR, h1, lim_1' x h hx, decide_eq_true (by omega)]; rfl
theorem iOf_p1 (z : Int) (x : Nat) (w : World) (hz : z = (x : Int)) (h : 0 < x) (hx : x < 65536) :
    Calls Try.prog 23 #[.int .i64 z] w fun e w' => ∃ a c, e = .returned (.agg #[.bool false, .slice a 1 c]) ∧ RD w' a c [x] ∧ Below w.heap.size w w' := by
  refine (iOf_any z w (by omega) (by omega)).mono ?_
  rintro e w' ⟨a, c, he, hr, hE⟩
  have h1 : z.natAbs = x := by omega
  rw [h1, lim_1' x h hx] at hr
  refine ⟨a, c, ?_, hr, hE⟩
  rw [he, iR, h1, lim_1' x h hx, decide_eq_false (by omega)]; rfl
theorem divI_aw (a b : Option Addr) (c d : Nat) (w : World) (hr : RD w a c [7]) (hs : RD w b d [2]) :
    Calls Try.prog 25 #[.agg #[.bool true, .slice a 1 c], .agg #[.bool false, .slice b 1 d]] w fun e w' => ∃ a c a' c', e = .returned (.tuple #[.agg #[.bool true, .slice a 1 c], .agg #[.bool false, .slice a' 1 c'], .int .i64 0]) ∧ RD w' a c [4] ∧ RD w' a' c' [1] ∧ Below w.heap.size w w' := by
  refine (iDivMod_any true false [7] [2] a b c d w hr hs (by decide) (by decide)).mono ?_
  rintro e w' ⟨a, c, a', c', he, hr, hs, hE⟩
  have e1 : iv true (val [7]) = -7 := rfl
  have e2 : iv false (val [2]) = 2 := rfl
  have e3 : qq (-7) 2 = -4 := by decide
  have e4 : rr (-7) 2 = 1 := by decide
  have e5 : ee 2 = 0 := by decide
  have n4 : Int.natAbs (-4) = 4 := rfl
  have n1 : Int.natAbs 1 = 1 := rfl
  have l4 : lim 4 = [4] := lim_1' 4 (by decide) (by decide)
  have l1 : lim 1 = [1] := lim_1' 1 (by decide) (by decide)
  rw [e1, e2, e3, n4, l4] at hr
  rw [e1, e2, e4, n1, l1] at hs
  rw [e1, e2, e3, e4, e5, iR, iR, n4, n1, l4, l1] at he
  exact ⟨a, c, a', c', he, hr, hs, hE⟩
theorem sameI_aw (s : Bool) (x : Nat) (h : 0 < x) (hx : x < 65536) (a b : Option Addr) (c d : Nat) (w : World) (hr : RD w a c [x]) (hs : RD w b d [x]) :
    Calls Try.prog 14 #[.agg #[.bool s, .slice a 1 c], .agg #[.bool s, .slice b 1 d]] w fun e w' => e = .returned (.bool true) ∧ Below w.heap.size w w' := by
  have e1 : (iv s x).natAbs = x := iv_abs s x
  have e2 : decide (iv s x < 0) = s := by rw [iv_neg, lim_1' x h hx]; simp
  have := iSame_any (iv s x) a b c d w (by rw [e1, lim_1' x h hx]; exact hr) (by rw [e1, lim_1' x h hx]; exact hs) (by rw [e1, lim_1' x h hx]; simp [lenB])
  rwa [iR, iR, e1, e2, lim_1' x h hx] at this
theorem cmpI_aw (a b : Option Addr) (c d : Nat) (w : World) (hr : RD w a c [3]) (hs : RD w b d [2]) :
    Calls Try.prog 19 #[.agg #[.bool true, .slice a 1 c], .agg #[.bool true, .slice b 1 d]] w fun e w' => e = .returned (.int .i64 (-1)) ∧ Below w.heap.size w w' :=
  iCmp_any true true [3] [2] a b c d w hr hs (by decide) (by decide)
set_option maxHeartbeats 1000000 in
theorem aliveI_any (w : World) : Calls Try.prog 11 #[] w fun e w' => e = .returned (.bool true) ∧ Below w.heap.size w w' := by
  refine calls_of_W (args := []) (rs := [.tmp 0]) (n := 31) Try.func11 rfl rfl rfl (by kernel_rfl) ?_
  first | refine W_rt (by kernel_rfl) (fun K hK => ?_) | refine W_text (by kernel_rfl) (fun K hK => ?_)
  simp [go_sem]
  refine hK _ _ ?_; clear hK K
  first | refine W_rt (by kernel_rfl) (fun K hK => ?_) | refine W_text (by kernel_rfl) (fun K hK => ?_)
  simp [go_sem]
  refine hv_call (by simp [go_sem]) rfl Try.call23 (fun R hR => ?_)
  simp [go_sem]
  refine (iOf_n1 (-7) 7 _ (by decide) (by decide) (by decide)).mono ?_
  rintro e w1 ⟨a1, c1, rfl, hr1, hE1⟩
  refine ⟨_, rfl, hR _ _ ?_⟩
  clear hR R
  simp [go_sem]
  refine hv_call (by simp [go_sem]) rfl Try.call23 (fun R hR => ?_)
  simp [go_sem]
  refine (iOf_p1 2 2 _ (by decide) (by decide) (by decide)).mono ?_
  rintro e w2 ⟨a2, c2, rfl, hr2, hE2⟩
  refine ⟨_, rfl, hR _ _ ?_⟩
  clear hR R
  replace hr1 := hr1.keep hE2
  have hE := hE1.next hE2
  simp [go_sem]
  refine hv_call (by simp [go_sem]) rfl Try.call25 (fun R hR => ?_)
  simp [go_sem]
  refine (divI_aw _ _ _ _ _ hr1 hr2).mono ?_
  rintro e w3 ⟨a3, c3, a4, c4, rfl, hr3, hr4, hE3⟩
  refine ⟨_, rfl, hR _ _ ?_⟩
  clear hR R
  replace hE := hE.next hE3
  clear hr1 hr2 hE1 hE2 hE3
  have h3 := hE.size
  simp [go_sem]
  refine hv_alloc (by simp [go_sem]) rfl ty_zeroC25 (fun w5 b5 hE5 hle5 hB5 => ?_)
  replace hr3 := hr3.keep hE5
  replace hr4 := hr4.keep hE5
  have hb5 := hB5.lt
  simp [go_sem]
  refine hv_alloc (by simp [go_sem]) rfl ty_zeroC25 (fun w6 b6 hE6 hle6 hB6 => ?_)
  replace hr3 := hr3.keep hE6
  replace hr4 := hr4.keep hE6
  replace hB5 := hB5.keep hE6
  have hle5' : w.heap.size ≤ b5 := Nat.le_trans hE.size hle5
  have hle6' : w.heap.size ≤ b6 := Nat.le_trans hE.size (Nat.le_trans hE5.size hle6)
  replace hE := (hE.next hE5).next hE6
  simp [go_sem]
  refine hv_store (b := b5) (off := 0) [.bool true, .slice a3 1 c3] (by simp [go_sem]) rfl (by simp [go_sem]) (by simp [go_sem, Value.cells]) ty_size25 hB5 (by simp) (by simp [Value.oneCell']) (by decide) (fun w7 hS7 hB7 => ?_)
  simp [putC] at hB7
  replace hB6 := hB6.sto hS7 (by omega)
  replace hr3 := hr3.sto hS7 (hr3.nbox hB5)
  replace hr4 := hr4.sto hS7 (hr4.nbox hB5)
  replace hE := hE.nextS hS7 hle5'
  simp [go_sem]
  refine hv_store (b := b6) (off := 0) [.bool false, .slice a4 1 c4] (by simp [go_sem]) rfl (by simp [go_sem]) (by simp [go_sem, Value.cells]) ty_size25 hB6 (by simp) (by simp [Value.oneCell']) (by decide) (fun w8 hS8 hB8 => ?_)
  simp [putC] at hB8
  replace hB7 := hB7.sto hS8 (by omega)
  replace hr3 := hr3.sto hS8 (hr3.nbox hB6)
  replace hr4 := hr4.sto hS8 (hr4.nbox hB6)
  replace hE := hE.nextS hS8 hle6'
  simp [go_sem]
  refine hK _ _ ?_; clear hK K
  clear hE5 hE6 hS7 hS8
  obtain ⟨k0, k1⟩ := ibx hB7
  obtain ⟨k2, k3⟩ := ibx hB8
  first | refine W_rt (by kernel_rfl) (fun K hK => ?_) | refine W_text (by kernel_rfl) (fun K hK => ?_)
  simp [go_sem, k0, k1, k2, k3, add_mk, rowV, rowOk]
  refine hv_buildSlice #[.int .u16 4] (by simp [go_sem]) rfl ty_slZ23 (by decide) [(0, .int .u16 4)] (by simp [go_sem]) (by kernel_rfl) (fun w9 b9 hE9 hle9 hB9 => ?_)
  have hr9 := rd_one (x := 4) hB9 (by decide)
  replace hE := hE.next hE9
  replace hr3 := hr3.keep hE9
  replace hr4 := hr4.keep hE9
  replace hB7 := hB7.keep hE9
  replace hB8 := hB8.keep hE9
  obtain ⟨k2, k3⟩ := ibx hB8
  simp [go_sem]
  refine hv_build #[.bool true, .slice (some ⟨b9, 0, none⟩) 1 1] (by simp [go_sem]) rfl ty_stZ25 [(0, .bool true), (1, .slice (some ⟨b9, 0, none⟩) 1 1)] (by simp [go_sem]) rfl ?_
  simp [go_sem]
  refine hv_call (by simp [go_sem]) rfl Try.call14 (fun R hR => ?_)
  simp [go_sem]
  refine (sameI_aw true 4 (by decide) (by decide) _ _ _ _ _ hr3 hr9).mono ?_
  rintro e w10 ⟨rfl, hE10⟩
  refine ⟨_, rfl, hR _ _ ?_⟩
  clear hR R
  replace hE := hE.next hE10
  replace hr4 := hr4.keep hE10
  replace hB8 := hB8.keep hE10
  obtain ⟨k2, k3⟩ := ibx hB8
  simp [go_sem, k2, k3, add_mk, rowV, rowOk]
  refine hv_buildSlice #[.int .u16 1] (by simp [go_sem]) rfl ty_slZ23 (by decide) [(0, .int .u16 1)] (by simp [go_sem]) (by kernel_rfl) (fun w11 b11 hE11 hle11 hB11 => ?_)
  have hr11 := rd_one (x := 1) hB11 (by decide)
  replace hE := hE.next hE11
  replace hr4 := hr4.keep hE11
  simp [go_sem]
  refine hv_build #[.bool false, .slice (some ⟨b11, 0, none⟩) 1 1] (by simp [go_sem]) rfl ty_stZ25 [(1, .slice (some ⟨b11, 0, none⟩) 1 1)] (by simp [go_sem]) rfl ?_
  simp [go_sem]
  refine hv_call (by simp [go_sem]) rfl Try.call14 (fun R hR => ?_)
  simp [go_sem]
  refine (sameI_aw false 1 (by decide) (by decide) _ _ _ _ _ hr4 hr11).mono ?_
  rintro e w12 ⟨rfl, hE12⟩
  refine ⟨_, rfl, hR _ _ ?_⟩
  clear hR R
  replace hE := hE.next hE12
  simp [go_sem]
  refine hv_call (by simp [go_sem]) rfl Try.call23 (fun R hR => ?_)
  simp [go_sem]
  refine (iOf_n1 (-3) 3 _ (by decide) (by decide) (by decide)).mono ?_
  rintro e w13 ⟨a13, c13, rfl, hr13, hE13⟩
  refine ⟨_, rfl, hR _ _ ?_⟩
  clear hR R
  replace hE := hE.next hE13
  simp [go_sem]
  refine hv_call (by simp [go_sem]) rfl Try.call23 (fun R hR => ?_)
  simp [go_sem]
  refine (iOf_n1 (-2) 2 _ (by decide) (by decide) (by decide)).mono ?_
  rintro e w14 ⟨a14, c14, rfl, hr14, hE14⟩
  refine ⟨_, rfl, hR _ _ ?_⟩
  clear hR R
  replace hE := hE.next hE14
  replace hr13 := hr13.keep hE14
  simp [go_sem]
  refine hv_call (by simp [go_sem]) rfl Try.call19 (fun R hR => ?_)
  simp [go_sem]
  refine (cmpI_aw _ _ _ _ _ hr13 hr14).mono ?_
  rintro e w15 ⟨rfl, hE15⟩
  refine ⟨_, rfl, hR _ _ ?_⟩
  clear hR R
  replace hE := hE.next hE15
  simp [go_sem]
  refine hK _ _ ?_; clear hK K
  refine W_ret ?_
  repeat (first | refine thenG_ret ?_ | refine inBlock_ret ?_)
  refine ⟨trivial, ?_, hE⟩
  simp [go_sem, pack, resL]
theorem nat_cells {H : Type} {enc : TypeId × Value → H} {W : World} {fuel : Nat} {cs : List Value} {x : DataW H × List MemPlace}
    (hf : DataW.trod enc Try.prog W 0 (fun _ => true) true fuel 23 cs = some x) : ∃ l a c, cs = [.slice a l.length c] ∧ RD W a c l := by
  rcases Go.ChangeShapes.open_ints Try.underlying23 Try.underlying46 (by kernel_rfl) hf with ⟨h, _⟩ | ⟨ad, len, cap, zs, h, _, hle, hmax, hz, _, hcell, hwf⟩
  · exact ⟨[], none, 0, h, RD.nil _ _ _⟩
  · simp at hz
    have hlen : ((zs.take len).map Int.toNat).length = len := by rw [List.length_map, List.length_take]; omega
    refine ⟨(zs.take len).map Int.toNat, some ad, cap, by rw [hlen]; exact h, ⟨?_, ?_, by rw [hlen]; exact hle⟩⟩
    · by_cases h0 : len = 0
      · subst h0; exact .inl (by simp [lmC])
      · have g0 := hcell 0 (by omega)
        obtain ⟨b, off, spot⟩ := ad
        have hspot : spot = none := by simpa [Addr.add] using World.cell?_spot g0
        subst hspot
        refine .inr ⟨b, off, rfl, fun j u hu => ?_⟩
        have hj : j < len := by
          have := (List.getElem?_eq_some_iff.1 hu).1
          rwa [lmC_len, hlen] at this
        have g := hcell j (by omega)
        rw [add_mk] at g
        rw [g]
        have hjz : j < zs.length := by omega
        have hw := hwf _ (List.getElem_mem hjz)
        have hn : 0 ≤ zs[j] := by
          simp only [Lit.wf, Bool.and_eq_true, decide_eq_true_eq] at hw
          have e1 : IntKind.u16.min = 0 := by decide
          omega
        rw [lmC_get, List.getElem?_map, List.getElem?_take_of_lt hj, List.getElem?_eq_getElem hjz] at hu
        simp only [Option.map_some, Option.some.injEq] at hu
        rw [← hu, List.getD_eq_getElem?_getD, List.getElem?_eq_getElem hjz, Option.getD_some]
        congr 2
        omega
    · intro x hx
      simp only [List.mem_map] at hx
      obtain ⟨y, hy, rfl⟩ := hx
      have hw := hwf y (List.mem_of_mem_take hy)
      simp only [Lit.wf, Bool.and_eq_true, decide_eq_true_eq] at hw
      have e1 : IntKind.u16.min = 0 := by decide
      have e2 : IntKind.u16.max = 65535 := by decide
      omega
theorem open_Int {H : Type} {enc : TypeId × Value → H} {W : World} {r : Reach} {base : Nat} {v : Value} {d : DataW H} {ps : List MemPlace}
    (hval : Value.okWide Try.prog W r base 25 v) (hd : DataW.Trod enc Try.prog W 0 (fun _ => true) true 25 v d ps) : ∃ n l a c, v = .agg #[.bool n, .slice a l.length c] ∧ RD W a c l := by
  obtain ⟨cs, rfl, hsz⟩ := Go.WideShapes.okWide_struct Try.underlying25 hval
  obtain ⟨fuel, hf⟩ := hd
  obtain ⟨y0, y1, n, _, hl, h0, h1⟩ := Go.ChangeShapes.trod_struct2 Try.underlying25 hf
  have hc2 : Try.prog.cellsOf 25 = 2 := by kernel_rfl
  have hcb : Try.prog.cellsOf 4 = 1 := by kernel_rfl
  have hcn : Try.prog.cellsOf 23 = 1 := by kernel_rfl
  rw [hc2] at hsz
  obtain ⟨x0, x1, rfl⟩ : ∃ x0 x1, cs = #[x0, x1] := by
    obtain ⟨L⟩ := cs
    match L, hsz with
    | [x0, x1], _ => exact ⟨x0, x1, rfl⟩
  simp [Value.cells, hcb, hcn] at h0 h1
  obtain ⟨b, hb, _⟩ := DataW.trod_bool Try.underlying4 h0
  obtain ⟨l, a, c, hs, hr⟩ := nat_cells h1
  simp at hb hs
  subst hb hs
  exact ⟨b, l, a, c, rfl, hr⟩
end Go.Proofs.Ytocdcpkdcljabaa
