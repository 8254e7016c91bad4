/- Facts: the laws' arguments; PredicateRights. -/
import Derived.Test.YtkampmdekonjmaaFc3
import Derived.Test.YtkampmdekonjmaaRt2
namespace Go.Proofs.Ytkampmdekonjmaa
open Go Go.RowKit Go.V Go.ChangeMaps
set_option linter.unusedSimpArgs false
set_option linter.unusedVariables false
set_option maxRecDepth 20000
theorem ints_cells {H : Type} {enc : TypeId × Value → H} {W : World} {fuel : Nat} {cs : List Value} {x : DataW H × List MemPlace}
    (hf : DataW.trod enc Try.prog W 0 (fun _ => true) true fuel 22 cs = some x) : ∃ l a c, cs = [.slice a l.length c] ∧ SL W a (intC l) ∧ l.length ≤ maxLen ∧ l.length ≤ Rows.uptoBulk x.1 := by
  rcases Go.ChangeShapes.open_ints Try.underlying22 Try.underlying3 (by kernel_rfl) hf with ⟨h, _⟩ | ⟨ad, len, cap, zs, h, _, hle, hmax, hz, hx, hcell, hwf⟩
  · exact ⟨[], none, 0, h, SL.nil _ _, Nat.zero_le _, Nat.zero_le _⟩
  · simp only [if_true] at hz
    have hlen : (zs.take len).length = len := by rw [List.length_take]; omega
    refine ⟨zs.take len, some ad, cap, by rw [hlen]; exact h, ?_, by rw [hlen]; omega, ?_⟩
    · by_cases h0 : len = 0
      · subst h0; exact .inl (by simp [intC])
      · have g0 := hcell 0 (by omega)
        obtain ⟨b, off, spot⟩ := ad
        have hspot : spot = none := by simpa [Addr.add] using World.cell?_spot g0
        subst hspot
        refine .inr ⟨b, off, rfl, fun j u hu => ?_⟩
        have hj : j < len := by
          have := (List.getElem?_eq_some_iff.1 hu).1
          unfold intC at this
          rw [List.length_map, hlen] at this
          exact this
        have g := hcell j (by omega)
        rw [add_mk] at g
        rw [g]
        have hjz : j < zs.length := by omega
        unfold intC at hu
        rw [List.getElem?_map, List.getElem?_take_of_lt hj, List.getElem?_eq_getElem hjz] at hu
        simp only [Option.map_some, Option.some.injEq] at hu
        rw [← hu]
        simp [List.getD_eq_getElem?_getD, hjz]
    · rw [hx]
      have h1 := bulk_slice (H := H) (Go.ChangeShapes.lits .i64 (zs.take len)) (Go.ChangeShapes.lits .i64 (zs.drop len))
      simp only [Go.ChangeShapes.lits, List.length_map, List.length_take, List.length_drop] at h1 ⊢
      omega
theorem fact_cells {H : Type} {enc : TypeId × Value → H} {W : World} {fuel : Nat} {cs : List Value} {x : DataW H × List MemPlace}
    (hf : DataW.trod enc Try.prog W 0 (fun _ => true) true fuel 30 cs = some x) : ∃ k args neg l m ad a b cap c d, cs = [.int .i64 k, .slice ad args.length cap, .bool neg, .slice a l.length c, .slice b m.length d] ∧ SL W ad (intC args) ∧ args.length ≤ maxLen ∧ RD W a c l ∧ RD W b d m ∧ l.length ≤ Rows.uptoBulk x.1 ∧ m.length ≤ Rows.uptoBulk x.1 ∧ args.length ≤ Rows.uptoBulk x.1 := by
  obtain ⟨xs, n, _, hx, hl, hlen, hall⟩ := DataW.trod_struct Try.underlying30 hf
  have c3 : Try.prog.cellsOf 3 = 1 := by kernel_rfl
  have c22 : Try.prog.cellsOf 22 = 1 := by kernel_rfl
  have c28 : Try.prog.cellsOf 28 = 3 := by kernel_rfl
  have cF : Try.prog.cellsOf 30 = 5 := by kernel_rfl
  rw [cF] at hl
  obtain ⟨v0, v1, v2, v3, v4, rfl⟩ : ∃ v0 v1 v2 v3 v4, cs = [v0, v1, v2, v3, v4] := by
    match cs, hl with
    | [v0, v1, v2, v3, v4], _ => exact ⟨_, _, _, _, _, rfl⟩
  obtain ⟨x0, x1, x2, rfl⟩ : ∃ x0 x1 x2, xs = [x0, x1, x2] := by
    match xs, hlen with
    | [x0, x1, x2], _ => exact ⟨_, _, _, rfl⟩
  have h0 : DataW.trod enc Try.prog W 0 (fun _ => true) true n 3 (([v0, v1, v2, v3, v4].drop 0).take (Try.prog.cellsOf 3)) = some x0 := hall 0 _ rfl
  have h1 : DataW.trod enc Try.prog W 0 (fun _ => true) true n 22 (([v0, v1, v2, v3, v4].drop 1).take (Try.prog.cellsOf 22)) = some x1 := hall 1 _ rfl
  have h2 : DataW.trod enc Try.prog W 0 (fun _ => true) true n 28 (([v0, v1, v2, v3, v4].drop 2).take (Try.prog.cellsOf 28)) = some x2 := hall 2 _ rfl
  rw [c3] at h0
  rw [c22] at h1
  rw [c28] at h2
  simp only [List.drop_zero, List.drop_succ_cons, List.take_succ_cons, List.take_zero] at h0 h1 h2
  obtain ⟨k, hk, _⟩ := DataW.trod_int Try.underlying3 h0
  obtain ⟨args, ad, cap, ha, hs, hml, hb⟩ := ints_cells h1
  obtain ⟨als, hr, hg⟩ := TR_rat h2
  obtain ⟨a0, r, c1, c2, e1, e2, hsh, hrep, e3, e4⟩ := hr
  subst e3; subst e4; subst e1
  cases a0 <;> simp [At.sh] at hsh
  rename_i neg l m
  obtain ⟨a, c, b, d, e5, r1, r2⟩ := hrep
  rw [e5] at e2
  simp only [List.append_nil, List.cons.injEq, and_true] at e2 hk ha
  obtain ⟨rfl, rfl, rfl⟩ := e2
  subst hk; subst ha
  have hz := (hg _ (List.mem_singleton.2 rfl)).2
  simp only [At.sz] at hz
  have bk : ∀ y ∈ [x0, x1, x2], Rows.uptoBulk y.1 ≤ Rows.uptoBulk x.1 := by
    intro y hy
    have h3 : y.1 ∈ [x0, x1, x2].map (·.1) := List.mem_map.2 ⟨_, hy, rfl⟩
    have h4 := bulk_part h3
    rw [hx]
    simp only [Rows.uptoBulk]
    omega
  have b1 := bk x1 (by simp)
  have b2 := bk x2 (by simp)
  exact ⟨k, args, neg, l, m, ad, a, b, cap, c, d, rfl, hs, hml, r1, r2, by omega, by omega, by omega⟩
/-- a fact, as a value -/
def FactV (W : World) (v : Value) (B : Nat) : Prop := ∃ k args neg l m ad a b cap c d, v = .agg #[.int .i64 k, .slice ad args.length cap, .bool neg, .slice a l.length c, .slice b m.length d] ∧ SL W ad (intC args) ∧ args.length ≤ maxLen ∧ RD W a c l ∧ RD W b d m ∧ l.length ≤ B ∧ m.length ≤ B ∧ args.length ≤ B
theorem open_Fact {H : Type} {enc : TypeId × Value → H} {W : World} {r : Reach} {base : Nat} {v : Value} {d : DataW H} {ps : List MemPlace}
    (hval : Value.okWide Try.prog W r base 30 v) (hd : DataW.Trod enc Try.prog W 0 (fun _ => true) true 30 v d ps) : ∃ (_ _ : Unit), FactV W v (Rows.uptoBulk d) := by
  obtain ⟨cs, rfl, hsz⟩ := Go.WideShapes.okWide_struct Try.underlying30 hval
  obtain ⟨fuel, hf⟩ := hd
  obtain ⟨k, args, neg, l, m, ad, a, b, cap, c, d, e, h⟩ := fact_cells hf
  refine ⟨(), (), k, args, neg, l, m, ad, a, b, cap, c, d, ?_, h⟩
  simp only [Value.cells] at e
  rw [show cs = cs.toList.toArray from by simp, e]
set_option maxHeartbeats 1000000 in
theorem rights_any {v : Value} {B : Nat} {w : World} (N : Int) (hv : FactV w v B) (hB : B ≤ 1048576) :
    Calls Try.prog 3 #[v, .int .i64 N] w fun e w' => e = .returned (.bool true) ∧ Below w.heap.size w w' := by
  obtain ⟨k, args, neg, l, m, ad, a, b, cap, c, d, rfl, ha, hn, hr, hs, hl, hm, _⟩ := hv
  refine calls_of_W (args := [.agg #[.int .i64 k, .slice ad args.length cap, .bool neg, .slice a l.length c, .slice b m.length d], .int .i64 N]) (rs := [.tmp 4]) (n := 28) Try.func3 rfl rfl rfl (by kernel_rfl) ?_
  first | refine W_rt (by kernel_rfl) (fun K hK => ?_) | refine W_text (by kernel_rfl) (fun K hK => ?_)
  simp [go_sem]
  refine hv_box #[.int .i64 k, .slice ad args.length cap, .bool neg, .slice a l.length c, .slice b m.length d] (by simp [go_sem]) rfl (by simp [go_sem, Value.cells]) (fun w1 b1 hE1 hle1 hB1 => ?_)
  replace ha := ha.ext hE1
  replace hr := hr.keep hE1
  replace hs := hs.keep hE1
  have hE := hE1
  simp [go_sem]
  refine hK _ _ ?_; clear hK K
  have hD := Below.drew1 w1
  replace ha := ha.ext hD
  replace hr := hr.keep hD
  replace hs := hs.keep hD
  replace hB1 := hB1.keep hD
  replace hE := hE.next hD
  obtain ⟨k0, k1, k2, k3, k4⟩ := fbx hB1
  first | refine W_rd [(0, 0), (1, 0), (3, 0), (4, 0), (2, 1), (5, 1), (6, 0), (7, 0), (8, 0), (10, 0), (9, 1), (11, 1), (12, 0), (13, 0), (14, 0), (15, 0), (16, 0), (18, 0), (19, 0), (17, 1), (20, 1), (21, 0), (22, 0), (23, 0)] (by kernel_rfl) (by kernel_rfl) (fun K hK => ?_) | refine W_draw [(0, 0), (1, 0), (3, 0), (4, 0), (2, 1), (5, 1), (6, 0), (7, 0), (8, 0), (10, 0), (9, 1), (11, 1), (12, 0), (13, 0), (14, 0), (15, 0), (16, 0), (18, 0), (19, 0), (17, 1), (20, 1), (21, 0), (22, 0), (23, 0)] (by kernel_rfl) (by kernel_rfl) (fun K hK => ?_)
  simp [go_sem, k0, k1, k2, k3, k4, add_mk, rowV, rowOk]
  refine hv_call (by simp [go_sem, k0, k1, k2, k3, k4, add_mk, rowV, rowOk]) rfl Try.call8 (fun R hR => ?_)
  simp [go_sem, k0, k1, k2, k3, k4, add_mk, rowV, rowOk]
  refine (arity_any k _).mono ?_
  rintro e w2 ⟨rfl, hE2⟩
  refine ⟨_, rfl, (by assumption), hR _ _ ?_⟩
  clear hR R
  replace ha := ha.ext hE2
  replace hr := hr.keep hE2
  replace hs := hs.keep hE2
  replace hB1 := hB1.keep hE2
  replace hE := hE.next hE2
  obtain ⟨k0, k1, k2, k3, k4⟩ := fbx hB1
  simp [go_sem, k0, k1, k2, k3, k4, add_mk, rowV, rowOk]
  refine hv_call (by simp [go_sem, k0, k1, k2, k3, k4, add_mk, rowV, rowOk]) rfl Try.call9 (fun R hR => ?_)
  simp [go_sem, k0, k1, k2, k3, k4, add_mk, rowV, rowOk]
  refine (rarity_any k _).mono ?_
  rintro e w3 ⟨rfl, hE3⟩
  refine ⟨_, rfl, (by assumption), hR _ _ ?_⟩
  clear hR R
  replace ha := ha.ext hE3
  replace hr := hr.keep hE3
  replace hs := hs.keep hE3
  replace hB1 := hB1.keep hE3
  replace hE := hE.next hE3
  obtain ⟨k0, k1, k2, k3, k4⟩ := fbx hB1
  simp [go_sem, k0, k1, k2, k3, k4, add_mk, rowV, rowOk]
  refine hv_call (by simp [go_sem, k0, k1, k2, k3, k4, add_mk, rowV, rowOk]) rfl Try.call8 (fun R hR => ?_)
  simp [go_sem, k0, k1, k2, k3, k4, add_mk, rowV, rowOk]
  refine (arity_any N _).mono ?_
  rintro e w4 ⟨rfl, hE4⟩
  refine ⟨_, rfl, (by assumption), hR _ _ ?_⟩
  clear hR R
  replace ha := ha.ext hE4
  replace hr := hr.keep hE4
  replace hs := hs.keep hE4
  replace hB1 := hB1.keep hE4
  replace hE := hE.next hE4
  obtain ⟨k0, k1, k2, k3, k4⟩ := fbx hB1
  simp [go_sem, k0, k1, k2, k3, k4, add_mk, rowV, rowOk]
  refine hv_call (by simp [go_sem, k0, k1, k2, k3, k4, add_mk, rowV, rowOk]) rfl Try.call9 (fun R hR => ?_)
  simp [go_sem, k0, k1, k2, k3, k4, add_mk, rowV, rowOk]
  refine (rarity_any N _).mono ?_
  rintro e w5 ⟨rfl, hE5⟩
  refine ⟨_, rfl, (by assumption), hR _ _ ?_⟩
  clear hR R
  replace ha := ha.ext hE5
  replace hr := hr.keep hE5
  replace hs := hs.keep hE5
  replace hB1 := hB1.keep hE5
  replace hE := hE.next hE5
  obtain ⟨k0, k1, k2, k3, k4⟩ := fbx hB1
  simp [go_sem, k0, k1, k2, k3, k4, add_mk, rowV, rowOk]
  refine hv_call (by simp [go_sem, k0, k1, k2, k3, k4, add_mk, rowV, rowOk]) rfl Try.call10 (fun R hR => ?_)
  simp [go_sem, k0, k1, k2, k3, k4, add_mk, rowV, rowOk]
  refine (fright_any k args N neg l m ad a b cap c d _ ha hn hr hs (by omega) (by omega)).mono ?_
  rintro e w6 ⟨rfl, hE6⟩
  refine ⟨_, rfl, (by assumption), hR _ _ ?_⟩
  clear hR R
  replace ha := ha.ext hE6
  replace hr := hr.keep hE6
  replace hs := hs.keep hE6
  replace hB1 := hB1.keep hE6
  replace hE := hE.next hE6
  obtain ⟨k0, k1, k2, k3, k4⟩ := fbx hB1
  simp [go_sem, k0, k1, k2, k3, k4, add_mk, rowV, rowOk]
  refine hv_call (by simp [go_sem, k0, k1, k2, k3, k4, add_mk, rowV, rowOk]) rfl Try.call11 (fun R hR => ?_)
  simp [go_sem, k0, k1, k2, k3, k4, add_mk, rowV, rowOk]
  refine (frightR_any k args N neg l m ad a b cap c d _ ha hn hr hs (by omega) (by omega)).mono ?_
  rintro e w7 ⟨rfl, hE7⟩
  refine ⟨_, rfl, (by assumption), hR _ _ ?_⟩
  clear hR R
  replace hE := hE.next hE7
  simp [go_sem]
  refine hK _ _ ?_; clear hK K
  refine W_ret ?_
  repeat (first | refine thenG_ret ?_ | refine inBlock_ret ?_)
  refine ⟨trivial, ?_, hE⟩
  simp [go_sem, pack, resL]
set_option maxRecDepth 100000 in
theorem predicateRights_liftedU (os : Os) (started : os.Started) (H : Type) (enc : TypeId × Value → H) (F : Stop.Interp) :
    ReturnsInHanded {} Try.checked os 3 .any ((Rows.OpenSpec.upto Rows.predicateRightsSpec).pre6 enc Try.prog Try.f3 Rows.predicateRightsUptoRow.domain false) (((Rows.OpenSpec.upto Rows.predicateRightsSpec).at F).post enc Try.prog Try.f3 false true false false) := by
  refine law_liftedU (C := Try.checked) (s := Rows.predicateRightsSpec) Try.own Try.laidOut (by kernel_rfl) Try.func3 rfl 4 rfl Try.underlying4 (by kernel_rfl) enc ?_ ?_ os started F
    (OpenSpec.witness (enc := enc) (C := Try.checked) (s := Rows.OpenSpec.upto Rows.predicateRightsSpec) (k := Rows.uptoSmall) rfl false ⟨#[], #[.agg #[.int .i64 0, .slice none 0 0, .bool false, .slice none 0 0, .slice none 0 0], .int .i64 0], []⟩ 8 (by kernel_rfl) (by kernel_rfl) (by kernel_rfl) (x := ([.agg [.lit (.int .i64 0), .nil, .agg [.agg [.lit (.bool false), .nil], .nil]], .lit (.int .i64 0)], [], [])) (by kernel_rfl) rfl (by kernel_rfl))
  · intro ds hl
    match ds, hl with
    | [d0, d1], _ => rfl
  · intro W base args ds ps hval hA hlt hk
    have hA' : DataW.TrodAll enc Try.prog W 0 (fun _ => true) true [30, 3] args.toList ds ps := hA
    have hval' : ∀ (j : Nat) t v, Try.f3.params[j]? = some t → args[j]? = some v → Value.okWide Try.prog W .any base t v := hval
    obtain ⟨v0, v1, d0, d1, p0, p1, rfl, rfl, rfl, h0, h1⟩ := Go.ChangeShapes.trodAll_two hA'
    simp only [Rows.uptoBulkAll] at hk
    have hb_f : Rows.uptoBulk d0 ≤ 1048576 := by omega
    obtain ⟨als_f, hr_f, hg_f⟩ := open_Fact (hval' 0 30 v0 rfl rfl) h0
    have hb_points : Rows.uptoBulk d1 ≤ 1048576 := by omega
    obtain ⟨points, rfl, rfl, rfl, hs_points⟩ := Go.ChangeShapes.open_int Try.underlying3 (hval' 1 3 v1 rfl rfl) h1
    exact rights_any points hg_f hb_f

theorem predicateRightsUpto_holds : Rows.PredicateRightsUptoSaid :=
  OpenClaim.holds_of_cond 3 Try.f3 rfl rfl rfl rfl rfl rfl rfl ⟨rfl, rfl, rfl, rfl, rfl⟩ rfl rfl rfl rfl rfl (by kernel_rfl) Try.func3 (by kernel_rfl)
    (of_decide_eq_true (by kernel_rfl)) (by unfold Func.isWrapper; first | (rw [if_pos (by decide +kernel)]; kernel_rfl) | (rw [if_neg (by decide +kernel)]; exact ⟨rfl, rfl⟩))
    (fun os started H enc _ F => predicateRights_liftedU os started H enc F)
end Go.Proofs.Ytkampmdekonjmaa
