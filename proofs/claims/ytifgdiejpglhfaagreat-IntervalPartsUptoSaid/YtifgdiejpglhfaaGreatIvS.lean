/- Intervals: Sign. -/
import Derived.Test.YtifgdiejpglhfaaGreatIv7
import Derived.Laws.StructEq
namespace Go.Proofs.YtifgdiejpglhfaaGreat
open Go.RowKit Go.V Go.ChangeMaps
set_option linter.unusedSimpArgs false
set_option linter.unusedVariables false
set_option maxRecDepth 20000
/-- the signs of the ends, as a value -/
def isEnds : Value → Bool
  | .agg ⟨[.int .i64 _, .int .i64 _]⟩ => true
  | _ => false
def eqEnds : Value → Value → Value
  | .agg ⟨[.int .i64 a, .int .i64 b]⟩, .agg ⟨[.int .i64 a', .int .i64 b']⟩ => .bool (decide (a = a' ∧ b = b'))
  | _, _ => undef
@[go_sem] theorem isEnds_mk (a b : Int) : isEnds (.agg #[.int .i64 a, .int .i64 b]) = true := rfl
@[go_sem] theorem eqEnds_mk (a b a' b' : Int) : eqEnds (.agg #[.int .i64 a, .int .i64 b]) (.agg #[.int .i64 a', .int .i64 b']) = .bool (decide (a = a' ∧ b = b')) := rfl
theorem ends_eq (w : World) (d : Nat) (a b a' b' : Int) :
    tame Tryz.prog (Op.equalIn (d + 1 + 1) 75 (.agg #[.int .i64 a, .int .i64 b]) (.agg #[.int .i64 a', .int .i64 b'])) w = some (decide (a = a' ∧ b = b')) := by
  have hu : Tryz.prog.underlying 75 = some (.struct (Tryz.prog.fieldsOf 75)) := by kernel_rfl
  have hp : Tryz.prog.stoodInHeld 75 = false := by kernel_rfl
  have hf : (Tryz.prog.fieldsOf 75).toList = [⟨((Tryz.prog.fieldsOf 75).toList.getD 0 default).name, 3, 0, false, "", ((Tryz.prog.fieldsOf 75).toList.getD 0 default).pkgPath, 0⟩, ⟨((Tryz.prog.fieldsOf 75).toList.getD 1 default).name, 3, 1, false, "", ((Tryz.prog.fieldsOf 75).toList.getD 1 default).pkgPath, 8⟩] := by kernel_rfl
  have hn1 : ((Tryz.prog.fieldsOf 75).toList.getD 0 default).name ≠ "_" := of_decide_eq_false (by kernel_rfl)
  have hn2 : ((Tryz.prog.fieldsOf 75).toList.getD 1 default).name ≠ "_" := of_decide_eq_false (by kernel_rfl)
  rw [tame_equalIn_struct (d + 1) 75 _ _ hu hp, hf]
  have u3 : Tryz.prog.underlying 3 = some (.int .i64) := by kernel_rfl
  rw [eqF_cons (d + 1) _ _ _ _ (by exact hn1) (tame_part (tame_isAgg u3 w) rfl) (tame_part (tame_isAgg u3 w) rfl) (tame_eq_int d a a' u3),
    eqF_cons (d + 1) _ _ _ _ (by exact hn2) (tame_part (tame_isAgg u3 w) rfl) (tame_part (tame_isAgg u3 w) rfl) (tame_eq_int d b b' u3)]
  by_cases h1 : a = a' <;> by_cases h2 : b = b' <;> simp [h1, h2, Op.eqFields, tame_pure]
theorem run_ends_eql {w : World} {ev : Operand → Value} {ty : TypeId} {x y : Operand} {u : TypeId} {a b a' b' : Int} (hx : ev x = .agg #[.int .i64 a, .int .i64 b]) (hy : ev y = .agg #[.int .i64 a', .int .i64 b']) :
    run1 Tryz.prog w ev ty (.binOp .eql 75 x y u) = some (.value (.bool (decide (a = a' ∧ b = b')))) := by
  have hm : Tryz.prog.eqGuardType Tryz.prog.depth 75 = false := by kernel_rfl
  simp only [run1, execOp, hx, hy, Go.binOp, tame_bind', guard_agg _ _ _ _ _ _ hm, Option.bind_some, Op.equal, Op.maxDepth]
  rw [ends_eq w 9998]
  rfl
theorem isEnds_of {v : Value} (h : isEnds v = true) : ∃ a b, v = .agg #[.int .i64 a, .int .i64 b] := by
  unfold isEnds at h
  split at h
  · exact ⟨_, _, rfl⟩
  · cases h
theorem any_ends_eql {w : World} {ev : Operand → Value} {ty : TypeId} {x y : Operand} {u : TypeId} (hx : isEnds (ev x) = true) (hy : isEnds (ev y) = true) :
    anyV Tryz.prog w ev ty (.binOp .eql 75 x y u) = eqEnds (ev x) (ev y) ∧ anyOk Tryz.prog w ev ty (.binOp .eql 75 x y u) := by
  obtain ⟨a, b, hx⟩ := isEnds_of hx
  obtain ⟨a', b', hy⟩ := isEnds_of hy
  have h := run_ends_eql (w := w) (ty := ty) (u := u) hx hy
  refine ⟨?_, _, h⟩
  rw [hx, hy, eqEnds_mk]
  simp [anyV, h]
theorem any_ends_v {w : World} {ev : Operand → Value} {ty : TypeId} {x y : Operand} {u : TypeId} (hx : isEnds (ev x) = true) (hy : isEnds (ev y) = true) :
    anyV Tryz.prog w ev ty (.binOp .eql 75 x y u) = eqEnds (ev x) (ev y) := (any_ends_eql hx hy).1
theorem any_ends_ok {w : World} {ev : Operand → Value} {ty : TypeId} {x y : Operand} {u : TypeId} (hx : isEnds (ev x) = true) (hy : isEnds (ev y) = true) :
    anyOk Tryz.prog w ev ty (.binOp .eql 75 x y u) = True := eq_true (any_ends_eql hx hy).2
theorem binC_aggE (P : Program) (t : TypeId) (xs ys : Array Value) : binC P .eql t (.agg xs) (.agg ys) = none := rfl
theorem outV_none (d : Value) : outV d none = d := rfl
theorem outOk_none (d : Prop) : outOk d none = d := rfl
def GF0 : Gam := gamOf [(47, ct_dsign)]
theorem GF0_ok : GamOk Tryz.prog GF0 := gamOk_of ⟨ok_dsign, trivial⟩
theorem GF0_dsign : GF0 47 = some ct_dsign := rfl
def tr_ends : Tr (List SA) := (.call 47 [(.ob 0)] 2 (.call 47 [(.ob 1)] 3 (.leaf [(.n (.var 2)), (.n (.var 3))])))
theorem ev_ends : Ct.ok Tryz.prog 66 { args := [[.r, .r]], res := [[.n, .n]], F := fun als => tr_ends.den GF0 (env0 als), L := 1000, A := 0, B := 0 } :=
  top_ok (by kernel_rfl) GF0_ok (plans := planF) (lf := 60) (k := 20) (by kernel_rfl)
def g_ends : List QA → Option (List QA)
  | [.q a, .q b] => some [.n (qsg a), .n (qsg b)]
  | _ => none
theorem ends_den (l r : List QA) (h : g_ends l = some r) : tr_ends.den GF0 (env0 (l.map QA.at)) = some (r.map QA.at) := by
  unfold g_ends at h
  split at h
  · injection h with h; subst h
    simp only [tr_ends, Tr.den, evAll, SA.ev, BE.ev, IE.ev, SE.ev, LE.ev, env0, extE_eq, pickO, op1, op2, op3, Nat.reduceLeDiff, Nat.reduceSub, Nat.reduceEqDiff, if_true, if_false, ite_true, ite_false, decide_true, decide_false, Bool.not_true, Bool.not_false, Nat.zero_le, Nat.sub_zero, List.getElem?_cons_zero, List.getElem?_cons_succ, List.getElem?_nil, cq0, cq1, cq2, cq3, cq4, cq5, cq6, cq7, cq8, cq9, cq10, cq12, cq16, outQ1, outQ2, outQ3, outQ4, outQ5, evN_at, evB_at, evS_at, evLen_z1, evLen_z2, evBit_z, at_n, at_b, at_s, at_z, at_k, at_kb, kG, kQ, kQ1, List.map_cons, List.map_nil, List.cons_append, List.nil_append, decide_eq_true_eq, Bool.false_eq_true, GF0_dsign, ctF_dsign, g_sign]
  · cases h
def ct_ends : Ct := { args := [[.r, .r]], res := [[.n, .n]], F := cq g_ends, L := 1000, A := 0, B := 0 }
theorem ok_ends : ct_ends.ok Tryz.prog 66 := ev_ends.weaken (of_cq (g := g_ends) ends_den)
def sgI (a b : Int) : Int := if a = 0 ∧ b = 0 then 0 else if 0 < a then 1 else if b < 0 then -1 else 0
def sgK (a b : Int) : Bool := if a = 0 ∧ b = 0 then true else if 0 < a then true else if b < 0 then true else false
theorem ends_any {w : World} {x y : Rat} {v : Value} (hv : RepV w [.r, .r] [QA.at (.q x), QA.at (.q y)] v) (hs : (QA.at (.q x)).sz ≤ 1000 ∧ (QA.at (.q y)).sz ≤ 1000) :
    Calls Tryz.prog 66 #[v] w fun e w' => e = .returned (.agg #[.int .i64 (qsg x), .int .i64 (qsg y)]) ∧ Below w.heap.size w w' := by
  have hr : RepVs w [[.r, .r]] [QA.at (.q x), QA.at (.q y)] [v] := ⟨_, [], _, _, by simp, rfl, hv, rfl, rfl⟩
  refine (ok_ends 1000 w [v] [QA.at (.q x), QA.at (.q y)] [QA.at (.n (qsg x)), QA.at (.n (qsg y))] (Nat.le_refl _) hr (fun a ha => ?_) ?_).mono ?_
  · simp at ha; rcases ha with rfl | rfl
    · exact hs.1
    · exact hs.2
  · show cq g_ends _ = _
    rw [cq2]; rfl
  · rintro e w' ⟨rvs, he, ⟨a1, a2, v, q, e1, rfl, h1, rfl, rfl⟩, _, hE⟩
    obtain ⟨cs, ⟨b1, r1, c1, c2, rfl, rfl, g1, g2, b2, r2, c3, c4, rfl, rfl, g3, g4, rfl, rfl⟩, rfl⟩ := h1
    simp at e1
    obtain ⟨rfl, rfl⟩ := e1
    have g2' : c1 = [.int .i64 (qsg x)] := g2
    have g4' : c3 = [.int .i64 (qsg y)] := g4
    subst g2'; subst g4'
    exact ⟨he, hE⟩
theorem Reps_keep {w w' : World} (hb : Below w.heap.size w w') : ∀ {shs : List Sh} {als : List At} {cs : List Value}, Reps w shs als cs → Reps w' shs als cs
  | [], _, _, h => h
  | sh :: r, als, cs, h => by
    obtain ⟨a, l, c1, c2, e1, e2, h1, h2, h3⟩ := h
    exact ⟨a, l, c1, c2, e1, e2, h1, h2.keep hb, Reps_keep hb h3⟩
theorem RepV_keep {w w' : World} (hb : Below w.heap.size w w') {shs : List Sh} {als : List At} {v : Value} (h : RepV w shs als v) : RepV w' shs als v := by
  obtain ⟨cs, h1, h2⟩ := h
  exact ⟨cs, Reps_keep hb h1, h2⟩
set_option maxHeartbeats 1000000 in
theorem ivSign_any {w : World} {x y : Rat} {c0 c1 c2 c3 c4 c5 : Value} (hv : RepV w [.r, .r] [QA.at (.q x), QA.at (.q y)] (.agg #[c0, c1, c2, c3, c4, c5])) (hs : (QA.at (.q x)).sz ≤ 1000 ∧ (QA.at (.q y)).sz ≤ 1000) :
    Calls Tryz.prog 17 #[.agg #[c0, c1, c2, c3, c4, c5]] w fun e w' => e = .returned (.tuple #[.int .i64 (sgI (qsg x) (qsg y)), .bool (sgK (qsg x) (qsg y))]) ∧ Below w.heap.size w w' := by
  refine calls_of_W (args := [.agg #[c0, c1, c2, c3, c4, c5]]) (rs := [.tmp 2, .tmp 3]) (n := 19) Tryz.func17 rfl rfl rfl (by kernel_rfl) ?_
  first | refine W_rt (by kernel_rfl) (fun K hK => ?_) | refine W_text (by kernel_rfl) (fun K hK => ?_)
  simp [go_sem]
  refine hv_box #[c0, c1, c2, c3, c4, c5] (by simp [go_sem]) rfl (by simp [go_sem, Value.cells]) (fun w1 b1 hE1 hle1 hB1 => ?_)
  have k0 := hB1.cell 0
  have k1 := hB1.cell 1
  have k2 := hB1.cell 2
  have k3 := hB1.cell 3
  have k4 := hB1.cell 4
  have k5 := hB1.cell 5
  simp at k0 k1 k2 k3 k4 k5
  have hv1 := RepV_keep hE1 hv
  simp [go_sem]
  refine hK _ _ ?_; clear hK K
  first | refine W_rt (by kernel_rfl) (fun K hK => ?_) | refine W_text (by kernel_rfl) (fun K hK => ?_)
  simp [go_sem, k0, k1, k2, k3, k4, k5, add_mk, rowV, rowOk]
  refine hv_call (by simp [go_sem, k0, k1, k2, k3, k4, k5, add_mk, rowV, rowOk]) rfl Tryz.call66 (fun R hR => ?_)
  simp [go_sem, k0, k1, k2, k3, k4, k5, add_mk, rowV, rowOk]
  refine (ends_any hv1 hs).mono ?_
  rintro e w2 ⟨rfl, hE2⟩
  refine ⟨_, rfl, hR _ _ ?_⟩
  clear hR R
  have hE := hE1.next hE2
  generalize qsg x = X at *
  generalize qsg y = Y at *
  simp [go_sem]
  refine hv_alloc (by simp [go_sem]) rfl ty_zeroC75 (fun w3 b3 hE3 hle3 hB3 => ?_)
  replace hE := hE.next hE3
  have hb3 : w.heap.size ≤ b3 := Nat.le_trans (hE1.next hE2).size hle3
  simp [go_sem]
  refine hv_store (b := b3) (off := 0) [.int .i64 X, .int .i64 Y] (by simp [go_sem]) rfl (by simp [go_sem]) (by simp [go_sem, Value.cells]) ty_size75 hB3 (by simp) (by simp [Value.oneCell']) (by decide) (fun w4 hS4 hB4 => ?_)
  simp [putC] at hB4
  replace hE := hE.nextS hS4 hb3
  have q0 := hB4.cell 0
  have q1 := hB4.cell 1
  simp at q0 q1
  simp [go_sem]
  refine hK _ _ ?_; clear hK K
  refine W_seq (fun K1 hK1 => ?_)
  refine W_block ?_
  first | refine W_rt (by kernel_rfl) (fun K hK => ?_) | refine W_text (by kernel_rfl) (fun K hK => ?_)
  simp [go_sem, q0, q1, add_mk, rowV, rowOk]
  refine hv_build #[.int .i64 0, .int .i64 0] (by simp [go_sem]) rfl ty_stZ75 [] (by simp [go_sem]) rfl ?_
  simp [go_sem, binC_aggE, outV_none, outOk_none, any_ends_v, any_ends_ok]
  refine hK _ _ ?_; clear hK K
  by_cases h1 : X = 0 ∧ Y = 0
  · refine W_if (t := true) (by simp [go_sem, h1]) rfl ?_
    first | refine W_rt (by kernel_rfl) (fun K hK => ?_) | refine W_text (by kernel_rfl) (fun K hK => ?_)
    simp [go_sem]
    refine hK _ _ ?_; clear hK K
    refine W_ret ?_
    repeat (first | refine thenG_ret ?_ | refine inBlock_ret ?_)
    refine ⟨trivial, ?_, hE⟩
    simp [go_sem, pack, resL, sgI, sgK, h1]
  · have h1' : X = 0 → ¬ Y = 0 := fun a b => h1 ⟨a, b⟩
    refine W_if (t := false) (by simp [go_sem]; exact h1') rfl ?_
    first | refine W_rt (by kernel_rfl) (fun K hK => ?_) | refine W_text (by kernel_rfl) (fun K hK => ?_)
    simp [go_sem, q0, q1, add_mk]
    refine hK _ _ ?_; clear hK K
    by_cases h2 : 0 < X
    · refine W_if (t := true) (by simp [go_sem, h2]) rfl ?_
      first | refine W_rt (by kernel_rfl) (fun K hK => ?_) | refine W_text (by kernel_rfl) (fun K hK => ?_)
      simp [go_sem]
      refine hK _ _ ?_; clear hK K
      refine W_ret ?_
      repeat (first | refine thenG_ret ?_ | refine inBlock_ret ?_)
      refine ⟨trivial, ?_, hE⟩
      simp [go_sem, pack, resL, sgI, sgK, h1, h2]
    · refine W_if (t := false) (by simp [go_sem, h2]) rfl ?_
      first | refine W_rt (by kernel_rfl) (fun K hK => ?_) | refine W_text (by kernel_rfl) (fun K hK => ?_)
      simp [go_sem, q0, q1, add_mk]
      refine hK _ _ ?_; clear hK K
      by_cases h3 : Y < 0
      · refine W_if (t := true) (by simp [go_sem, h3]) rfl ?_
        first | refine W_rt (by kernel_rfl) (fun K hK => ?_) | refine W_text (by kernel_rfl) (fun K hK => ?_)
        simp [go_sem]
        refine hK _ _ ?_; clear hK K
        refine W_ret ?_
        repeat (first | refine thenG_ret ?_ | refine inBlock_ret ?_)
        refine ⟨trivial, ?_, hE⟩
        simp [go_sem, pack, resL, sgI, sgK, h1, h2, h3]
      · refine W_if (t := false) (by simp [go_sem, h3]) rfl ?_
        refine W_skip ?_
        refine hK1 _ _ ?_; clear hK1 K1
        first | refine W_rt (by kernel_rfl) (fun K hK => ?_) | refine W_text (by kernel_rfl) (fun K hK => ?_)
        simp [go_sem]
        refine hK _ _ ?_; clear hK K
        refine W_ret ?_
        repeat (first | refine thenG_ret ?_ | refine inBlock_ret ?_)
        refine ⟨trivial, ?_, hE⟩
        simp [go_sem, pack, resL, sgI, sgK, h1, h2, h3]
def g_ivsign : List QA → Option (List QA)
  | [.q a, .q b] => if a ≤ b then some (if qsg a = qsg b then [.n (qsg a), .b true] else [.n 0, .b false]) else none
  | _ => none
theorem qsg_cases (x : Rat) : (x < 0 ∧ qsg x = -1) ∨ (x = 0 ∧ qsg x = 0) ∨ (0 < x ∧ qsg x = 1) := by
  rcases qtri x 0 with h | rfl | h
  · exact .inl ⟨h, qsg_neg h⟩
  · exact .inr (.inl ⟨rfl, rfl⟩)
  · exact .inr (.inr ⟨h, qsg_pos h⟩)
theorem sg_val {a b : Rat} (h : a ≤ b) : [QA.n (sgI (qsg a) (qsg b)), QA.b (sgK (qsg a) (qsg b))] = if qsg a = qsg b then [.n (qsg a), .b true] else [.n 0, .b false] := by
  rcases qsg_cases a with ⟨h1, e1⟩ | ⟨h1, e1⟩ | ⟨h1, e1⟩ <;> rcases qsg_cases b with ⟨h2, e2⟩ | ⟨h2, e2⟩ | ⟨h2, e2⟩ <;> rw [e1, e2] <;> first | rfl | (exfalso; grind)
def ct_ivsign : Ct := { args := [[.r, .r]], res := [[.n], [.b]], F := cq g_ivsign, L := 1000, A := 0, B := 0 }
theorem ctF_ivsign : ct_ivsign.F = cq g_ivsign := rfl
theorem ok_ivsign : ct_ivsign.ok Tryz.prog 17 := by
  intro s w vs als r hs hr hz hF
  obtain ⟨a1, a2, v, q, rfl, rfl, h1, rfl, rfl⟩ := hr
  have hF' : cq g_ivsign (a1 ++ []) = some r := hF
  rw [List.append_nil] at hF' hz
  unfold cq at hF'
  split at hF'
  · rename_i l hl
    have hl' := toQs_some hl
    unfold outQ at hF'
    split at hF'
    · rename_i r' hr'
      injection hF' with hF'
      unfold g_ivsign at hr'
      split at hr'
      · rename_i a b
        split at hr'
        · rename_i hab
          injection hr' with hr'
          simp only [List.map_cons, List.map_nil] at hl'
          subst hl'
          have hs2 : s ≤ 1000 := hs
          have z1 := hz (QA.at (.q a)) (by simp)
          have z2 := hz (QA.at (.q b)) (by simp)
          obtain ⟨c0, c1, c2, c3, c4, c5, rfl⟩ : ∃ c0 c1 c2 c3 c4 c5, v = .agg #[c0, c1, c2, c3, c4, c5] := by
            obtain ⟨cs, ⟨b1, r1, c1, c2, e1, rfl, g1, g2, b2, r2, c3, c4, e2, rfl, g3, g4, rfl, rfl⟩, rfl⟩ := h1
            simp at e1
            obtain ⟨rfl, e3⟩ := e1
            rw [← e3] at e2
            simp at e2
            subst e2
            obtain ⟨_, _, _, _, rfl, _, _⟩ := g2
            obtain ⟨_, _, _, _, rfl, _, _⟩ := g4
            exact ⟨_, _, _, _, _, _, rfl⟩
          refine (ivSign_any h1 ⟨by omega, by omega⟩).mono ?_
          rintro e w' ⟨he, hE⟩
          rw [← sg_val hab] at hr'
          subst hr'
          subst hF'
          exact ret2 (r1 := [At.n _]) (r2 := [At.b _]) rfl he (repV_n.2 ⟨_, rfl, rfl⟩) (repV_b.2 ⟨_, rfl, rfl⟩) (fun x hx => by simp at hx; rcases hx with rfl | rfl <;> exact Nat.zero_le _) hE
        · cases hr'
      · cases hr'
    · cases hF'
  · cases hF'
def GF1 : Gam := gamOf [(49, ct_drsign)]
theorem GF1_ok : GamOk Tryz.prog GF1 := gamOk_of ⟨ok_drsign, trivial⟩
theorem GF1_drsign : GF1 49 = some ct_drsign := rfl
def tr_rivsign : Tr (List SA) := (.call 49 [(.ob 0)] 2 (.call 49 [(.ob 1)] 3 (.br (.eq (.var 2) (.var 3)) (.leaf [(.n (.var 2)), (.b (.lit true))]) (.leaf [(.n (.lit 0)), (.b (.lit false))]))))
theorem ev_rivsign : Ct.ok Tryz.prog 18 { args := [[.r, .r]], res := [[.n], [.b]], F := fun als => tr_rivsign.den GF1 (env0 als), L := 1000, A := 0, B := 0 } :=
  top_ok (by kernel_rfl) GF1_ok (plans := planF) (lf := 60) (k := 20) (by kernel_rfl)
theorem rivsign_den (l r : List QA) (h : g_ivsign l = some r) : tr_rivsign.den GF1 (env0 (l.map QA.at)) = some (r.map QA.at) := by
  unfold g_ivsign at h
  split at h
  · rename_i a b
    split at h
    · injection h with h; subst h
      by_cases h1 : qsg a = qsg b
      · simp only [tr_rivsign, Tr.den, evAll, SA.ev, BE.ev, IE.ev, SE.ev, LE.ev, env0, extE_eq, pickO, op1, op2, op3, Nat.reduceLeDiff, Nat.reduceSub, Nat.reduceEqDiff, if_true, if_false, ite_true, ite_false, decide_true, decide_false, Bool.not_true, Bool.not_false, Nat.zero_le, Nat.sub_zero, List.getElem?_cons_zero, List.getElem?_cons_succ, List.getElem?_nil, cq0, cq1, cq2, cq3, cq4, cq5, cq6, cq7, cq8, cq9, cq10, cq12, cq16, outQ1, outQ2, outQ3, outQ4, outQ5, evN_at, evB_at, evS_at, evLen_z1, evLen_z2, evBit_z, at_n, at_b, at_s, at_z, at_k, at_kb, kG, kQ, kQ1, List.map_cons, List.map_nil, List.cons_append, List.nil_append, decide_eq_true_eq, Bool.false_eq_true, GF1_drsign, ctF_drsign, g_sign, eq_true h1]
      · simp only [tr_rivsign, Tr.den, evAll, SA.ev, BE.ev, IE.ev, SE.ev, LE.ev, env0, extE_eq, pickO, op1, op2, op3, Nat.reduceLeDiff, Nat.reduceSub, Nat.reduceEqDiff, if_true, if_false, ite_true, ite_false, decide_true, decide_false, Bool.not_true, Bool.not_false, Nat.zero_le, Nat.sub_zero, List.getElem?_cons_zero, List.getElem?_cons_succ, List.getElem?_nil, cq0, cq1, cq2, cq3, cq4, cq5, cq6, cq7, cq8, cq9, cq10, cq12, cq16, outQ1, outQ2, outQ3, outQ4, outQ5, evN_at, evB_at, evS_at, evLen_z1, evLen_z2, evBit_z, at_n, at_b, at_s, at_z, at_k, at_kb, kG, kQ, kQ1, List.map_cons, List.map_nil, List.cons_append, List.nil_append, decide_eq_true_eq, Bool.false_eq_true, GF1_drsign, ctF_drsign, g_sign, h1]
    · cases h
  · cases h
def ct_rivsign : Ct := { args := [[.r, .r]], res := [[.n], [.b]], F := cq g_ivsign, L := 1000, A := 0, B := 0 }
theorem ctF_rivsign : ct_rivsign.F = cq g_ivsign := rfl
theorem ok_rivsign : ct_rivsign.ok Tryz.prog 18 := ev_rivsign.weaken (of_cq (g := g_ivsign) rivsign_den)
end Go.Proofs.YtifgdiejpglhfaaGreat
