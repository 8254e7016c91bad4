/- Rational numbers: what is written is read; roots of squares. -/
import Derived.Test.YtnclpllmidlbbaaRl7
namespace Go.Proofs.Ytnclpllmidlbbaa
open Go Go.RowKit Go.V Go.ChangeMaps
set_option linter.unusedSimpArgs false
set_option linter.unusedVariables false
set_option maxRecDepth 20000
/-! ### What is written is read -/
theorem digit_ne {c : UInt8} (h : isD c = true) : c ≠ 47 := by
  intro e
  subst e
  exact absurd h (by decide)
theorem slk_all : ∀ {l : List UInt8}, (∀ c ∈ l, c ≠ 47) → slk l = l.length
  | [], _ => rfl
  | b :: l, h => by
    unfold slk
    rw [if_neg (h b (List.mem_cons_self ..)), slk_all (fun c hc => h c (List.mem_cons_of_mem _ hc))]
    rfl
theorem slk_app : ∀ {l m : List UInt8}, (∀ c ∈ l, c ≠ 47) → slk (l ++ 47 :: m) = l.length
  | [], m, _ => by simp [slk]
  | b :: l, m, h => by
    have ih := slk_app (l := l) (m := m) (fun c hc => h c (List.mem_cons_of_mem _ hc))
    rw [List.cons_append]
    unfold slk
    rw [if_neg (h b (List.mem_cons_self ..)), ih]
    rfl
theorem txt_ne (n : Nat) : ∀ c ∈ txt n, c ≠ 47 := by
  intro c hc
  unfold txt at hc
  split at hc
  · rw [List.mem_singleton.1 hc]; decide
  · exact digit_ne ((dgz_props n).2.1 c hc)
theorem itxt_ne (z : Int) : ∀ c ∈ itxt z, c ≠ 47 := by
  intro c hc
  unfold itxt at hc
  split at hc
  · rcases List.mem_cons.1 hc with rfl | hc
    · decide
    · exact txt_ne _ c hc
  · exact txt_ne _ c hc
theorem read_qtxt (x : Rat) (h1 : (txt x.num.natAbs).length ≤ 1000) (h2 : (txt x.den).length ≤ 1000) : qrE (qtxt x) = 0 ∧ qrV (qtxt x) = x := by
  obtain ⟨e1, e2⟩ := read_itxt x.num h1
  by_cases hd : x.den = 1
  · rw [qtxt_1 hd]
    have hk := slk_all (itxt_ne x.num)
    have hA : slA (itxt x.num) = itxt x.num := by unfold slA; rw [hk, List.take_length]
    have hH : slH (itxt x.num) = false := by unfold slH; rw [hk]; exact decide_eq_false (Nat.lt_irrefl _)
    refine ⟨by unfold qrE; rw [hA, if_pos e1, if_pos hH], ?_⟩
    unfold qrV
    rw [if_pos hH, hA, e2]
    exact Rat.ext rfl (by rw [hd]; rfl)
  · rw [qtxt_2 hd]
    obtain ⟨g1, g2, g3, _⟩ := read_txtI x.den h2
    have hk := slk_app (m := txt x.den) (itxt_ne x.num)
    have hA : slA (itxt x.num ++ 47 :: txt x.den) = itxt x.num := by unfold slA; rw [hk, List.take_left]
    have hB : slB (itxt x.num ++ 47 :: txt x.den) = txt x.den := by
      unfold slB
      rw [hk, ← List.drop_drop, List.drop_left]; rfl
    have hH : ¬ slH (itxt x.num ++ 47 :: txt x.den) = false := by
      unfold slH
      rw [hk, decide_eq_true (by simp)]; decide
    have hz : ¬ x.den = 0 := x.den_nz
    refine ⟨by unfold qrE; rw [hA, hB, if_pos e1, if_neg hH, if_pos g1, if_neg (by rw [g3]; exact hz)], ?_⟩
    unfold qrV
    rw [if_neg hH, hA, hB, e2, g3, ← Rat.mkRat_eq_div, Rat.mkRat_self]
/-! ### Roots -/
theorem isq_mul (n : Nat) : isq (n * n) = n := by
  obtain ⟨h1, h2⟩ := isq_spec (n * n)
  rcases Nat.lt_trichotomy (isq (n * n)) n with h | h | h
  · have := Nat.mul_le_mul (Nat.succ_le_of_lt h) (Nat.succ_le_of_lt h)
    exact absurd h2 (Nat.not_lt.2 this)
  · exact h
  · have := Nat.mul_lt_mul'' h h
    omega
theorem mul_num (x : Rat) : (x * x).num = x.num * x.num := by
  have h := Rat.num_pow x 2
  rwa [Rat.pow_succ, Rat.pow_one, Int.pow_succ, Int.pow_succ, Int.pow_zero, Int.one_mul] at h
theorem mul_den (x : Rat) : (x * x).den = x.den * x.den := by
  have h := Rat.den_pow x 2
  rwa [Rat.pow_succ, Rat.pow_one, Nat.pow_succ, Nat.pow_succ, Nat.pow_zero, Nat.one_mul] at h
theorem isSq_mul (x : Rat) : isSq (x * x) = true := by
  rw [isSq_iff, mul_num, mul_den, Int.natAbs_mul, isq_mul, isq_mul]
  refine ⟨?_, rfl, rfl⟩
  have := Int.natAbs_mul_self (a := x.num)
  omega
theorem qroot_mul (x : Rat) : qroot (x * x) = if x.num < 0 then -x else x := by
  unfold qroot
  rw [mul_num, mul_den, Int.natAbs_mul, isq_mul, isq_mul]
  split
  · rename_i h
    have e : ((x.num.natAbs : Nat) : Int) = (-x).num := by rw [Rat.neg_num]; omega
    rw [e]
    have := Rat.mkRat_self (-x)
    rwa [Rat.neg_den] at this
  · rename_i h
    have e : ((x.num.natAbs : Nat) : Int) = x.num := by omega
    rw [e, Rat.mkRat_self]
theorem mkRat_nn (n d : Nat) : 0 ≤ mkRat (n : Int) d := by
  by_cases hd : d = 0
  · subst hd; rw [Rat.mkRat_zero]; exact Rat.le_refl
  · rw [← Rat.num_nonneg]
    have := Rat.num_mkRat n d
    grind
theorem qroot_sq {d : Rat} (h : isSq d = true) : qroot d * qroot d = d := by
  rw [isSq_iff] at h
  obtain ⟨h0, h1, h2⟩ := h
  unfold qroot
  rw [Rat.mkRat_mul_mkRat, h2]
  have e : ((isq d.num.natAbs : Nat) : Int) * ((isq d.num.natAbs : Nat) : Int) = d.num := by
    have : ((isq d.num.natAbs * isq d.num.natAbs : Nat) : Int) = (d.num.natAbs : Int) := by rw [h1]
    rw [Int.natCast_mul] at this
    omega
  rw [e, Rat.mkRat_self]
theorem sg_ltz (z : Int) : (sg z < 0) = (z < 0) := by
  apply propext
  unfold sg; split <;> (try split) <;> omega
theorem sg_ge (x : Rat) : (0 ≤ sg (qroot x).num) = True := by
  apply eq_true
  have := Rat.num_nonneg.2 (mkRat_nn (isq x.num.natAbs) (isq x.den))
  unfold qroot sg
  split <;> (try split) <;> omega
theorem txt_le {n k : Nat} (h : n < 2 ^ k) (hk : 1 ≤ k) : (txt n).length ≤ k := by
  unfold txt
  split
  · exact hk
  · exact dgz_len k n h
theorem qv_num_lt {a : Bool} {l m : List Nat} (hl : Ok l) (h : l.length ≤ 12) : (qv a l m).num.natAbs < 2 ^ 192 := by
  have h1 : val l < 2 ^ 192 := Nat.lt_of_lt_of_le (val_lt l hl) (by rw [show (2 : Nat) ^ 192 = 65536 ^ 12 from by decide]; exact Nat.pow_le_pow_right (by decide) h)
  have h2 : (vz a l).natAbs = val l := by unfold vz; exact iv_abs _ _
  unfold qv
  rw [Rat.num_mkRat]
  split
  · decide
  · refine Nat.lt_of_le_of_lt (Int.natAbs_ediv_le_natAbs _ _) ?_
    rw [h2]; exact h1
theorem qv_den_lt {a : Bool} {l m : List Nat} (hm : Ok m) (h : m.length ≤ 12) : (qv a l m).den < 2 ^ 192 := by
  have h1 : val m < 2 ^ 192 := Nat.lt_of_lt_of_le (val_lt m hm) (by rw [show (2 : Nat) ^ 192 = 65536 ^ 12 from by decide]; exact Nat.pow_le_pow_right (by decide) h)
  unfold qv
  rw [Rat.den_mkRat]
  split
  · decide
  · exact Nat.lt_of_le_of_lt (Nat.div_le_self _ _) h1
theorem qtxt_len {x : Rat} (h1 : (txt x.num.natAbs).length ≤ 1000) (h2 : (txt x.den).length ≤ 1000) : (qtxt x).length ≤ 2002 := by
  have h3 : (itxt x.num).length ≤ 1001 := by unfold itxt; split <;> first | (simp; omega) | omega
  unfold qtxt
  split
  · omega
  · simp; omega
def GL8 : Gam := gamOf [(43, ct_qread), (45, ct_qtext), (20, ct_qsqrt), (41, ct_qmul), (35, ct_qneg), (27, ct_qsign), (25, ct_qright), (31, ct_qequal), (11, ct_alive3)]
theorem GL8_ok : GamOk Try.prog GL8 := gamOk_of ⟨ok_qread, ok_qtext, ok_qsqrt, ok_qmul, ok_qneg, ok_qsign, ok_qright, ok_qequal, ok_alive3, trivial⟩
theorem GL8_qread : GL8 43 = some ct_qread := rfl
theorem GL8_qtext : GL8 45 = some ct_qtext := rfl
theorem GL8_qsqrt : GL8 20 = some ct_qsqrt := rfl
theorem GL8_qmul : GL8 41 = some ct_qmul := rfl
theorem GL8_qneg : GL8 35 = some ct_qneg := rfl
theorem GL8_qsign : GL8 27 = some ct_qsign := rfl
theorem GL8_qright : GL8 25 = some ct_qright := rfl
theorem GL8_qequal : GL8 31 = some ct_qequal := rfl
theorem GL8_alive3 : GL8 11 = some ct_alive3 := rfl
def tr_qbackA : Tr (List SA) := (.br (.lt (.lit 12) (.len 0 1)) (.call 11 [] 1 (.leaf [(.b (.var 1))])) (.br (.lt (.lit 12) (.len 0 2)) (.call 11 [] 1 (.leaf [(.b (.var 1))])) (.call 45 [(.ob 0)] 1 (.call 43 [(.s (.var 1))] 2 (.call 41 [(.ob 0), (.ob 0)] 4 (.call 20 [(.ob 4)] 5 (.call 27 [(.ob 0)] 7 (.br (.lt (.var 7) (.lit 0)) (.call 35 [(.ob 0)] 8 (.br (.not (.eq (.var 3) (.lit 0))) (.leaf [(.b (.lit false))]) (.call 25 [(.ob 2)] 9 (.br (.not (.var 9)) (.leaf [(.b (.lit false))]) (.call 31 [(.ob 2), (.ob 0)] 10 (.br (.not (.var 10)) (.leaf [(.b (.lit false))]) (.br (.not (.var 6)) (.leaf [(.b (.lit false))]) (.call 31 [(.ob 5), (.ob 8)] 11 (.br (.not (.var 11)) (.leaf [(.b (.lit false))]) (.call 20 [(.ob 0)] 12 (.br (.not (.var 13)) (.call 11 [] 14 (.leaf [(.b (.var 14))])) (.call 27 [(.ob 12)] 14 (.br (.le (.lit 0) (.var 14)) (.call 41 [(.ob 12), (.ob 12)] 15 (.call 31 [(.ob 15), (.ob 0)] 16 (.br (.var 16) (.call 11 [] 17 (.leaf [(.b (.var 17))])) (.leaf [(.b (.lit false))])))) (.leaf [(.b (.lit false))])))))))))))))) (.br (.not (.eq (.var 3) (.lit 0))) (.leaf [(.b (.lit false))]) (.call 25 [(.ob 2)] 8 (.br (.not (.var 8)) (.leaf [(.b (.lit false))]) (.call 31 [(.ob 2), (.ob 0)] 9 (.br (.not (.var 9)) (.leaf [(.b (.lit false))]) (.br (.not (.var 6)) (.leaf [(.b (.lit false))]) (.call 31 [(.ob 5), (.ob 0)] 10 (.br (.not (.var 10)) (.leaf [(.b (.lit false))]) (.call 20 [(.ob 0)] 11 (.br (.not (.var 12)) (.call 11 [] 13 (.leaf [(.b (.var 13))])) (.call 27 [(.ob 11)] 13 (.br (.le (.lit 0) (.var 13)) (.call 41 [(.ob 11), (.ob 11)] 14 (.call 31 [(.ob 14), (.ob 0)] 15 (.br (.var 15) (.call 11 [] 16 (.leaf [(.b (.var 16))])) (.leaf [(.b (.lit false))])))) (.leaf [(.b (.lit false))])))))))))))))))))))))
theorem ev_qbackA : Ct.ok Try.prog 10 { args := [[.r]], res := [[.b]], F := fun als => tr_qbackA.den GL8 (env0 als), L := 12, A := 0, B := 0 } :=
  top_ok (by kernel_rfl) GL8_ok (plans := planF) (lf := 60) (k := 20) (by kernel_rfl)
def tr_qbackB : Tr (List SA) := (.br (.lt (.lit 12) (.len 0 1)) (.call 11 [] 1 (.leaf [(.b (.var 1))])) (.br (.lt (.lit 12) (.len 0 2)) (.call 11 [] 1 (.leaf [(.b (.var 1))])) (.br (.lt (.lit 0) (.len 0 2)) .bad .bad)))
theorem ev_qbackB (L : Nat) : Ct.ok Try.prog 10 { args := [[.r]], res := [[.b]], F := fun als => tr_qbackB.den GL0 (env0 als), L := L, A := 0, B := 0 } :=
  top_ok (by kernel_rfl) GL0_ok (plans := planF) (lf := 60) (k := 20) (by kernel_rfl)
theorem qbackA_den (a : Bool) (l m : List Nat) (ol : Ok l) (om : Ok m) (h : l.length ≤ 12 ∧ m.length ≤ 12) : tr_qbackA.den GL8 (env0 [.r a l m]) = some [.b true] := by
  have t1 := Nat.le_trans (txt_le (qv_num_lt (a := a) (m := m) ol h.1) (by decide)) (show 192 ≤ 1000 by decide)
  have t2 := Nat.le_trans (txt_le (qv_den_lt (a := a) (l := l) om h.2) (by decide)) (show 192 ≤ 1000 by decide)
  have t3 : ((qtxt (qv a l m)).length < 9223372036854775807) = True := eq_true (by have := qtxt_len t1 t2; omega)
  obtain ⟨e1, e2⟩ := read_qtxt _ t1 t2
  have e3 : qrR (qtxt (qv a l m)) = qa (qv a l m) := by unfold qrR; rw [if_pos e1, e2]
  have e4 := isSq_mul (qv a l m)
  have e5 := qroot_mul (qv a l m)
  have h_1 : ¬ (12 : Int) < l.length := by omega
  have h_2 : ¬ (12 : Int) < m.length := by omega
  generalize hX : qv a l m = X at *
  by_cases h2 : X.num < 0
  · rw [if_pos h2] at e5
    have r1 := qRight_can X
    have v1 := qv_qa X
    rw [decide_eq_true h2] at r1 v1
    by_cases h3 : isSq X = true
    · have e6 := qroot_sq h3
      simp only [tr_qbackA, Tr.den, evAll, SA.ev, BE.ev, IE.ev, SE.ev, LE.ev, env0, extE_eq, pickO, evN, evB, evS, evLen, evBit, evLst, At.len, At.bit, At.lst, op1, op2, op3, Nat.reduceLeDiff, Nat.reduceSub, Nat.reduceEqDiff, if_true, if_false, ite_true, ite_false, decide_true, decide_false, Bool.not_true, Bool.not_false, Nat.zero_le, Nat.sub_zero, List.getElem?_cons_zero, List.getElem?_cons_succ, List.getElem?_nil, GL8_qread, ctF_qread, GL8_qtext, ctF_qtext, GL8_qsqrt, ctF_qsqrt, GL8_qmul, ctF_qmul, GL8_qneg, ctF_qneg, GL8_qsign, ctF_qsign, GL8_qright, ctF_qright, GL8_qequal, ctF_qequal, GL8_alive3, ctF_alive3, decide_eq_false h_1, decide_eq_false h_2, f_qread, f_qtext, hX, t3, e1, e3, f_qmul, f_qsqrt, qa, qv_qa, e4, f_qsign, sg_ltz, eq_true h2, f_qneg, f_qright, qRight_can, f_qequal, r1, v1, e5, eq_true h3, e6, sg_ge, f_true, eq_self]
    · replace h3 : isSq X = false := by simpa using h3
      simp only [tr_qbackA, Tr.den, evAll, SA.ev, BE.ev, IE.ev, SE.ev, LE.ev, env0, extE_eq, pickO, evN, evB, evS, evLen, evBit, evLst, At.len, At.bit, At.lst, op1, op2, op3, Nat.reduceLeDiff, Nat.reduceSub, Nat.reduceEqDiff, if_true, if_false, ite_true, ite_false, decide_true, decide_false, Bool.not_true, Bool.not_false, Nat.zero_le, Nat.sub_zero, List.getElem?_cons_zero, List.getElem?_cons_succ, List.getElem?_nil, GL8_qread, ctF_qread, GL8_qtext, ctF_qtext, GL8_qsqrt, ctF_qsqrt, GL8_qmul, ctF_qmul, GL8_qneg, ctF_qneg, GL8_qsign, ctF_qsign, GL8_qright, ctF_qright, GL8_qequal, ctF_qequal, GL8_alive3, ctF_alive3, decide_eq_false h_1, decide_eq_false h_2, f_qread, f_qtext, hX, t3, e1, e3, f_qmul, f_qsqrt, qa, qv_qa, e4, f_qsign, sg_ltz, eq_true h2, f_qneg, f_qright, qRight_can, f_qequal, r1, v1, e5, h3, sg_ge, f_true, eq_self, Bool.false_eq_true]
  · rw [if_neg h2] at e5
    have r1 := qRight_can X
    have v1 := qv_qa X
    rw [decide_eq_false h2] at r1 v1
    by_cases h3 : isSq X = true
    · have e6 := qroot_sq h3
      simp only [tr_qbackA, Tr.den, evAll, SA.ev, BE.ev, IE.ev, SE.ev, LE.ev, env0, extE_eq, pickO, evN, evB, evS, evLen, evBit, evLst, At.len, At.bit, At.lst, op1, op2, op3, Nat.reduceLeDiff, Nat.reduceSub, Nat.reduceEqDiff, if_true, if_false, ite_true, ite_false, decide_true, decide_false, Bool.not_true, Bool.not_false, Nat.zero_le, Nat.sub_zero, List.getElem?_cons_zero, List.getElem?_cons_succ, List.getElem?_nil, GL8_qread, ctF_qread, GL8_qtext, ctF_qtext, GL8_qsqrt, ctF_qsqrt, GL8_qmul, ctF_qmul, GL8_qneg, ctF_qneg, GL8_qsign, ctF_qsign, GL8_qright, ctF_qright, GL8_qequal, ctF_qequal, GL8_alive3, ctF_alive3, decide_eq_false h_1, decide_eq_false h_2, f_qread, f_qtext, hX, t3, e1, e3, f_qmul, f_qsqrt, qa, qv_qa, e4, f_qsign, sg_ltz, h2, f_qneg, f_qright, qRight_can, f_qequal, r1, v1, e5, eq_true h3, e6, sg_ge, f_true, eq_self]
    · replace h3 : isSq X = false := by simpa using h3
      simp only [tr_qbackA, Tr.den, evAll, SA.ev, BE.ev, IE.ev, SE.ev, LE.ev, env0, extE_eq, pickO, evN, evB, evS, evLen, evBit, evLst, At.len, At.bit, At.lst, op1, op2, op3, Nat.reduceLeDiff, Nat.reduceSub, Nat.reduceEqDiff, if_true, if_false, ite_true, ite_false, decide_true, decide_false, Bool.not_true, Bool.not_false, Nat.zero_le, Nat.sub_zero, List.getElem?_cons_zero, List.getElem?_cons_succ, List.getElem?_nil, GL8_qread, ctF_qread, GL8_qtext, ctF_qtext, GL8_qsqrt, ctF_qsqrt, GL8_qmul, ctF_qmul, GL8_qneg, ctF_qneg, GL8_qsign, ctF_qsign, GL8_qright, ctF_qright, GL8_qequal, ctF_qequal, GL8_alive3, ctF_alive3, decide_eq_false h_1, decide_eq_false h_2, f_qread, f_qtext, hX, t3, e1, e3, f_qmul, f_qsqrt, qa, qv_qa, e4, f_qsign, sg_ltz, h2, f_qneg, f_qright, qRight_can, f_qequal, r1, v1, e5, h3, sg_ge, f_true, eq_self, Bool.false_eq_true]
theorem qbackB_den (a : Bool) (l m : List Nat) (h : ¬ (l.length ≤ 12 ∧ m.length ≤ 12)) : tr_qbackB.den GL0 (env0 [.r a l m]) = some [.b true] := by
  by_cases h_1 : (12 : Int) < l.length
  · simp only [tr_qbackB, Tr.den, evAll, SA.ev, BE.ev, IE.ev, SE.ev, LE.ev, env0, extE_eq, pickO, evN, evB, evS, evLen, evBit, evLst, At.len, At.bit, At.lst, op1, op2, op3, Nat.reduceLeDiff, Nat.reduceSub, Nat.reduceEqDiff, if_true, if_false, ite_true, ite_false, decide_true, decide_false, Bool.not_true, Bool.not_false, Nat.zero_le, Nat.sub_zero, List.getElem?_cons_zero, List.getElem?_cons_succ, List.getElem?_nil, GL0_alive3, ctF_alive3, decide_eq_true h_1, f_true]
  by_cases h_2 : (12 : Int) < m.length
  · simp only [tr_qbackB, Tr.den, evAll, SA.ev, BE.ev, IE.ev, SE.ev, LE.ev, env0, extE_eq, pickO, evN, evB, evS, evLen, evBit, evLst, At.len, At.bit, At.lst, op1, op2, op3, Nat.reduceLeDiff, Nat.reduceSub, Nat.reduceEqDiff, if_true, if_false, ite_true, ite_false, decide_true, decide_false, Bool.not_true, Bool.not_false, Nat.zero_le, Nat.sub_zero, List.getElem?_cons_zero, List.getElem?_cons_succ, List.getElem?_nil, GL0_alive3, ctF_alive3, decide_eq_false h_1, decide_eq_true h_2, f_true]
  exact absurd ⟨by omega, by omega⟩ h
theorem rationalBack_any {w : World} {als : List At} {v : Value} (h1 : RepV w [.r] als v) :
    Calls Try.prog 10 #[v] w fun e w' => e = .returned (.bool true) ∧ Below w.heap.size w w' := by
  have hr : RepVs w [[.r]] als [v] := ⟨als, _, _, _, by simp, rfl, h1, rfl, rfl⟩
  obtain ⟨a, l, m, _, _, _, _, rfl, rfl, r1, r2⟩ := repV_r.1 h1
  exact law_small ev_qbackA ev_qbackB hr (fun h => qbackA_den _ _ _ r1.ok r2.ok (by simp only [szM, List.foldr, At.sz] at h; omega)) (fun h => qbackB_den _ _ _ (by simp only [szM, List.foldr, At.sz] at h; omega))
set_option maxRecDepth 100000 in
theorem rationalBack_lifted (os : Os) (started : os.Started) (H : Type) (enc : TypeId × Value → H) :
    ReturnsInHanded {} Try.checked os 10 .any (Rows.rationalBackSpec.pre6 enc Try.prog Try.f10 Rows.rationalBackRow.domain false) (Rows.rationalBackSpec.post enc Try.prog Try.f10 false true false false) := by
  refine law_lifted (C := Try.checked) (s := Rows.rationalBackSpec) Try.own Try.laidOut (by kernel_rfl) Try.func10 rfl 4 rfl Try.underlying4 (by kernel_rfl) enc ?_ ?_ os started
    (ChangeSpec.witness6 (enc := enc) (C := Try.checked) false ⟨#[], #[.agg #[.bool false, .slice none 0 0, .slice none 0 0]], []⟩ 8 (by kernel_rfl) (by kernel_rfl) (by kernel_rfl) (by kernel_rfl))
  · intro ds hl
    match ds, hl with
    | [d0], _ => rfl
  · intro W base args ds ps hval hA hlt hwt
    have hA' : DataW.TrodAll enc Try.prog W 0 (fun _ => true) true [30] args.toList ds ps := hA
    have hval' : ∀ (j : Nat) t v, Try.f10.params[j]? = some t → args[j]? = some v → Value.okWide Try.prog W .any base t v := hval
    obtain ⟨v0, d0, rfl, rfl, h0⟩ := Go.ChangeShapes.trodAll_one hA'
    obtain ⟨als_a, hr_a, hg_a⟩ := open_Rat (hval' 0 30 v0 rfl rfl) h0
    exact rationalBack_any hr_a

theorem rationalBack_holds : Rows.RationalBackSaid :=
  OpenClaim.holds_of_wide 10 Try.f10 rfl rfl rfl rfl rfl rfl rfl ⟨rfl, rfl, rfl, rfl, rfl⟩ rfl rfl rfl rfl rfl (by kernel_rfl) Try.func10 (by kernel_rfl)
    (of_decide_eq_true (by kernel_rfl)) (by unfold Func.isWrapper; first | (rw [if_pos (by decide +kernel)]; kernel_rfl) | (rw [if_neg (by decide +kernel)]; exact ⟨rfl, rfl⟩))
    (fun os started H enc _ => rationalBack_lifted os started H enc)
end Go.Proofs.Ytnclpllmidlbbaa
