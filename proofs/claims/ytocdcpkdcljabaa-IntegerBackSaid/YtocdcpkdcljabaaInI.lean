/- Integers: back. -/
import Derived.Test.YtocdcpkdcljabaaInH
namespace Go.Proofs.Ytocdcpkdcljabaa
open Go Go.RowKit Go.V Go.ChangeMaps
set_option linter.unusedSimpArgs false
set_option linter.unusedVariables false
set_option maxRecDepth 20000
def GJ1 : Gam := gamOf [(35, ct_iread), (37, ct_itextp), (14, ct_isame), (15, ct_inorm), (25, ct_idivm), (17, ct_isign), (33, ct_imul), (29, ct_iadd), (19, ct_icmpp), (11, ct_alive2)]
theorem GJ1_ok : GamOk Try.prog GJ1 := gamOk_of ⟨ok_iread, ok_itextp, ok_isame, ok_inorm, ok_idivm, ok_isign, ok_imul, ok_iadd, ok_icmpp, ok_alive2, trivial⟩
theorem GJ1_iread : GJ1 35 = some ct_iread := rfl
theorem GJ1_itextp : GJ1 37 = some ct_itextp := rfl
theorem GJ1_isame : GJ1 14 = some ct_isame := rfl
theorem GJ1_inorm : GJ1 15 = some ct_inorm := rfl
theorem GJ1_idivm : GJ1 25 = some ct_idivm := rfl
theorem GJ1_isign : GJ1 17 = some ct_isign := rfl
theorem GJ1_imul : GJ1 33 = some ct_imul := rfl
theorem GJ1_iadd : GJ1 29 = some ct_iadd := rfl
theorem GJ1_icmpp : GJ1 19 = some ct_icmpp := rfl
theorem GJ1_alive2 : GJ1 11 = some ct_alive2 := rfl
def GJ0 : Gam := gamOf [(11, ct_alive2)]
theorem GJ0_ok : GamOk Try.prog GJ0 := gamOk_of ⟨ok_alive2, trivial⟩
theorem GJ0_alive2 : GJ0 11 = some ct_alive2 := rfl
def tr_ibackA : Tr (List SA) := (.br (.lt (.lit 24) (.len 0 1)) (.call 11 [] 2 (.leaf [(.b (.var 2))])) (.br (.lt (.lit 24) (.len 1 1)) (.call 11 [] 2 (.leaf [(.b (.var 2))])) (.call 37 [(.ob 0)] 2 (.call 35 [(.s (.var 2))] 3 (.br (.not (.eq (.var 4) (.lit 0))) (.leaf [(.b (.lit false))]) (.call 15 [(.ob 0)] 5 (.call 14 [(.ob 3), (.ob 5)] 6 (.br (.not (.var 6)) (.leaf [(.b (.lit false))]) (.call 25 [(.ob 0), (.ob 1)] 7 (.call 17 [(.ob 1)] 10 (.br (.eq (.var 10) (.lit 0)) (.br (.eq (.var 9) (.lit 3)) (.call 11 [] 11 (.leaf [(.b (.var 11))])) (.leaf [(.b (.lit false))])) (.call 15 [(.ob 1)] 11 (.br (.eq (.var 9) (.lit 0)) (.call 33 [(.ob 7), (.ob 1)] 12 (.call 29 [(.ob 12), (.ob 8)] 13 (.call 14 [(.ob 13), (.ob 3)] 14 (.br (.var 14) (.call 17 [(.ob 8)] 15 (.br (.le (.lit 0) (.var 15)) (.call 19 [(.ob 8), (.y (.lit false) (.var 11 1))] 16 (.br (.lt (.var 16) (.lit 0)) (.call 11 [] 17 (.leaf [(.b (.var 17))])) (.leaf [(.b (.lit false))]))) (.leaf [(.b (.lit false))]))) (.leaf [(.b (.lit false))]))))) (.leaf [(.b (.lit false))]))))))))))))))
theorem ev_ibackA : Ct.ok Try.prog 9 { args := [[.y], [.y]], res := [[.b]], F := fun als => tr_ibackA.den GJ1 (env0 als), L := 24, A := 0, B := 0 } :=
  top_ok (by kernel_rfl) GJ1_ok (plans := planF) (lf := 60) (k := 20) (by kernel_rfl)
def tr_ibackB : Tr (List SA) := (.br (.lt (.lit 24) (.len 0 1)) (.call 11 [] 2 (.leaf [(.b (.var 2))])) (.br (.lt (.lit 24) (.len 1 1)) (.call 11 [] 2 (.leaf [(.b (.var 2))])) (.br (.lt (.lit 0) (.len 0 1)) .bad .bad)))
theorem ev_ibackB (L : Nat) : Ct.ok Try.prog 9 { args := [[.y], [.y]], res := [[.b]], F := fun als => tr_ibackB.den GJ0 (env0 als), L := L, A := 0, B := 0 } :=
  top_ok (by kernel_rfl) GJ0_ok (plans := planF) (lf := 60) (k := 20) (by kernel_rfl)
theorem sg_mod (z : Int) {y : Int} (h : y ≠ 0) : (0 ≤ sg (z % y)) = True := by
  apply eq_true
  have := Int.emod_nonneg z h
  unfold sg
  split
  · decide
  · rw [if_neg (by omega)]; decide
theorem cmp_mod (z : Int) {y : Int} (h : y ≠ 0) : (icmp (z % y) (vz false (lim y.natAbs)) < 0) = True := by
  apply eq_true
  have h1 := Int.emod_lt z h
  have h3 : vz false (lim y.natAbs) = y.natAbs := by unfold vz iv; rw [val_lim]; rfl
  rw [h3]
  unfold icmp
  rw [if_pos (by omega)]
  decide
theorem sgz0 (y : Int) : (sg y = 0) = (y = 0) := by
  apply propext
  unfold sg; split <;> (try split) <;> simp_all
theorem ibackA_den (a b : Bool) (l m : List Nat) (hl : Ok l) (h : l.length ≤ 24 ∧ m.length ≤ 24) : tr_ibackA.den GJ1 (env0 [.y a l, .y b m]) = some [.b true] := by
  have h1 : ¬ (24 : Int) < l.length := by omega
  have h2 : ¬ (24 : Int) < m.length := by omega
  have hz : (txt (vz a l).natAbs).length ≤ 1000 := by unfold vz; rw [iv_abs]; exact txt_24 hl h.1
  obtain ⟨r1, r2⟩ := read_itxt (vz a l) hz
  by_cases h0 : vz b m = 0
  · simp only [tr_ibackA, Tr.den, evAll, SA.ev, BE.ev, IE.ev, SE.ev, LE.ev, env0, extE_eq, pickO, evN, evB, evS, evLen, evBit, evLst, At.len, At.bit, At.lst, op1, op2, op3, Nat.reduceLeDiff, Nat.reduceSub, Nat.reduceEqDiff, if_true, if_false, ite_true, ite_false, decide_true, decide_false, Bool.not_true, Bool.not_false, Nat.zero_le, Nat.sub_zero, List.getElem?_cons_zero, List.getElem?_cons_succ, List.getElem?_nil, GJ1_iread, ctF_iread, GJ1_itextp, ctF_itextp, GJ1_isame, ctF_isame, GJ1_inorm, ctF_inorm, GJ1_idivm, ctF_idivm, GJ1_isign, ctF_isign, GJ1_imul, ctF_imul, GJ1_iadd, ctF_iadd, GJ1_icmpp, ctF_icmpp, GJ1_alive2, ctF_alive2, decide_eq_false h1, decide_eq_false h2, f_iread, f_itext, f_isame, f_yy, f_idiv, f_yn, r1, r2, za, sgz0, eq_true h0, ee, and_self]
  · have e1 : vz a l / vz b m * vz b m + vz a l % vz b m = vz a l := Int.ediv_mul_add_emod _ _
    simp only [tr_ibackA, Tr.den, evAll, SA.ev, BE.ev, IE.ev, SE.ev, LE.ev, env0, extE_eq, pickO, evN, evB, evS, evLen, evBit, evLst, At.len, At.bit, At.lst, op1, op2, op3, Nat.reduceLeDiff, Nat.reduceSub, Nat.reduceEqDiff, if_true, if_false, ite_true, ite_false, decide_true, decide_false, Bool.not_true, Bool.not_false, Nat.zero_le, Nat.sub_zero, List.getElem?_cons_zero, List.getElem?_cons_succ, List.getElem?_nil, GJ1_iread, ctF_iread, GJ1_itextp, ctF_itextp, GJ1_isame, ctF_isame, GJ1_inorm, ctF_inorm, GJ1_idivm, ctF_idivm, GJ1_isign, ctF_isign, GJ1_imul, ctF_imul, GJ1_iadd, ctF_iadd, GJ1_icmpp, ctF_icmpp, GJ1_alive2, ctF_alive2, decide_eq_false h1, decide_eq_false h2, f_iread, f_itext, f_isame, f_yy, f_yyy, f_idiv, f_yn, f_yyn, r1, r2, za, vz_can, sgz0, h0, ee, qq, rr, e1, sg_mod _ h0, cmp_mod _ h0, and_self]
theorem ibackB_den (a b : Bool) (l m : List Nat) (h : ¬ (l.length ≤ 24 ∧ m.length ≤ 24)) : tr_ibackB.den GJ0 (env0 [.y a l, .y b m]) = some [.b true] := by
  by_cases h_1 : (24 : Int) < l.length
  · simp only [tr_ibackB, Tr.den, evAll, SA.ev, BE.ev, IE.ev, SE.ev, LE.ev, env0, extE_eq, pickO, evN, evB, evS, evLen, evBit, evLst, At.len, At.bit, At.lst, op1, op2, op3, Nat.reduceLeDiff, Nat.reduceSub, Nat.reduceEqDiff, if_true, if_false, ite_true, ite_false, decide_true, decide_false, Bool.not_true, Bool.not_false, Nat.zero_le, Nat.sub_zero, List.getElem?_cons_zero, List.getElem?_cons_succ, List.getElem?_nil, GJ0_alive2, ctF_alive2, decide_eq_true h_1]
  by_cases h_2 : (24 : Int) < m.length
  · simp only [tr_ibackB, Tr.den, evAll, SA.ev, BE.ev, IE.ev, SE.ev, LE.ev, env0, extE_eq, pickO, evN, evB, evS, evLen, evBit, evLst, At.len, At.bit, At.lst, op1, op2, op3, Nat.reduceLeDiff, Nat.reduceSub, Nat.reduceEqDiff, if_true, if_false, ite_true, ite_false, decide_true, decide_false, Bool.not_true, Bool.not_false, Nat.zero_le, Nat.sub_zero, List.getElem?_cons_zero, List.getElem?_cons_succ, List.getElem?_nil, GJ0_alive2, ctF_alive2, decide_eq_false h_1, decide_eq_true h_2]
  exact absurd ⟨by omega, by omega⟩ h
theorem integerBack_any {w : World} {als1 als2 : List At} {v1 v2 : Value} (h1 : RepV w [.y] als1 v1) (h2 : RepV w [.y] als2 v2) :
    Calls Try.prog 9 #[v1, v2] w fun e w' => e = .returned (.bool true) ∧ Below w.heap.size w w' := by
  have hr : RepVs w [[.y], [.y]] (als1 ++ als2) [v1, v2] := ⟨als1, _, _, _, rfl, rfl, h1, als2, [], _, _, by simp, rfl, h2, rfl, rfl⟩
  obtain ⟨a, l, _, _, rfl, rfl, hrd⟩ := repV_y.1 h1
  obtain ⟨b, m, _, _, rfl, rfl, _⟩ := repV_y.1 h2
  exact law_small ev_ibackA ev_ibackB hr (fun h => ibackA_den _ _ _ _ hrd.ok (by simp only [szM, List.cons_append, List.nil_append, List.foldr, At.sz] at h; omega)) (fun h => ibackB_den _ _ _ _ (by simp only [szM, List.cons_append, List.nil_append, List.foldr, At.sz] at h; omega))
set_option maxRecDepth 100000 in
theorem integerBack_lifted (os : Os) (started : os.Started) (H : Type) (enc : TypeId × Value → H) :
    ReturnsInHanded {} Try.checked os 9 .any (Rows.integerBackSpec.pre6 enc Try.prog Try.f9 Rows.integerBackRow.domain false) (Rows.integerBackSpec.post enc Try.prog Try.f9 false true false false) := by
  refine law_lifted (C := Try.checked) (s := Rows.integerBackSpec) Try.own Try.laidOut (by kernel_rfl) Try.func9 rfl 4 rfl Try.underlying4 (by kernel_rfl) enc ?_ ?_ os started
    (ChangeSpec.witness6 (enc := enc) (C := Try.checked) false ⟨#[], #[.agg #[.bool false, .slice none 0 0], .agg #[.bool false, .slice none 0 0]], []⟩ 8 (by kernel_rfl) (by kernel_rfl) (by kernel_rfl) (by kernel_rfl))
  · intro ds hl
    match ds, hl with
    | [d0, d1], _ => rfl
  · intro W base args ds ps hval hA hlt hwt
    have hA' : DataW.TrodAll enc Try.prog W 0 (fun _ => true) true [25, 25] args.toList ds ps := hA
    have hval' : ∀ (j : Nat) t v, Try.f9.params[j]? = some t → args[j]? = some v → Value.okWide Try.prog W .any base t v := hval
    obtain ⟨v0, v1, d0, d1, p0, p1, rfl, rfl, rfl, h0, h1⟩ := Go.ChangeShapes.trodAll_two hA'
    obtain ⟨als_a, hr_a, hg_a⟩ := open_IntR (hval' 0 25 v0 rfl rfl) h0
    obtain ⟨als_b, hr_b, hg_b⟩ := open_IntR (hval' 1 25 v1 rfl rfl) h1
    exact integerBack_any hr_a hr_b

theorem integerBack_holds : Rows.IntegerBackSaid :=
  OpenClaim.holds_of_wide 9 Try.f9 rfl rfl rfl rfl rfl rfl rfl ⟨rfl, rfl, rfl, rfl, rfl⟩ rfl rfl rfl rfl rfl (by kernel_rfl) Try.func9 (by kernel_rfl)
    (of_decide_eq_true (by kernel_rfl)) (by unfold Func.isWrapper; first | (rw [if_pos (by decide +kernel)]; kernel_rfl) | (rw [if_neg (by decide +kernel)]; exact ⟨rfl, rfl⟩))
    (fun os started H enc _ => integerBack_lifted os started H enc)
end Go.Proofs.Ytocdcpkdcljabaa
