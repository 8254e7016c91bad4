/- IntegerRing. -/
import Derived.Test.YtocdcpkdcljabaaIc1
namespace Go.Proofs.Ytocdcpkdcljabaa
open Go Go.RowKit Go.V Go.ChangeMaps
set_option linter.unusedSimpArgs false
set_option linter.unusedVariables false
def GA2 : Gam := gamOf [(14, ct_isame), (29, ct_iadd), (31, ct_isub), (33, ct_imul), (21, ct_ineg), (15, ct_inorm), (12, ct_iright), (17, ct_isign), (11, ct_alive2)]
theorem GA2_ok : GamOk Try.prog GA2 := gamOk_of ⟨ok_isame, ok_iadd, ok_isub, ok_imul, ok_ineg, ok_inorm, ok_iright, ok_isign, ok_alive2, trivial⟩
theorem GA2_isame : GA2 14 = some ct_isame := rfl
theorem GA2_iadd : GA2 29 = some ct_iadd := rfl
theorem GA2_isub : GA2 31 = some ct_isub := rfl
theorem GA2_imul : GA2 33 = some ct_imul := rfl
theorem GA2_ineg : GA2 21 = some ct_ineg := rfl
theorem GA2_inorm : GA2 15 = some ct_inorm := rfl
theorem GA2_iright : GA2 12 = some ct_iright := rfl
theorem GA2_isign : GA2 17 = some ct_isign := rfl
theorem GA2_alive2 : GA2 11 = some ct_alive2 := rfl
def GB2 : Gam := gamOf [(11, ct_alive2)]
theorem GB2_ok : GamOk Try.prog GB2 := gamOk_of ⟨ok_alive2, trivial⟩
theorem GB2_alive2 : GB2 11 = some ct_alive2 := rfl
def tr_iringA : Tr (List SA) := (.br (.lt (.lit 24) (.len 0 1)) (.call 11 [] 3 (.leaf [(.b (.var 3))])) (.br (.lt (.lit 24) (.len 1 1)) (.call 11 [] 3 (.leaf [(.b (.var 3))])) (.br (.lt (.lit 24) (.len 2 1)) (.call 11 [] 3 (.leaf [(.b (.var 3))])) (.call 29 [(.ob 0), (.ob 1)] 3 (.call 33 [(.ob 0), (.ob 1)] 4 (.call 12 [(.ob 3)] 5 (.br (.not (.var 5)) (.leaf [(.b (.lit false))]) (.call 12 [(.ob 4)] 6 (.br (.not (.var 6)) (.leaf [(.b (.lit false))]) (.call 29 [(.ob 1), (.ob 0)] 7 (.call 14 [(.ob 3), (.ob 7)] 8 (.br (.not (.var 8)) (.leaf [(.b (.lit false))]) (.call 33 [(.ob 1), (.ob 0)] 9 (.call 14 [(.ob 4), (.ob 9)] 10 (.br (.not (.var 10)) (.leaf [(.b (.lit false))]) (.call 29 [(.ob 3), (.ob 2)] 11 (.call 29 [(.ob 1), (.ob 2)] 12 (.call 29 [(.ob 0), (.ob 12)] 13 (.call 14 [(.ob 11), (.ob 13)] 14 (.br (.not (.var 14)) (.leaf [(.b (.lit false))]) (.call 33 [(.ob 4), (.ob 2)] 15 (.call 33 [(.ob 1), (.ob 2)] 16 (.call 33 [(.ob 0), (.ob 16)] 17 (.call 14 [(.ob 15), (.ob 17)] 18 (.br (.not (.var 18)) (.leaf [(.b (.lit false))]) (.call 33 [(.ob 3), (.ob 2)] 19 (.call 33 [(.ob 0), (.ob 2)] 20 (.call 33 [(.ob 1), (.ob 2)] 21 (.call 29 [(.ob 20), (.ob 21)] 22 (.call 14 [(.ob 19), (.ob 22)] 23 (.br (.not (.var 23)) (.leaf [(.b (.lit false))]) (.call 31 [(.ob 3), (.ob 1)] 24 (.call 15 [(.ob 0)] 25 (.call 14 [(.ob 24), (.ob 25)] 26 (.br (.var 26) (.call 21 [(.ob 0)] 27 (.call 29 [(.ob 0), (.ob 27)] 28 (.call 17 [(.ob 28)] 29 (.br (.eq (.var 29) (.lit 0)) (.call 11 [] 30 (.leaf [(.b (.var 30))])) (.leaf [(.b (.lit false))]))))) (.leaf [(.b (.lit false))]))))))))))))))))))))))))))))))))))))
theorem ev_iringA : Ct.ok Try.prog 7 { args := [[.y], [.y], [.y]], res := [[.b]], F := fun als => tr_iringA.den GA2 (env0 als), L := 24, A := 0, B := 0 } :=
  top_ok (by kernel_rfl) GA2_ok (plans := planF) (lf := 60) (k := 20) (by kernel_rfl)
def tr_iringB : Tr (List SA) := (.br (.lt (.lit 24) (.len 0 1)) (.call 11 [] 3 (.leaf [(.b (.var 3))])) (.br (.lt (.lit 24) (.len 1 1)) (.call 11 [] 3 (.leaf [(.b (.var 3))])) (.br (.lt (.lit 24) (.len 2 1)) (.call 11 [] 3 (.leaf [(.b (.var 3))])) .bad)))
theorem ev_iringB (L : Nat) : Ct.ok Try.prog 7 { args := [[.y], [.y], [.y]], res := [[.b]], F := fun als => tr_iringB.den GB2 (env0 als), L := L, A := 0, B := 0 } :=
  top_ok (by kernel_rfl) GB2_ok (plans := planF) (lf := 60) (k := 20) (by kernel_rfl)
theorem iringA_den (a b c : Bool) (l m k : List Nat) (hl : l.length ≤ 24) (hm : m.length ≤ 24) (hk : k.length ≤ 24) : tr_iringA.den GA2 (env0 [.y a l, .y b m, .y c k]) = some [.b true] := by
  have h1 : ¬ (24 : Int) < l.length := by omega
  have h2 : ¬ (24 : Int) < m.length := by omega
  have h3 : ¬ (24 : Int) < k.length := by omega
  have h4 : sg (vz a l + vz (!a) l) = 0 := by rw [vz, vz, iv_not, Int.add_right_neg]; rfl
  simp only [tr_iringA, Tr.den, evAll, SA.ev, BE.ev, IE.ev, SE.ev, LE.ev, env0, extE_eq, pickO, evN, evB, evS, evLen, evBit, evLst, At.len, At.bit, At.lst, op1, op2, op3, Nat.reduceLeDiff, Nat.reduceSub, Nat.reduceEqDiff, if_true, if_false, ite_true, ite_false, Nat.zero_le, Nat.sub_zero, List.getElem?_cons_zero, List.getElem?_cons_succ, List.getElem?_nil, GA2_isame, ctF_isame, GA2_iadd, ctF_iadd, GA2_isub, ctF_isub, GA2_imul, ctF_imul, GA2_ineg, ctF_ineg, GA2_inorm, ctF_inorm, GA2_iright, ctF_iright, GA2_isign, ctF_isign, GA2_alive2, ctF_alive2, decide_eq_false h1, decide_eq_false h2, decide_eq_false h3, f_yyy, f_yb, f_yy, f_yn, f_isame, za, vz_can, iR_can, same_can, q_addc, q_mulc, q_adda, q_mula, q_dist, q_subi, Bool.not_true, h4, decide_true]
theorem iringB_den (a b c : Bool) (l m k : List Nat) (h : ¬ (l.length ≤ 24 ∧ m.length ≤ 24 ∧ k.length ≤ 24)) : tr_iringB.den GB2 (env0 [.y a l, .y b m, .y c k]) = some [.b true] := by
  simp only [tr_iringB, Tr.den, evAll, SA.ev, BE.ev, IE.ev, SE.ev, LE.ev, env0, extE_eq, pickO, evN, evB, evS, evLen, evBit, evLst, At.len, At.bit, At.lst, op1, op2, op3, Nat.reduceLeDiff, Nat.reduceSub, Nat.reduceEqDiff, if_true, if_false, ite_true, ite_false, Nat.zero_le, Nat.sub_zero, List.getElem?_cons_zero, List.getElem?_cons_succ, List.getElem?_nil, GB2_alive2, ctF_alive2]
  by_cases h1 : (24 : Int) < l.length
  · simp only [h1, decide_true]
  · by_cases h2 : (24 : Int) < m.length
    · simp only [h1, h2, decide_true, decide_false]
    · by_cases h3 : (24 : Int) < k.length
      · simp only [h1, h2, h3, decide_true, decide_false]
      · exact absurd ⟨by omega, by omega, by omega⟩ h
theorem integerRing_any (neg peg qeg : Bool) (l m k : List Nat) (a b f : Option Addr) (c d i : Nat) (w : World) (hr : RD w a c l) (hs : RD w b d m) (ht : RD w f i k) :
    Calls Try.prog 7 #[.agg #[.bool neg, .slice a l.length c], .agg #[.bool peg, .slice b m.length d], .agg #[.bool qeg, .slice f k.length i]] w fun e w' => e = .returned (.bool true) ∧ Below w.heap.size w w' := by
  have hrep : RepVs w [[.y], [.y], [.y]] [.y neg l, .y peg m, .y qeg k] [.agg #[.bool neg, .slice a l.length c], .agg #[.bool peg, .slice b m.length d], .agg #[.bool qeg, .slice f k.length i]] :=
    ⟨[_], _, _, _, rfl, rfl, repV_y.2 ⟨_, _, _, _, rfl, rfl, hr⟩, [_], _, _, _, rfl, rfl, repV_y.2 ⟨_, _, _, _, rfl, rfl, hs⟩, [_], [], _, _, rfl, rfl, repV_y.2 ⟨_, _, _, _, rfl, rfl, ht⟩, rfl, rfl⟩
  by_cases h : l.length ≤ 24 ∧ m.length ≤ 24 ∧ k.length ≤ 24
  · refine (ev_iringA 24 w _ _ [.b true] (Nat.le_refl _) hrep ?_ (iringA_den neg peg qeg l m k h.1 h.2.1 h.2.2)).mono fun e w' h => law_ret h
    simp [At.sz, h]
  · refine (ev_iringB (l.length + m.length + k.length) (l.length + m.length + k.length) w _ _ [.b true] (Nat.le_refl _) hrep ?_ (iringB_den neg peg qeg l m k h)).mono fun e w' h => law_ret h
    simp only [List.mem_cons, List.not_mem_nil, or_false]
    rintro x (rfl | rfl | rfl) <;> simp only [At.sz] <;> omega
set_option maxRecDepth 100000 in
theorem integerRing_lifted (os : Os) (started : os.Started) (H : Type) (enc : TypeId × Value → H) :
    ReturnsInHanded {} Try.checked os 7 .any (Rows.integerRingSpec.pre6 enc Try.prog Try.f7 Rows.integerRingRow.domain false) (Rows.integerRingSpec.post enc Try.prog Try.f7 false true false false) := by
  refine law_lifted (C := Try.checked) (s := Rows.integerRingSpec) Try.own Try.laidOut (by kernel_rfl) Try.func7 rfl 4 rfl Try.underlying4 (by kernel_rfl) enc ?_ ?_ os started
    (ChangeSpec.witness6 (enc := enc) (C := Try.checked) false ⟨#[], #[.agg #[.bool false, .slice none 0 0], .agg #[.bool false, .slice none 0 0], .agg #[.bool false, .slice none 0 0]], []⟩ 8 (by kernel_rfl) (by kernel_rfl) (by kernel_rfl) (by kernel_rfl))
  · intro ds hl
    match ds, hl with
    | [d0, d1, d2], _ => rfl
  · intro W base args ds ps hval hA hlt _
    have hA' : DataW.TrodAll enc Try.prog W 0 (fun _ => true) true [25, 25, 25] args.toList ds ps := hA
    have hval' : ∀ (j : Nat) t v, Try.f7.params[j]? = some t → args[j]? = some v → Value.okWide Try.prog W .any base t v := hval
    obtain ⟨v0, v1, v2, d0, d1, d2, p0, p1, p2, rfl, rfl, rfl, h0, h1, h2⟩ := Go.ChangeShapes.trodAll_three hA'
    obtain ⟨n_x, x, a_x, c_x, rfl, hr_x⟩ := open_Int (hval' 0 25 v0 rfl rfl) h0
    obtain ⟨n_y, y, a_y, c_y, rfl, hr_y⟩ := open_Int (hval' 1 25 v1 rfl rfl) h1
    obtain ⟨n_z, z, a_z, c_z, rfl, hr_z⟩ := open_Int (hval' 2 25 v2 rfl rfl) h2
    exact integerRing_any n_x n_y n_z x y z a_x a_y a_z c_x c_y c_z W hr_x hr_y hr_z

theorem integerRing_holds : Rows.IntegerRingSaid :=
  OpenClaim.holds_of_wide 7 Try.f7 rfl rfl rfl rfl rfl rfl rfl ⟨rfl, rfl, rfl, rfl, rfl⟩ rfl rfl rfl rfl rfl (by kernel_rfl) Try.func7 (by kernel_rfl)
    (of_decide_eq_true (by kernel_rfl)) (by unfold Func.isWrapper; first | (rw [if_pos (by decide +kernel)]; kernel_rfl) | (rw [if_neg (by decide +kernel)]; exact ⟨rfl, rfl⟩))
    (fun os started H enc _ => integerRing_lifted os started H enc)
end Go.Proofs.Ytocdcpkdcljabaa
