/- Rational numbers: the laws of texts. -/
import Derived.Test.YtnclpllmidlbbaaRl1
import Derived.Test.YtnclpllmidlbbaaRa6
import Derived.Test.YtnclpllmidlbbaaRs5
import Derived.Test.YtnclpllmidlbbaaRs6
namespace Go.Proofs.Ytnclpllmidlbbaa
open Go Go.RowKit Go.V Go.ChangeMaps
set_option linter.unusedSimpArgs false
set_option linter.unusedVariables false
set_option maxRecDepth 20000
def f_qtext : List At → Option (List At)
  | [.r a l m] => some [.s (qtxt (qv a l m))]
  | _ => none
theorem ok_qtx {P : Program} {f : Nat} (h : ∀ neg l m a b c d w, RD w a c l → RD w b d m → l.length ≤ 1000 → m.length ≤ 1000 → Calls P f #[.agg #[.bool neg, .slice a l.length c, .slice b m.length d]] w (RetS w (qtxt (qv neg l m)))) : Ct.ok P f { args := [[.r]], res := [[.s]], F := f_qtext, L := 1000, A := 0, B := 0 } := by
  intro s w vs als r hs hr hsz hF
  obtain ⟨v, rfl, h1⟩ := vs1 hr
  obtain ⟨neg, l, m, a, c, b, d, rfl, rfl, r1, r2⟩ := repV_r.1 h1
  injection hF with hF; subst hF
  have s1 : max l.length m.length ≤ s := hsz (.r neg l m) (by simp)
  have hs2 : s ≤ 1000 := hs
  refine (h neg l m a b c d w r1 r2 (by omega) (by omega)).mono ?_
  rintro e w' ⟨he, hE⟩
  exact ret1 rfl he (repV_s.2 ⟨_, rfl, rfl⟩) (fun x hx => by simp at hx; subst hx; simp [At.sz]) hE
def ct_qtext : Ct := { args := [[.r]], res := [[.s]], F := f_qtext, L := 1000, A := 0, B := 0 }
theorem ctF_qtext : ct_qtext.F = f_qtext := rfl
theorem ok_qtext : ct_qtext.ok Try.prog 45 := ok_qtx fun neg l m a b c d w hr hs hl hm => qText_any neg l m a b c d w hr hs hl hm
def ct_rqtext : Ct := { args := [[.r]], res := [[.s]], F := f_qtext, L := 1000, A := 0, B := 0 }
theorem ctF_rqtext : ct_rqtext.F = f_qtext := rfl
theorem ok_rqtext : ct_rqtext.ok Try.prog 46 := ok_qtx fun neg l m a b c d w hr hs hl hm => qTextR_any neg l m a b c d w hr hs hl hm
def ct_rqread : Ct := { args := [[.s]], res := [[.r], [.n]], F := f_qread, L := 1000, A := 0, B := 1005 }
theorem ctF_rqread : ct_rqread.F = f_qread := rfl
theorem ok_rqread : ct_rqread.ok Try.prog 44 := by
  intro s w vs als r hs hr hsz hF
  obtain ⟨v, rfl, h1⟩ := vs1 hr
  obtain ⟨l, rfl, rfl⟩ := repV_s.1 h1
  have hF' : (if l.length < 9223372036854775807 then some [qrR l, .n (qrE l)] else none) = some r := hF
  split at hF'
  · rename_i hl
    injection hF' with hF'; subst hF'
    refine (qReadR_any ⟨l.toArray⟩ w (by rw [← bs_len, bs_mk]; exact hl)).mono ?_
    rintro e w' ⟨n, x, y, a, c, b, d, he, r1, r2, hq, l1, l2, hE⟩
    rw [bs_mk] at he hq
    rw [← hq]
    exact ret2 (r1 := [.r n x y]) (r2 := [.n (qrE l)]) rfl he (repV_r.2 ⟨_, _, _, _, _, _, _, rfl, rfl, r1, r2⟩) (repV_n.2 ⟨_, rfl, rfl⟩) (fun x' hx => by
      simp only [List.cons_append, List.nil_append, List.mem_cons, List.not_mem_nil, or_false] at hx
      rcases hx with rfl | rfl
      · show max x.length y.length ≤ 0 * s + 1005
        omega
      · simp [At.sz]) hE
  · cases hF'
theorem qrR_r (l : List UInt8) : ∃ n x y, qrR l = .r n x y := by
  unfold qrR
  split
  · exact ⟨_, _, _, rfl⟩
  · exact ⟨_, _, _, rfl⟩
def GL0 : Gam := gamOf [(11, ct_alive3)]
theorem GL0_ok : GamOk Try.prog GL0 := gamOk_of ⟨ok_alive3, trivial⟩
theorem GL0_alive3 : GL0 11 = some ct_alive3 := rfl
def GL7 : Gam := gamOf [(43, ct_qread), (44, ct_rqread), (45, ct_qtext), (46, ct_rqtext), (14, ct_rqsame), (11, ct_alive3)]
theorem GL7_ok : GamOk Try.prog GL7 := gamOk_of ⟨ok_qread, ok_rqread, ok_qtext, ok_rqtext, ok_rqsame, ok_alive3, trivial⟩
theorem GL7_qread : GL7 43 = some ct_qread := rfl
theorem GL7_rqread : GL7 44 = some ct_rqread := rfl
theorem GL7_qtext : GL7 45 = some ct_qtext := rfl
theorem GL7_rqtext : GL7 46 = some ct_rqtext := rfl
theorem GL7_rqsame : GL7 14 = some ct_rqsame := rfl
theorem GL7_alive3 : GL7 11 = some ct_alive3 := rfl
def tr_qreadsA : Tr (List SA) := (.br (.lt (.lit 12) (.len 0 1)) (.call 11 [] 2 (.leaf [(.b (.var 2))])) (.br (.lt (.lit 12) (.len 0 2)) (.call 11 [] 2 (.leaf [(.b (.var 2))])) (.br (.lt (.lit 2100) (.len 1 0)) (.call 11 [] 2 (.leaf [(.b (.var 2))])) (.call 43 [(.s (.var 1))] 2 (.call 44 [(.s (.var 1))] 4 (.call 45 [(.ob 0)] 6 (.call 46 [(.ob 0)] 7 (.br (.seq (.var 6) (.var 7)) (.call 14 [(.ob 2), (.ob 4)] 8 (.br (.var 8) (.br (.eq (.var 3) (.var 5)) (.call 11 [] 9 (.leaf [(.b (.var 9))])) (.leaf [(.b (.lit false))])) (.leaf [(.b (.lit false))]))) (.leaf [(.b (.lit false))])))))))))
theorem ev_qreadsA : Ct.ok Try.prog 9 { args := [[.r], [.s]], res := [[.b]], F := fun als => tr_qreadsA.den GL7 (env0 als), L := 12, A := 0, B := 0 } :=
  top_ok (by kernel_rfl) GL7_ok (plans := planF) (lf := 60) (k := 20) (by kernel_rfl)
def tr_qreadsB : Tr (List SA) := (.br (.lt (.lit 12) (.len 0 1)) (.call 11 [] 2 (.leaf [(.b (.var 2))])) (.br (.lt (.lit 12) (.len 0 2)) (.call 11 [] 2 (.leaf [(.b (.var 2))])) (.br (.lt (.lit 2100) (.len 1 0)) (.call 11 [] 2 (.leaf [(.b (.var 2))])) (.br (.seq (.lit [47]) (.var 1)) .bad .bad))))
theorem ev_qreadsB (L : Nat) : Ct.ok Try.prog 9 { args := [[.r], [.s]], res := [[.b]], F := fun als => tr_qreadsB.den GL0 (env0 als), L := L, A := 0, B := 0 } :=
  top_ok (by kernel_rfl) GL0_ok (plans := planF) (lf := 60) (k := 20) (by kernel_rfl)
theorem qreadsA_den (a : Bool) (l m : List Nat) (t : List UInt8) (h : l.length ≤ 12 ∧ m.length ≤ 12) : tr_qreadsA.den GL7 (env0 [.r a l m, .s t]) = some [.b true] := by
  have h_1 : ¬ (12 : Int) < l.length := by omega
  have h_2 : ¬ (12 : Int) < m.length := by omega
  by_cases h2 : (2100 : Int) < t.length
  · simp only [tr_qreadsA, Tr.den, evAll, SA.ev, BE.ev, IE.ev, SE.ev, LE.ev, env0, extE_eq, pickO, evN, evB, evS, evLen, evBit, evLst, At.len, At.bit, At.lst, op1, op2, op3, Nat.reduceLeDiff, Nat.reduceSub, Nat.reduceEqDiff, if_true, if_false, ite_true, ite_false, decide_true, decide_false, Bool.not_true, Bool.not_false, Nat.zero_le, Nat.sub_zero, List.getElem?_cons_zero, List.getElem?_cons_succ, List.getElem?_nil, GL7_qread, ctF_qread, GL7_rqread, ctF_rqread, GL7_qtext, ctF_qtext, GL7_rqtext, ctF_rqtext, GL7_rqsame, ctF_rqsame, GL7_alive3, ctF_alive3, decide_eq_false h_1, decide_eq_false h_2, decide_eq_true h2, f_true]
  · have h3 : (t.length < 9223372036854775807) = True := eq_true (by omega)
    obtain ⟨n, x, y, e⟩ := qrR_r t
    simp only [tr_qreadsA, Tr.den, evAll, SA.ev, BE.ev, IE.ev, SE.ev, LE.ev, env0, extE_eq, pickO, evN, evB, evS, evLen, evBit, evLst, At.len, At.bit, At.lst, op1, op2, op3, Nat.reduceLeDiff, Nat.reduceSub, Nat.reduceEqDiff, if_true, if_false, ite_true, ite_false, decide_true, decide_false, Bool.not_true, Bool.not_false, Nat.zero_le, Nat.sub_zero, List.getElem?_cons_zero, List.getElem?_cons_succ, List.getElem?_nil, GL7_qread, ctF_qread, GL7_rqread, ctF_rqread, GL7_qtext, ctF_qtext, GL7_rqtext, ctF_rqtext, GL7_rqsame, ctF_rqsame, GL7_alive3, ctF_alive3, decide_eq_false h_1, decide_eq_false h_2, decide_eq_false h2, f_qread, h3, e, f_qtext, f_rrb, eq_self, beq_self_eq_true, Bool.and_self, f_true]
theorem qreadsB_den (a : Bool) (l m : List Nat) (t : List UInt8) (h : ¬ (l.length ≤ 12 ∧ m.length ≤ 12)) : tr_qreadsB.den GL0 (env0 [.r a l m, .s t]) = some [.b true] := by
  by_cases h_1 : (12 : Int) < l.length
  · simp only [tr_qreadsB, Tr.den, evAll, SA.ev, BE.ev, IE.ev, SE.ev, LE.ev, env0, extE_eq, pickO, evN, evB, evS, evLen, evBit, evLst, At.len, At.bit, At.lst, op1, op2, op3, Nat.reduceLeDiff, Nat.reduceSub, Nat.reduceEqDiff, if_true, if_false, ite_true, ite_false, decide_true, decide_false, Bool.not_true, Bool.not_false, Nat.zero_le, Nat.sub_zero, List.getElem?_cons_zero, List.getElem?_cons_succ, List.getElem?_nil, GL0_alive3, ctF_alive3, decide_eq_true h_1, f_true]
  by_cases h_2 : (12 : Int) < m.length
  · simp only [tr_qreadsB, Tr.den, evAll, SA.ev, BE.ev, IE.ev, SE.ev, LE.ev, env0, extE_eq, pickO, evN, evB, evS, evLen, evBit, evLst, At.len, At.bit, At.lst, op1, op2, op3, Nat.reduceLeDiff, Nat.reduceSub, Nat.reduceEqDiff, if_true, if_false, ite_true, ite_false, decide_true, decide_false, Bool.not_true, Bool.not_false, Nat.zero_le, Nat.sub_zero, List.getElem?_cons_zero, List.getElem?_cons_succ, List.getElem?_nil, GL0_alive3, ctF_alive3, decide_eq_false h_1, decide_eq_true h_2, f_true]
  exact absurd ⟨by omega, by omega⟩ h
theorem rationalReads_any {w : World} {als : List At} {v : Value} (h1 : RepV w [.r] als v) (s : ByteArray) :
    Calls Try.prog 9 #[v, .string s] w fun e w' => e = .returned (.bool true) ∧ Below w.heap.size w w' := by
  have hr : RepVs w [[.r], [.s]] (als ++ [.s (bs s)]) [v, .string s] := ⟨als, _, _, _, rfl, rfl, h1, [.s (bs s)], [], _, _, rfl, rfl, repV_s.2 ⟨bs s, rfl, by rw [← str_eq]⟩, rfl, rfl⟩
  obtain ⟨a, l, m, _, _, _, _, rfl, rfl, _⟩ := repV_r.1 h1
  exact law_small ev_qreadsA ev_qreadsB hr (fun h => qreadsA_den _ _ _ _ (by simp only [szM, List.cons_append, List.nil_append, List.foldr, At.sz] at h; omega)) (fun h => qreadsB_den _ _ _ _ (by simp only [szM, List.cons_append, List.nil_append, List.foldr, At.sz] at h; omega))
set_option maxRecDepth 100000 in
theorem rationalReads_lifted (os : Os) (started : os.Started) (H : Type) (enc : TypeId × Value → H) :
    ReturnsInHanded {} Try.checked os 9 .any (Rows.rationalReadsSpec.pre6 enc Try.prog Try.f9 Rows.rationalReadsRow.domain false) (Rows.rationalReadsSpec.post enc Try.prog Try.f9 false true false false) := by
  refine law_lifted (C := Try.checked) (s := Rows.rationalReadsSpec) Try.own Try.laidOut (by kernel_rfl) Try.func9 rfl 4 rfl Try.underlying4 (by kernel_rfl) enc ?_ ?_ os started
    (ChangeSpec.witness6 (enc := enc) (C := Try.checked) false ⟨#[], #[.agg #[.bool false, .slice none 0 0, .slice none 0 0], .string ⟨#[]⟩], []⟩ 8 (by kernel_rfl) (by kernel_rfl) (by kernel_rfl) (by kernel_rfl))
  · intro ds hl
    match ds, hl with
    | [d0, d1], _ => rfl
  · intro W base args ds ps hval hA hlt hwt
    have hA' : DataW.TrodAll enc Try.prog W 0 (fun _ => true) true [30, 9] args.toList ds ps := hA
    have hval' : ∀ (j : Nat) t v, Try.f9.params[j]? = some t → args[j]? = some v → Value.okWide Try.prog W .any base t v := hval
    obtain ⟨v0, v1, d0, d1, p0, p1, rfl, rfl, rfl, h0, h1⟩ := Go.ChangeShapes.trodAll_two hA'
    obtain ⟨als_a, hr_a, hg_a⟩ := open_Rat (hval' 0 30 v0 rfl rfl) h0
    obtain ⟨s, rfl, rfl, rfl, hs_s⟩ := Go.ChangeMaps.open_string Try.underlying9 (hval' 1 9 v1 rfl rfl) h1
    exact rationalReads_any hr_a s

theorem rationalReads_holds : Rows.RationalReadsSaid :=
  OpenClaim.holds_of_wide 9 Try.f9 rfl rfl rfl rfl rfl rfl rfl ⟨rfl, rfl, rfl, rfl, rfl⟩ rfl rfl rfl rfl rfl (by kernel_rfl) Try.func9 (by kernel_rfl)
    (of_decide_eq_true (by kernel_rfl)) (by unfold Func.isWrapper; first | (rw [if_pos (by decide +kernel)]; kernel_rfl) | (rw [if_neg (by decide +kernel)]; exact ⟨rfl, rfl⟩))
    (fun os started H enc _ => rationalReads_lifted os started H enc)
end Go.Proofs.Ytnclpllmidlbbaa
