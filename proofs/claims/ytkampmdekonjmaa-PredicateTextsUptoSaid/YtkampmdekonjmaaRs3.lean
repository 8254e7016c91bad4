/- Rational numbers: the texts, written. -/
import Derived.Test.YtkampmdekonjmaaRs2
namespace Go.Proofs.Ytkampmdekonjmaa
open Go Go.RowKit Go.V
set_option linter.unusedSimpArgs false
set_option linter.unusedVariables false
set_option maxRecDepth 20000
def GRp : Gam := gamOf [(99, ct_nbits), (91, ct_unit)]
theorem GRp_ok : GamOk Try.prog GRp := gamOk_of ⟨ok_nbits, ok_unit, trivial⟩
theorem GRp_nbits : GRp 99 = some ct_nbits := rfl
theorem GRp_unit : GRp 91 = some ct_unit := rfl
def tr_parts : Tr (List SA) := (.call 99 [(.u (.var 0 2))] 1 (.br (.eq (.var 1) (.lit 0)) (.call 91 [] 2 (.leaf [(.y (.lit false) .nil), (.u (.var 2 0))])) (.leaf [(.y (.bit 0) (.var 0 1)), (.u (.var 0 2))])))
theorem ev_parts : Ct.ok Try.prog 66 { args := [[.r]], res := [[.y], [.u]], F := fun als => tr_parts.den GRp (env0 als), L := 100000000, A := 1, B := 1 } :=
  top_ok (by kernel_rfl) GRp_ok (plans := planF) (lf := 60) (k := 20) (by kernel_rfl)
theorem parts_den1 (a : Bool) (l m : List Nat) (h : val m = 0) : tr_parts.den GRp (env0 [.r a l m]) = some [.y false [], na 1] := by
  simp only [tr_parts, Tr.den, evAll, SA.ev, BE.ev, IE.ev, SE.ev, LE.ev, env0, extE_eq, pickO, evN, evB, evS, evLen, evBit, evLst, At.len, At.bit, At.lst, op1, op2, op3, Nat.reduceLeDiff, Nat.reduceSub, Nat.reduceEqDiff, if_true, if_false, ite_true, ite_false, decide_true, decide_false, Bool.not_true, Bool.not_false, Nat.zero_le, Nat.sub_zero, List.getElem?_cons_zero, List.getElem?_cons_succ, List.getElem?_nil, GRp_nbits, ctF_nbits, GRp_unit, ctF_unit, f_yur, f_un, f_uu, f_ub, f_yb, f_yn, f_yyn, f_yyy, f_uuu, f_yy, f_idiv, f_iof, f_nof, f_sqrt, f_uub, na, za, blen0i, one_lim, vz_can, vz_lim, vz_nil, qv_can, val_lim, val_nil, len_lim0, decide_eq_true_eq, eq_true h]
theorem parts_den2 (a : Bool) (l m : List Nat) (h : ¬ val m = 0) : tr_parts.den GRp (env0 [.r a l m]) = some [.y a l, .u m] := by
  simp only [tr_parts, Tr.den, evAll, SA.ev, BE.ev, IE.ev, SE.ev, LE.ev, env0, extE_eq, pickO, evN, evB, evS, evLen, evBit, evLst, At.len, At.bit, At.lst, op1, op2, op3, Nat.reduceLeDiff, Nat.reduceSub, Nat.reduceEqDiff, if_true, if_false, ite_true, ite_false, decide_true, decide_false, Bool.not_true, Bool.not_false, Nat.zero_le, Nat.sub_zero, List.getElem?_cons_zero, List.getElem?_cons_succ, List.getElem?_nil, GRp_nbits, ctF_nbits, GRp_unit, ctF_unit, f_yur, f_un, f_uu, f_ub, f_yb, f_yn, f_yyn, f_yyy, f_uuu, f_yy, f_idiv, f_iof, f_nof, f_sqrt, f_uub, na, za, blen0i, one_lim, vz_can, vz_lim, vz_nil, qv_can, val_lim, val_nil, len_lim0, decide_eq_true_eq, h]
def PartsPost (w : World) (x : Rat) (s : Nat) (e : Ending) (w' : World) : Prop := ∃ n l m a c b d, e = .returned (.tuple #[.agg #[.bool n, .slice a l.length c], .slice b m.length d]) ∧ RD w' a c l ∧ RD w' b d m ∧ qv n l m = x ∧ l.length ≤ s ∧ m.length ≤ s ∧ Below w.heap.size w w'
theorem partsPost_of {w w' : World} {x : Rat} {n : Bool} {l m : List Nat} {A B s : Nat} {e : Ending} (hq : qv n l m = x) (h : ∃ rvs, e = .returned (pack rvs) ∧ RepVs w' [[.y], [.u]] [.y n l, .u m] rvs ∧ (∀ a ∈ [At.y n l, At.u m], a.sz ≤ A * s + B) ∧ Below w.heap.size w w') : PartsPost w x (A * s + B) e w' := by
  obtain ⟨rvs, he, hr, hz, hE⟩ := h
  obtain ⟨a1, a2, v, u, e1, rfl, h1, h2⟩ := vs2 hr
  obtain ⟨n1, l1, a, c, rfl, rfl, r1⟩ := repV_y.1 h1
  obtain ⟨m1, b, d, rfl, rfl, r2⟩ := repV_u.1 h2
  simp only [List.cons_append, List.nil_append, List.cons.injEq, At.y.injEq, At.u.injEq, and_true] at e1
  obtain ⟨⟨rfl, rfl⟩, rfl⟩ := e1
  exact ⟨n, l, m, a, c, b, d, he, r1, r2, hq, hz (.y n l) (by simp), hz (.u m) (by simp), hE⟩
theorem parts_any (neg : Bool) (l m : List Nat) (a b : Option Addr) (c d s : Nat) (w : World) (hr : RD w a c l) (hs : RD w b d m) (hl : l.length ≤ s) (hm : m.length ≤ s) (hL : s ≤ 100000000) :
    Calls Try.prog 66 #[.agg #[.bool neg, .slice a l.length c, .slice b m.length d]] w (PartsPost w (qv neg l m) (s + 1)) := by
  have hrep : RepVs w [[.r]] [.r neg l m] [.agg #[.bool neg, .slice a l.length c, .slice b m.length d]] := ⟨[_], [], _, _, rfl, rfl, repV_r.2 ⟨_, _, _, _, _, _, _, rfl, rfl, hr, hs⟩, rfl, rfl⟩
  have hz : ∀ x ∈ [At.r neg l m], x.sz ≤ s := by
    simp only [List.mem_cons, List.not_mem_nil, or_false]
    rintro x rfl
    exact Nat.max_le.2 ⟨hl, hm⟩
  by_cases h : val m = 0
  · refine (ev_parts s w _ _ _ hL hrep hz (parts_den1 neg l m h)).mono fun e w' h' => ?_
    have := partsPost_of (A := 1) (B := 1) (x := qv neg l m) (by unfold qv; rw [h, Rat.mkRat_zero, vz_nil, Rat.zero_mkRat]) h'
    rwa [Nat.one_mul] at this
  · refine (ev_parts s w _ _ _ hL hrep hz (parts_den2 neg l m h)).mono fun e w' h' => ?_
    have := partsPost_of (A := 1) (B := 1) (x := qv neg l m) rfl h'
    rwa [Nat.one_mul] at this
theorem RD.nboxR {w : World} {a a1 a2 : Option Addr} {c n1 c1 n2 c2 b : Nat} {l : List Nat} {neg : Bool} {t : TypeId} (h : RD w a c l) (hB : Bx w b #[.bool neg, .slice a1 n1 c1, .slice a2 n2 c2] t) : ∀ ad, a = some ad → l ≠ [] → ad.block ≠ b := by
  intro ad ha hl e
  rcases h.sl with e0 | ⟨b', off, e1, hc⟩
  · exact hl (List.map_eq_nil_iff.1 e0)
  · rw [ha] at e1
    injection e1 with e1
    subst e1
    subst e
    obtain ⟨x, r, rfl⟩ : ∃ x r, l = x :: r := by
      cases l with
      | nil => exact absurd rfl hl
      | cons x r => exact ⟨x, r, rfl⟩
    have h1 := hc 0 (.int .u16 x) rfl
    rw [hB.cell] at h1
    rcases off with _ | _ | _ | off
    · cases h1
    · cases h1
    · cases h1
    · cases h1
set_option maxHeartbeats 1000000 in
theorem qText_any (neg : Bool) (l m : List Nat) (a b : Option Addr) (c d : Nat) (w : World) (hr : RD w a c l) (hs : RD w b d m) (hl : l.length ≤ 1000) (hm : m.length ≤ 1000) :
    Calls Try.prog 32 #[.agg #[.bool neg, .slice a l.length c, .slice b m.length d]] w (RetS w (qtxt (qv neg l m))) := by
  obtain ⟨X, hX⟩ : ∃ X, X = qv neg l m := ⟨_, rfl⟩
  rw [← hX]
  refine calls_of_W (args := [.agg #[.bool neg, .slice a l.length c, .slice b m.length d]]) (rs := [.tmp 2]) (n := 28) Try.func32 rfl rfl rfl (by kernel_rfl) ?_
  first | refine W_rt (by kernel_rfl) (fun K hK => ?_) | refine W_text (by kernel_rfl) (fun K hK => ?_)
  simp [go_sem]
  refine hv_box #[.bool neg, .slice a l.length c, .slice b m.length d] (by simp [go_sem]) rfl (by simp [go_sem, Value.cells]) (fun w1 b1 hE1 hle1 hB1 => ?_)
  replace hr := hr.keep hE1
  replace hs := hs.keep hE1
  have hE := hE1
  obtain ⟨k0, k1, k2⟩ := qbx hB1
  simp [go_sem]
  refine hK _ _ ?_; clear hK K
  first | refine W_rt (by kernel_rfl) (fun K hK => ?_) | refine W_text (by kernel_rfl) (fun K hK => ?_)
  simp [go_sem, k0, k1, k2, add_mk, rowV, rowOk]
  refine hv_call (by simp [go_sem, k0, k1, k2, add_mk, rowV, rowOk]) rfl Try.call66 (fun R hR => ?_)
  simp [go_sem, k0, k1, k2, add_mk, rowV, rowOk]
  refine (parts_any neg l m a b c d 1000 _ hr hs hl hm (by decide)).mono ?_
  rintro e w2 ⟨n', l', m', a2, c2, b2, d2, rfl, hr2, hs2, hq, hl2, hm2, hE2⟩
  refine ⟨_, rfl, hR _ _ ?_⟩
  clear hR R
  replace hE := hE.next hE2
  simp [go_sem]
  refine hv_alloc (by simp [go_sem]) rfl ty_zeroC26 (fun w3 b3 hE3 hle3 hB3 => ?_)
  replace hr2 := hr2.keep hE3
  replace hs2 := hs2.keep hE3
  replace hE := hE.next hE3
  simp [go_sem]
  refine hv_store (b := b3) (off := 0) [.bool n', .slice a2 l'.length c2] (by simp [go_sem]) rfl (by simp [go_sem]) (by simp [go_sem, Value.cells]) ty_size26 hB3 (by simp) (by simp [Value.oneCell']) (by decide) (fun w4 hS4 hB4 => ?_)
  simp [putC] at hB4
  replace hr2 := hr2.sto hS4 (hr2.nbox hB3)
  replace hs2 := hs2.sto hS4 (hs2.nbox hB3)
  replace hE := hE.nextS hS4 (by have := hE1.size; have := hE2.size; omega)
  obtain ⟨k0, k1⟩ := ibx hB4
  simp [go_sem]
  refine hK _ _ ?_; clear hK K
  first | refine W_rt (by kernel_rfl) (fun K hK => ?_) | refine W_text (by kernel_rfl) (fun K hK => ?_)
  simp [go_sem, k0, k1, add_mk, rowV, rowOk]
  refine hv_call (by simp [go_sem, k0, k1, add_mk, rowV, rowOk]) rfl Try.call67 (fun R hR => ?_)
  simp [go_sem, k0, k1, add_mk, rowV, rowOk]
  refine (reduced_any n' l' m' a2 b2 c2 d2 1001 _ hr2 hs2 hl2 hm2 (by decide)).mono ?_
  rintro e w5 ⟨a5, c5, b5, d5, rfl, hr5, hs5, hz5, hy5, hE5⟩
  refine ⟨_, rfl, hR _ _ ?_⟩
  clear hR R
  have hq' : X = qv n' l' m' := by rw [hX, hq]
  rw [← hq'] at hr5 hs5 hz5 hy5
  replace hE := hE.next hE5
  simp [go_sem, qR, ← hq']
  refine hv_alloc (by simp [go_sem]) rfl ty_zeroC28 (fun w6 b6 hE6 hle6 hB6 => ?_)
  replace hr5 := hr5.keep hE6
  replace hs5 := hs5.keep hE6
  replace hE := hE.next hE6
  have hb6 : w.heap.size ≤ b6 := by have := hE1.size; have := hE2.size; have := hE3.size; have := hS4.size; have := hE5.size; omega
  simp [go_sem]
  refine hv_store (b := b6) (off := 0) [.bool (decide (X.num < 0)), .slice a5 (lim X.num.natAbs).length c5, .slice b5 (lim X.den).length d5] (by simp [go_sem]) rfl (by simp [go_sem]) (by simp [go_sem, Value.cells]) ty_size28 hB6 (by simp) (by simp [Value.oneCell']) (by decide) (fun w7 hS7 hB7 => ?_)
  simp [putC] at hB7
  replace hr5 := hr5.sto hS7 (hr5.nboxR hB6)
  replace hs5 := hs5.sto hS7 (hs5.nboxR hB6)
  replace hE := hE.nextS hS7 hb6
  obtain ⟨k0, k1, k2⟩ := qbx hB7
  simp [go_sem]
  refine hK _ _ ?_; clear hK K
  refine W_seq (fun K1 hK1 => ?_)
  first | refine W_rt (by kernel_rfl) (fun K hK => ?_) | refine W_text (by kernel_rfl) (fun K hK => ?_)
  simp [go_sem, k0, k1, k2, add_mk]
  refine hv_call (by simp [go_sem, k0, k1, k2, add_mk]) rfl Try.call59 (fun R hR => ?_)
  simp [go_sem, k0, k1, k2, add_mk]
  refine (one_any _ b5 d5 _ hs5 (by unfold lenB; omega)).mono ?_
  rintro e w8 ⟨rfl, hE8⟩
  refine ⟨_, rfl, hR _ _ ?_⟩
  clear hR R
  replace hr5 := hr5.keep hE8
  replace hs5 := hs5.keep hE8
  replace hB7 := hB7.keep hE8
  replace hE := hE.next hE8
  obtain ⟨k0, k1, k2⟩ := qbx hB7
  have t1 := lim_lenI hz5 (by decide)
  have t2 := lim_lenT hy5 (by decide)
  have ht1 := fun {w} hr => iText_any (decide (X.num < 0)) (lim X.num.natAbs) a5 c5 w hr (by omega)
  have ht2 := fun {w} hr => text_any (lim X.den) b5 d5 w hr (by omega)
  unfold RetS at ht1 ht2
  rw [show iv (decide (X.num < 0)) (val (lim X.num.natAbs)) = X.num from vz_can X.num] at ht1
  rw [val_lim] at ht2
  generalize hU : itxt X.num = U at ht1 t1
  generalize hV : txt X.den = V at ht2 t2
  by_cases hd : X.den = 1
  · have h1 : isOne (lim X.den) = true := by rw [one_lim]; exact decide_eq_true hd
    simp [go_sem, h1]
    refine hK _ _ ?_; clear hK K
    refine W_if (t := true) (by simp [go_sem]) rfl ?_
    first | refine W_rt (by kernel_rfl) (fun K hK => ?_) | refine W_text (by kernel_rfl) (fun K hK => ?_)
    simp [go_sem, k0, k1, k2, add_mk, rowV, rowOk]
    refine hv_call (by simp [go_sem, k0, k1, k2, add_mk, rowV, rowOk]) rfl Try.call68 (fun R hR => ?_)
    simp [go_sem, k0, k1, k2, add_mk, rowV, rowOk]
    refine (ht1 hr5).mono ?_
    rintro e w9 ⟨rfl, hE9⟩
    refine ⟨_, rfl, hR _ _ ?_⟩
    clear hR R
    replace hE := hE.next hE9
    simp [go_sem]
    refine hK _ _ ?_; clear hK K
    refine W_ret ?_
    repeat (first | refine thenG_ret ?_ | refine inBlock_ret ?_)
    refine ⟨trivial, ?_, hE⟩
    simp [go_sem, pack, resL, qtxt_1 hd, hU]
  · have h1 : isOne (lim X.den) = false := by rw [one_lim]; exact decide_eq_false hd
    simp [go_sem, h1]
    refine hK _ _ ?_; clear hK K
    refine W_if (t := false) (by simp [go_sem]) rfl ?_
    refine W_skip ?_
    refine hK1 _ _ ?_; clear hK1 K1
    have hD : Below w8.heap.size w8 w8.drew := Below.drew1 _
    replace hr5 := hr5.keep hD
    replace hs5 := hs5.keep hD
    replace hB7 := hB7.keep hD
    replace hE := hE.next hD
    obtain ⟨k0, k1, k2⟩ := qbx hB7
    first | refine W_rd [(0, 0), (1, 0), (4, 0), (5, 0), (2, 1), (3, 0), (6, 1), (7, 0), (8, 0)] (by kernel_rfl) (by kernel_rfl) (fun K hK => ?_) | refine W_draw [(0, 0), (1, 0), (4, 0), (5, 0), (2, 1), (3, 0), (6, 1), (7, 0), (8, 0)] (by kernel_rfl) (by kernel_rfl) (fun K hK => ?_)
    simp [go_sem, k0, k1, k2, add_mk, rowV, rowOk]
    refine hv_call (by simp [go_sem, k0, k1, k2, add_mk, rowV, rowOk]) rfl Try.call68 (fun R hR => ?_)
    simp [go_sem, k0, k1, k2, add_mk, rowV, rowOk]
    refine (ht1 hr5).mono ?_
    rintro e w9 ⟨rfl, hE9⟩
    refine ⟨_, rfl, (by assumption), hR _ _ ?_⟩
    clear hR R
    replace hr5 := hr5.keep hE9
    replace hs5 := hs5.keep hE9
    replace hB7 := hB7.keep hE9
    replace hE := hE.next hE9
    obtain ⟨k0, k1, k2⟩ := qbx hB7
    simp [go_sem, k0, k1, k2, add_mk]
    refine ⟨by omega, ?_⟩
    refine hv_call (by simp [go_sem, k0, k1, k2, add_mk]) rfl Try.call69 (fun R hR => ?_)
    simp [go_sem, k0, k1, k2, add_mk]
    refine (ht2 hs5).mono ?_
    rintro e wA ⟨rfl, hEA⟩
    refine ⟨_, rfl, (by assumption), hR _ _ ?_⟩
    clear hR R
    replace hE := hE.next hEA
    simp [go_sem]
    refine ⟨by omega, ?_⟩
    refine hK _ _ ?_; clear hK K
    refine W_ret ?_
    repeat (first | refine thenG_ret ?_ | refine inBlock_ret ?_)
    refine ⟨trivial, ?_, hE⟩
    simp [go_sem, pack, resL, qtxt_2 hd, hU, hV]
    first | done | exact ba_slash U V | (rw [← ba_slash U V]; rfl)
end Go.Proofs.Ytkampmdekonjmaa
