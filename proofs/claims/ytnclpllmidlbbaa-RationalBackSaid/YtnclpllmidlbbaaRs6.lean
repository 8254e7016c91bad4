/- Rational numbers: read. -/
import Derived.Test.YtnclpllmidlbbaaRs4
import Derived.Test.YtnclpllmidlbbaaRs3
import Derived.Test.YtnclpllmidlbbaaInH
import Derived.Test.YtnclpllmidlbbaaRa4
namespace Go.Proofs.Ytnclpllmidlbbaa
open Go Go.RowKit Go.V
set_option linter.unusedSimpArgs false
set_option linter.unusedVariables false
set_option maxRecDepth 20000
def f_nread : List At → Option (List At)
  | [.s l] => some [.u (rdL l), .n (rdE l)]
  | _ => none
def ct_nread : Ct := { args := [[.s]], res := [[.u], [.n]], F := f_nread, L := 1000000000000, A := 0, B := 1001 }
theorem ctF_nread : ct_nread.F = f_nread := rfl
theorem ok_nread : ct_nread.ok Try.prog 81 := by
  intro s w vs als r hs hr hsz hF
  obtain ⟨v, rfl, h1⟩ := vs1 hr
  obtain ⟨l, rfl, rfl⟩ := repV_s.1 h1
  injection hF with hF; subst hF
  refine (read_any ⟨l.toArray⟩ w).mono ?_
  rintro e w' ⟨a, c, he, hr', hE⟩
  rw [bs_mk] at he hr'
  exact ret2 (r1 := [.u (rdL l)]) (r2 := [.n (rdE l)]) rfl he (repV_u.2 ⟨_, a, c, rfl, rfl, hr'⟩) (repV_n.2 ⟨_, rfl, rfl⟩) (fun x hx => by
    simp only [List.cons_append, List.nil_append, List.mem_cons, List.not_mem_nil, or_false] at hx
    rcases hx with rfl | rfl
    · have := rdL_lenI l
      show (rdL l).length ≤ 0 * s + 1001
      omega
    · simp [At.sz]) hE
def qrE (l : List UInt8) : Int := if izE (slA l) = 0 then (if slH l = false then 0 else if rdE (slB l) = 0 then (if dv (slB l) = 0 then 3 else 0) else rdE (slB l)) else izE (slA l)
def qrV (l : List UInt8) : Rat := if slH l = false then (izV (slA l) : Rat) else (izV (slA l) : Rat) / (dv (slB l) : Rat)
def qrR (l : List UInt8) : At := if qrE l = 0 then qa (qrV l) else .r false [] []
def f_qread : List At → Option (List At)
  | [.s l] => if l.length < 9223372036854775807 then some [qrR l, .n (qrE l)] else none
  | _ => none
def GRd : Gam := gamOf [(79, ct_cut), (80, ct_iread), (81, ct_nread), (48, ct_reduced), (54, ct_unit), (12, ct_qmake)]
theorem GRd_ok : GamOk Try.prog GRd := gamOk_of ⟨ok_cut, ok_iread, ok_nread, ok_reduced, ok_unit, ok_qmake, trivial⟩
theorem GRd_cut : GRd 79 = some ct_cut := rfl
theorem GRd_iread : GRd 80 = some ct_iread := rfl
theorem GRd_nread : GRd 81 = some ct_nread := rfl
theorem GRd_reduced : GRd 48 = some ct_reduced := rfl
theorem GRd_unit : GRd 54 = some ct_unit := rfl
theorem GRd_qmake : GRd 12 = some ct_qmake := rfl
def tr_qread : Tr (List SA) := (.call 79 [(.s (.var 0)), (.s (.lit [47]))] 1 (.call 80 [(.s (.var 1))] 4 (.br (.not (.eq (.var 5) (.lit 0))) (.leaf [(.r (.lit false) .nil .nil), (.n (.var 5))]) (.br (.not (.var 3)) (.call 54 [] 6 (.call 48 [(.ob 4), (.u (.var 6 0))] 7 (.leaf [(.ob 7), (.n (.lit 0))]))) (.call 81 [(.s (.var 2))] 6 (.br (.not (.eq (.var 7) (.lit 0))) (.leaf [(.r (.lit false) .nil .nil), (.n (.var 7))]) (.call 12 [(.ob 4), (.y (.lit false) (.var 6 0))] 8 (.leaf [(.ob 8), (.n (.var 9))]))))))))
theorem ev_qread : Ct.ok Try.prog 43 { args := [[.s]], res := [[.r], [.n]], F := fun als => tr_qread.den GRd (env0 als), L := 1000, A := 0, B := 1005 } :=
  top_ok (by kernel_rfl) GRd_ok (plans := planF) (lf := 60) (k := 20) (by kernel_rfl)
theorem qread_den (l : List UInt8) (h : l.length < 9223372036854775807) : tr_qread.den GRd (env0 [.s l]) = some [qrR l, .n (qrE l)] := by
  unfold qrR
  by_cases h1 : izE (slA l) = 0
  · by_cases h2 : slH l = false
    · have e1 : qrE l = 0 := by unfold qrE; rw [if_pos h1, if_pos h2]
      have e2 : qrV l = (izV (slA l) : Rat) := if_pos h2
      rw [e1, if_pos rfl, e2]
      simp only [tr_qread, Tr.den, evAll, SA.ev, BE.ev, IE.ev, SE.ev, LE.ev, env0, extE_eq, pickO, evN, evB, evS, evLen, evBit, evLst, At.len, At.bit, At.lst, op1, op2, op3, Nat.reduceLeDiff, Nat.reduceSub, Nat.reduceEqDiff, if_true, if_false, ite_true, ite_false, decide_true, decide_false, Bool.not_true, Bool.not_false, Nat.zero_le, Nat.sub_zero, List.getElem?_cons_zero, List.getElem?_cons_succ, List.getElem?_nil, GRd_cut, ctF_cut, GRd_iread, ctF_iread, GRd_nread, ctF_nread, GRd_reduced, ctF_reduced, GRd_unit, ctF_unit, GRd_qmake, ctF_qmake, f_yur, f_un, f_uu, f_ub, f_yb, f_yn, f_yyn, f_yyy, f_uuu, f_yy, f_idiv, f_iof, f_nof, f_sqrt, f_uub, na, za, blen0i, one_lim, vz_can, vz_lim, vz_nil, qv_can, val_lim, val_nil, len_lim0, decide_eq_true_eq, f_cut, if_pos h, f_iread, f_nread, eq_true h1, h2, Rat.mkRat_one]
    · have h2' : slH l = true := by simpa using h2
      by_cases h3 : rdE (slB l) = 0
      · by_cases h4 : dv (slB l) = 0
        · have h4i : ((dv (slB l) : Nat) : Int) = 0 := by omega
          have e1 : qrE l = 3 := by unfold qrE; rw [if_pos h1, if_neg h2, if_pos h3, if_pos h4]
          rw [e1, if_neg (by decide)]
          have e3 : rdL (slB l) = lim (dv (slB l)) := if_pos h3
          simp only [tr_qread, Tr.den, evAll, SA.ev, BE.ev, IE.ev, SE.ev, LE.ev, env0, extE_eq, pickO, evN, evB, evS, evLen, evBit, evLst, At.len, At.bit, At.lst, op1, op2, op3, Nat.reduceLeDiff, Nat.reduceSub, Nat.reduceEqDiff, if_true, if_false, ite_true, ite_false, decide_true, decide_false, Bool.not_true, Bool.not_false, Nat.zero_le, Nat.sub_zero, List.getElem?_cons_zero, List.getElem?_cons_succ, List.getElem?_nil, GRd_cut, ctF_cut, GRd_iread, ctF_iread, GRd_nread, ctF_nread, GRd_reduced, ctF_reduced, GRd_unit, ctF_unit, GRd_qmake, ctF_qmake, f_yur, f_un, f_uu, f_ub, f_yb, f_yn, f_yyn, f_yyy, f_uuu, f_yy, f_idiv, f_iof, f_nof, f_sqrt, f_uub, na, za, blen0i, one_lim, vz_can, vz_lim, vz_nil, qv_can, val_lim, val_nil, len_lim0, decide_eq_true_eq, f_cut, if_pos h, f_iread, f_nread, f_qmake, eq_true h1, h2', eq_true h3, e3, eq_true h4i]
        · have h4i : ¬ ((dv (slB l) : Nat) : Int) = 0 := by omega
          have e1 : qrE l = 0 := by unfold qrE; rw [if_pos h1, if_neg h2, if_pos h3, if_neg h4]
          have e2 : qrV l = (izV (slA l) : Rat) / (dv (slB l) : Rat) := if_neg h2
          rw [e1, if_pos rfl, e2]
          have e3 : rdL (slB l) = lim (dv (slB l)) := if_pos h3
          simp only [tr_qread, Tr.den, evAll, SA.ev, BE.ev, IE.ev, SE.ev, LE.ev, env0, extE_eq, pickO, evN, evB, evS, evLen, evBit, evLst, At.len, At.bit, At.lst, op1, op2, op3, Nat.reduceLeDiff, Nat.reduceSub, Nat.reduceEqDiff, if_true, if_false, ite_true, ite_false, decide_true, decide_false, Bool.not_true, Bool.not_false, Nat.zero_le, Nat.sub_zero, List.getElem?_cons_zero, List.getElem?_cons_succ, List.getElem?_nil, GRd_cut, ctF_cut, GRd_iread, ctF_iread, GRd_nread, ctF_nread, GRd_reduced, ctF_reduced, GRd_unit, ctF_unit, GRd_qmake, ctF_qmake, f_yur, f_un, f_uu, f_ub, f_yb, f_yn, f_yyn, f_yyy, f_uuu, f_yy, f_idiv, f_iof, f_nof, f_sqrt, f_uub, na, za, blen0i, one_lim, vz_can, vz_lim, vz_nil, qv_can, val_lim, val_nil, len_lim0, decide_eq_true_eq, f_cut, if_pos h, f_iread, f_nread, f_qmake, eq_true h1, h2', eq_true h3, e3, h4i, Rat.intCast_natCast]
      · have e1 : qrE l = rdE (slB l) := by unfold qrE; rw [if_pos h1, if_neg h2, if_neg h3]
        rw [e1, if_neg h3]
        simp only [tr_qread, Tr.den, evAll, SA.ev, BE.ev, IE.ev, SE.ev, LE.ev, env0, extE_eq, pickO, evN, evB, evS, evLen, evBit, evLst, At.len, At.bit, At.lst, op1, op2, op3, Nat.reduceLeDiff, Nat.reduceSub, Nat.reduceEqDiff, if_true, if_false, ite_true, ite_false, decide_true, decide_false, Bool.not_true, Bool.not_false, Nat.zero_le, Nat.sub_zero, List.getElem?_cons_zero, List.getElem?_cons_succ, List.getElem?_nil, GRd_cut, ctF_cut, GRd_iread, ctF_iread, GRd_nread, ctF_nread, GRd_reduced, ctF_reduced, GRd_unit, ctF_unit, GRd_qmake, ctF_qmake, f_yur, f_un, f_uu, f_ub, f_yb, f_yn, f_yyn, f_yyy, f_uuu, f_yy, f_idiv, f_iof, f_nof, f_sqrt, f_uub, na, za, blen0i, one_lim, vz_can, vz_lim, vz_nil, qv_can, val_lim, val_nil, len_lim0, decide_eq_true_eq, f_cut, if_pos h, f_iread, f_nread, f_qmake, eq_true h1, h2', h3]
  · have e1 : qrE l = izE (slA l) := by unfold qrE; rw [if_neg h1]
    rw [e1, if_neg h1]
    simp only [tr_qread, Tr.den, evAll, SA.ev, BE.ev, IE.ev, SE.ev, LE.ev, env0, extE_eq, pickO, evN, evB, evS, evLen, evBit, evLst, At.len, At.bit, At.lst, op1, op2, op3, Nat.reduceLeDiff, Nat.reduceSub, Nat.reduceEqDiff, if_true, if_false, ite_true, ite_false, decide_true, decide_false, Bool.not_true, Bool.not_false, Nat.zero_le, Nat.sub_zero, List.getElem?_cons_zero, List.getElem?_cons_succ, List.getElem?_nil, GRd_cut, ctF_cut, GRd_iread, ctF_iread, GRd_nread, ctF_nread, GRd_reduced, ctF_reduced, GRd_unit, ctF_unit, GRd_qmake, ctF_qmake, f_yur, f_un, f_uu, f_ub, f_yb, f_yn, f_yyn, f_yyy, f_uuu, f_yy, f_idiv, f_iof, f_nof, f_sqrt, f_uub, na, za, blen0i, one_lim, vz_can, vz_lim, vz_nil, qv_can, val_lim, val_nil, len_lim0, decide_eq_true_eq, f_cut, if_pos h, f_iread, f_nread, f_qmake, h1]
def ct_qread : Ct := { args := [[.s]], res := [[.r], [.n]], F := f_qread, L := 1000, A := 0, B := 1005 }
theorem ctF_qread : ct_qread.F = f_qread := rfl
theorem ok_qread : ct_qread.ok Try.prog 43 := by
  refine ev_qread.weaken fun als r h => ?_
  have h' := h
  unfold f_qread at h
  split at h
  · split at h
    · rename_i l hl
      injection h with h; subst h
      exact qread_den l hl
    · cases h
  · cases h
/-! ### The specification's -/
def QReadPost (w : World) (l : List UInt8) (e : Ending) (w' : World) : Prop := ∃ n x y a c b d, e = .returned (.tuple #[.agg #[.bool n, .slice a x.length c, .slice b y.length d], .int .i64 (qrE l)]) ∧ RD w' a c x ∧ RD w' b d y ∧ At.r n x y = qrR l ∧ x.length ≤ 1005 ∧ y.length ≤ 1005 ∧ Below w.heap.size w w'
set_option maxHeartbeats 1000000 in
theorem qReadR_any (s : ByteArray) (w : World) (hs : s.size < 9223372036854775807) : Calls Try.prog 44 #[.string s] w (QReadPost w (bs s)) := by
  have hkl := slk_le (bs s)
  rw [bs_len] at hkl
  refine calls_of_W (args := [.string s]) (rs := [.cell 2 30, .tmp 3]) (n := 57) Try.func44 rfl rfl rfl (by kernel_rfl) ?_
  first | refine W_rt (by kernel_rfl) (fun K hK => ?_) | refine W_text (by kernel_rfl) (fun K hK => ?_)
  simp [go_sem]
  refine hv_alloc (by simp [go_sem]) rfl ty_zeroC30 (fun w2 b2 hE2 hle2 hB2 => ?_)
  simp [go_sem]
  refine hK _ _ ?_; clear hK K
  first | refine W_rt (by kernel_rfl) (fun K hK => ?_) | refine W_text (by kernel_rfl) (fun K hK => ?_)
  simp [go_sem]
  refine hK _ _ ?_; clear hK K
  refine W_seq (fun K1 hK1 => ?_)
  refine W_block ?_
  refine W_loop (fun m g w' => w' = w2 ∧ ∃ k : Nat, k ≤ slk (bs s) ∧ m = slk (bs s) - k ∧ g 0 = .string s ∧ g 2 = .pointer (some ⟨b2, 0, none⟩) ∧ g 4 = .int .i64 k) (slk (bs s)) ?_ ?_
  · exact ⟨rfl, 0, by omega, rfl, by simp [go_sem], by simp [go_sem], by simp [go_sem]⟩
  · rintro m g w' ⟨rfl, k, hk, rfl, g0, g2, g4⟩
    refine W_seq (fun K2 hK2 => ?_)
    by_cases hlt : k < slk (bs s)
    · have c1 : (k : Int) < s.size := by omega
      have c2 : k < s.size := by omega
      have c3 := slk_at (bs s) k hlt
      have c4 : ¬ ((byteAt s k).toNat : Int) = 47 := by
        intro h
        refine c3 (UInt8.toNat_inj.1 ?_)
        show (byteAt s k).toNat = 47
        omega
      have hw1 : IntKind.i64.wrap ((k : Int) + 1) = (k : Int) + 1 := IntWalk.i64_in _ (by omega)
      first | refine W_rt (by kernel_rfl) (fun K hK => ?_) | refine W_text (by kernel_rfl) (fun K hK => ?_)
      simp [go_sem, g0, g4, c1, c2, c4]
      refine hK _ _ ?_; clear hK K
      refine W_if (t := true) (by simp [go_sem]) rfl ?_
      refine W_skip ?_
      refine hK2 _ _ ?_
      refine W_block ?_
      refine W_text (by kernel_rfl) (fun K hK => ?_)
      simp [go_sem, g4, hw1]
      refine hK _ _ ⟨slk (bs s) - (k + 1), by omega, rfl, k + 1, by omega, rfl, by simp [go_sem, g0], by simp [go_sem, g2], by simp [go_sem]⟩
    · have hke : k = slk (bs s) := by omega
      clear hlt
      refine W_rtJ (fun g w5 => w5 = w' ∧ g 0 = .string s ∧ g 2 = .pointer (some ⟨b2, 0, none⟩) ∧ g 4 = .int .i64 k ∧ g 17 = .bool false) (by kernel_rfl) ?_ ?_
      · by_cases hsz : k < s.size
        · have c1 : (k : Int) < s.size := by omega
          have c3 := slk_hit (bs s) (by rw [bs_len]; omega)
          rw [← hke] at c3
          have c4 : (byteAt s k).toNat = 47 := by
            unfold byteAt; rw [c3]; rfl
          simp [go_sem, g0, g2, g4, c1, hsz, c4]
        · have c1 : ¬ (k : Int) < s.size := by omega
          simp [go_sem, g0, g2, g4, c1, hsz]
      · clear g0 g2 g4
        rintro g w5 ⟨rfl, g0, g2, g4, g17⟩
        refine W_if g17 rfl ?_
        refine W_exit ?_
        repeat (first | refine thenG_exit ?_ | refine inBlock_other rfl ?_ | refine inBlock_same ?_)
        refine hK1 _ _ ?_
        have hA : bs (s.extract 0 k) = slA (bs s) := by rw [bs_ext, hke]; simp [slA]
        have hcB := iReadR_any (s.extract 0 k) w5
        rw [hA] at hcB
        unfold IReadPost at hcB
        obtain ⟨U, hU⟩ : ∃ U, U = izV (slA (bs s)) := ⟨_, rfl⟩
        obtain ⟨V, hV⟩ : ∃ V, V = izE (slA (bs s)) := ⟨_, rfl⟩
        have hUl : (lim U.natAbs).length ≤ 1001 := by rw [hU]; exact izV_len _
        rw [← hU, ← hV] at hcB
        have hlt2 := hB2.lt
        first | refine W_rt (by kernel_rfl) (fun K hK => ?_) | refine W_text (by kernel_rfl) (fun K hK => ?_)
        simp [go_sem, g0, g4, hkl]
        refine ⟨by omega, ?_⟩
        refine hv_call (by simp [go_sem, g0, g4]) rfl Try.call82 (fun R hR => ?_)
        simp [go_sem, g0, g4]
        refine (hcB).mono ?_
        rintro e w3 ⟨a3, c3, rfl, hr3, hE3⟩
        refine ⟨_, rfl, hR _ _ ?_⟩
        clear hR R
        replace hB2 := hB2.keep hE3
        have hE := hE2.next hE3
        simp [go_sem]
        refine hv_alloc (by simp [go_sem]) rfl ty_zeroC25 (fun w5 b5 hE5 hle5 hB5 => ?_)
        replace hr3 := hr3.keep hE5
        replace hB2 := hB2.keep hE5
        replace hE := hE.next hE5
        have hb5 : w.heap.size ≤ b5 := by have := hE2.size; have := hE3.size; omega
        have hne : b2 ≠ b5 := by have := hE3.size; omega
        simp [go_sem]
        refine hv_store (b := b5) (off := 0) [.bool (decide (U < 0)), .slice a3 (lim U.natAbs).length c3] (by simp [go_sem, iR]) rfl (by simp [go_sem, iR]) (by simp [go_sem, Value.cells, iR]) ty_size25 hB5 (by simp) (by simp [Value.oneCell']) (by decide) (fun w6 hS6 hB6 => ?_)
        simp [putC] at hB6
        replace hr3 := hr3.sto hS6 (hr3.nbox hB5)
        replace hB2 := hB2.sto hS6 hne
        replace hE := hE.nextS hS6 hb5
        obtain ⟨k0, k1⟩ := ibx hB6
        simp [go_sem]
        refine hK _ _ ?_; clear hK K
        refine W_seq (fun K3 hK3 => ?_)
        first | refine W_rt (by kernel_rfl) (fun K hK => ?_) | refine W_text (by kernel_rfl) (fun K hK => ?_)
        simp [go_sem]
        refine hK _ _ ?_; clear hK K
        have ret : ∀ (g : G) (w9 : World) (n : Bool) (x y : List Nat) (a b : Option Addr) (c d : Nat), Below w.heap.size w w9 → Bx w9 b2 #[.bool n, .slice a x.length c, .slice b y.length d] 30 → g 2 = .pointer (some ⟨b2, 0, none⟩) → g 3 = .int .i64 (qrE (bs s)) → RD w9 a c x → RD w9 b d y → At.r n x y = qrR (bs s) → x.length ≤ 1005 → y.length ≤ 1005 → fnQ Try.prog [.cell 2 30, .tmp 3] (QReadPost w (bs s)) .ret g w9 := by
          intro g w9 n x y a b c d hE hB g2 g3 r1 r2 hq l1 l2
          obtain ⟨q0, q1, q2⟩ := qbx hB
          refine ⟨by simp [go_sem, resOk, g2, q0, q1, q2, add_mk, rowV, rowOk], n, x, y, a, c, b, d, ?_, r1, r2, hq, l1, l2, hE⟩
          simp [go_sem, pack, resL, g2, g3, q0, q1, q2, add_mk, rowV]
        by_cases h1 : V = 0
        · refine W_if (t := false) (by simp [go_sem, h1]) rfl ?_
          refine W_skip ?_
          refine hK3 _ _ ?_
          refine W_seq (fun K4 hK4 => ?_)
          first | refine W_rt (by kernel_rfl) (fun K hK => ?_) | refine W_text (by kernel_rfl) (fun K hK => ?_)
          simp [go_sem, g0, g4]
          refine hK _ _ ?_; clear hK K
          by_cases h2 : k = s.size
          · have c2 : (k : Int) = s.size := by omega
            refine W_if (t := true) (by simp [go_sem, c2]) rfl ?_
            have hD : Below w6.heap.size w6 w6.drew := Below.drew1 _
            replace hr3 := hr3.keep hD
            replace hB2 := hB2.keep hD
            replace hB6 := hB6.keep hD
            replace hE := hE.next hD
            obtain ⟨k0, k1⟩ := ibx hB6
            first | refine W_rd [(0, 0), (1, 1), (2, 1), (3, 2), (4, 0)] (by kernel_rfl) (by kernel_rfl) (fun K hK => ?_) | refine W_draw [(0, 0), (1, 1), (2, 1), (3, 2), (4, 0)] (by kernel_rfl) (by kernel_rfl) (fun K hK => ?_)
            simp [go_sem, k0, k1, add_mk, rowV, rowOk]
            refine hv_call (by simp [go_sem, k0, k1, add_mk]) rfl Try.call56 (fun R hR => ?_)
            simp [go_sem, k0, k1, add_mk]
            refine (ofR_any 1 _ (by decide)).mono ?_
            rintro e w7 ⟨a7, c7, rfl, hr7, hE7⟩
            refine ⟨_, rfl, (by assumption), hR _ _ ?_⟩
            clear hR R
            replace hr3 := hr3.keep hE7
            replace hB2 := hB2.keep hE7
            replace hB6 := hB6.keep hE7
            replace hE := hE.next hE7
            simp [go_sem]
            obtain ⟨X, hX⟩ : ∃ X, X = qv (decide (U < 0)) (lim U.natAbs) (lim 1) := ⟨_, rfl⟩
            have hX' : X = (U : Rat) := by rw [hX, qv_can, Rat.mkRat_one]
            have hcO := over_any (decide (U < 0)) (lim U.natAbs) (lim 1) a3 a7 c3 c7 1001 _ hr3 hr7 hUl (Nat.le_trans (lim_len 1 1 (by decide)) (by decide)) (by decide)
            rw [← hX] at hcO
            refine hv_call (by simp [go_sem]) rfl Try.call51 (fun R hR => ?_)
            simp [go_sem]
            refine (hcO).mono ?_
            rintro e w8 ⟨a8, c8, b8, d8, rfl, hr8, hs8, hz8, hy8, hE8⟩
            refine ⟨_, rfl, (by assumption), hR _ _ ?_⟩
            clear hR R
            replace hB2 := hB2.keep hE8
            replace hE := hE.next hE8
            simp [go_sem, qR]
            refine hv_store (b := b2) (off := 0) [.bool (decide (X.num < 0)), .slice a8 (lim X.num.natAbs).length c8, .slice b8 (lim X.den).length d8] (by simp [go_sem, g2]) rfl (by simp [go_sem, g2]) (by simp [go_sem, Value.cells, g2]) ty_size30 hB2 (by simp) (by simp [Value.oneCell']) (by decide) (fun w9 hS9 hB9 => ?_)
            simp [putC] at hB9
            replace hr8 := hr8.sto hS9 (hr8.nboxR hB2)
            replace hs8 := hs8.sto hS9 (hs8.nboxR hB2)
            replace hE := hE.nextS hS9 hle2
            simp [go_sem]
            refine hK _ _ ?_; clear hK K
            refine W_ret ?_
            repeat (first | refine thenG_ret ?_ | refine inBlock_ret ?_)
            have hf : slH (bs s) = false := by unfold slH; rw [bs_len, ← hke]; exact decide_eq_false (by omega)
            have hq : qrE (bs s) = 0 := by unfold qrE; rw [← hV, if_pos h1, if_pos hf]
            refine ret _ _ _ _ _ _ _ _ _ hE hB9 (by simp [go_sem, g2]) (by simp [go_sem, hq]) hr8 hs8 ?_ (by omega) (by omega)
            unfold qrR
            rw [if_pos hq, qrV, if_pos hf, ← hU, ← hX']; rfl
          · have c2 : ¬ (k : Int) = s.size := by omega
            have hks : k < s.size := by omega
            have hf : ¬ slH (bs s) = false := by unfold slH; rw [bs_len, ← hke, decide_eq_true hks]; decide
            have hw1 : IntKind.i64.wrap ((k : Int) + 1) = (k : Int) + 1 := IntWalk.i64_in _ (by omega)
            refine W_if (t := false) (by simp [go_sem, c2]) rfl ?_
            refine W_skip ?_
            refine hK4 _ _ ?_
            have hA2 : bs (s.extract (k + 1) s.size) = slB (bs s) := by
              rw [bs_ext, slB, ← hke]
              refine List.take_of_length_le ?_
              rw [List.length_drop, bs_len]; omega
            have hcB := fun w => readR_any (s.extract (k + 1) s.size) w
            rw [hA2] at hcB
            unfold ReadPost at hcB
            obtain ⟨L, hL⟩ : ∃ L, L = rdL (slB (bs s)) := ⟨_, rfl⟩
            obtain ⟨V2, hV2⟩ : ∃ V2, V2 = rdE (slB (bs s)) := ⟨_, rfl⟩
            have hLl : L.length ≤ 1000 := by rw [hL]; exact rdL_lenI _
            rw [← hL, ← hV2] at hcB
            first | refine W_rt (by kernel_rfl) (fun K hK => ?_) | refine W_text (by kernel_rfl) (fun K hK => ?_)
            simp [go_sem, g0, g4, hw1]
            refine ⟨by omega, ?_⟩
            refine hv_call (by simp [go_sem, g0, g4, hw1]) rfl Try.call83 (fun R hR => ?_)
            simp [go_sem, g0, g4, hw1]
            refine (hcB _).mono ?_
            rintro e w7 ⟨a7, c7, rfl, hr7, hE7⟩
            refine ⟨_, rfl, hR _ _ ?_⟩
            clear hR R
            replace hr3 := hr3.keep hE7
            replace hB2 := hB2.keep hE7
            replace hB6 := hB6.keep hE7
            replace hE := hE.next hE7
            simp [go_sem]
            refine hK _ _ ?_; clear hK K
            refine W_seq (fun K5 hK5 => ?_)
            first | refine W_rt (by kernel_rfl) (fun K hK => ?_) | refine W_text (by kernel_rfl) (fun K hK => ?_)
            simp [go_sem]
            refine hK _ _ ?_; clear hK K
            by_cases h5 : V2 = 0
            · refine W_if (t := false) (by simp [go_sem, h5]) rfl ?_
              refine W_skip ?_
              refine hK5 _ _ ?_
              refine W_seq (fun K6 hK6 => ?_)
              first | refine W_rt (by kernel_rfl) (fun K hK => ?_) | refine W_text (by kernel_rfl) (fun K hK => ?_)
              simp [go_sem]
              refine hK _ _ ?_; clear hK K
              have hLv : L = lim (dv (slB (bs s))) := by rw [hL]; unfold rdL; rw [if_pos (by rw [← hV2]; exact h5)]
              by_cases h6 : L.length = 0
              · have c6 : (L.length : Int) = 0 := by omega
                have h7 : dv (slB (bs s)) = 0 := by
                  have := List.length_eq_zero_iff.1 h6
                  rw [this] at hLv
                  have h8 := val_lim (dv (slB (bs s)))
                  rw [← hLv] at h8
                  exact h8.symm
                have hq : qrE (bs s) = 3 := by unfold qrE; rw [← hV, if_pos h1, if_neg hf, ← hV2, if_pos h5, if_pos h7]
                have hn := List.length_eq_zero_iff.1 h6
                refine W_if (t := true) (by simp [go_sem, hn]) rfl ?_
                first | refine W_rt (by kernel_rfl) (fun K hK => ?_) | refine W_text (by kernel_rfl) (fun K hK => ?_)
                simp [go_sem]
                refine hv_build #[.bool false, .slice none 0 0, .slice none 0 0] (by simp [go_sem]) rfl ty_stZ30 [] (by simp [go_sem]) rfl ?_
                simp [go_sem]
                refine hv_store (b := b2) (off := 0) [.bool false, .slice none 0 0, .slice none 0 0] (by simp [go_sem, g2]) rfl (by simp [go_sem, g2]) (by simp [go_sem, Value.cells, g2]) ty_size30 hB2 (by simp) (by simp [Value.oneCell']) (by decide) (fun w8 hS8 hB8 => ?_)
                simp [putC] at hB8
                simp [go_sem]
                refine hK _ _ ?_; clear hK K
                refine W_ret ?_
                repeat (first | refine thenG_ret ?_ | refine inBlock_ret ?_)
                exact ret _ _ false [] [] none none 0 0 (hE.nextS hS8 hle2) hB8 (by simp [go_sem, g2]) (by simp [go_sem, hq]) (RD.nil _ _ _) (RD.nil _ _ _) (by unfold qrR; rw [if_neg (by rw [hq]; decide)]) (by simp) (by simp)
              · have c6 : ¬ (L.length : Int) = 0 := by omega
                have h7 : ¬ dv (slB (bs s)) = 0 := by
                  intro e
                  rw [e, lim_zero] at hLv
                  rw [hLv] at h6; exact h6 rfl
                have hq : qrE (bs s) = 0 := by unfold qrE; rw [← hV, if_pos h1, if_neg hf, ← hV2, if_pos h5, if_neg h7]
                have hn : ¬ L = [] := fun e => h6 (by rw [e]; rfl)
                refine W_if (t := false) (by simp [go_sem, hn]) rfl ?_
                refine W_skip ?_
                refine hK6 _ _ ?_
                obtain ⟨k0, k1⟩ := ibx hB6
                obtain ⟨X, hX⟩ : ∃ X, X = qv (decide (U < 0)) (lim U.natAbs) L := ⟨_, rfl⟩
                have hX' : X = (U : Rat) / (dv (slB (bs s)) : Rat) := by rw [hX, hLv, qv_can, Rat.mkRat_eq_div]
                have hcO := over_any (decide (U < 0)) (lim U.natAbs) L a3 a7 c3 c7 1001 _ hr3 hr7 hUl (by omega) (by decide)
                rw [← hX] at hcO
                first | refine W_rt (by kernel_rfl) (fun K hK => ?_) | refine W_text (by kernel_rfl) (fun K hK => ?_)
                simp [go_sem, k0, k1, add_mk, rowV, rowOk]
                refine hv_call (by simp [go_sem, k0, k1, add_mk, rowV, rowOk]) rfl Try.call51 (fun R hR => ?_)
                simp [go_sem, k0, k1, add_mk, rowV, rowOk]
                refine (hcO).mono ?_
                rintro e w8 ⟨a8, c8, b8, d8, rfl, hr8, hs8, hz8, hy8, hE8⟩
                refine ⟨_, rfl, hR _ _ ?_⟩
                clear hR R
                replace hB2 := hB2.keep hE8
                replace hE := hE.next hE8
                simp [go_sem, qR]
                refine hv_store (b := b2) (off := 0) [.bool (decide (X.num < 0)), .slice a8 (lim X.num.natAbs).length c8, .slice b8 (lim X.den).length d8] (by simp [go_sem, g2]) rfl (by simp [go_sem, g2]) (by simp [go_sem, Value.cells, g2]) ty_size30 hB2 (by simp) (by simp [Value.oneCell']) (by decide) (fun w9 hS9 hB9 => ?_)
                simp [putC] at hB9
                replace hr8 := hr8.sto hS9 (hr8.nboxR hB2)
                replace hs8 := hs8.sto hS9 (hs8.nboxR hB2)
                replace hE := hE.nextS hS9 hle2
                simp [go_sem]
                refine hK _ _ ?_; clear hK K
                refine W_ret ?_
                repeat (first | refine thenG_ret ?_ | refine inBlock_ret ?_)
                refine ret _ _ _ _ _ _ _ _ _ hE hB9 (by simp [go_sem, g2]) (by simp [go_sem, hq]) hr8 hs8 ?_ (by omega) (by omega)
                unfold qrR
                rw [if_pos hq, qrV, if_neg hf, ← hU, ← hX']; rfl
            · have hq : qrE (bs s) = V2 := by unfold qrE; rw [← hV, if_pos h1, if_neg hf, ← hV2, if_neg h5]
              refine W_if (t := true) (by simp [go_sem, h5]) rfl ?_
              first | refine W_rt (by kernel_rfl) (fun K hK => ?_) | refine W_text (by kernel_rfl) (fun K hK => ?_)
              simp [go_sem]
              refine hv_build #[.bool false, .slice none 0 0, .slice none 0 0] (by simp [go_sem]) rfl ty_stZ30 [] (by simp [go_sem]) rfl ?_
              simp [go_sem]
              refine hv_store (b := b2) (off := 0) [.bool false, .slice none 0 0, .slice none 0 0] (by simp [go_sem, g2]) rfl (by simp [go_sem, g2]) (by simp [go_sem, Value.cells, g2]) ty_size30 hB2 (by simp) (by simp [Value.oneCell']) (by decide) (fun w8 hS8 hB8 => ?_)
              simp [putC] at hB8
              simp [go_sem]
              refine hK _ _ ?_; clear hK K
              refine W_ret ?_
              repeat (first | refine thenG_ret ?_ | refine inBlock_ret ?_)
              exact ret _ _ false [] [] none none 0 0 (hE.nextS hS8 hle2) hB8 (by simp [go_sem, g2]) (by simp [go_sem, hq]) (RD.nil _ _ _) (RD.nil _ _ _) (by unfold qrR; rw [if_neg (by rw [hq]; exact h5)]) (by simp) (by simp)
        · have hq : qrE (bs s) = V := by unfold qrE; rw [← hV, if_neg h1]
          refine W_if (t := true) (by simp [go_sem, h1]) rfl ?_
          first | refine W_rt (by kernel_rfl) (fun K hK => ?_) | refine W_text (by kernel_rfl) (fun K hK => ?_)
          simp [go_sem]
          refine hv_build #[.bool false, .slice none 0 0, .slice none 0 0] (by simp [go_sem]) rfl ty_stZ30 [] (by simp [go_sem]) rfl ?_
          simp [go_sem]
          refine hv_store (b := b2) (off := 0) [.bool false, .slice none 0 0, .slice none 0 0] (by simp [go_sem, g2]) rfl (by simp [go_sem, g2]) (by simp [go_sem, Value.cells, g2]) ty_size30 hB2 (by simp) (by simp [Value.oneCell']) (by decide) (fun w7 hS7 hB7 => ?_)
          simp [putC] at hB7
          simp [go_sem]
          refine hK _ _ ?_; clear hK K
          refine W_ret ?_
          repeat (first | refine thenG_ret ?_ | refine inBlock_ret ?_)
          exact ret _ _ false [] [] none none 0 0 (hE.nextS hS7 hle2) hB7 (by simp [go_sem, g2]) (by simp [go_sem, hq]) (RD.nil _ _ _) (RD.nil _ _ _) (by unfold qrR; rw [if_neg (by rw [hq]; exact h1)]) (by simp) (by simp)
end Go.Proofs.Ytnclpllmidlbbaa
