/- Facts: Arity, Right. -/
import Derived.Test.YtkampmdekonjmaaRa6
import Derived.Test.YtkampmdekonjmaaFcN
namespace Go.Proofs.Ytkampmdekonjmaa
open Go Go.RowKit Go.V
set_option linter.unusedSimpArgs false
set_option linter.unusedVariables false
set_option maxRecDepth 20000
/-! ### Contracts, as calls -/
theorem ct_b {P : Program} {f s : Nat} {c : Ct} {w : World} {vs : List Value} {als : List At} {z : Bool} (h : c.ok P f) (hres : c.res = [[.b]]) (hs : s ≤ c.L) (hr : RepVs w c.args als vs) (hz : ∀ a ∈ als, a.sz ≤ s) (hF : c.F als = some [.b z]) :
    Calls P f vs.toArray w fun e w' => e = .returned (.bool z) ∧ Below w.heap.size w w' := by
  refine (h s w vs als _ hs hr hz hF).mono ?_
  rintro e w' ⟨rvs, he, hrv, _, hE⟩
  rw [hres] at hrv
  obtain ⟨v, rfl, h1⟩ := vs1 hrv
  obtain ⟨z', e1, rfl⟩ := repV_b.1 h1
  simp only [List.cons.injEq, At.b.injEq, and_true] at e1
  subst e1
  exact ⟨he, hE⟩
theorem ct_n {P : Program} {f s : Nat} {c : Ct} {w : World} {vs : List Value} {als : List At} {z : Int} (h : c.ok P f) (hres : c.res = [[.n]]) (hs : s ≤ c.L) (hr : RepVs w c.args als vs) (hz : ∀ a ∈ als, a.sz ≤ s) (hF : c.F als = some [.n z]) :
    Calls P f vs.toArray w fun e w' => e = .returned (.int .i64 z) ∧ Below w.heap.size w w' := by
  refine (h s w vs als _ hs hr hz hF).mono ?_
  rintro e w' ⟨rvs, he, hrv, _, hE⟩
  rw [hres] at hrv
  obtain ⟨v, rfl, h1⟩ := vs1 hrv
  obtain ⟨z', e1, rfl⟩ := repV_n.1 h1
  simp only [List.cons.injEq, At.n.injEq, and_true] at e1
  subst e1
  exact ⟨he, hE⟩
theorem ct_s {P : Program} {f s : Nat} {c : Ct} {w : World} {vs : List Value} {als : List At} {z : List UInt8} (h : c.ok P f) (hres : c.res = [[.s]]) (hs : s ≤ c.L) (hr : RepVs w c.args als vs) (hz : ∀ a ∈ als, a.sz ≤ s) (hF : c.F als = some [.s z]) :
    Calls P f vs.toArray w fun e w' => e = .returned (.string ⟨z.toArray⟩) ∧ Below w.heap.size w w' := by
  refine (h s w vs als _ hs hr hz hF).mono ?_
  rintro e w' ⟨rvs, he, hrv, _, hE⟩
  rw [hres] at hrv
  obtain ⟨v, rfl, h1⟩ := vs1 hrv
  obtain ⟨z', e1, rfl⟩ := repV_s.1 h1
  simp only [List.cons.injEq, At.s.injEq, and_true] at e1
  subst e1
  exact ⟨he, hE⟩
/-! ### Arity -/
def f_ar : List At → Option (List At)
  | [.n k] => some [.n (fAr k)]
  | _ => none
def GFa : Gam := gamOf []
theorem GFa_ok : GamOk Try.prog GFa := gamOk_of trivial
def tr_arity : Tr (List SA) := (.br (.eq (.var 0) (.lit 8)) (.leaf [(.n (.lit 2))]) (.br (.eq (.var 0) (.lit 1)) (.br (.eq (.var 0) (.lit 1)) (.leaf [(.n (.lit 3))]) (.br (.eq (.var 0) (.lit 2)) (.br (.eq (.var 0) (.lit 2)) (.leaf [(.n (.lit 4))]) (.br (.eq (.var 0) (.lit 7)) (.leaf [(.n (.lit 8))]) (.leaf [(.n (.lit 0))]))) (.br (.eq (.var 0) (.lit 3)) (.br (.eq (.var 0) (.lit 3)) (.leaf [(.n (.lit 4))]) (.br (.eq (.var 0) (.lit 7)) (.leaf [(.n (.lit 8))]) (.leaf [(.n (.lit 0))]))) (.br (.eq (.var 0) (.lit 4)) (.br (.eq (.var 0) (.lit 4)) (.leaf [(.n (.lit 4))]) (.br (.eq (.var 0) (.lit 7)) (.leaf [(.n (.lit 8))]) (.leaf [(.n (.lit 0))]))) (.br (.eq (.var 0) (.lit 6)) (.br (.eq (.var 0) (.lit 6)) (.leaf [(.n (.lit 4))]) (.br (.eq (.var 0) (.lit 7)) (.leaf [(.n (.lit 8))]) (.leaf [(.n (.lit 0))]))) (.br (.eq (.var 0) (.lit 9)) (.leaf [(.n (.lit 4))]) (.br (.eq (.var 0) (.lit 7)) (.leaf [(.n (.lit 8))]) (.leaf [(.n (.lit 0))])))))))) (.br (.eq (.var 0) (.lit 5)) (.leaf [(.n (.lit 3))]) (.br (.eq (.var 0) (.lit 2)) (.br (.eq (.var 0) (.lit 2)) (.leaf [(.n (.lit 4))]) (.br (.eq (.var 0) (.lit 7)) (.leaf [(.n (.lit 8))]) (.leaf [(.n (.lit 0))]))) (.br (.eq (.var 0) (.lit 3)) (.br (.eq (.var 0) (.lit 3)) (.leaf [(.n (.lit 4))]) (.br (.eq (.var 0) (.lit 7)) (.leaf [(.n (.lit 8))]) (.leaf [(.n (.lit 0))]))) (.br (.eq (.var 0) (.lit 4)) (.br (.eq (.var 0) (.lit 4)) (.leaf [(.n (.lit 4))]) (.br (.eq (.var 0) (.lit 7)) (.leaf [(.n (.lit 8))]) (.leaf [(.n (.lit 0))]))) (.br (.eq (.var 0) (.lit 6)) (.br (.eq (.var 0) (.lit 6)) (.leaf [(.n (.lit 4))]) (.br (.eq (.var 0) (.lit 7)) (.leaf [(.n (.lit 8))]) (.leaf [(.n (.lit 0))]))) (.br (.eq (.var 0) (.lit 9)) (.leaf [(.n (.lit 4))]) (.br (.eq (.var 0) (.lit 7)) (.leaf [(.n (.lit 8))]) (.leaf [(.n (.lit 0))]))))))))))
theorem ev_arity : Ct.ok Try.prog 8 { args := [[.n]], res := [[.n]], F := fun als => tr_arity.den GFa (env0 als), L := 1000, A := 0, B := 0 } :=
  top_ok (by kernel_rfl) GFa_ok (plans := planF) (lf := 60) (k := 20) (by kernel_rfl)
def tr_rarity : Tr (List SA) := (.br (.eq (.var 0) (.lit 1)) (.br (.eq (.var 0) (.lit 1)) (.leaf [(.n (.lit 3))]) (.br (.eq (.var 0) (.lit 2)) (.br (.eq (.var 0) (.lit 2)) (.leaf [(.n (.lit 4))]) (.br (.eq (.var 0) (.lit 7)) (.leaf [(.n (.lit 8))]) (.br (.eq (.var 0) (.lit 8)) (.leaf [(.n (.lit 2))]) (.leaf [(.n (.lit 0))])))) (.br (.eq (.var 0) (.lit 3)) (.br (.eq (.var 0) (.lit 3)) (.leaf [(.n (.lit 4))]) (.br (.eq (.var 0) (.lit 7)) (.leaf [(.n (.lit 8))]) (.br (.eq (.var 0) (.lit 8)) (.leaf [(.n (.lit 2))]) (.leaf [(.n (.lit 0))])))) (.br (.eq (.var 0) (.lit 4)) (.br (.eq (.var 0) (.lit 4)) (.leaf [(.n (.lit 4))]) (.br (.eq (.var 0) (.lit 7)) (.leaf [(.n (.lit 8))]) (.br (.eq (.var 0) (.lit 8)) (.leaf [(.n (.lit 2))]) (.leaf [(.n (.lit 0))])))) (.br (.eq (.var 0) (.lit 6)) (.br (.eq (.var 0) (.lit 6)) (.leaf [(.n (.lit 4))]) (.br (.eq (.var 0) (.lit 7)) (.leaf [(.n (.lit 8))]) (.br (.eq (.var 0) (.lit 8)) (.leaf [(.n (.lit 2))]) (.leaf [(.n (.lit 0))])))) (.br (.eq (.var 0) (.lit 9)) (.leaf [(.n (.lit 4))]) (.br (.eq (.var 0) (.lit 7)) (.leaf [(.n (.lit 8))]) (.br (.eq (.var 0) (.lit 8)) (.leaf [(.n (.lit 2))]) (.leaf [(.n (.lit 0))]))))))))) (.br (.eq (.var 0) (.lit 5)) (.leaf [(.n (.lit 3))]) (.br (.eq (.var 0) (.lit 2)) (.br (.eq (.var 0) (.lit 2)) (.leaf [(.n (.lit 4))]) (.br (.eq (.var 0) (.lit 7)) (.leaf [(.n (.lit 8))]) (.br (.eq (.var 0) (.lit 8)) (.leaf [(.n (.lit 2))]) (.leaf [(.n (.lit 0))])))) (.br (.eq (.var 0) (.lit 3)) (.br (.eq (.var 0) (.lit 3)) (.leaf [(.n (.lit 4))]) (.br (.eq (.var 0) (.lit 7)) (.leaf [(.n (.lit 8))]) (.br (.eq (.var 0) (.lit 8)) (.leaf [(.n (.lit 2))]) (.leaf [(.n (.lit 0))])))) (.br (.eq (.var 0) (.lit 4)) (.br (.eq (.var 0) (.lit 4)) (.leaf [(.n (.lit 4))]) (.br (.eq (.var 0) (.lit 7)) (.leaf [(.n (.lit 8))]) (.br (.eq (.var 0) (.lit 8)) (.leaf [(.n (.lit 2))]) (.leaf [(.n (.lit 0))])))) (.br (.eq (.var 0) (.lit 6)) (.br (.eq (.var 0) (.lit 6)) (.leaf [(.n (.lit 4))]) (.br (.eq (.var 0) (.lit 7)) (.leaf [(.n (.lit 8))]) (.br (.eq (.var 0) (.lit 8)) (.leaf [(.n (.lit 2))]) (.leaf [(.n (.lit 0))])))) (.br (.eq (.var 0) (.lit 9)) (.leaf [(.n (.lit 4))]) (.br (.eq (.var 0) (.lit 7)) (.leaf [(.n (.lit 8))]) (.br (.eq (.var 0) (.lit 8)) (.leaf [(.n (.lit 2))]) (.leaf [(.n (.lit 0))]))))))))))
theorem ev_rarity : Ct.ok Try.prog 9 { args := [[.n]], res := [[.n]], F := fun als => tr_rarity.den GFa (env0 als), L := 1000, A := 0, B := 0 } :=
  top_ok (by kernel_rfl) GFa_ok (plans := planF) (lf := 60) (k := 20) (by kernel_rfl)
theorem fAr_none {k : Int} (h1 : ¬ k = 1) (h2 : ¬ k = 2) (h3 : ¬ k = 3) (h4 : ¬ k = 4) (h5 : ¬ k = 5) (h6 : ¬ k = 6) (h7 : ¬ k = 7) (h8 : ¬ k = 8) (h9 : ¬ k = 9) : fAr k = 0 := by
  unfold fAr
  simp only [h1, h2, h3, h4, h5, h6, h7, h8, h9, or_self, if_false]
theorem arity_den (k : Int) : tr_arity.den GFa (env0 [.n k]) = f_ar [.n k] := by
  by_cases h1 : k = 1
  · subst h1; kernel_rfl
  by_cases h2 : k = 2
  · subst h2; kernel_rfl
  by_cases h3 : k = 3
  · subst h3; kernel_rfl
  by_cases h4 : k = 4
  · subst h4; kernel_rfl
  by_cases h5 : k = 5
  · subst h5; kernel_rfl
  by_cases h6 : k = 6
  · subst h6; kernel_rfl
  by_cases h7 : k = 7
  · subst h7; kernel_rfl
  by_cases h8 : k = 8
  · subst h8; kernel_rfl
  by_cases h9 : k = 9
  · subst h9; kernel_rfl
  simp only [f_ar, fAr_none h1 h2 h3 h4 h5 h6 h7 h8 h9]
  simp only [tr_arity, Tr.den, evAll, SA.ev, BE.ev, IE.ev, SE.ev, LE.ev, env0, extE_eq, pickO, evN, evB, evS, evLen, evBit, evLst, At.len, At.bit, At.lst, op1, op2, op3, Nat.reduceLeDiff, Nat.reduceSub, Nat.reduceEqDiff, if_true, if_false, ite_true, ite_false, decide_true, decide_false, Bool.not_true, Bool.not_false, Nat.zero_le, Nat.sub_zero, List.getElem?_cons_zero, List.getElem?_cons_succ, List.getElem?_nil, h1, h2, h3, h4, h5, h6, h7, h8, h9]
  rfl
theorem rarity_den (k : Int) : tr_rarity.den GFa (env0 [.n k]) = f_ar [.n k] := by
  by_cases h1 : k = 1
  · subst h1; kernel_rfl
  by_cases h2 : k = 2
  · subst h2; kernel_rfl
  by_cases h3 : k = 3
  · subst h3; kernel_rfl
  by_cases h4 : k = 4
  · subst h4; kernel_rfl
  by_cases h5 : k = 5
  · subst h5; kernel_rfl
  by_cases h6 : k = 6
  · subst h6; kernel_rfl
  by_cases h7 : k = 7
  · subst h7; kernel_rfl
  by_cases h8 : k = 8
  · subst h8; kernel_rfl
  by_cases h9 : k = 9
  · subst h9; kernel_rfl
  simp only [f_ar, fAr_none h1 h2 h3 h4 h5 h6 h7 h8 h9]
  simp only [tr_rarity, Tr.den, evAll, SA.ev, BE.ev, IE.ev, SE.ev, LE.ev, env0, extE_eq, pickO, evN, evB, evS, evLen, evBit, evLst, At.len, At.bit, At.lst, op1, op2, op3, Nat.reduceLeDiff, Nat.reduceSub, Nat.reduceEqDiff, if_true, if_false, ite_true, ite_false, decide_true, decide_false, Bool.not_true, Bool.not_false, Nat.zero_le, Nat.sub_zero, List.getElem?_cons_zero, List.getElem?_cons_succ, List.getElem?_nil, h1, h2, h3, h4, h5, h6, h7, h8, h9]
  rfl
theorem ints1 {w : World} (k : Int) : RepVs w [[.n]] [.n k] [.int .i64 k] := ⟨[_], [], _, _, rfl, rfl, repV_n.2 ⟨k, rfl, rfl⟩, rfl, rfl⟩
theorem zs1 (k : Int) (s : Nat) : ∀ a ∈ [At.n k], a.sz ≤ s := fun a ha => by rw [List.mem_singleton.1 ha]; exact Nat.zero_le _
theorem arity_any (k : Int) (w : World) : Calls Try.prog 8 #[.int .i64 k] w fun e w' => e = .returned (.int .i64 (fAr k)) ∧ Below w.heap.size w w' :=
  ct_n ev_arity rfl (Nat.zero_le _) (ints1 k) (zs1 k 0) (arity_den k)
theorem rarity_any (k : Int) (w : World) : Calls Try.prog 9 #[.int .i64 k] w fun e w' => e = .returned (.int .i64 (fAr k)) ∧ Below w.heap.size w w' :=
  ct_n ev_rarity rfl (Nat.zero_le _) (ints1 k) (zs1 k 0) (rarity_den k)
/-! ### A number whose fields are zero -/
def qZero (a : Bool) (l m : List Nat) : Bool := !a && (decide (l.length = 0) && decide (m.length = 0))
def f_zero : List At → Option (List At)
  | [.r a l m] => some [.b (qZero a l m)]
  | _ => none
def tr_zero14 : Tr (List SA) := (.br (.not (.bit 0)) (.br (.eq (.len 0 1) (.lit 0)) (.leaf [(.b (.eq (.len 0 2) (.lit 0)))]) (.leaf [(.b (.lit false))])) (.leaf [(.b (.lit false))]))
theorem ev_zero14 : Ct.ok Try.prog 29 { args := [[.r]], res := [[.b]], F := fun als => tr_zero14.den GFa (env0 als), L := 1048576, A := 0, B := 0 } :=
  top_ok (by kernel_rfl) GFa_ok (plans := planF) (lf := 60) (k := 20) (by kernel_rfl)
def tr_none14 : Tr (List SA) := (.br (.not (.bit 0)) (.br (.eq (.len 0 1) (.lit 0)) (.leaf [(.b (.eq (.len 0 2) (.lit 0)))]) (.leaf [(.b (.lit false))])) (.leaf [(.b (.lit false))]))
theorem ev_none14 : Ct.ok Try.prog 31 { args := [[.r]], res := [[.b]], F := fun als => tr_none14.den GFa (env0 als), L := 1048576, A := 0, B := 0 } :=
  top_ok (by kernel_rfl) GFa_ok (plans := planF) (lf := 60) (k := 20) (by kernel_rfl)
theorem nat_i0 (x : Nat) : ((x : Int) = 0) = (x = 0) := by apply propext; omega
theorem zero14_den (a : Bool) (l m : List Nat) : tr_zero14.den GFa (env0 [.r a l m]) = f_zero [.r a l m] := by
  simp only [f_zero, qZero]
  cases a
  · by_cases h : l.length = 0
    · simp only [tr_zero14, Tr.den, evAll, SA.ev, BE.ev, IE.ev, SE.ev, LE.ev, env0, extE_eq, pickO, evN, evB, evS, evLen, evBit, evLst, At.len, At.bit, At.lst, op1, op2, op3, Nat.reduceLeDiff, Nat.reduceSub, Nat.reduceEqDiff, if_true, if_false, ite_true, ite_false, decide_true, decide_false, Bool.not_true, Bool.not_false, Nat.zero_le, Nat.sub_zero, List.getElem?_cons_zero, List.getElem?_cons_succ, List.getElem?_nil, nat_i0, eq_true h, Bool.true_and]
    · simp only [tr_zero14, Tr.den, evAll, SA.ev, BE.ev, IE.ev, SE.ev, LE.ev, env0, extE_eq, pickO, evN, evB, evS, evLen, evBit, evLst, At.len, At.bit, At.lst, op1, op2, op3, Nat.reduceLeDiff, Nat.reduceSub, Nat.reduceEqDiff, if_true, if_false, ite_true, ite_false, decide_true, decide_false, Bool.not_true, Bool.not_false, Nat.zero_le, Nat.sub_zero, List.getElem?_cons_zero, List.getElem?_cons_succ, List.getElem?_nil, nat_i0, h, Bool.true_and, Bool.false_and]
  · simp only [tr_zero14, Tr.den, evAll, SA.ev, BE.ev, IE.ev, SE.ev, LE.ev, env0, extE_eq, pickO, evN, evB, evS, evLen, evBit, evLst, At.len, At.bit, At.lst, op1, op2, op3, Nat.reduceLeDiff, Nat.reduceSub, Nat.reduceEqDiff, if_true, if_false, ite_true, ite_false, decide_true, decide_false, Bool.not_true, Bool.not_false, Nat.zero_le, Nat.sub_zero, List.getElem?_cons_zero, List.getElem?_cons_succ, List.getElem?_nil, Bool.false_and]
theorem none14_den (a : Bool) (l m : List Nat) : tr_none14.den GFa (env0 [.r a l m]) = f_zero [.r a l m] := by
  simp only [f_zero, qZero]
  cases a
  · by_cases h : l.length = 0
    · simp only [tr_none14, Tr.den, evAll, SA.ev, BE.ev, IE.ev, SE.ev, LE.ev, env0, extE_eq, pickO, evN, evB, evS, evLen, evBit, evLst, At.len, At.bit, At.lst, op1, op2, op3, Nat.reduceLeDiff, Nat.reduceSub, Nat.reduceEqDiff, if_true, if_false, ite_true, ite_false, decide_true, decide_false, Bool.not_true, Bool.not_false, Nat.zero_le, Nat.sub_zero, List.getElem?_cons_zero, List.getElem?_cons_succ, List.getElem?_nil, nat_i0, eq_true h, Bool.true_and]
    · simp only [tr_none14, Tr.den, evAll, SA.ev, BE.ev, IE.ev, SE.ev, LE.ev, env0, extE_eq, pickO, evN, evB, evS, evLen, evBit, evLst, At.len, At.bit, At.lst, op1, op2, op3, Nat.reduceLeDiff, Nat.reduceSub, Nat.reduceEqDiff, if_true, if_false, ite_true, ite_false, decide_true, decide_false, Bool.not_true, Bool.not_false, Nat.zero_le, Nat.sub_zero, List.getElem?_cons_zero, List.getElem?_cons_succ, List.getElem?_nil, nat_i0, h, Bool.true_and, Bool.false_and]
  · simp only [tr_none14, Tr.den, evAll, SA.ev, BE.ev, IE.ev, SE.ev, LE.ev, env0, extE_eq, pickO, evN, evB, evS, evLen, evBit, evLst, At.len, At.bit, At.lst, op1, op2, op3, Nat.reduceLeDiff, Nat.reduceSub, Nat.reduceEqDiff, if_true, if_false, ite_true, ite_false, decide_true, decide_false, Bool.not_true, Bool.not_false, Nat.zero_le, Nat.sub_zero, List.getElem?_cons_zero, List.getElem?_cons_succ, List.getElem?_nil, Bool.false_and]
theorem rats1 {w : World} {neg : Bool} {l m : List Nat} {a b : Option Addr} {c d : Nat} (hr : RD w a c l) (hs : RD w b d m) : RepVs w [[.r]] [.r neg l m] [.agg #[.bool neg, .slice a l.length c, .slice b m.length d]] := ⟨[_], [], _, _, rfl, rfl, repV_r.2 ⟨_, _, _, _, _, _, _, rfl, rfl, hr, hs⟩, rfl, rfl⟩
theorem zsr {neg : Bool} {l m : List Nat} {s : Nat} (hl : l.length ≤ s) (hm : m.length ≤ s) : ∀ x ∈ [At.r neg l m], x.sz ≤ s := fun x hx => by rw [List.mem_singleton.1 hx]; exact Nat.max_le.2 ⟨hl, hm⟩
theorem zero_any (neg : Bool) (l m : List Nat) (a b : Option Addr) (c d : Nat) (w : World) (hr : RD w a c l) (hs : RD w b d m) (hl : l.length ≤ 1048576) (hm : m.length ≤ 1048576) :
    Calls Try.prog 29 #[.agg #[.bool neg, .slice a l.length c, .slice b m.length d]] w fun e w' => e = .returned (.bool (qZero neg l m)) ∧ Below w.heap.size w w' :=
  ct_b ev_zero14 rfl (Nat.le_refl _) (rats1 hr hs) (zsr hl hm) (zero14_den neg l m)
theorem none_any (neg : Bool) (l m : List Nat) (a b : Option Addr) (c d : Nat) (w : World) (hr : RD w a c l) (hs : RD w b d m) (hl : l.length ≤ 1048576) (hm : m.length ≤ 1048576) :
    Calls Try.prog 31 #[.agg #[.bool neg, .slice a l.length c, .slice b m.length d]] w fun e w' => e = .returned (.bool (qZero neg l m)) ∧ Below w.heap.size w w' :=
  ct_b ev_none14 rfl (Nat.le_refl _) (rats1 hr hs) (zsr hl hm) (none14_den neg l m)
theorem rqRight_any (neg : Bool) (l m : List Nat) (a b : Option Addr) (c d : Nat) (w : World) (hr : RD w a c l) (hs : RD w b d m) (hl : l.length ≤ 1048576) (hm : m.length ≤ 1048576) :
    Calls Try.prog 30 #[.agg #[.bool neg, .slice a l.length c, .slice b m.length d]] w fun e w' => e = .returned (.bool (qRight neg l m)) ∧ Below w.heap.size w w' :=
  ct_b ok_rqright rfl (s := 1048576) (by decide) (rats1 hr hs) (zsr hl hm) rfl
/-! ### Right -/
def badA (N i : Int) : Bool := decide (i < 0) || decide (N ≤ i)
def fRat (k : Int) (neg : Bool) (l m : List Nat) : Bool := if k = 9 then qRight neg l m else qZero neg l m
def fRt (k : Int) (args : List Int) (N : Int) (neg : Bool) (l m : List Nat) : Int :=
  if fAr k = 0 then 8 else if ¬ args.length = fAr k then 1 else if args.any (badA N) = true then 2 else if fRat k neg l m = true then 0 else 1
def intC (l : List Int) : List Value := l.map fun z => .int .i64 z
theorem intC_at {l : List Int} {i : Nat} (h : i < l.length) : (intC l).getD i undef = .int .i64 (l.getD i 0) := by
  unfold intC
  simp [List.getD_eq_getElem?_getD, h]
theorem fbx {w : World} {b n cap c d : Nat} {k : Int} {ad a a' : Option Addr} {x y : Nat} {neg : Bool} {t : TypeId} (h : Bx w b #[.int .i64 k, .slice ad n cap, .bool neg, .slice a x c, .slice a' y d] t) :
    w.cell? ⟨b, 0, none⟩ = some (.int .i64 k) ∧ w.cell? ⟨b, 1, none⟩ = some (.slice ad n cap) ∧ w.cell? ⟨b, 2, none⟩ = some (.bool neg) ∧ w.cell? ⟨b, 3, none⟩ = some (.slice a x c) ∧ w.cell? ⟨b, 4, none⟩ = some (.slice a' y d) := ⟨h.cell 0, h.cell 1, h.cell 2, h.cell 3, h.cell 4⟩
theorem any_take {N : Int} {l : List Int} {i : Nat} (h : i < l.length) (h0 : (l.take i).any (badA N) = false) : (l.take (i + 1)).any (badA N) = badA N (l.getD i 0) := by
  rw [List.take_succ_eq_append_getElem h, List.any_append, h0, Bool.false_or]
  simp [List.getD_eq_getElem?_getD, h]
set_option maxHeartbeats 1000000 in
theorem fright_any (k : Int) (args : List Int) (N : Int) (neg : Bool) (l m : List Nat) (ad a b : Option Addr) (cap c d : Nat) (w : World) (ha : SL w ad (intC args)) (hn : args.length ≤ maxLen) (hr : RD w a c l) (hs : RD w b d m) (hl : l.length ≤ 1048576) (hm : m.length ≤ 1048576) :
    Calls Try.prog 10 #[.agg #[.int .i64 k, .slice ad args.length cap, .bool neg, .slice a l.length c, .slice b m.length d], .int .i64 N] w fun e w' => e = .returned (.int .i64 (fRt k args N neg l m)) ∧ Below w.heap.size w w' := by
  unfold maxLen at hn
  obtain ⟨R, hR⟩ : ∃ R, R = fRt k args N neg l m := ⟨_, rfl⟩
  rw [← hR]
  refine calls_of_W (args := [.agg #[.int .i64 k, .slice ad args.length cap, .bool neg, .slice a l.length c, .slice b m.length d], .int .i64 N]) (rs := [.tmp 4]) (n := 53) Try.func10 rfl rfl rfl (by kernel_rfl) ?_
  first | refine W_rt (by kernel_rfl) (fun K hK => ?_) | refine W_text (by kernel_rfl) (fun K hK => ?_)
  simp [go_sem]
  refine hv_box #[.int .i64 k, .slice ad args.length cap, .bool neg, .slice a l.length c, .slice b m.length d] (by simp [go_sem]) rfl (by simp [go_sem, Value.cells]) (fun w1 b1 hE1 hle1 hB1 => ?_)
  replace ha := ha.ext hE1
  replace hr := hr.keep hE1
  replace hs := hs.keep hE1
  have hE := hE1
  obtain ⟨k0, k1, k2, k3, k4⟩ := fbx hB1
  simp [go_sem]
  refine hK _ _ ?_; clear hK K
  first | refine W_rt (by kernel_rfl) (fun K hK => ?_) | refine W_text (by kernel_rfl) (fun K hK => ?_)
  simp [go_sem, k0, add_mk]
  refine hv_call (by simp [go_sem, k0, add_mk]) rfl Try.call8 (fun R hR => ?_)
  simp [go_sem, k0, add_mk]
  refine (arity_any k _).mono ?_
  rintro e w2 ⟨rfl, hE2⟩
  refine ⟨_, rfl, hR _ _ ?_⟩
  clear hR R
  replace ha := ha.ext hE2
  replace hr := hr.keep hE2
  replace hs := hs.keep hE2
  replace hB1 := hB1.keep hE2
  replace hE := hE.next hE2
  obtain ⟨k0, k1, k2, k3, k4⟩ := fbx hB1
  obtain ⟨A, hA⟩ : ∃ A, A = fAr k := ⟨_, rfl⟩
  rw [← hA]
  simp [go_sem]
  refine hK _ _ ?_; clear hK K
  refine W_seq (fun K1 hK1 => ?_)
  first | refine W_rt (by kernel_rfl) (fun K hK => ?_) | refine W_text (by kernel_rfl) (fun K hK => ?_)
  simp [go_sem]
  refine hK _ _ ?_; clear hK K
  by_cases h1 : A = 0
  · have hq : R = 8 := by rw [hR]; unfold fRt; rw [← hA, if_pos h1]
    refine W_if (t := true) (by simp [go_sem, h1]) rfl ?_
    first | refine W_rt (by kernel_rfl) (fun K hK => ?_) | refine W_text (by kernel_rfl) (fun K hK => ?_)
    simp [go_sem]
    refine hK _ _ ?_; clear hK K
    refine W_ret ?_
    repeat (first | refine thenG_ret ?_ | refine inBlock_ret ?_)
    refine ⟨trivial, ?_, hE⟩
    simp [go_sem, pack, resL, hq]
  refine W_if (t := false) (by simp [go_sem, h1]) rfl ?_
  refine W_skip ?_
  refine hK1 _ _ ?_
  refine W_seq (fun K2 hK2 => ?_)
  first | refine W_rt (by kernel_rfl) (fun K hK => ?_) | refine W_text (by kernel_rfl) (fun K hK => ?_)
  simp [go_sem, k1, add_mk]
  refine hK _ _ ?_; clear hK K
  by_cases h2 : ¬ args.length = A
  · have h2' : ¬ (args.length : Int) = A := by omega
    have hq : R = 1 := by rw [hR]; unfold fRt; rw [← hA, if_neg h1, if_pos h2]
    refine W_if (t := true) (by simp [go_sem, h2, h2']) rfl ?_
    first | refine W_rt (by kernel_rfl) (fun K hK => ?_) | refine W_text (by kernel_rfl) (fun K hK => ?_)
    simp [go_sem]
    refine hK _ _ ?_; clear hK K
    refine W_ret ?_
    repeat (first | refine thenG_ret ?_ | refine inBlock_ret ?_)
    refine ⟨trivial, ?_, hE⟩
    simp [go_sem, pack, resL, hq]
  replace h2 := Decidable.not_not.1 h2
  have h2' : (args.length : Int) = A := by omega
  refine W_if (t := false) (by simp [go_sem, h2, h2']) rfl ?_
  refine W_skip ?_
  refine hK2 _ _ ?_
  refine W_seq (fun K3 hK3 => ?_)
  first | refine W_rt (by kernel_rfl) (fun K hK => ?_) | refine W_text (by kernel_rfl) (fun K hK => ?_)
  simp [go_sem, k1, add_mk]
  refine hK _ _ ?_; clear hK K
  refine W_block ?_
  refine W_loop (fun m' g w' => w' = w2 ∧ ∃ i : Nat, i ≤ args.length ∧ m' = args.length - i ∧ (args.take i).any (badA N) = false ∧ g 1 = .int .i64 N ∧ g 2 = .pointer (some ⟨b1, 0, none⟩) ∧ g 19 = .slice ad args.length cap ∧ g 20 = .int .i64 args.length ∧ g 21 = .int .i64 i) args.length ?_ ?_
  · exact ⟨rfl, 0, by omega, rfl, rfl, by simp [go_sem], by simp [go_sem], by simp [go_sem], by simp [go_sem], by simp [go_sem]⟩
  rintro m' g w' ⟨rfl, i, hi, rfl, hany, g1, g2, g19, g20, g21⟩
  first | refine W_rt (by kernel_rfl) (fun K hK => ?_) | refine W_text (by kernel_rfl) (fun K hK => ?_)
  simp [go_sem, g20, g21]
  refine hK _ _ ?_; clear hK K
  refine W_seq (fun K4 hK4 => ?_)
  by_cases hlt : i < args.length
  · have c1 : (i : Int) < args.length := by omega
    have hw1 : IntKind.i64.wrap ((i : Int) + 1) = (i : Int) + 1 := IntWalk.i64_in _ (by omega)
    obtain ⟨q1, q2⟩ := ha.getD (j := i) (by simp [intC]; omega)
    rw [intC_at hlt] at q1
    have hnx := any_take hlt hany
    obtain ⟨z, hz⟩ : ∃ z, z = args.getD i 0 := ⟨_, rfl⟩
    rw [← hz] at q1 hnx
    refine W_if (t := true) (by simp [go_sem, c1, hlt]) rfl ?_
    refine W_skip ?_
    refine hK4 _ _ ?_
    refine W_seq (fun K5 hK5 => ?_)
    refine W_block ?_
    first | refine W_rt (by kernel_rfl) (fun K hK => ?_) | refine W_text (by kernel_rfl) (fun K hK => ?_)
    simp [go_sem, g19, g21, c1, hlt, q1, q2]
    refine hK _ _ ?_; clear hK K
    by_cases z1 : z < 0
    · have hb : badA N z = true := by unfold badA; rw [decide_eq_true z1]; rfl
      have hq : R = 2 := by
        rw [hR]; unfold fRt
        rw [← hA, if_neg h1, if_neg (fun h => h h2), if_pos]
        rw [List.any_eq_true]
        exact ⟨z, by rw [hz, List.getD_eq_getElem?_getD, List.getElem?_eq_getElem hlt]; exact List.getElem_mem hlt, hb⟩
      first | refine W_rt (by kernel_rfl) (fun K hK => ?_) | refine W_text (by kernel_rfl) (fun K hK => ?_)
      simp [go_sem, z1]
      refine hK _ _ ?_; clear hK K
      refine W_if (t := true) (by simp [go_sem, z1]) rfl ?_
      first | refine W_rt (by kernel_rfl) (fun K hK => ?_) | refine W_text (by kernel_rfl) (fun K hK => ?_)
      simp [go_sem]
      refine hK _ _ ?_; clear hK K
      refine W_ret ?_
      repeat (first | refine thenG_ret ?_ | refine inBlock_ret ?_)
      refine ⟨trivial, ?_, hE⟩
      simp [go_sem, pack, resL, hq]
    · by_cases z2 : N ≤ z
      · have hb : badA N z = true := by unfold badA; rw [decide_eq_true z2, Bool.or_true]
        have hq : R = 2 := by
          rw [hR]; unfold fRt
          rw [← hA, if_neg h1, if_neg (fun h => h h2), if_pos]
          rw [List.any_eq_true]
          exact ⟨z, by rw [hz, List.getD_eq_getElem?_getD, List.getElem?_eq_getElem hlt]; exact List.getElem_mem hlt, hb⟩
        first | refine W_rt (by kernel_rfl) (fun K hK => ?_) | refine W_text (by kernel_rfl) (fun K hK => ?_)
        simp [go_sem, z1, z2, g1]
        refine hK _ _ ?_; clear hK K
        refine W_if (t := true) (by simp [go_sem, z2]) rfl ?_
        first | refine W_rt (by kernel_rfl) (fun K hK => ?_) | refine W_text (by kernel_rfl) (fun K hK => ?_)
        simp [go_sem]
        refine hK _ _ ?_; clear hK K
        refine W_ret ?_
        repeat (first | refine thenG_ret ?_ | refine inBlock_ret ?_)
        refine ⟨trivial, ?_, hE⟩
        simp [go_sem, pack, resL, hq]
      · have hb : badA N z = false := by unfold badA; rw [decide_eq_false z1, decide_eq_false z2]; rfl
        first | refine W_rt (by kernel_rfl) (fun K hK => ?_) | refine W_text (by kernel_rfl) (fun K hK => ?_)
        simp [go_sem, z1, z2, g1]
        refine hK _ _ ?_; clear hK K
        refine W_if (t := false) (by simp [go_sem, z2]) rfl ?_
        refine W_skip ?_
        refine hK5 _ _ ?_
        refine W_text (by kernel_rfl) (fun K hK => ?_)
        simp [go_sem, g21, hw1]
        refine hK _ _ ⟨args.length - (i + 1), by omega, rfl, i + 1, by omega, rfl, by rw [hnx]; exact hb, by simp [go_sem, g1], by simp [go_sem, g2], by simp [go_sem, g19], by simp [go_sem, g20], by simp [go_sem]⟩
  · have c1 : ¬ (i : Int) < args.length := by omega
    have hie : i = args.length := by omega
    rw [hie, List.take_length] at hany
    refine W_if (t := false) (by simp [go_sem, c1, hlt]) rfl ?_
    refine W_exit ?_
    repeat (first | refine thenG_exit ?_ | refine inBlock_other rfl ?_ | refine inBlock_same ?_)
    refine hK3 _ _ ?_
    refine W_seq (fun K6 hK6 => ?_)
    have hbad : ¬ args.any (badA N) = true := by rw [hany]; decide
    have hR' : R = if fRat k neg l m = true then 0 else 1 := by
      rw [hR]; unfold fRt
      rw [← hA, if_neg h1, if_neg (fun h => h h2), if_neg hbad]
    by_cases h9 : k = 9
    · have hf : fRat k neg l m = qRight neg l m := if_pos h9
      rw [hf] at hR'
      subst h9
      first | refine W_rt (by kernel_rfl) (fun K hK => ?_) | refine W_text (by kernel_rfl) (fun K hK => ?_)
      simp [go_sem, k0, k2, k3, k4, g2, add_mk, rowV, rowOk]
      refine hv_call (by simp [go_sem, k0, k2, k3, k4, g2, add_mk, rowV, rowOk]) rfl Try.call28 (fun R hR => ?_)
      simp [go_sem, k0, k2, k3, k4, g2, add_mk, rowV, rowOk]
      refine (qRight_any neg l m a b c d _ hr hs (by omega) (by omega)).mono ?_
      rintro e w3 ⟨rfl, hE3⟩
      refine ⟨_, rfl, hR _ _ ?_⟩
      clear hR R
      replace hB1 := hB1.keep hE3
      replace hE := hE.next hE3
      obtain ⟨k0, k1, k2, k3, k4⟩ := fbx hB1
      cases hQ : qRight neg l m with
      | false =>
        rw [hQ] at hR'
        have hR2 : R = 1 := hR'
        simp [go_sem, k0, g2, add_mk]
        refine hK _ _ ?_; clear hK K
        refine W_if (t := true) (by simp [go_sem]) rfl ?_
        first | refine W_rt (by kernel_rfl) (fun K hK => ?_) | refine W_text (by kernel_rfl) (fun K hK => ?_)
        simp [go_sem]
        refine hK _ _ ?_; clear hK K
        refine W_ret ?_
        repeat (first | refine thenG_ret ?_ | refine inBlock_ret ?_)
        refine ⟨trivial, ?_, hE⟩
        simp [go_sem, pack, resL, hR2]
      | true =>
        rw [hQ] at hR'
        have hR2 : R = 0 := hR'
        simp [go_sem, k0, g2, add_mk]
        refine hK _ _ ?_; clear hK K
        refine W_if (t := false) (by simp [go_sem]) rfl ?_
        refine W_skip ?_
        refine hK6 _ _ ?_
        first | refine W_rt (by kernel_rfl) (fun K hK => ?_) | refine W_text (by kernel_rfl) (fun K hK => ?_)
        simp [go_sem]
        refine hK _ _ ?_; clear hK K
        refine W_ret ?_
        repeat (first | refine thenG_ret ?_ | refine inBlock_ret ?_)
        refine ⟨trivial, ?_, hE⟩
        simp [go_sem, pack, resL, hR2]
    · have hf : fRat k neg l m = qZero neg l m := if_neg h9
      rw [hf] at hR'
      first | refine W_rt (by kernel_rfl) (fun K hK => ?_) | refine W_text (by kernel_rfl) (fun K hK => ?_)
      simp [go_sem, k0, k2, k3, k4, g2, add_mk, rowV, rowOk, h9]
      refine hv_call (by simp [go_sem, k0, k2, k3, k4, g2, add_mk, rowV, rowOk, h9]) rfl Try.call29 (fun R hR => ?_)
      simp [go_sem, k0, k2, k3, k4, g2, add_mk, rowV, rowOk, h9]
      refine (zero_any neg l m a b c d _ hr hs hl hm).mono ?_
      rintro e w3 ⟨rfl, hE3⟩
      refine ⟨_, rfl, hR _ _ ?_⟩
      clear hR R
      replace hE := hE.next hE3
      cases hQ : qZero neg l m with
      | false =>
        rw [hQ] at hR'
        have hR2 : R = 1 := hR'
        simp [go_sem, h9]
        refine hK _ _ ?_; clear hK K
        refine W_if (t := true) (by simp [go_sem]) rfl ?_
        first | refine W_rt (by kernel_rfl) (fun K hK => ?_) | refine W_text (by kernel_rfl) (fun K hK => ?_)
        simp [go_sem]
        refine hK _ _ ?_; clear hK K
        refine W_ret ?_
        repeat (first | refine thenG_ret ?_ | refine inBlock_ret ?_)
        refine ⟨trivial, ?_, hE⟩
        simp [go_sem, pack, resL, hR2]
      | true =>
        rw [hQ] at hR'
        have hR2 : R = 0 := hR'
        simp [go_sem, h9]
        refine hK _ _ ?_; clear hK K
        refine W_if (t := false) (by simp [go_sem]) rfl ?_
        refine W_skip ?_
        refine hK6 _ _ ?_
        first | refine W_rt (by kernel_rfl) (fun K hK => ?_) | refine W_text (by kernel_rfl) (fun K hK => ?_)
        simp [go_sem]
        refine hK _ _ ?_; clear hK K
        refine W_ret ?_
        repeat (first | refine thenG_ret ?_ | refine inBlock_ret ?_)
        refine ⟨trivial, ?_, hE⟩
        simp [go_sem, pack, resL, hR2]
end Go.Proofs.Ytkampmdekonjmaa
