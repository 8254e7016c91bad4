/- Intervals: what the laws share. -/
import Derived.Test.YtifgdiejpglhfaaGreatIv6
import Derived.Test.YtifgdiejpglhfaaGreatRt2
namespace Go.Proofs.YtifgdiejpglhfaaGreat
open Go Go.RowKit Go.V
set_option linter.unusedSimpArgs false
set_option linter.unusedVariables false
set_option maxRecDepth 20000
def g_qsame : List QA → Option (List QA)
  | [.q x, .q y] => some [.b (decide (x = y))]
  | [.z, .z] => some [.b true]
  | _ => none
theorem qsame_Q (l r : List QA) (h : g_qsame l = some r) : (f_rrb fun a l m b k n => (a == b) && (decide (l = k) && decide (m = n))) (l.map QA.at) = some (r.map QA.at) := by
  unfold g_qsame at h
  split at h
  · injection h with h; subst h
    simp only [List.map, QA.at, qa, f_rrb, qsame_can]
  · injection h with h; subst h; rfl
  · cases h
def ct_drsame : Ct := { args := [[.r], [.r]], res := [[.b]], F := cq g_qsame, L := 100000000, A := 0, B := 0 }
theorem ok_drsame : ct_drsame.ok Tryz.prog 57 := Ct.ok.weaken ok_rqsame (of_cq qsame_Q)
def ct_drsameT : Ct := { args := [[.r], [.r]], res := [[(.kb true)]], F := cq (kG g_qsame [[(.kb true)]].flatten), L := 100000000, A := 0, B := 0 }
theorem ctF_drsameT : ct_drsameT.F = cq (kG g_qsame [(.kb true)]) := rfl
theorem ok_drsameT : ct_drsameT.ok Tryz.prog 57 := ok_kq ok_drsame rfl
def ct_drrightT : Ct := { args := [[.r]], res := [[(.kb true)]], F := cq (kG g_right [[(.kb true)]].flatten), L := 1000000000, A := 0, B := 0 }
theorem ctF_drrightT : ct_drrightT.F = cq (kG g_right [(.kb true)]) := rfl
theorem ok_drrightT : ct_drrightT.ok Tryz.prog 14 := ok_kq ok_drright rfl
def f_tt : List At → Option (List At)
  | [] => some [.b true]
  | _ => none
def GA4 : Gam := gamOf [(35, ct_dof), (38, ct_drof), (39, ct_drfrac), (29, ct_ivmul), (10, ct_ivsqrt), (37, ct_drequal), (76, ct_qright), (64, ct_dcmp)]
theorem GA4_ok : GamOk Tryz.prog GA4 := gamOk_of ⟨ok_dof, ok_drof, ok_drfrac, ok_ivmul, ok_ivsqrt, ok_drequal, ok_qright, ok_dcmp, trivial⟩
def tr_alive4 : Tr (List SA) := (.call 35 [(.n (.lit (-1)))] 0 (.call 35 [(.n (.lit 2))] 1 (.call 76 [(.ob 0)] 2 (.br (.not (.var 2)) (.call 35 [(.n (.lit 3))] 3 (.call 35 [(.n (.lit 4))] 4 (.call 76 [(.ob 3)] 5 (.br (.not (.var 5)) (.call 29 [(.r (.lit false) .nil .nil), (.r (.lit false) .nil .nil), (.r (.lit false) .nil .nil), (.r (.lit false) .nil .nil)] 6 (.call 35 [(.n (.lit 2))] 8 (.call 10 [(.ob 8), (.ob 8), (.n (.lit 1))] 9 (.leaf [(.b (.lit false))])))) (.call 76 [(.ob 4)] 6 (.br (.not (.var 6)) (.call 29 [(.r (.lit false) .nil .nil), (.r (.lit false) .nil .nil), (.r (.lit false) .nil .nil), (.r (.lit false) .nil .nil)] 7 (.call 35 [(.n (.lit 2))] 9 (.call 10 [(.ob 9), (.ob 9), (.n (.lit 1))] 10 (.leaf [(.b (.lit false))])))) (.call 64 [(.ob 3), (.ob 4)] 7 (.br (.lt (.lit 0) (.var 7)) (.call 29 [(.r (.lit false) .nil .nil), (.r (.lit false) .nil .nil), (.r (.lit false) .nil .nil), (.r (.lit false) .nil .nil)] 8 (.call 35 [(.n (.lit 2))] 10 (.call 10 [(.ob 10), (.ob 10), (.n (.lit 1))] 11 (.leaf [(.b (.lit false))])))) (.call 29 [(.r (.lit false) .nil .nil), (.r (.lit false) .nil .nil), (.ob 3), (.ob 4)] 8 (.call 35 [(.n (.lit 2))] 10 (.call 10 [(.ob 10), (.ob 10), (.n (.lit 1))] 11 (.leaf [(.b (.lit false))])))))))))))) (.call 76 [(.ob 1)] 3 (.br (.not (.var 3)) (.call 35 [(.n (.lit 3))] 4 (.call 35 [(.n (.lit 4))] 5 (.call 76 [(.ob 4)] 6 (.br (.not (.var 6)) (.call 29 [(.r (.lit false) .nil .nil), (.r (.lit false) .nil .nil), (.r (.lit false) .nil .nil), (.r (.lit false) .nil .nil)] 7 (.call 35 [(.n (.lit 2))] 9 (.call 10 [(.ob 9), (.ob 9), (.n (.lit 1))] 10 (.leaf [(.b (.lit false))])))) (.call 76 [(.ob 5)] 7 (.br (.not (.var 7)) (.call 29 [(.r (.lit false) .nil .nil), (.r (.lit false) .nil .nil), (.r (.lit false) .nil .nil), (.r (.lit false) .nil .nil)] 8 (.call 35 [(.n (.lit 2))] 10 (.call 10 [(.ob 10), (.ob 10), (.n (.lit 1))] 11 (.leaf [(.b (.lit false))])))) (.call 64 [(.ob 4), (.ob 5)] 8 (.br (.lt (.lit 0) (.var 8)) (.call 29 [(.r (.lit false) .nil .nil), (.r (.lit false) .nil .nil), (.r (.lit false) .nil .nil), (.r (.lit false) .nil .nil)] 9 (.call 35 [(.n (.lit 2))] 11 (.call 10 [(.ob 11), (.ob 11), (.n (.lit 1))] 12 (.leaf [(.b (.lit false))])))) (.call 29 [(.r (.lit false) .nil .nil), (.r (.lit false) .nil .nil), (.ob 4), (.ob 5)] 9 (.call 35 [(.n (.lit 2))] 11 (.call 10 [(.ob 11), (.ob 11), (.n (.lit 1))] 12 (.leaf [(.b (.lit false))])))))))))))) (.call 64 [(.ob 0), (.ob 1)] 4 (.br (.lt (.lit 0) (.var 4)) (.call 35 [(.n (.lit 3))] 5 (.call 35 [(.n (.lit 4))] 6 (.call 76 [(.ob 5)] 7 (.br (.not (.var 7)) (.call 29 [(.r (.lit false) .nil .nil), (.r (.lit false) .nil .nil), (.r (.lit false) .nil .nil), (.r (.lit false) .nil .nil)] 8 (.call 35 [(.n (.lit 2))] 10 (.call 10 [(.ob 10), (.ob 10), (.n (.lit 1))] 11 (.leaf [(.b (.lit false))])))) (.call 76 [(.ob 6)] 8 (.br (.not (.var 8)) (.call 29 [(.r (.lit false) .nil .nil), (.r (.lit false) .nil .nil), (.r (.lit false) .nil .nil), (.r (.lit false) .nil .nil)] 9 (.call 35 [(.n (.lit 2))] 11 (.call 10 [(.ob 11), (.ob 11), (.n (.lit 1))] 12 (.leaf [(.b (.lit false))])))) (.call 64 [(.ob 5), (.ob 6)] 9 (.br (.lt (.lit 0) (.var 9)) (.call 29 [(.r (.lit false) .nil .nil), (.r (.lit false) .nil .nil), (.r (.lit false) .nil .nil), (.r (.lit false) .nil .nil)] 10 (.call 35 [(.n (.lit 2))] 12 (.call 10 [(.ob 12), (.ob 12), (.n (.lit 1))] 13 (.leaf [(.b (.lit false))])))) (.call 29 [(.r (.lit false) .nil .nil), (.r (.lit false) .nil .nil), (.ob 5), (.ob 6)] 10 (.call 35 [(.n (.lit 2))] 12 (.call 10 [(.ob 12), (.ob 12), (.n (.lit 1))] 13 (.leaf [(.b (.lit false))])))))))))))) (.call 35 [(.n (.lit 3))] 5 (.call 35 [(.n (.lit 4))] 6 (.call 76 [(.ob 5)] 7 (.br (.not (.var 7)) (.call 29 [(.ob 0), (.ob 1), (.r (.lit false) .nil .nil), (.r (.lit false) .nil .nil)] 8 (.call 35 [(.n (.lit 2))] 10 (.call 10 [(.ob 10), (.ob 10), (.n (.lit 1))] 11 (.leaf [(.b (.lit false))])))) (.call 76 [(.ob 6)] 8 (.br (.not (.var 8)) (.call 29 [(.ob 0), (.ob 1), (.r (.lit false) .nil .nil), (.r (.lit false) .nil .nil)] 9 (.call 35 [(.n (.lit 2))] 11 (.call 10 [(.ob 11), (.ob 11), (.n (.lit 1))] 12 (.leaf [(.b (.lit false))])))) (.call 64 [(.ob 5), (.ob 6)] 9 (.br (.lt (.lit 0) (.var 9)) (.call 29 [(.ob 0), (.ob 1), (.r (.lit false) .nil .nil), (.r (.lit false) .nil .nil)] 10 (.call 35 [(.n (.lit 2))] 12 (.call 10 [(.ob 12), (.ob 12), (.n (.lit 1))] 13 (.leaf [(.b (.lit false))])))) (.call 29 [(.ob 0), (.ob 1), (.ob 5), (.ob 6)] 10 (.call 35 [(.n (.lit 2))] 12 (.call 10 [(.ob 12), (.ob 12), (.n (.lit 1))] 13 (.br (.eq (.var 15) (.lit 0)) (.call 38 [(.n (.lit (-4)))] 16 (.call 37 [(.ob 10), (.ob 16)] 17 (.br (.var 17) (.call 38 [(.n (.lit 8))] 18 (.call 37 [(.ob 11), (.ob 18)] 19 (.br (.var 19) (.call 38 [(.n (.lit 1))] 20 (.call 37 [(.ob 13), (.ob 20)] 21 (.br (.var 21) (.call 39 [(.n (.lit 3)), (.n (.lit 2))] 22 (.call 37 [(.ob 14), (.ob 22)] 23 (.leaf [(.b (.var 23))]))) (.leaf [(.b (.lit false))])))) (.leaf [(.b (.lit false))])))) (.leaf [(.b (.lit false))])))) (.leaf [(.b (.lit false))])))))))))))))))))))))
theorem ev_alive4 : Ct.ok Tryz.prog 7 { args := [], res := [[.b]], F := fun als => tr_alive4.den GA4 (env0 als), L := 1000, A := 0, B := 0 } :=
  top_ok (by kernel_rfl) GA4_ok (plans := planF) (lf := 60) (k := 20) (by kernel_rfl)
theorem alive4_den : tr_alive4.den GA4 (env0 []) = some [.b true] := by kernel_rfl
def ct_alive4 : Ct := { args := [], res := [[.b]], F := f_tt, L := 10000000, A := 0, B := 0 }
theorem ctF_alive4 : ct_alive4.F = f_tt := rfl
theorem ok_alive4 : ct_alive4.ok Tryz.prog 7 := by
  intro s w vs als r hs hr hz hF
  have h0 : als = [] := by
    have hF' : f_tt als = some r := hF
    unfold f_tt at hF'
    split at hF'
    · rfl
    · cases hF'
  subst h0
  injection hF with hF; subst hF
  refine (ev_alive4 0 w vs [] [.b true] (Nat.zero_le _) hr (fun a ha => by cases ha) alive4_den).mono ?_
  rintro e w' ⟨rvs, he, hrv, hsz, hb⟩
  exact ⟨rvs, he, hrv, fun a ha => by rw [List.mem_singleton.1 ha]; exact Nat.zero_le _, hb⟩
/-! ### What is small -/
def ivS (a : Bool) (l m : List Nat) (b : Bool) (k n : List Nat) : Prop := (l.length ≤ 8 ∧ m.length ≤ 8 ∧ k.length ≤ 8 ∧ n.length ≤ 8) ∧ qRight a l m = true ∧ qRight b k n = true ∧ qcmpv (qv a l m) (qv b k n) ≤ 0
instance (a : Bool) (l m : List Nat) (b : Bool) (k n : List Nat) : Decidable (ivS a l m b k n) := inferInstanceAs (Decidable (_ ∧ _))
def qS (x : Rat) : Prop := (lim x.num.natAbs).length ≤ 8 ∧ (lim x.den).length ≤ 8
theorem qS1 {x : Rat} (h : qS x) : ((8 : Int) < ((lim x.num.natAbs).length : Int)) = False := eq_false (by have := h.1; omega)
theorem qS2 {x : Rat} (h : qS x) : ((8 : Int) < ((lim x.den).length : Int)) = False := eq_false (by have := h.2; omega)
theorem qS_of {a : Bool} {l m : List Nat} (hl : Ok l) (hm : Ok m) (h : qRight a l m = true) (h1 : l.length ≤ 8) (h2 : m.length ≤ 8) : At.r a l m = QA.at (.q (qv a l m)) ∧ qS (qv a l m) := by
  have hc := qRight_can' hl hm h
  refine ⟨isCan_eq hc, ?_⟩
  obtain ⟨_, e1, e2⟩ := hc
  exact ⟨by rw [← e1]; exact h1, by rw [← e2]; exact h2⟩
theorem ivS_q {a : Bool} {l m : List Nat} {b : Bool} {k n : List Nat} (o1 : Ok l ∧ Ok m) (o2 : Ok k ∧ Ok n) (h : ivS a l m b k n) : ∃ x y : Rat, At.r a l m = QA.at (.q x) ∧ At.r b k n = QA.at (.q y) ∧ x ≤ y ∧ qS x ∧ qS y := by
  obtain ⟨⟨h1, h2, h3, h4⟩, r1, r2, hc⟩ := h
  obtain ⟨e1, q1⟩ := qS_of o1.1 o1.2 r1 h1 h2
  obtain ⟨e2, q2⟩ := qS_of o2.1 o2.2 r2 h3 h4
  rw [cmp_le] at hc
  exact ⟨_, _, e1, e2, hc, q1, q2⟩
theorem qS_sz {x : Rat} (h : qS x) : (QA.at (.q x)).sz ≤ 8 := Nat.max_le.2 h
theorem szM_cons {D : Nat} {x : At} {r : List At} (h : x.sz ≤ D) (h' : szM r ≤ D) : szM (x :: r) ≤ D := Nat.max_le.2 ⟨h, h'⟩
theorem sz_n {D : Nat} {x : Int} : (At.n x).sz ≤ D := Nat.zero_le _
theorem iv_split {w : World} {als : List At} {v : Value} (h : RepV w [.r, .r] als v) : ∃ a l m b k n, als = [.r a l m, .r b k n] ∧ (Ok l ∧ Ok m) ∧ (Ok k ∧ Ok n) := by
  obtain ⟨ho, hs⟩ := RepV_okA h
  obtain ⟨e1, e2, rfl⟩ : ∃ e1 e2, als = [e1, e2] := by
    have hl : als.length = 2 := by have := congrArg List.length hs; simpa using this
    match als, hl with
    | [e1, e2], _ => exact ⟨_, _, rfl⟩
  simp only [List.map_cons, List.map_nil, List.cons.injEq, and_true] at hs
  obtain ⟨a, l, m, rfl⟩ := sh_r hs.1
  obtain ⟨b, k, n, rfl⟩ := sh_r hs.2
  exact ⟨a, l, m, b, k, n, rfl, ho (.r a l m) (by simp), ho (.r b k n) (by simp)⟩
theorem r_split {w : World} {als : List At} {v : Value} (h : RepV w [.r] als v) : ∃ a l m, als = [.r a l m] ∧ (Ok l ∧ Ok m) := by
  obtain ⟨ho, hs⟩ := RepV_okA h
  obtain ⟨a, l, m, _, _, _, _, rfl, _⟩ := repV_r.1 h
  exact ⟨a, l, m, rfl, ho (.r a l m) (by simp)⟩
theorem z_bound {B : Nat} {als : List At} (h : ∀ a ∈ als, a.rngB B) (hb : B ≤ 1048576) : ∀ a ∈ als, a.sz ≤ 1048576 := fun a ha => Nat.le_trans (h a ha).2 hb
theorem z_app {l1 l2 : List At} {B : Nat} (h1 : ∀ a ∈ l1, a.sz ≤ B) (h2 : ∀ a ∈ l2, a.sz ≤ B) : ∀ a ∈ l1 ++ l2, a.sz ≤ B := fun a ha => (List.mem_append.1 ha).elim (h1 a) (h2 a)
theorem z_n {z : Int} {B : Nat} : ∀ a ∈ [At.n z], a.sz ≤ B := fun a ha => by rw [List.mem_singleton.1 ha]; exact Nat.zero_le _
end Go.Proofs.YtifgdiejpglhfaaGreat
