/- strings.Join with ", ", for two to sixteen strings. -/
import Derived.Test.YtkampmdekonjmaaSb2
namespace Go.Proofs.Ytkampmdekonjmaa
open Go.RowKit Go.V Go.Shelf
set_option linter.unusedSimpArgs false
set_option linter.unusedVariables false
set_option maxRecDepth 20000
def strC (l : List (List UInt8)) : List Value := l.map fun x => .string ⟨x.toArray⟩
theorem strC_len (l : List (List UInt8)) : (strC l).length = l.length := by simp [strC]
theorem strC_at {l : List (List UInt8)} {i : Nat} (h : i < l.length) : (strC l).getD i undef = .string ⟨(l[i]'h).toArray⟩ := by
  simp [strC, List.getD_eq_getElem?_getD, h]
def sumL (l : List (List UInt8)) : Nat := (l.map List.length).sum
theorem sumL_snoc (l : List (List UInt8)) (x : List UInt8) : sumL (l ++ [x]) = sumL l + x.length := by simp [sumL]
theorem sumL_le {l : List (List UInt8)} {M : Nat} (h : ∀ x ∈ l, x.length ≤ M) : sumL l ≤ l.length * M := by
  induction l with
  | nil => simp [sumL]
  | cons x r ih =>
    have h1 := ih fun y hy => h y (List.mem_cons_of_mem _ hy)
    have h2 := h x (List.mem_cons_self ..)
    simp only [sumL, List.map_cons, List.sum_cons, List.length_cons, Nat.succ_mul] at *
    omega
def joinT (l : List (List UInt8)) : List UInt8 := l.flatMap fun y => [44, 32] ++ y
theorem joinT_snoc (l : List (List UInt8)) (x : List UInt8) : joinT (l ++ [x]) = joinT l ++ [44, 32] ++ x := by simp [joinT]
theorem joinT_len (l : List (List UInt8)) : (joinT l).length = 2 * l.length + sumL l := by
  induction l with
  | nil => rfl
  | cons x r ih => simp only [joinT, List.flatMap_cons, List.length_append, sumL, List.map_cons, List.sum_cons, List.length_cons, List.length_nil] at *; omega
def joinB : List (List UInt8) → List UInt8
  | [] => []
  | x :: r => x ++ joinT r
set_option maxHeartbeats 2000000 in
theorem join_any (xs : List (List UInt8)) (n : Nat) (hxn : xs.length = n) (ad : Option Addr) (cap : Nat) (w : World) (ha : SL w ad (strC xs)) (h2 : 2 ≤ n) (hn : n ≤ 16) (hcap : n ≤ cap) (hlen : ∀ x ∈ xs, x.length ≤ 1099511627776) :
    Calls Try.prog 34 #[.slice ad n cap, .string ⟨#[44, 32]⟩] w fun e w' => e = .returned (.string ⟨(joinB xs).toArray⟩) ∧ Below w.heap.size w w' := by
  have hsum : ∀ i, sumL (xs.take i) ≤ 16 * 1099511627776 := fun i => by
    have := sumL_le (l := xs.take i) (M := 1099511627776) fun x hx => hlen x (List.mem_of_mem_take hx)
    rw [List.length_take] at this
    exact Nat.le_trans this (Nat.mul_le_mul_right _ (by omega))
  refine calls_of_W (args := [.slice ad n cap, .string ⟨#[44, 32]⟩]) (rs := [.tmp 4]) (n := 75) Try.func34 rfl rfl rfl (by kernel_rfl) ?_
  have hA0 := Below.refl w.heap.size w
  first | refine W_rt (by kernel_rfl) (fun K hK => ?_) | refine W_text (by kernel_rfl) (fun K hK => ?_)
  simp [go_sem, add_mk, rowV, rowOk]
  refine hK _ _ ?_; clear hK K
  refine W_seq (fun K1 hK1 => ?_)
  first | refine W_rt (by kernel_rfl) (fun K hK => ?_) | refine W_text (by kernel_rfl) (fun K hK => ?_)
  simp [go_sem, add_mk, rowV, rowOk]
  refine hK _ _ ?_; clear hK K
  have c0 : ¬ n = 0 := by omega
  have c1 : ¬ (n : Int) = 1 := by omega
  have wn : IntKind.i64.wrap ((n : Int) - 1) = (n : Int) - 1 := IntWalk.i64_in _ (by omega)
  have d0 : ¬ (n : Int) - 1 = 0 := by omega
  refine W_block ?_
  first | refine W_rt (by kernel_rfl) (fun K hK => ?_) | refine W_text (by kernel_rfl) (fun K hK => ?_)
  simp [go_sem, add_mk, rowV, rowOk,  c0]
  refine hK _ _ ?_; clear hK K
  refine W_if (t := false) (by simp [go_sem, add_mk, rowV, rowOk, c0]) rfl ?_
  first | refine W_rt (by kernel_rfl) (fun K hK => ?_) | refine W_text (by kernel_rfl) (fun K hK => ?_)
  simp [go_sem, add_mk, rowV, rowOk,  c1]
  refine hK _ _ ?_; clear hK K
  refine W_if (t := false) (by simp [go_sem, add_mk, rowV, rowOk, c1]) rfl ?_
  refine W_skip ?_
  refine hK1 _ _ ?_
  first | refine W_rt (by kernel_rfl) (fun K hK => ?_) | refine W_text (by kernel_rfl) (fun K hK => ?_)
  simp [go_sem, add_mk, rowV, rowOk]
  refine hK _ _ ?_; clear hK K
  refine W_seq (fun K2 hK2 => ?_)
  first | refine W_rt (by kernel_rfl) (fun K hK => ?_) | refine W_text (by kernel_rfl) (fun K hK => ?_)
  simp [go_sem, add_mk, rowV, rowOk]
  refine hK _ _ ?_; clear hK K
  refine W_if (t := true) (by simp [go_sem, add_mk, rowV, rowOk]) rfl ?_
  refine W_seq (fun K3 hK3 => ?_)
  have hq : ¬ IntKind.i64.wrap (Int.tdiv 9223372036854775807 ((n : Int) - 1)) ≤ 2 := by
    rcases (by omega : n = 2 ∨ n = 3 ∨ n = 4 ∨ n = 5 ∨ n = 6 ∨ n = 7 ∨ n = 8 ∨ n = 9 ∨ n = 10 ∨ n = 11 ∨ n = 12 ∨ n = 13 ∨ n = 14 ∨ n = 15 ∨ n = 16) with rfl | rfl | rfl | rfl | rfl | rfl | rfl | rfl | rfl | rfl | rfl | rfl | rfl | rfl | rfl <;> decide
  have wn2 : IntKind.i64.wrap (2 * ((n : Int) - 1)) = 2 * ((n : Int) - 1) := IntWalk.i64_in _ (by omega)
  first | refine W_rt (by kernel_rfl) (fun K hK => ?_) | refine W_text (by kernel_rfl) (fun K hK => ?_)
  simp [go_sem, add_mk, rowV, rowOk,  wn, d0]
  refine hK _ _ ?_; clear hK K
  refine W_if (t := false) (by simp [go_sem, add_mk, rowV, rowOk, hq]) rfl ?_
  refine W_skip ?_
  refine hK3 _ _ ?_
  first | refine W_rt (by kernel_rfl) (fun K hK => ?_) | refine W_text (by kernel_rfl) (fun K hK => ?_)
  simp [go_sem, add_mk, rowV, rowOk,  wn, wn2]
  refine hK _ _ ?_; clear hK K
  refine hK2 _ _ ?_
  refine W_seq (fun K4 hK4 => ?_)
  first | refine W_rt (by kernel_rfl) (fun K hK => ?_) | refine W_text (by kernel_rfl) (fun K hK => ?_)
  simp [go_sem, add_mk, rowV, rowOk]
  refine hK _ _ ?_; clear hK K
  refine W_block ?_
  refine W_loop (fun m' g w' => Below w.heap.size w w' ∧ ∃ (i : Nat), i ≤ n ∧ m' = n - i ∧ g 0 = .slice ad n cap ∧ g 1 = .string ⟨#[44, 32]⟩ ∧ g 5 = .int .i64 ((2 * (n - 1) + sumL (xs.take i) : Nat) : Int) ∧ g 39 = .slice ad n cap ∧ g 40 = .int .i64 n ∧ g 41 = .int .i64 i) n ?_ ?_
  · refine ⟨hA0, 0, by omega, rfl, by simp [go_sem], by simp [go_sem], ?_, by simp [go_sem], by simp [go_sem], by simp [go_sem]⟩
    simp [go_sem, sumL]
    omega
  clear hA0
  rintro m' g w' ⟨hA0, i, hi, rfl, g0, g1, g5, g39, g40, g41⟩
  first | refine W_rt (by kernel_rfl) (fun K hK => ?_) | refine W_text (by kernel_rfl) (fun K hK => ?_)
  simp [go_sem, add_mk, rowV, rowOk, g0, g1, g5, g39, g40, g41]
  refine hK _ _ ?_; clear hK K
  refine W_seq (fun K5 hK5 => ?_)
  by_cases hlt : i < n
  · have c2 : (i : Int) < n := by omega
    have hw1 : IntKind.i64.wrap ((i : Int) + 1) = (i : Int) + 1 := IntWalk.i64_in _ (by omega)
    have hxi : i < xs.length := by omega
    have htk : xs.take (i + 1) = xs.take i ++ [xs[i]'hxi] := List.take_succ_eq_append_getElem hxi
    obtain ⟨q1, q2⟩ := (ha.ext hA0).getD (j := i) (by rw [strC_len]; exact hxi)
    rw [strC_at hxi] at q1
    have hxl := hlen _ (List.getElem_mem hxi)
    have hsi := hsum i
    have hsi1 := hsum (i + 1)
    generalize xs[i]'hxi = x at q1 htk hxl
    rw [htk, sumL_snoc] at hsi1
    obtain ⟨N, hN⟩ : ∃ N, 2 * (n - 1) + sumL (xs.take i) = N := ⟨_, rfl⟩
    rw [hN] at g5
    have hov : ¬ IntKind.i64.wrap (9223372036854775807 - (N : Int)) < (x.length : Int) := by
      rw [IntWalk.i64_in _ (by omega)]; omega
    have hws : IntKind.i64.wrap ((N : Int) + (x.length : Int)) = (N : Int) + x.length := IntWalk.i64_in _ (by omega)
    refine W_if (t := true) (by simp [go_sem, add_mk, rowV, rowOk, g0, g1, g5, g39, g40, g41, c2, hlt]) rfl ?_
    refine W_skip ?_
    refine hK5 _ _ ?_
    refine W_seq (fun K6 hK6 => ?_)
    refine W_block ?_
    first | refine W_rt (by kernel_rfl) (fun K hK => ?_) | refine W_text (by kernel_rfl) (fun K hK => ?_)
    simp [go_sem, add_mk, rowV, rowOk, g0, g1, g5, g39, g40, g41,  c2, hlt, q1, q2]
    refine hK _ _ ?_; clear hK K
    refine W_seq (fun K7 hK7 => ?_)
    first | refine W_rt (by kernel_rfl) (fun K hK => ?_) | refine W_text (by kernel_rfl) (fun K hK => ?_)
    simp [go_sem, add_mk, rowV, rowOk, g0, g1, g5, g39, g40, g41,  c2, hlt, q1, q2, ByteArray.size]
    refine hK _ _ ?_; clear hK K
    refine W_if (t := false) (by simp [go_sem, add_mk, rowV, rowOk, g0, g1, g5, g39, g40, g41, hov]) rfl ?_
    refine W_skip ?_
    refine hK7 _ _ ?_
    first | refine W_rt (by kernel_rfl) (fun K hK => ?_) | refine W_text (by kernel_rfl) (fun K hK => ?_)
    simp [go_sem, add_mk, rowV, rowOk, g0, g1, g5, g39, g40, g41,  hws, ByteArray.size]
    refine hK _ _ ?_; clear hK K
    refine hK6 _ _ ?_
    refine W_text (by kernel_rfl) (fun K hK => ?_)
    simp [go_sem, g41, hw1]
    refine hK _ _ ⟨n - (i + 1), by omega, hA0, i + 1, by omega, rfl, by simp [go_sem, g0], by simp [go_sem, g1], ?_, by simp [go_sem, g39], by simp [go_sem, g40], by simp [go_sem]⟩
    rw [htk, sumL_snoc]
    simp [go_sem]
    omega
  · have c2 : ¬ (i : Int) < n := by omega
    have hie : i = n := by omega
    have htn : xs.take i = xs := by rw [hie]; exact List.take_of_length_le (by omega)
    have hsn := hsum i
    rw [htn] at g5 hsn
    obtain ⟨N, hN⟩ : ∃ N, 2 * (n - 1) + sumL xs = N := ⟨_, rfl⟩
    rw [hN] at g5
    obtain ⟨x0, ys, rfl⟩ : ∃ x0 ys, xs = x0 :: ys := by
      cases xs with
      | nil => simp at hxn; omega
      | cons x r => exact ⟨x, r, rfl⟩
    have hyn : ys.length = n - 1 := by simp at hxn; omega
    have hx0 := hlen x0 (List.mem_cons_self ..)
    refine W_if (t := false) (by simp [go_sem, add_mk, rowV, rowOk, g0, g1, g5, g39, g40, g41, c2, hlt]) rfl ?_
    refine W_exit ?_
    repeat (first | refine thenG_exit ?_ | refine inBlock_other rfl ?_ | refine inBlock_same ?_)
    refine hK4 _ _ ?_
    first | refine W_rt (by kernel_rfl) (fun K hK => ?_) | refine W_text (by kernel_rfl) (fun K hK => ?_)
    simp [go_sem, add_mk, rowV, rowOk, g0, g1, g5, g39, g40, g41]
    refine hv_alloc (by simp [go_sem, add_mk, rowV, rowOk, g0, g1, g5, g39, g40, g41]) rfl ty_zeroC102 (fun w11 b11 hE11 hle11 hB11 => ?_)
    have hb11_0 := Nat.le_trans hA0.size hle11
    replace hA0 := hA0.next hE11
    simp [go_sem, add_mk, rowV, rowOk, g0, g1, g5, g39, g40, g41, hB11.cell]
    refine hK _ _ ?_; clear hK K
    first | refine W_rt (by kernel_rfl) (fun K hK => ?_) | refine W_text (by kernel_rfl) (fun K hK => ?_)
    simp [go_sem, add_mk, rowV, rowOk, g0, g1, g5, g39, g40, g41, hB11.cell]
    refine hv_call (by simp [go_sem, g5]) rfl Try.call70 (fun R hR => ?_)
    simp [go_sem, g5]
    refine (bdGrow_any b11 N w.heap.size _ hb11_0 hB11 hA0.size (by omega)).mono ?_
    rintro e w12 ⟨rfl, hbd, hE12⟩
    refine ⟨_, rfl, hR _ _ ?_⟩
    clear hR R
    replace hA0 := hA0.trans hE12
    clear hB11
    simp [go_sem, add_mk, rowV, rowOk, g0, g1, g5, g39, g40, g41]
    refine hK _ _ ?_; clear hK K
    obtain ⟨q1, q2⟩ := (ha.ext hA0).getD (j := 0) (by simp [strC])
    have q1' : w12.cell? (ad.getD default) = some (.string ⟨x0.toArray⟩) := by simpa [go_sem, strC] using q1
    have hn0 : 0 < n := by omega
    first | refine W_rt (by kernel_rfl) (fun K hK => ?_) | refine W_text (by kernel_rfl) (fun K hK => ?_)
    simp [go_sem, add_mk, rowV, rowOk, g0, g1, g5, g39, g40, g41,  q1', q2, hn0]
    refine hv_call (by simp [go_sem, q1', q2]) rfl Try.call71 (fun R hR => ?_)
    simp [go_sem, q1', q2]
    refine (writeString_any w.heap.size b11 [] x0 _ hbd (by simp; omega) hA0.size).mono ?_
    rintro e w13 ⟨rfl, hbd3, hE13⟩
    refine ⟨_, rfl, hR _ _ ?_⟩
    clear hR R
    replace hA0 := hA0.trans hE13
    simp [go_sem, add_mk, rowV, rowOk, g0, g1, g5, g39, g40, g41]
    refine hK _ _ ?_; clear hK K
    obtain ⟨ab, ao, rfl, _⟩ := ha.lt (by simp [strC])
    have hys : SL w (some ⟨ab, ao + 1, none⟩) (strC ys) := by
      rcases ha with h | ⟨b, off, e, h⟩
      · simp [strC] at h
      · injection e with e
        injection e with e1 e2
        subst e1; subst e2
        refine .inr ⟨ab, ao + 1, rfl, fun j v hj => ?_⟩
        have := h (j + 1) v (by simpa [strC] using hj)
        rwa [show ao + (j + 1) = ao + 1 + j by omega] at this
    have hsy : ∀ i, sumL (ys.take i) ≤ 16 * 1099511627776 := fun i => by
      have := sumL_le (l := ys.take i) (M := 1099511627776) fun x hx => hlen x (List.mem_cons_of_mem _ (List.mem_of_mem_take hx))
      rw [List.length_take] at this
      exact Nat.le_trans this (Nat.mul_le_mul_right _ (by omega))
    refine W_seq (fun K8 hK8 => ?_)
    have hn1 : (1 : Int) ≤ n := by omega
    have hca : ¬ cap = 1 := by omega
    first | refine W_rt (by kernel_rfl) (fun K hK => ?_) | refine W_text (by kernel_rfl) (fun K hK => ?_)
    simp [go_sem, add_mk, rowV, rowOk, g0, g1, g5, g39, g40, g41,  hn1, hca]
    refine hK _ _ ?_; clear hK K
    obtain ⟨m, hm⟩ : ∃ m, n - 1 = m := ⟨_, rfl⟩
    rw [hm] at hyn
    refine W_block ?_
    refine W_loop (fun m' g w' => Below w.heap.size w w' ∧ ∃ (i : Nat), i ≤ m ∧ m' = m - i ∧ Bd w.heap.size b11 (x0 ++ joinT (ys.take i)) w' ∧ g 1 = .string ⟨#[44, 32]⟩ ∧ g 8 = .pointer (some ⟨b11, 0, none⟩) ∧ g 63 = .slice (some ⟨ab, ao + 1, none⟩) m (cap - 1) ∧ g 64 = .int .i64 m ∧ g 65 = .int .i64 i) m ?_ ?_
    · exact ⟨hA0, 0, by omega, rfl, by simpa [joinT] using hbd3, by simp [go_sem, g1], by simp [go_sem], by simp [go_sem, hm], by simp [go_sem, hm], by simp [go_sem]⟩
    clear hA0 hbd hbd3
    rintro m' g w' ⟨hA0, i, hi2, rfl, hbd, g1, g8, g63, g64, g65⟩
    first | refine W_rt (by kernel_rfl) (fun K hK => ?_) | refine W_text (by kernel_rfl) (fun K hK => ?_)
    simp [go_sem, add_mk, rowV, rowOk, g1, g8, g63, g64, g65]
    refine hK _ _ ?_; clear hK K
    refine W_seq (fun K9 hK9 => ?_)
    by_cases hlt2 : i < m
    · have c3 : (i : Int) < m := by omega
      have hw1 : IntKind.i64.wrap ((i : Int) + 1) = (i : Int) + 1 := IntWalk.i64_in _ (by omega)
      have hyi : i < ys.length := by omega
      have htk : ys.take (i + 1) = ys.take i ++ [ys[i]'hyi] := List.take_succ_eq_append_getElem hyi
      obtain ⟨q3, q4⟩ := (hys.ext hA0).getD (j := i) (by rw [strC_len]; exact hyi)
      rw [strC_at hyi] at q3
      have q3' : w'.cell? ⟨ab, ao + 1 + i, none⟩ = some (.string ⟨(ys[i]'hyi).toArray⟩) := by simpa [add_mk] using q3
      have hxl := hlen _ (List.mem_cons_of_mem _ (List.getElem_mem hyi))
      have hsi := hsy i
      have hjl := joinT_len (ys.take i)
      rw [List.length_take] at hjl
      generalize ys[i]'hyi = x at q3' htk hxl
      have hl4 : (x0 ++ joinT (ys.take i)).length + ([44, 32] : List UInt8).length ≤ 140737488355328 := by
        rw [List.length_append, hjl]
        have h2 : ([44, 32] : List UInt8).length = 2 := rfl
        omega
      have hl5 : (x0 ++ joinT (ys.take i) ++ [44, 32]).length + x.length ≤ 140737488355328 := by
        rw [List.length_append, List.length_append, hjl]
        have h2 : ([44, 32] : List UInt8).length = 2 := rfl
        omega
      refine W_if (t := true) (by simp [go_sem, add_mk, rowV, rowOk, g1, g8, g63, g64, g65, c3, hlt2]) rfl ?_
      refine W_skip ?_
      refine hK9 _ _ ?_
      refine W_seq (fun K10 hK10 => ?_)
      refine W_block ?_
      first | refine W_rt (by kernel_rfl) (fun K hK => ?_) | refine W_text (by kernel_rfl) (fun K hK => ?_)
      simp [go_sem, add_mk, rowV, rowOk, g1, g8, g63, g64, g65,  c3, hlt2, q3']
      refine hK _ _ ?_; clear hK K
      first | refine W_rt (by kernel_rfl) (fun K hK => ?_) | refine W_text (by kernel_rfl) (fun K hK => ?_)
      simp [go_sem, add_mk, rowV, rowOk, g1, g8, g63, g64, g65]
      refine hv_call (by simp [go_sem, g1, g8]) rfl Try.call71 (fun R hR => ?_)
      simp [go_sem, g1, g8]
      refine (writeString_any w.heap.size b11 (x0 ++ joinT (ys.take i)) [44, 32] w' hbd hl4 hA0.size).mono ?_
      rintro e w14 ⟨rfl, hbd4, hE14⟩
      refine ⟨_, rfl, hR _ _ ?_⟩
      clear hR R
      replace hA0 := hA0.trans hE14
      simp [go_sem, add_mk, rowV, rowOk, g1, g8, g63, g64, g65]
      refine hK _ _ ?_; clear hK K
      first | refine W_rt (by kernel_rfl) (fun K hK => ?_) | refine W_text (by kernel_rfl) (fun K hK => ?_)
      simp [go_sem, add_mk, rowV, rowOk, g1, g8, g63, g64, g65]
      refine hv_call (by simp [go_sem, g1, g8]) rfl Try.call71 (fun R hR => ?_)
      simp [go_sem, g1, g8]
      refine (writeString_any w.heap.size b11 (x0 ++ joinT (ys.take i) ++ [44, 32]) x w14 hbd4 hl5 hA0.size).mono ?_
      rintro e w15 ⟨rfl, hbd5, hE15⟩
      refine ⟨_, rfl, hR _ _ ?_⟩
      clear hR R
      replace hA0 := hA0.trans hE15
      simp [go_sem, add_mk, rowV, rowOk, g1, g8, g63, g64, g65]
      refine hK _ _ ?_; clear hK K
      refine hK10 _ _ ?_
      refine W_text (by kernel_rfl) (fun K hK => ?_)
      simp [go_sem, g65, hw1]
      refine hK _ _ ⟨m - (i + 1), by omega, hA0, i + 1, by omega, rfl, ?_, by simp [go_sem, g1], by simp [go_sem, g8], by simp [go_sem, g63], by simp [go_sem, g64], by simp [go_sem]⟩
      rw [htk, joinT_snoc]
      simpa [List.append_assoc] using hbd5
    · have c3 : ¬ (i : Int) < m := by omega
      have hie2 : i = m := by omega
      have htm : ys.take i = ys := by rw [hie2]; exact List.take_of_length_le (by omega)
      rw [htm] at hbd
      refine W_if (t := false) (by simp [go_sem, add_mk, rowV, rowOk, g1, g8, g63, g64, g65, c3, hlt2]) rfl ?_
      refine W_exit ?_
      repeat (first | refine thenG_exit ?_ | refine inBlock_other rfl ?_ | refine inBlock_same ?_)
      refine hK8 _ _ ?_
      first | refine W_rt (by kernel_rfl) (fun K hK => ?_) | refine W_text (by kernel_rfl) (fun K hK => ?_)
      simp [go_sem, add_mk, rowV, rowOk, g1, g8, g63, g64, g65]
      refine hv_call (by simp [go_sem, g1, g8]) rfl Try.call72 (fun R hR => ?_)
      simp [go_sem, g1, g8]
      refine (bdString_any w.heap.size b11 _ _ hbd hA0.size).mono ?_
      rintro e w16 ⟨rfl, hE16⟩
      refine ⟨_, rfl, hR _ _ ?_⟩
      clear hR R
      replace hA0 := hA0.trans hE16
      simp [go_sem, add_mk, rowV, rowOk, g1, g8, g63, g64, g65]
      refine hK _ _ ?_; clear hK K
      refine W_ret ?_
      repeat (first | refine thenG_ret ?_ | refine inBlock_ret ?_)
      refine ⟨trivial, ?_, hA0⟩
      simp [go_sem, pack, resL, joinB]
end Go.Proofs.Ytkampmdekonjmaa
