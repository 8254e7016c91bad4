/- Natural numbers, fifth part: limb, Cmp, Same. -/
import Derived.Test.YtomniiobaonloaaNt4
namespace Go.Proofs.Ytomniiobaonloaa
open Go.RowKit Go.V
set_option linter.unusedSimpArgs false
set_option linter.unusedVariables false

theorem val_drop_div : ∀ (i : Nat) (l : List Nat), Ok l → val (l.drop i) = val l / 65536 ^ i
  | 0, l, _ => by simp
  | i + 1, [], _ => by simp [val]
  | i + 1, x :: l, h => by
    have hx := h.head
    rw [List.drop_succ_cons, val_drop_div i l h.tail, Nat.pow_succ, Nat.mul_comm, ← Nat.div_div_eq_div_mul]
    congr 1
    simp only [val]; omega
theorem val_drop' (l : List Nat) (i : Nat) : val (l.drop i) = lat l i + 65536 * val (l.drop (i + 1)) := by
  by_cases h : i < l.length
  · exact val_drop l i h
  · rw [List.drop_eq_nil_of_le (by omega), List.drop_eq_nil_of_le (by omega), lat_out (by omega)]; rfl
theorem lt_of_drop (l m : List Nat) (hl : Ok l) (hm : Ok m) (i : Nat) (h : val (l.drop i) < val (m.drop i)) : val l < val m := by
  rw [val_drop_div i l hl, val_drop_div i m hm] at h
  exact Nat.lt_of_div_lt_div h
theorem cmp_step (l m : List Nat) (hl : Ok l) (hm : Ok m) (i : Nat) (h : val (l.drop (i + 1)) = val (m.drop (i + 1))) (hlt : lat l i < lat m i) : val l < val m := by
  refine lt_of_drop l m hl hm i ?_
  rw [val_drop' l i, val_drop' m i, h]; omega
def cmpV (a b : Nat) : Int := if a < b then -1 else if b < a then 1 else 0
theorem cmpV_lt {a b : Nat} (h : a < b) : cmpV a b = -1 := by unfold cmpV; rw [if_pos h]
theorem cmpV_gt {a b : Nat} (h : b < a) : cmpV a b = 1 := by unfold cmpV; rw [if_neg (by omega), if_pos h]
theorem cmpV_eq {a b : Nat} (h : a = b) : cmpV a b = 0 := by unfold cmpV; rw [if_neg (by omega), if_neg (by omega)]

set_option maxHeartbeats 1000000 in
theorem limb_any (l : List Nat) (a : Option Addr) (c i : Nat) (w : World) (hr : RD w a c l) :
    Calls Try.prog 46 #[.slice a l.length c, .int .i64 i] w fun e w' => e = .returned (.int .i64 (lat l i)) ∧ w = w' := by
  refine calls_of_W (args := [.slice a l.length c, .int .i64 i]) (rs := [.tmp 4]) (n := 14) Try.func46 rfl rfl rfl (by kernel_rfl) ?_
  refine W_rt (by kernel_rfl) (fun K hK => ?_)
  simp [go_sem]
  refine hK _ _ ?_; clear hK K
  refine W_seq (fun K1 hK1 => ?_)
  refine W_rt (by kernel_rfl) (fun K hK => ?_)
  simp [go_sem]
  refine hK _ _ ?_; clear hK K
  by_cases hi : i < l.length
  · have hi' : (i : Int) < l.length := by omega
    obtain ⟨c1, c2⟩ := hr.at hi
    have hx := lat_lt hr.ok i
    have h1 : IntKind.i64.wrap (↑(lat l i)) = ((lat l i : Nat) : Int) := IntWalk.i64_in _ (by omega)
    refine W_if (by simp [go_sem, hi, hi']; rfl) rfl ?_
    refine W_rt (by kernel_rfl) (fun K hK => ?_)
    simp [go_sem, hi, hi', c1, c2, h1]
    refine hK _ _ ?_; clear hK K
    refine W_ret ?_
    repeat (first | refine thenG_ret ?_ | refine inBlock_ret ?_)
    refine ⟨trivial, ?_, rfl⟩
    simp [go_sem, pack, resL]
  · have hi' : ¬ (i : Int) < l.length := by omega
    refine W_if (by simp [go_sem, hi, hi']; rfl) rfl ?_
    refine W_skip ?_
    refine hK1 _ _ ?_; clear hK1 K1
    refine W_rt (by kernel_rfl) (fun K hK => ?_)
    simp [go_sem]
    refine hK _ _ ?_; clear hK K
    refine W_ret ?_
    repeat (first | refine thenG_ret ?_ | refine inBlock_ret ?_)
    refine ⟨trivial, ?_, rfl⟩
    simp [go_sem, pack, resL, lat_out (Nat.le_of_not_lt hi)]

set_option maxHeartbeats 1000000 in
theorem cmpR_any (l m : List Nat) (a b : Option Addr) (c d : Nat) (w : World) (hr : RD w a c l) (hs : RD w b d m) (hl : l.length ≤ lenB) (hm : m.length ≤ lenB) :
    Calls Try.prog 22 #[.slice a l.length c, .slice b m.length d] w fun e w' => e = .returned (.int .i64 (cmpV (val l) (val m))) ∧ w = w' := by
  have hl' : l.length ≤ 1000000000000 := hl
  have hm' : m.length ≤ 1000000000000 := hm
  refine calls_of_W (args := [.slice a l.length c, .slice b m.length d]) (rs := [.tmp 4]) (n := 30) Try.func22 rfl rfl rfl (by kernel_rfl) ?_
  refine W_rt (by kernel_rfl) (fun K hK => ?_)
  simp [go_sem]
  refine hK _ _ ?_; clear hK K
  obtain ⟨M, hM⟩ : ∃ M : Nat, (if (l.length : Int) < m.length then (m.length : Int) else l.length) = M ∧ l.length ≤ M ∧ m.length ≤ M ∧ M ≤ 1000000000000 := by
    by_cases h : l.length < m.length
    · exact ⟨m.length, by rw [if_pos (by omega)], by omega, by omega, hm'⟩
    · exact ⟨l.length, by rw [if_neg (by omega)], by omega, by omega, hl'⟩
  obtain ⟨hM, hM1, hM2, hM3⟩ := hM
  have hM' : (if l.length < m.length then (m.length : Int) else l.length) = M := by
    rw [← hM]
    by_cases h : l.length < m.length
    · rw [if_pos h, if_pos (by omega)]
    · rw [if_neg h, if_neg (by omega)]
  have hw0 : IntKind.i64.wrap (↑M - 1) = (M : Int) - 1 := IntWalk.i64_in _ (by omega)
  refine W_seq (fun K1 hK1 => ?_)
  refine W_rt (by kernel_rfl) (fun K hK => ?_)
  simp [go_sem, outV_none, outOk_none, hM, hM', hw0]
  refine hK _ _ ?_; clear hK K
  refine W_block ?_
  refine W_loop (fun k g w' => w' = w ∧ k ≤ M ∧ g 0 = .slice a l.length c ∧ g 1 = .slice b m.length d ∧ g 5 = .int .i64 ((k : Int) - 1) ∧ val (l.drop k) = val (m.drop k)) M ?_ ?_
  · exact ⟨rfl, Nat.le_refl _, rfl, rfl, rfl, by rw [List.drop_eq_nil_of_le hM1, List.drop_eq_nil_of_le hM2]⟩
  · rintro k g w' ⟨rfl, hk, g0, g1, g5, hD⟩
    refine W_seq (fun K2 hK2 => ?_)
    rcases k with _ | i
    · have g5' : g 5 = .int .i64 (-1) := g5
      refine W_rt (by kernel_rfl) (fun K hK => ?_)
      simp [go_sem, g5']
      refine hK _ _ ?_; clear hK K
      refine W_if (by simp [go_sem]; rfl) rfl ?_
      refine W_exit ?_
      repeat (first | refine thenG_exit ?_ | refine inBlock_other rfl ?_ | refine inBlock_same ?_)
      refine hK1 _ _ ?_; clear hK1 K1 hK2 K2
      rw [List.drop_zero, List.drop_zero] at hD
      refine W_rt (by kernel_rfl) (fun K hK => ?_)
      simp [go_sem]
      refine hK _ _ ?_; clear hK K
      refine W_ret ?_
      repeat (first | refine thenG_ret ?_ | refine inBlock_ret ?_)
      refine ⟨trivial, ?_, rfl⟩
      simp [go_sem, pack, resL, cmpV_eq hD]
    · have g5' : g 5 = .int .i64 (i : Int) := by rw [g5]; congr 1; omega
      have hi0 : (0 : Int) ≤ i := by omega
      have h4 : IntKind.i64.wrap (↑i - 1) = (i : Int) - 1 := IntWalk.i64_in _ (by omega)
      refine W_rt (by kernel_rfl) (fun K hK => ?_)
      simp [go_sem, g5', hi0]
      refine hK _ _ ?_; clear hK K
      refine W_if (by simp [go_sem, hi0]; rfl) rfl ?_
      refine W_skip ?_
      refine hK2 _ _ ?_; clear hK2 K2
      refine W_seq (fun K2 hK2 => ?_)
      refine W_block ?_
      refine W_seq (fun K3 hK3 => ?_)
      refine W_rt (by kernel_rfl) (fun K hK => ?_)
      simp [go_sem, g0, g1, g5']
      refine hv_call (by simp [go_sem, g0, g1, g5']) rfl Try.call46 (fun R hR => ?_)
      simp [go_sem, g0, g1, g5']
      refine (limb_any l a c i _ hr).mono ?_
      rintro e w1 ⟨rfl, rfl⟩
      refine ⟨_, rfl, hR _ _ ?_⟩
      clear hR R
      simp [go_sem, g0, g1, g5']
      refine hv_call (by simp [go_sem, g0, g1, g5']) rfl Try.call46 (fun R hR => ?_)
      simp [go_sem, g0, g1, g5']
      refine (limb_any m b d i _ hs).mono ?_
      rintro e w1 ⟨rfl, rfl⟩
      refine ⟨_, rfl, hR _ _ ?_⟩
      clear hR R
      simp [go_sem]
      refine hK _ _ ?_; clear hK K
      by_cases hlt : lat l i < lat m i
      · have hlt' : (lat l i : Int) < lat m i := by omega
        have := cmpV_lt (cmp_step l m hr.ok hs.ok i hD hlt)
        refine W_if (by simp [go_sem, hlt, hlt']; rfl) rfl ?_
        refine W_rt (by kernel_rfl) (fun K hK => ?_)
        simp [go_sem]
        refine hK _ _ ?_; clear hK K
        refine W_ret ?_
        repeat (first | refine thenG_ret ?_ | refine inBlock_ret ?_)
        refine ⟨trivial, ?_, rfl⟩
        simp [go_sem, pack, resL, this]
      · have hlt' : ¬ (lat l i : Int) < lat m i := by omega
        refine W_if (by simp [go_sem, hlt, hlt']; rfl) rfl ?_
        refine W_skip ?_
        refine hK3 _ _ ?_; clear hK3 K3
        refine W_rt (by kernel_rfl) (fun K hK => ?_)
        simp [go_sem, g0, g1, g5']
        refine hv_call (by simp [go_sem, g0, g1, g5']) rfl Try.call46 (fun R hR => ?_)
        simp [go_sem, g0, g1, g5']
        refine (limb_any l a c i _ hr).mono ?_
        rintro e w1 ⟨rfl, rfl⟩
        refine ⟨_, rfl, hR _ _ ?_⟩
        clear hR R
        simp [go_sem, g0, g1, g5']
        refine hv_call (by simp [go_sem, g0, g1, g5']) rfl Try.call46 (fun R hR => ?_)
        simp [go_sem, g0, g1, g5']
        refine (limb_any m b d i _ hs).mono ?_
        rintro e w1 ⟨rfl, rfl⟩
        refine ⟨_, rfl, hR _ _ ?_⟩
        clear hR R
        simp [go_sem]
        refine hK _ _ ?_; clear hK K
        by_cases hgt : lat m i < lat l i
        · have hgt' : (lat m i : Int) < lat l i := by omega
          have := cmpV_gt (cmp_step m l hs.ok hr.ok i hD.symm hgt)
          refine W_if (by simp [go_sem, hgt, hgt']; rfl) rfl ?_
          refine W_rt (by kernel_rfl) (fun K hK => ?_)
          simp [go_sem]
          refine hK _ _ ?_; clear hK K
          refine W_ret ?_
          repeat (first | refine thenG_ret ?_ | refine inBlock_ret ?_)
          refine ⟨trivial, ?_, rfl⟩
          simp [go_sem, pack, resL, this]
        · have hgt' : ¬ (lat m i : Int) < lat l i := by omega
          refine W_if (by simp [go_sem, hgt, hgt']; rfl) rfl ?_
          refine W_skip ?_
          refine hK2 _ _ ?_; clear hK2 K2
          refine W_text (by kernel_rfl) (fun K hK => ?_)
          simp [go_sem, g5', h4]
          refine hK _ _ ⟨i, by omega, rfl, by omega, by simp [go_sem, g0], by simp [go_sem, g1], by simp [go_sem], ?_⟩
          rw [val_drop' l i, val_drop' m i, hD]; omega

set_option maxHeartbeats 1000000 in
theorem same_any (l : List Nat) (a b : Option Addr) (c d : Nat) (w : World) (hr : RD w a c l) (hs : RD w b d l) (hl : l.length ≤ lenB) :
    Calls Try.prog 16 #[.slice a l.length c, .slice b l.length d] w fun e w' => e = .returned (.bool true) ∧ Below w.heap.size w w' := by
  have hl' : l.length ≤ 1000000000000 := hl
  refine calls_of_W (args := [.slice a l.length c, .slice b l.length d]) (rs := [.tmp 4]) (n := 26) Try.func16 rfl rfl rfl (by kernel_rfl) ?_
  refine W_rt (by kernel_rfl) (fun K hK => ?_)
  simp [go_sem]
  refine hK _ _ ?_; clear hK K
  refine W_seq (fun K1 hK1 => ?_)
  refine W_rt (by kernel_rfl) (fun K hK => ?_)
  simp [go_sem]
  refine hK _ _ ?_; clear hK K
  refine W_if (by simp [go_sem]; rfl) rfl ?_
  refine W_skip ?_
  refine hK1 _ _ ?_; clear hK1 K1
  refine W_seq (fun K1 hK1 => ?_)
  refine W_rt (by kernel_rfl) (fun K hK => ?_)
  simp [go_sem]
  refine hK _ _ ?_; clear hK K
  refine W_block ?_
  refine W_loop (fun k g w' => Below w.heap.size w w' ∧ RD w' a c l ∧ RD w' b d l ∧ ∃ i : Nat, i ≤ l.length ∧ k = l.length - i ∧ g 0 = .slice a l.length c ∧ g 1 = .slice b l.length d ∧ g 5 = .int .i64 i) l.length ?_ ?_
  · exact ⟨Below.refl _ _, hr, hs, 0, by omega, rfl, by simp [go_sem], by simp [go_sem], by simp [go_sem]⟩
  · clear hr hs
    rintro k g w' ⟨hE, hr, hs, i, hi, rfl, g0, g1, g5⟩
    refine W_seq (fun K2 hK2 => ?_)
    refine W_rt (by kernel_rfl) (fun K hK => ?_)
    simp [go_sem, g0, g5]
    refine hK _ _ ?_; clear hK K
    by_cases hlt : i < l.length
    · have hlt' : (i : Int) < l.length := by omega
      have hw1 : IntKind.i64.wrap (↑i + 1) = (i : Int) + 1 := IntWalk.i64_in _ (by omega)
      have hD : Below w'.heap.size w' w'.drew := Below.drew1 _
      replace hE := hE.next hD
      replace hr := hr.ext hD
      replace hs := hs.ext hD
      obtain ⟨c1, c2⟩ := hr.at hlt
      obtain ⟨c3, c4⟩ := hs.at hlt
      refine W_if (by simp [go_sem, hlt, hlt']; rfl) rfl ?_
      refine W_skip ?_
      refine hK2 _ _ ?_; clear hK2 K2
      refine W_seq (fun K2 hK2 => ?_)
      refine W_block ?_
      refine W_rd [(0, 0), (1, 0), (2, 0), (3, 0), (4, 0), (5, 0), (6, 0), (7, 0), (8, 0)] (by kernel_rfl) (by kernel_rfl) (fun K hK => ?_)
      simp [go_sem, g0, g1, g5, hlt, hlt', c1, c2, c3, c4]
      refine hK _ _ ?_; clear hK K
      refine W_if (by simp [go_sem]; rfl) rfl ?_
      refine W_skip ?_
      refine hK2 _ _ ?_; clear hK2 K2
      refine W_text (by kernel_rfl) (fun K hK => ?_)
      simp [go_sem, g5, hw1]
      refine hK _ _ ⟨l.length - (i + 1), by omega, hE, hr, hs, i + 1, by omega, rfl, by simp [go_sem, g0], by simp [go_sem, g1], by simp [go_sem]⟩
    · refine W_if (by simp [go_sem, hlt]; rfl) rfl ?_
      refine W_exit ?_
      repeat (first | refine thenG_exit ?_ | refine inBlock_other rfl ?_ | refine inBlock_same ?_)
      refine hK1 _ _ ?_; clear hK1 K1 hK2 K2
      refine W_rt (by kernel_rfl) (fun K hK => ?_)
      simp [go_sem]
      refine hK _ _ ?_; clear hK K
      refine W_ret ?_
      repeat (first | refine thenG_ret ?_ | refine inBlock_ret ?_)
      refine ⟨trivial, ?_, hE⟩
      simp [go_sem, pack, resL]
end Go.Proofs.Ytomniiobaonloaa
