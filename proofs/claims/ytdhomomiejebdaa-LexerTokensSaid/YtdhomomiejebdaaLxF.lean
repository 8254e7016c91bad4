/- The lexer's specification: skip. -/
import Derived.Test.YtdhomomiejebdaaLxC
namespace Go.Proofs.Ytdhomomiejebdaa
open Go.RowKit Go.V Go.ChangeMaps
set_option linter.unusedSimpArgs false
set_option linter.unusedVariables false

theorem skip_true_step (s : ByteArray) (k : Nat) (h : k < s.size) (hb : byteAt s k ≠ 10) : k + skipN true ((bs s).drop k) = (k + 1) + skipN true ((bs s).drop (k + 1)) := by
  rw [drop_byte s k h, skipN, if_neg hb]; omega
theorem skip_true_hash (s : ByteArray) (k : Nat) (h : k < s.size) (hb : byteAt s k = 35) : nxt s k = k + skipN true ((bs s).drop k) := by
  unfold nxt
  rw [drop_byte s k h, hb]
  rfl
theorem skip_true_end (s : ByteArray) (k : Nat) (h : ¬ (k < s.size ∧ byteAt s k ≠ 10)) : k + skipN true ((bs s).drop k) = nxt s k := by
  unfold nxt
  by_cases hk : k < s.size
  · have hb : byteAt s k = 10 := by
      by_cases e : byteAt s k = 10
      · exact e
      · exact absurd ⟨hk, e⟩ h
    rw [drop_byte s k hk, hb]; rfl
  · rw [drop_end s k hk]; rfl

set_option maxHeartbeats 1000000 in
theorem skip_any (s : ByteArray) (n : Nat) (w : World) (hs : s.size ≤ maxLen) (hn : n ≤ s.size) :
    Calls Try.prog 23 #[.string s, .int .i64 n] w fun e w' => e = .returned (.int .i64 (nxt s n)) ∧ w = w' := by
  unfold maxLen at hs
  refine calls_of_W (args := [.string s, .int .i64 n]) (rs := [.tmp 4]) (n := 40) Try.func23 rfl rfl rfl (by kernel_rfl) ?_
  refine W_rt (by kernel_rfl) (fun K hK => ?_)
  simp [go_sem]
  refine hK _ _ ?_; clear hK K
  refine W_seq (fun K1 hK1 => ?_)
  refine W_block ?_
  refine W_loop (fun m g w' => w' = w ∧ ∃ k : Nat, k ≤ s.size ∧ m = s.size - k ∧ g 0 = .string s ∧ g 1 = .int .i64 k ∧ nxt s k = nxt s n) (s.size - n) ?_ ?_
  · exact ⟨rfl, n, hn, rfl, rfl, rfl, rfl⟩
  · rintro m g w' ⟨rfl, k, hk, rfl, g0, g1, hN⟩
    have e35 : byteAt s k = 35 ↔ ((byteAt s k).toNat : Int) = 35 := byte_iff _ 35 (by omega)
    refine W_seq (fun K2 hK2 => ?_)
    refine W_rtJ (fun g' w1 => w1 = w' ∧ g' 0 = .string s ∧ g' 1 = .int .i64 k ∧ g' 20 = .bool (decide (k < s.size) && (blkB (byteAt s k).toNat || decide (byteAt s k = 35)))) (by kernel_rfl) ?_ ?_
    · by_cases hlt : k < s.size
      · have hlt' : (k : Int) < s.size := by omega
        simp [go_sem, g0, g1, hlt, hlt']
        refine hv_call (by simp [go_sem, hlt, hlt']) rfl Try.call26 (fun R hR => ?_)
        simp [go_sem, hlt, hlt']
        refine (blank_any _ _).mono ?_
        rintro e w1 ⟨rfl, rfl⟩
        refine ⟨_, rfl, hR _ _ ?_⟩
        clear hR R
        cases hb : blkB (byteAt s k).toNat with
        | true => 
          simp [go_sem, hb, g0, g1, hlt, hlt']
        | false =>
          by_cases i35 : ((byteAt s k).toNat : Int) = 35
          · have j35 := e35.2 i35
            simp [go_sem, hb, g0, g1, hlt, hlt', i35, j35]
          · have j35 : ¬ byteAt s k = 35 := fun e => i35 (e35.1 e)
            have k35 : ¬ (byteAt s k).toNat = 35 := by omega
            simp [go_sem, hb, g0, g1, hlt, hlt', i35, j35, k35]
      · simp [go_sem, g0, g1, hlt]
    · rintro g' w1 ⟨rfl, q0, q1, q20⟩
      refine W_if q20 rfl ?_
      by_cases hlt : k < s.size
      · have hlt' : (k : Int) < s.size := by omega
        have hw1 : IntKind.i64.wrap (↑k + 1) = (k : Int) + 1 := IntWalk.i64_in _ (by omega)
        by_cases h35 : byteAt s k = 35
        · have i35 := e35.1 h35
          have e1 : (decide (k < s.size) && (blkB (byteAt s k).toNat || decide (byteAt s k = 35))) = true := by simp [hlt, h35]
          simp only [e1]
          refine W_skip ?_
          refine hK2 _ _ ?_; clear hK2 K2
          refine W_block ?_
          refine W_seq (fun K3 hK3 => ?_)
          refine W_rt (by kernel_rfl) (fun K hK => ?_)
          simp [go_sem, q0, q1, hlt, hlt']
          refine hK _ _ ?_; clear hK K
          refine W_if (by simp [go_sem, h35, i35]; rfl) rfl ?_
          refine W_seq (fun K4 hK4 => ?_)
          refine W_block ?_
          refine W_loop (fun m g w' => w' = w1 ∧ ∃ j : Nat, k ≤ j ∧ j ≤ s.size ∧ m = s.size - j ∧ g 0 = .string s ∧ g 1 = .int .i64 j ∧ j + skipN true ((bs s).drop j) = nxt s n) (s.size - k) ?_ ?_
          · exact ⟨rfl, k, Nat.le_refl _, hk, rfl, by simp [go_sem, q0], by simp [go_sem, q1], by rw [← skip_true_hash s k hlt h35]; exact hN⟩
          · clear q0 q1 q20
            rintro m g'' w' ⟨rfl, j, hkj, hj, rfl, q0, q1, hM⟩
            have e10 : byteAt s j = 10 ↔ ((byteAt s j).toNat : Int) = 10 := byte_iff _ 10 (by omega)
            refine W_seq (fun K5 hK5 => ?_)
            by_cases hjl : j < s.size
            · have hjl' : (j : Int) < s.size := by omega
              have hw2 : IntKind.i64.wrap (↑j + 1) = (j : Int) + 1 := IntWalk.i64_in _ (by omega)
              by_cases h10 : byteAt s j = 10
              · have i10 := e10.1 h10
                refine W_rt (by kernel_rfl) (fun K hK => ?_)
                simp [go_sem, q0, q1, hjl, hjl', h10, i10]
                refine hK _ _ ?_; clear hK K
                refine W_if (by simp [go_sem, hjl, hjl', h10, i10]; rfl) rfl ?_
                refine W_exit ?_
                repeat (first | refine thenG_exit ?_ | refine inBlock_other rfl ?_ | refine inBlock_same ?_)
                refine hK4 _ _ ?_; clear hK4 K4 hK5 K5
                refine W_exit ?_
                repeat (first | refine thenG_exit ?_ | refine inBlock_other rfl ?_ | refine inBlock_same ?_)
                have hkj' : k < j := by
                  by_cases e : k = j
                  · subst e; rw [h35] at h10; exact absurd h10 (by decide)
                  · omega
                refine ⟨s.size - j, by omega, rfl, j, hj, rfl, by simp [go_sem, q0], by simp [go_sem, q1], ?_⟩
                rw [← hM, skip_true_end s j (by simp [h10])]
              · have i10 : ¬ ((byteAt s j).toNat : Int) = 10 := fun e => h10 (e10.2 e)
                have j10 : ¬ (byteAt s j).toNat = 10 := by omega
                refine W_rt (by kernel_rfl) (fun K hK => ?_)
                simp [go_sem, q0, q1, hjl, hjl', h10, i10, j10]
                refine hK _ _ ?_; clear hK K
                refine W_if (by simp [go_sem, hjl, hjl', h10, i10, j10]; rfl) rfl ?_
                refine W_skip ?_
                refine hK5 _ _ ?_; clear hK5 K5
                refine W_block ?_
                refine W_text (by kernel_rfl) (fun K hK => ?_)
                simp [go_sem, q1, hw2]
                refine hK _ _ ⟨s.size - (j + 1), by omega, rfl, j + 1, by omega, by omega, rfl, by simp [go_sem, q0], by simp [go_sem], ?_⟩
                rw [← hM, skip_true_step s j hjl h10]
            · have hjs : j = s.size := by omega
              refine W_rt (by kernel_rfl) (fun K hK => ?_)
              simp [go_sem, q0, q1, hjl]
              refine hK _ _ ?_; clear hK K
              refine W_if (by simp [go_sem, hjl]; rfl) rfl ?_
              refine W_exit ?_
              repeat (first | refine thenG_exit ?_ | refine inBlock_other rfl ?_ | refine inBlock_same ?_)
              refine hK4 _ _ ?_; clear hK4 K4 hK5 K5
              refine W_exit ?_
              repeat (first | refine thenG_exit ?_ | refine inBlock_other rfl ?_ | refine inBlock_same ?_)
              refine ⟨s.size - j, by omega, rfl, j, hj, rfl, by simp [go_sem, q0], by simp [go_sem, q1], ?_⟩
              rw [← hM, skip_true_end s j (by simp [hjl])]
        · have i35 : ¬ ((byteAt s k).toNat : Int) = 35 := fun e => h35 (e35.2 e)
          have k35 : ¬ (byteAt s k).toNat = 35 := by omega
          cases hb : blkB (byteAt s k).toNat with
          | true =>
            simp only [hlt, decide_true, Bool.true_or, Bool.and_true]
            refine W_skip ?_
            refine hK2 _ _ ?_; clear hK2 K2
            refine W_block ?_
            refine W_seq (fun K3 hK3 => ?_)
            refine W_rt (by kernel_rfl) (fun K hK => ?_)
            simp [go_sem, q0, q1, hlt, hlt']
            refine hK _ _ ?_; clear hK K
            refine W_if (by simp [go_sem, i35, k35]; rfl) rfl ?_
            refine W_skip ?_
            refine hK3 _ _ ?_; clear hK3 K3
            refine W_text (by kernel_rfl) (fun K hK => ?_)
            simp [go_sem, q1, hw1]
            refine hK _ _ ⟨s.size - (k + 1), by omega, rfl, k + 1, by omega, rfl, by simp [go_sem, q0], by simp [go_sem], ?_⟩
            rw [← hN, nxt_blank s k hlt hb]
          | false =>
            simp only [hlt, h35, decide_true, decide_false, Bool.or_self, Bool.and_false]
            refine W_exit ?_
            repeat (first | refine thenG_exit ?_ | refine inBlock_other rfl ?_ | refine inBlock_same ?_)
            refine hK1 _ _ ?_; clear hK1 K1 hK2 K2
            refine W_rt (by kernel_rfl) (fun K hK => ?_)
            simp [go_sem, q1]
            refine hK _ _ ?_; clear hK K
            refine W_ret ?_
            repeat (first | refine thenG_ret ?_ | refine inBlock_ret ?_)
            refine ⟨trivial, ?_, rfl⟩
            simp [go_sem, pack, resL]
            rw [← hN, nxt_here s k hlt hb h35]
      · simp only [hlt, decide_false, Bool.false_and]
        refine W_exit ?_
        repeat (first | refine thenG_exit ?_ | refine inBlock_other rfl ?_ | refine inBlock_same ?_)
        refine hK1 _ _ ?_; clear hK1 K1 hK2 K2
        refine W_rt (by kernel_rfl) (fun K hK => ?_)
        simp [go_sem, q1]
        refine hK _ _ ?_; clear hK K
        refine W_ret ?_
        repeat (first | refine thenG_ret ?_ | refine inBlock_ret ?_)
        refine ⟨trivial, ?_, rfl⟩
        simp [go_sem, pack, resL]
        rw [← hN, nxt_end s k hlt]
end Go.Proofs.Ytdhomomiejebdaa
