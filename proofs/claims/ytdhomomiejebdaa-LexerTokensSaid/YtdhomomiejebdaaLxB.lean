/- The lexer: LexerCovers: tokens ascend, have their text, and leave out only blanks and comments. -/
import Derived.Test.YtdhomomiejebdaaLx7
import Derived.Test.YtdhomomiejebdaaLx8
namespace Go.Proofs.Ytdhomomiejebdaa
open Go.RowKit Go.V Go.ChangeMaps
set_option linter.unusedSimpArgs false
set_option linter.unusedVariables false

/-- whether bytes are blanks and comments; whether a comment is open behind them -/
def bareN : Bool → List UInt8 → Option Bool
  | b, [] => some b
  | b, c :: l => if c = 10 then bareN false l else if b = true ∨ c = 32 ∨ c = 9 ∨ c = 13 then bareN b l else if c = 35 then bareN true l else none
def bareB (l : List UInt8) (last : Bool) : Bool := match bareN false l with
  | none => false
  | some b => last || !b
theorem byte_iff (c : UInt8) (n : Nat) (h : n < 256) : c = UInt8.ofNat n ↔ (c.toNat : Int) = (n : Int) := by
  have := byte_eq c n h
  rwa [decide_eq_decide] at this
theorem blk_10 (c : UInt8) : blkB c.toNat = decide (c = 32 ∨ c = 9 ∨ c = 13 ∨ c = 10) := by
  have h1 : c = 32 ↔ (c.toNat : Int) = 32 := byte_iff c 32 (by omega)
  have h2 : c = 9 ↔ (c.toNat : Int) = 9 := byte_iff c 9 (by omega)
  have h3 : c = 13 ↔ (c.toNat : Int) = 13 := byte_iff c 13 (by omega)
  have h4 : c = 10 ↔ (c.toNat : Int) = 10 := byte_iff c 10 (by omega)
  unfold blkB
  rw [decide_eq_decide, h1, h2, h3, h4]
theorem bare_skip : ∀ (l : List UInt8) (b : Bool), ∃ x, bareN b (l.take (skipN b l)) = some x ∧ (skipN b l < l.length → x = false)
  | [], b => ⟨b, by simp [skipN, bareN], by simp⟩
  | c :: l, true => by
    simp only [skipN]
    by_cases h : c = 10
    · rw [if_pos h]
      obtain ⟨x, h1, h2⟩ := bare_skip l false
      exact ⟨x, by rw [List.take_succ_cons, bareN, if_pos h]; exact h1, fun e => h2 (by simpa using e)⟩
    · rw [if_neg h]
      obtain ⟨x, h1, h2⟩ := bare_skip l true
      exact ⟨x, by rw [List.take_succ_cons, bareN, if_neg h, if_pos (.inl rfl)]; exact h1, fun e => h2 (by simpa using e)⟩
  | c :: l, false => by
    simp only [skipN]
    rw [blk_10]
    by_cases h : (c = 32 ∨ c = 9 ∨ c = 13 ∨ c = 10)
    · rw [if_pos (by simpa using h)]
      obtain ⟨x, h1, h2⟩ := bare_skip l false
      refine ⟨x, ?_, fun e => h2 (by simpa using e)⟩
      rw [List.take_succ_cons, bareN]
      by_cases h10 : c = 10
      · rw [if_pos h10]; exact h1
      · rw [if_neg h10, if_pos (by right; rcases h with h | h | h | h; exact .inl h; exact .inr (.inl h); exact .inr (.inr h); exact absurd h h10)]; exact h1
    · rw [if_neg (by simpa using h)]
      by_cases h35 : c = 35
      · rw [if_pos h35]
        obtain ⟨x, h1, h2⟩ := bare_skip l true
        refine ⟨x, ?_, fun e => h2 (by simpa using e)⟩
        rw [List.take_succ_cons, bareN, if_neg (by intro e; exact h (by simp [e])), if_neg (by intro e; rcases e with e | e; exact absurd e (by decide); exact h (by rcases e with e | e | e <;> simp [e])), if_pos h35]
        exact h1
      · rw [if_neg h35]
        exact ⟨false, by simp [bareN], fun _ => rfl⟩
theorem bare_nxt (s : ByteArray) (k : Nat) (last : Bool) (h : nxt s k < s.size ∨ last = true) : bareB (bs (s.extract k (nxt s k))) last = true := by
  obtain ⟨x, h1, h2⟩ := bare_skip ((bs s).drop k) false
  unfold bareB
  rw [bs_extract]
  have : nxt s k - k = skipN false ((bs s).drop k) := by unfold nxt; omega
  rw [this, h1]
  rcases h with h | h
  · rw [h2 (by rw [List.length_drop, bs_len]; unfold nxt at h; omega)]; simp
  · simp [h]

set_option maxHeartbeats 1000000 in
theorem bare_any (s : ByteArray) (last : Bool) (w : World) (hs : s.size ≤ maxLen) :
    Calls Try.prog 15 #[.string s, .bool last] w fun e w' => e = .returned (.bool (bareB (bs s) last)) ∧ w = w' := by
  unfold maxLen at hs
  refine calls_of_W (args := [.string s, .bool last]) (rs := [.tmp 4]) (n := 48) Try.func15 rfl rfl rfl (by kernel_rfl) ?_
  refine W_rt (by kernel_rfl) (fun K hK => ?_)
  simp [go_sem]
  refine hK _ _ ?_; clear hK K
  refine W_rt (by kernel_rfl) (fun K hK => ?_)
  simp [go_sem]
  refine hK _ _ ?_; clear hK K
  refine W_seq (fun K1 hK1 => ?_)
  refine W_rt (by kernel_rfl) (fun K hK => ?_)
  simp [go_sem]
  refine hK _ _ ?_; clear hK K
  refine W_block ?_
  refine W_loop (fun m g w' => w' = w ∧ ∃ (k : Nat) (b : Bool), k ≤ s.size ∧ m = s.size - k ∧ g 0 = .string s ∧ g 1 = .bool last ∧ g 5 = .bool b ∧ g 8 = .int .i64 s.size ∧ g 9 = .int .i64 k ∧ bareN false (bs s) = bareN b ((bs s).drop k)) s.size ?_ ?_
  · exact ⟨rfl, 0, false, Nat.zero_le _, rfl, rfl, rfl, rfl, rfl, rfl, rfl⟩
  · rintro m g w' ⟨rfl, k, b, hk, rfl, g0, g1, g5, g8, g9, hN⟩
    refine W_rt (by kernel_rfl) (fun K hK => ?_)
    simp [go_sem, g8, g9]
    refine hK _ _ ?_; clear hK K
    refine W_seq (fun K2 hK2 => ?_)
    by_cases hlt : k < s.size
    · have hlt' : (k : Int) < s.size := by omega
      have hw1 : IntKind.i64.wrap (↑k + 1) = (k : Int) + 1 := IntWalk.i64_in _ (by omega)
      refine W_if (by simp [go_sem, hlt, hlt']; rfl) rfl ?_
      refine W_skip ?_
      refine hK2 _ _ ?_; clear hK2 K2
      refine W_seq (fun K2 hK2 => ?_)
      refine W_block ?_
      refine W_rt (by kernel_rfl) (fun K hK => ?_)
      simp [go_sem, g9]
      refine hK _ _ ?_; clear hK K
      refine W_block ?_
      rw [drop_byte s k hlt, bareN] at hN
      have e10 : byteAt s k = 10 ↔ ((byteAt s k).toNat : Int) = 10 := byte_iff _ 10 (by omega)
      have e32 : byteAt s k = 32 ↔ ((byteAt s k).toNat : Int) = 32 := byte_iff _ 32 (by omega)
      have e9 : byteAt s k = 9 ↔ ((byteAt s k).toNat : Int) = 9 := byte_iff _ 9 (by omega)
      have e13 : byteAt s k = 13 ↔ ((byteAt s k).toNat : Int) = 13 := byte_iff _ 13 (by omega)
      have e35 : byteAt s k = 35 ↔ ((byteAt s k).toNat : Int) = 35 := byte_iff _ 35 (by omega)
      refine W_rt (by kernel_rfl) (fun K hK => ?_)
      simp [go_sem, g0, hlt, hlt']
      refine hK _ _ ?_; clear hK K
      by_cases h10 : byteAt s k = 10
      · have i10 := e10.1 h10
        rw [if_pos h10] at hN
        refine W_if (by simp [go_sem, i10, h10]; rfl) rfl ?_
        refine W_text (by kernel_rfl) (fun K hK => ?_)
        simp [go_sem]
        refine hK _ _ ?_; clear hK K
        refine hK2 _ _ ?_; clear hK2 K2
        refine W_text (by kernel_rfl) (fun K hK => ?_)
        simp [go_sem, g9, hw1]
        refine hK _ _ ⟨s.size - (k + 1), by omega, rfl, k + 1, false, by omega, rfl, by simp [go_sem, g0], by simp [go_sem, g1], by simp [go_sem], by simp [go_sem, g8], by simp [go_sem], hN⟩
      · have i10 : ¬ ((byteAt s k).toNat : Int) = 10 := fun e => h10 (e10.2 e)
        rw [if_neg h10] at hN
        refine W_if (by simp [go_sem, i10, h10]; rfl) rfl ?_
        refine W_rtJ (fun g' w1 => w1 = w' ∧ g' 0 = .string s ∧ g' 1 = .bool last ∧ g' 5 = .bool b ∧ g' 6 = .int .i64 k ∧ g' 8 = .int .i64 s.size ∧ g' 9 = .int .i64 k ∧ g' 17 = .bool (decide (b = true ∨ byteAt s k = 32 ∨ byteAt s k = 9 ∨ byteAt s k = 13))) (by kernel_rfl) ?_ ?_
        · cases b with
          | true => 
            simp [go_sem, g0, g1, g5, g8, g9, hlt, hlt']
          | false =>
            simp only [e32, e9, e13]
            by_cases i32 : ((byteAt s k).toNat : Int) = 32
            · have n32 : (byteAt s k).toNat = 32 := by omega
              simp [go_sem, g0, g1, g5, g8, g9, hlt, hlt', i32, n32]
            · have n32 : ¬ (byteAt s k).toNat = 32 := by omega
              by_cases i9 : ((byteAt s k).toNat : Int) = 9
              · have n9 : (byteAt s k).toNat = 9 := by omega
                simp [go_sem, g0, g1, g5, g8, g9, hlt, hlt', i32, n32, i9, n9]
              · have n9 : ¬ (byteAt s k).toNat = 9 := by omega
                simp [go_sem, g0, g1, g5, g8, g9, hlt, hlt', i32, n32, i9, n9]
        · rintro g' w1 ⟨rfl, q0, q1, q5, q6, q8, q9, q17⟩
          refine W_if q17 rfl ?_
          by_cases hb : b = true ∨ byteAt s k = 32 ∨ byteAt s k = 9 ∨ byteAt s k = 13
          · rw [if_pos hb] at hN
            simp only [decide_eq_true hb]
            refine W_skip ?_
            refine hK2 _ _ ?_; clear hK2 K2
            refine W_text (by kernel_rfl) (fun K hK => ?_)
            simp [go_sem, q9, hw1]
            refine hK _ _ ⟨s.size - (k + 1), by omega, rfl, k + 1, b, by omega, rfl, by simp [go_sem, q0], by simp [go_sem, q1], by simp [go_sem, q5], by simp [go_sem, q8], by simp [go_sem], hN⟩
          · rw [if_neg hb] at hN
            simp only [decide_eq_false hb]
            refine W_rt (by kernel_rfl) (fun K hK => ?_)
            simp [go_sem, q0, q6, hlt, hlt']
            refine hK _ _ ?_; clear hK K
            by_cases h35 : byteAt s k = 35
            · have i35 := e35.1 h35
              rw [if_pos h35] at hN
              refine W_if (by simp [go_sem, i35, h35]; rfl) rfl ?_
              refine W_text (by kernel_rfl) (fun K hK => ?_)
              simp [go_sem]
              refine hK _ _ ?_; clear hK K
              refine hK2 _ _ ?_; clear hK2 K2
              refine W_text (by kernel_rfl) (fun K hK => ?_)
              simp [go_sem, q9, hw1]
              refine hK _ _ ⟨s.size - (k + 1), by omega, rfl, k + 1, true, by omega, rfl, by simp [go_sem, q0], by simp [go_sem, q1], by simp [go_sem], by simp [go_sem, q8], by simp [go_sem], hN⟩
            · have i35 : ¬ ((byteAt s k).toNat : Int) = 35 := fun e => h35 (e35.2 e)
              rw [if_neg h35] at hN
              refine W_if (by simp [go_sem, i35, h35]; rfl) rfl ?_
              refine W_rt (by kernel_rfl) (fun K hK => ?_)
              simp [go_sem]
              refine hK _ _ ?_; clear hK K
              refine W_ret ?_
              repeat (first | refine thenG_ret ?_ | refine inBlock_ret ?_)
              refine ⟨trivial, ?_, rfl⟩
              simp [go_sem, pack, resL, bareB, hN]
    · refine W_if (by simp [go_sem, hlt]; rfl) rfl ?_
      refine W_exit ?_
      repeat (first | refine thenG_exit ?_ | refine inBlock_other rfl ?_ | refine inBlock_same ?_)
      refine hK1 _ _ ?_; clear hK1 K1 hK2 K2
      rw [drop_end s k hlt, bareN] at hN
      cases last with
      | true =>
        refine W_rt (by kernel_rfl) (fun K hK => ?_)
        simp [go_sem, g1]
        refine hK _ _ ?_; clear hK K
        refine W_ret ?_
        repeat (first | refine thenG_ret ?_ | refine inBlock_ret ?_)
        refine ⟨trivial, ?_, rfl⟩
        simp [go_sem, pack, resL, bareB, hN]
      | false =>
        refine W_rt (by kernel_rfl) (fun K hK => ?_)
        simp [go_sem, g1, g5]
        refine hK _ _ ?_; clear hK K
        refine W_ret ?_
        repeat (first | refine thenG_ret ?_ | refine inBlock_ret ?_)
        refine ⟨trivial, ?_, rfl⟩
        simp [go_sem, pack, resL, bareB, hN]
end Go.Proofs.Ytdhomomiejebdaa
