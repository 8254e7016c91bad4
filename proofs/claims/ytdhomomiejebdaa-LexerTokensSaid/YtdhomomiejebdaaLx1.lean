/- The lexer, first part: the kinds of bytes, runs of letters and digits, the keywords. -/
import Derived.Test.YtdhomomiejebdaaTy
import Derived.WalkLawsBesides
namespace Go.Proofs.Ytdhomomiejebdaa
open Go.RowKit Go.V
set_option linter.unusedSimpArgs false
set_option linter.unusedVariables false

/-- the kind of a byte -/
def kindI (c : Int) : Int :=
  if c = 32 ∨ c = 9 ∨ c = 13 ∨ c = 10 then 1
  else if (97 ≤ c ∧ c ≤ 122) ∨ (65 ≤ c ∧ c ≤ 90) then 2
  else if 48 ≤ c ∧ c ≤ 57 then 3
  else if c = 40 ∨ c = 41 ∨ c = 44 ∨ c = 59 ∨ c = 47 ∨ c = 45 then 4
  else if c = 58 then 5
  else if c = 35 then 6
  else 0
def letB (c : Int) : Bool := decide (65 ≤ c ∧ c ≤ 90 ∨ 97 ≤ c ∧ c ≤ 122)
def digB (c : Int) : Bool := decide (48 ≤ c ∧ c ≤ 57)
theorem kind_letter (c : Int) : decide (kindI c = 2) = letB c := by
  unfold kindI letB
  rw [decide_eq_decide]
  (repeat' split) <;> omega
theorem kind_digit (c : Int) : decide (kindI c = 3) = digB c := by
  unfold kindI digB
  rw [decide_eq_decide]
  (repeat' split) <;> omega

theorem ret_int {k : IntKind} {a b : Int} (h : a = b) : Ending.returned (.int k a) = .returned (.int k b) := by rw [h]
theorem ret_bool {a b : Bool} (h : a = b) : Ending.returned (.bool a) = .returned (.bool b) := by rw [h]

set_option maxHeartbeats 1000000 in
theorem kind_any (c : Int) (w : World) :
    Calls Try.prog 17 #[.int .u8 c] w fun e w' => e = .returned (.int .i64 (kindI c)) ∧ w = w' := by
  go_enter Try.func17, Try.ntmps17
  go_wp2
  all_goals go_ret
  all_goals (refine ⟨ret_int ?_, rfl⟩; (try simp only [beq_iff_eq, beq_eq_false_iff_ne, ne_eq] at *); unfold kindI; (repeat' split) <;> omega)
set_option maxHeartbeats 1000000 in
theorem letter_any (c : Int) (w : World) :
    Calls Try.prog 19 #[.int .u8 c] w fun e w' => e = .returned (.bool (letB c)) ∧ w = w' := by
  go_enter Try.func19, Try.ntmps19
  go_wp2
  all_goals go_ret
  all_goals (refine ⟨ret_bool ?_, rfl⟩; unfold letB; simp [*]; try omega)
set_option maxHeartbeats 1000000 in
theorem digit_any (c : Int) (w : World) :
    Calls Try.prog 20 #[.int .u8 c] w fun e w' => e = .returned (.bool (digB c)) ∧ w = w' := by
  go_enter Try.func20, Try.ntmps20
  go_wp2
  all_goals go_ret
  all_goals (refine ⟨ret_bool ?_, rfl⟩; unfold digB; simp [*]; try omega)

def goOn (L : Bool) (c : UInt8) : Bool := decide (kindI c.toNat = 3) || (L && decide (kindI c.toNat = 2))
/-- how many of a list's first bytes pass -/
def endN (L : Bool) : List UInt8 → Nat
  | [] => 0
  | c :: l => if goOn L c = true then endN L l + 1 else 0

theorem drop_byte (s : ByteArray) (k : Nat) (h : k < s.size) : (bs s).drop k = byteAt s k :: (bs s).drop (k + 1) := by
  have h' : k < (bs s).length := by rw [bs_len]; exact h
  rw [List.drop_eq_getElem_cons h']
  simp only [byteAt, List.getD_eq_getElem?_getD, List.getElem?_eq_getElem h', Option.getD_some]
theorem drop_end (s : ByteArray) (k : Nat) (h : ¬ k < s.size) : (bs s).drop k = [] := by
  apply List.drop_eq_nil_of_le
  rw [bs_len]; omega
theorem endN_step (L : Bool) (s : ByteArray) (k : Nat) : endN L ((bs s).drop k) = if (decide (k < s.size) && goOn L (byteAt s k)) = true then endN L ((bs s).drop (k + 1)) + 1 else 0 := by
  by_cases h : k < s.size
  · rw [drop_byte s k h]; simp [endN, h]
  · rw [drop_end s k h]; simp [endN, h]
theorem endN_le (L : Bool) : ∀ l : List UInt8, endN L l ≤ l.length
  | [] => by simp [endN]
  | c :: l => by have := endN_le L l; unfold endN; split <;> simp <;> omega
theorem endN_all (L : Bool) : ∀ l : List UInt8, (endN L l = l.length) = (l.all (goOn L) = true)
  | [] => by simp [endN]
  | c :: l => by
    have ih := endN_all L l
    have := endN_le L l
    unfold endN
    by_cases h : goOn L c = true
    · rw [if_pos h]; simp [h, ← ih]
    · rw [if_neg h]; simp [h]

set_option maxHeartbeats 1000000 in
theorem end_any (s : ByteArray) (n : Nat) (L : Bool) (w : World) (hs : s.size ≤ maxLen) (hn : n ≤ s.size) :
    Calls Try.prog 18 #[.string s, .int .i64 n, .bool L] w fun e w' => e = .returned (.int .i64 ↑(n + endN L ((bs s).drop n))) ∧ w = w' := by
  unfold maxLen at hs
  refine calls_of_W (args := [.string s, .int .i64 n, .bool L]) (rs := [.tmp 6]) (n := 31) Try.func18 rfl rfl rfl (by kernel_rfl) ?_
  refine W_rt (by kernel_rfl) (fun K hK => ?_)
  simp [go_sem]
  refine hK _ _ ?_; clear hK K
  refine W_seq (fun K1 hK1 => ?_)
  refine W_block ?_
  refine W_loop (fun m g w' => w' = w ∧ ∃ k : Nat, n ≤ k ∧ k ≤ s.size ∧ m = s.size - k ∧ g 0 = .string s ∧ g 1 = .int .i64 k ∧ g 2 = .bool L ∧ k + endN L ((bs s).drop k) = n + endN L ((bs s).drop n)) (s.size - n) ?_ ?_
  · exact ⟨rfl, n, Nat.le_refl _, hn, rfl, rfl, rfl, rfl, rfl⟩
  · rintro m g w' ⟨rfl, k, h1, h2, rfl, g0, g1, g2, hk⟩
    refine W_seq (fun K2 hK2 => ?_)
    refine W_rtJ (fun g' w1 => w1 = w' ∧ g' 0 = .string s ∧ g' 1 = .int .i64 k ∧ g' 2 = .bool L ∧ g' 27 = .bool (decide (k < s.size) && goOn L (byteAt s k))) (by kernel_rfl) ?_ ?_
    · by_cases hlt : k < s.size
      · simp [go_sem, g0, g1, g2, hlt]
        refine hv_call (by simp [go_sem, hlt]) rfl Try.call17 (fun R hR => ?_)
        simp [go_sem, hlt]
        refine (kind_any _ _).mono ?_
        rintro e w1 ⟨rfl, rfl⟩
        refine ⟨_, rfl, hR _ _ ?_⟩
        clear hR R
        unfold goOn
        by_cases h3 : kindI ↑(byteAt s k).toNat = 3
        · simp [go_sem, h3, g0, g1, g2]
        · cases L with
          | false =>
            simp [go_sem, h3, g0, g1, g2]
          | true =>
            simp [go_sem, h3, g0, g1, g2, hlt]
            refine hv_call (by simp [go_sem, h3, g2]) rfl Try.call17 (fun R hR => ?_)
            simp [go_sem, h3, g2]
            refine (kind_any _ _).mono ?_
            rintro e w1 ⟨rfl, rfl⟩
            refine ⟨_, rfl, hR _ _ ?_⟩
            clear hR R
            simp [go_sem, h3, g0, g1, g2, hlt]
      · simp [go_sem, g0, g1, g2, hlt]
    · rintro g' w1 ⟨rfl, g0, g1, g2, g27⟩
      refine W_if g27 rfl ?_
      rw [endN_step] at hk
      cases hb : (decide (k < s.size) && goOn L (byteAt s k)) with
      | true =>
        rw [hb, if_pos rfl] at hk
        have hlt : k < s.size := by simp at hb; exact hb.1
        refine W_skip (hK2 _ _ ?_); clear hK2 K2
        refine W_block ?_
        refine W_text (by kernel_rfl) (fun K hK => ?_)
        simp [go_sem, g0, g1, g2]
        refine hK _ _ ⟨s.size - (k + 1), by omega, rfl, k + 1, by omega, by omega, rfl, ?_, ?_, ?_, by omega⟩
        all_goals simp (disch := omega) [go_sem, g0, g1, g2, IntWalk.i64_in]
      | false =>
        rw [hb, if_neg (by simp)] at hk
        refine W_exit ?_
        repeat (first | refine thenG_exit ?_ | refine inBlock_other rfl ?_ | refine inBlock_same ?_)
        refine hK1 _ _ ?_; clear hK1 K1 hK2 K2
        refine W_rt (by kernel_rfl) (fun K hK => ?_)
        simp [go_sem, g0, g1, g2]
        refine hK _ _ ?_; clear hK K
        refine W_ret ⟨trivial, ?_, rfl⟩
        simp [go_sem, pack, resL]
        omega
end Go.Proofs.Ytdhomomiejebdaa
