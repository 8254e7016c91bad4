/- The lexer's specification: word. -/
import Derived.Test.YtdhomomiejebdaaLxG
namespace Go.Proofs.Ytdhomomiejebdaa
open Go.RowKit Go.V Go.ChangeMaps
set_option linter.unusedSimpArgs false
set_option linter.unusedVariables false

theorem goOn_eq (L : Bool) (c : UInt8) : goOn L c = (digB c.toNat || (L && letB c.toNat)) := by
  unfold goOn; rw [kind_digit, kind_letter]
def kL (L : Bool) : Int := if L then 1 else 2
/-- the error of a word -/
def wrdE (L : Bool) (s : ByteArray) (n : Nat) : Nat :=
  if L then (if 20 < runEnd true s n - n then 4 else 0)
  else (if 1 < runEnd false s n - n ∧ (byteAt s n).toNat = 48 then 5 else if 1000 < runEnd false s n - n then 4 else 0)

set_option maxHeartbeats 4000000 in
theorem word_any (s : ByteArray) (n : Nat) (w : World) (hs : s.size ≤ 20000) (hn : n < s.size) :
    Calls Try.prog 25 #[.string s, .int .i64 n] w (TokP s w (if letB (byteAt s n).toNat = true then 1 else 2) n (runEnd (letB (byteAt s n).toNat) s n) (wrdE (letB (byteAt s n).toNat) s n)) := by
  have hs' : s.size ≤ maxLen := by unfold maxLen; omega
  refine calls_of_W (args := [.string s, .int .i64 n]) (rs := [.cell 4 31, .tmp 5]) (n := 91) Try.func25 rfl rfl rfl (by kernel_rfl) ?_
  refine W_rt (by kernel_rfl) (fun K hK => ?_)
  simp [go_sem]
  refine hv_alloc (by simp [go_sem]) rfl ty_zeroC31 (fun w1 b1 hE1 hle1 hB1 => ?_)
  simp [go_sem]
  refine hK _ _ ?_; clear hK K
  refine W_rt (by kernel_rfl) (fun K hK => ?_)
  simp [go_sem]
  refine hv_build #[.int .i64 2, .int .i64 n, .int .i64 n, .string ⟨#[]⟩] (by simp [go_sem]) rfl ty_stZ31 [(0, .int .i64 2), (1, .int .i64 n), (2, .int .i64 n)] (by simp [go_sem]) rfl ?_
  simp [go_sem]
  refine hv_alloc (by simp [go_sem]) rfl ty_zeroC31 (fun w2 b2 hE2 hle2 hB2 => ?_)
  simp [go_sem]
  refine hv_store (b := b2) (off := 0) [.int .i64 2, .int .i64 n, .int .i64 n, .string ⟨#[]⟩] (by simp [go_sem]) rfl (by simp [go_sem]) (by simp [go_sem, Value.cells]) ty_size31 hB2 (by simp) (by simp [Value.oneCell']) (by decide) (fun w3 hS3 hB3 => ?_)
  simp [putC] at hB3
  have hne : b1 ≠ b2 := by have := hB1.lt; omega
  have hb1 : w.heap.size ≤ b1 := hle1
  have hX : Below w.heap.size w w3 := (hE1.next hE2).nextS hS3 (by have := hE1.size; omega)
  have hA : Bx w3 b1 #[.int .i64 0, .int .i64 0, .int .i64 0, .string ⟨#[]⟩] 31 := (hB1.keep hE2).sto hS3 hne
  have hb2 : w.heap.size ≤ b2 := by have := hE1.size; omega
  clear hE1 hE2 hB1 hB2 hS3
  simp [go_sem]
  refine hK _ _ ?_; clear hK K
  have hlt' : (n : Int) < s.size := by omega
  refine W_seq (fun K1 hK1 => ?_)
  refine W_rt (by kernel_rfl) (fun K hK => ?_)
  simp [go_sem, hn, hlt']
  refine hv_call (by simp [go_sem, hn, hlt']) rfl Try.call19 (fun R hR => ?_)
  simp [go_sem, hn, hlt']
  refine (letter_any _ _).mono ?_
  rintro e w4 ⟨rfl, rfl⟩
  refine ⟨_, rfl, hR _ _ ?_⟩
  clear hR R
  simp [go_sem]
  refine hK _ _ ?_; clear hK K
  generalize hL : letB ↑(byteAt s n).toNat = L at hK1 ⊢
  have ret : ∀ (g : G) (w5 : World) (er : Nat), Below w.heap.size w w5 → Bx w5 b1 #[.int .i64 (kL L), .int .i64 n, .int .i64 (runEnd L s n), .string (s.extract n (runEnd L s n))] 31 → g 4 = .pointer (some ⟨b1, 0, none⟩) → g 5 = .int .i64 er → er = wrdE L s n →
      fnQ Try.prog [.cell 4 31, .tmp 5] (TokP s w (if L = true then 1 else 2) n (runEnd L s n) (wrdE L s n)) .ret g w5 := by
    intro g w5 er hX hA g4 g5 he
    have ha := hA.cell
    refine ⟨by simp [resOk, go_sem, rowOk, ha, g4], [.int .i64 (kL L), .int .i64 n, .int .i64 (runEnd L s n), .string (s.extract n (runEnd L s n))], ?_, rfl, ?_, ?_, hX⟩
    · simp [go_sem, pack, resL, rowV, ha, g4, g5, he]
    · intro v hv; simp at hv; rcases hv with rfl | rfl | rfl | rfl <;> rfl
    · intro h; cases L <;> rfl
  have main : ∀ (g : G) (w5 : World), Below w.heap.size w w5 → Bx w5 b1 #[.int .i64 0, .int .i64 0, .int .i64 0, .string ⟨#[]⟩] 31 → g 0 = .string s → g 1 = .int .i64 n → g 4 = .pointer (some ⟨b1, 0, none⟩) → g 6 = .pointer (some ⟨b2, 0, none⟩) →
      Bx w5 b2 #[.int .i64 (kL L), .int .i64 n, .int .i64 n, .string ⟨#[]⟩] 31 → K1 g w5 := by
    clear hX hA hB3
    intro g w5 hX hA g0 g1 g4 g6 hB
    refine hK1 _ _ ?_; clear hK1 K1
    refine W_seq (fun K1 hK1 => ?_)
    refine W_block ?_
    refine W_loop (fun m g w' => Below w.heap.size w w' ∧ Bx w' b1 #[.int .i64 0, .int .i64 0, .int .i64 0, .string ⟨#[]⟩] 31 ∧ ∃ k : Nat, n ≤ k ∧ k ≤ s.size ∧ m = s.size - k ∧ g 0 = .string s ∧ g 1 = .int .i64 n ∧ g 4 = .pointer (some ⟨b1, 0, none⟩) ∧ g 6 = .pointer (some ⟨b2, 0, none⟩) ∧
      Bx w' b2 #[.int .i64 (kL L), .int .i64 n, .int .i64 k, .string ⟨#[]⟩] 31 ∧ runEnd L s k = runEnd L s n) (s.size - n) ?_ ?_
    · exact ⟨hX, hA, n, Nat.le_refl _, by omega, rfl, g0, g1, g4, g6, hB, rfl⟩
    · clear g0 g1 g4 g6 hX hA hB
      rintro m g w' ⟨hX, hA, k, hnk, hk, rfl, g0, g1, g4, g6, hB, hM⟩
      have hb := hB.cell
      refine W_seq (fun K2 hK2 => ?_)
      refine W_rtJ (fun g' w1 => w1 = w' ∧ g' 0 = .string s ∧ g' 1 = .int .i64 n ∧ g' 4 = .pointer (some ⟨b1, 0, none⟩) ∧ g' 6 = .pointer (some ⟨b2, 0, none⟩) ∧ g' 38 = .bool (decide (k < s.size) && goOn L (byteAt s k))) (by kernel_rfl) ?_ ?_
      · by_cases hlt : k < s.size
        · have hlt2 : (k : Int) < s.size := by omega
          rw [goOn_eq]
          simp [go_sem, g0, g1, g4, g6, hb, hlt, hlt2]
          refine hv_call (by simp [go_sem, g0, g1, g4, g6, hb, hlt, hlt2]) rfl Try.call20 (fun R hR => ?_)
          simp [go_sem, g0, g1, g4, g6, hb, hlt, hlt2]
          refine (digit_any _ _).mono ?_
          rintro e w1 ⟨rfl, rfl⟩
          refine ⟨_, rfl, hR _ _ ?_⟩
          clear hR R
          cases hd : digB ↑(byteAt s k).toNat with
          | true =>
            simp [go_sem, g0, g1, g4, g6, hb, hlt, hlt2, hd]
          | false =>
            cases L with
            | true =>
              have ek : kL true = 1 := rfl
              simp [go_sem, g0, g1, g4, g6, hb, hlt, hlt2, hd, ek]
              refine hv_call (by simp [go_sem, g0, g1, g4, g6, hb, hlt, hlt2, hd, ek]) rfl Try.call19 (fun R hR => ?_)
              simp [go_sem, g0, g1, g4, g6, hb, hlt, hlt2, hd, ek]
              refine (letter_any _ _).mono ?_
              rintro e w1 ⟨rfl, rfl⟩
              refine ⟨_, rfl, hR _ _ ?_⟩
              clear hR R
              simp [go_sem, g0, g1, g4, g6, hb, hlt, hlt2, hd, ek]
            | false =>
              have ek : kL false = 2 := rfl
              simp [go_sem, g0, g1, g4, g6, hb, hlt, hlt2, hd, ek]
        · have hlt2 : ¬ (k : Int) < s.size := by omega
          simp [go_sem, g0, g1, g4, g6, hb, hlt, hlt2]
      · clear g0 g1 g4 g6
        rintro g' w1 ⟨rfl, g0, g1, g4, g6, g38⟩
        refine W_if g38 rfl ?_
        cases hc : (decide (k < s.size) && goOn L (byteAt s k)) with
        | true =>
          have hlt : k < s.size := by simp at hc; exact hc.1
          have hw1 : IntKind.i64.wrap (↑k + 1) = (k : Int) + 1 := IntWalk.i64_in _ (by omega)
          refine W_skip ?_
          refine hK2 _ _ ?_; clear hK2 K2
          refine W_block ?_
          refine W_text (by kernel_rfl) (fun K hK => ?_)
          simp [go_sem, g6, hb]
          rw [hw1]
          refine hv_store (b := b2) (off := 2) [.int .i64 (↑k + 1)] (by simp [go_sem, g6, hb, hw1]) rfl (by simp [go_sem, g6, hb, hw1]) (by simp [go_sem, Value.cells, g6, hb, hw1]) ty_size3 hB (by simp) (by simp [Value.oneCell']) (by decide) (fun w5 hS5 hB5 => ?_)
          simp [putC] at hB5
          simp [go_sem]
          refine hK _ _ ?_; clear hK K
          refine ⟨s.size - (k + 1), by omega, hX.nextS hS5 hb2, hA.sto hS5 hne, k + 1, by omega, by omega, rfl, by simp [go_sem, g0], by simp [go_sem, g1], by simp [go_sem, g4], by simp [go_sem, g6], hB5, ?_⟩
          rw [← hM]
          unfold runEnd
          rw [endN_step L s k, if_pos hc]; omega
        | false =>
          have ez : runEnd L s n = k := by
            rw [← hM]; unfold runEnd
            rw [endN_step L s k, hc]; rfl
          refine W_exit ?_
          repeat (first | refine thenG_exit ?_ | refine inBlock_other rfl ?_ | refine inBlock_same ?_)
          refine hK1 _ _ ?_; clear hK1 K1 hK2 K2
          clear hM hc g38
          have hw1 : IntKind.i64.wrap (↑n + 1) = (n : Int) + 1 := IntWalk.i64_in _ (by omega)
          have hw2 : IntKind.i64.wrap (↑k - ↑n) = (k : Int) - n := IntWalk.i64_in _ (by omega)
          have i1 : (n : Int) ≤ k := by omega
          have i2 : (k : Int) ≤ s.size := by omega
          refine W_rt (by kernel_rfl) (fun K hK => ?_)
          simp [go_sem, g0, g6, hb, i1, i2]
          refine hv_store (b := b2) (off := 3) [.string (s.extract n k)] (by simp [go_sem, g0, g6, hb]) rfl (by simp [go_sem, g0, g6, hb]) (by simp [go_sem, Value.cells, g0, g6, hb]) ty_size9 hB (by simp) (by simp [Value.oneCell']) (by decide) (fun w5 hS5 hB5 => ?_)
          simp [putC] at hB5
          replace hA := hA.sto hS5 hne
          replace hX := hX.nextS hS5 hb2
          clear hS5 hB
          replace hb := hB5.cell
          simp [go_sem]
          refine hK _ _ ?_; clear hK K
          refine W_seq (fun K1 hK1 => ?_)
          refine W_rtJ (fun g' w1 => w1 = w5 ∧ g' 0 = .string s ∧ g' 1 = .int .i64 n ∧ g' 4 = .pointer (some ⟨b1, 0, none⟩) ∧ g' 6 = .pointer (some ⟨b2, 0, none⟩) ∧ g' 65 = .bool (!L && (decide ((byteAt s n).toNat = 48) && decide (n + 1 < k)))) (by kernel_rfl) ?_ ?_
          · cases L with
            | true =>
              have ek : kL true = 1 := rfl
              simp [go_sem, g0, g1, g4, g6, hb, ek, hlt', hn]
            | false =>
              have ek : kL false = 2 := rfl
              by_cases i48 : ((byteAt s n).toNat : Int) = 48
              · have n48 : (byteAt s n).toNat = 48 := by omega
                by_cases hj : n + 1 < k
                · have hj' : (n : Int) + 1 < k := by omega
                  simp [go_sem, g0, g1, g4, g6, hb, ek, hlt', hn, i48, n48, hw1, hj, hj']
                · have hj' : ¬ (n : Int) + 1 < k := by omega
                  simp [go_sem, g0, g1, g4, g6, hb, ek, hlt', hn, i48, n48, hw1, hj, hj']
              · have n48 : ¬ (byteAt s n).toNat = 48 := by omega
                simp [go_sem, g0, g1, g4, g6, hb, ek, hlt', hn, i48, n48]
          · clear g0 g1 g4 g6
            rintro g' w1 ⟨rfl, g0, g1, g4, g6, g65⟩
            refine W_if g65 rfl ?_
            cases hc : (!L && (decide ((byteAt s n).toNat = 48) && decide (n + 1 < k))) with
            | true =>
              have ee : wrdE L s n = 5 := by
                simp at hc
                obtain ⟨rfl, h1, h2⟩ := hc
                unfold wrdE
                rw [if_neg (by decide), ez, if_pos ⟨by omega, h1⟩]
              refine W_rt (by kernel_rfl) (fun K hK => ?_)
              simp [go_sem, g6, hb, rowV, rowOk]
              refine hv_store (b := b1) (off := 0) [.int .i64 (kL L), .int .i64 n, .int .i64 k, .string (s.extract n k)] (by simp [go_sem, g4]) rfl (by simp [go_sem, g4]) (by simp [go_sem, Value.cells, g4]) ty_size31 hA (by simp) (by simp [Value.oneCell']) (by decide) (fun w7 hS7 hB7 => ?_)
              simp [putC] at hB7
              simp [go_sem]
              refine hK _ _ ?_; clear hK K
              refine W_ret ?_
              repeat (first | refine thenG_ret ?_ | refine inBlock_ret ?_)
              refine ret _ _ 5 (hX.nextS hS7 hb1) ?_ ?_ ?_ ee.symm
              · rw [ez]; exact hB7
              · simp [go_sem, g4]
              · simp [go_sem]
            | false =>
              refine W_skip ?_
              refine hK1 _ _ ?_; clear hK1 K1
              refine W_seq (fun K1 hK1 => ?_)
              refine W_rtJ (fun g' w2 => w2 = w1 ∧ g' 4 = .pointer (some ⟨b1, 0, none⟩) ∧ g' 6 = .pointer (some ⟨b2, 0, none⟩) ∧ g' 88 = .bool (decide ((if L = true then 20 else 1000) < k - n))) (by kernel_rfl) ?_ ?_
              · cases L with
                | true =>
                  have ek : kL true = 1 := rfl
                  by_cases hj : 20 < k - n
                  · have hj' : (20 : Int) < k - n := by omega
                    simp [go_sem, g0, g1, g4, g6, hb, ek, hw2, hj, hj']
                  · have hj' : ¬ (20 : Int) < k - n := by omega
                    simp [go_sem, g0, g1, g4, g6, hb, ek, hw2, hj, hj']
                | false =>
                  have ek : kL false = 2 := rfl
                  by_cases hj : 1000 < k - n
                  · have hj' : (1000 : Int) < k - n := by omega
                    simp [go_sem, g0, g1, g4, g6, hb, ek, hw2, hj, hj']
                  · have hj' : ¬ (1000 : Int) < k - n := by omega
                    simp [go_sem, g0, g1, g4, g6, hb, ek, hw2, hj, hj']
              · clear g0 g1 g4 g6
                rintro g' w2 ⟨rfl, g4, g6, g88⟩
                refine W_if g88 rfl ?_
                by_cases hj : (if L = true then 20 else 1000) < k - n
                · have ee : wrdE L s n = 4 := by
                    unfold wrdE
                    cases L with
                    | true => rw [if_pos rfl, ez, if_pos (by simpa using hj)]
                    | false =>
                      simp at hc hj
                      rw [if_neg (by decide), ez, if_neg (by intro ⟨a, b⟩; have := hc b; omega), if_pos hj]
                  simp only [decide_eq_true hj]
                  refine W_rt (by kernel_rfl) (fun K hK => ?_)
                  simp [go_sem, g6, hb, rowV, rowOk]
                  refine hv_store (b := b1) (off := 0) [.int .i64 (kL L), .int .i64 n, .int .i64 k, .string (s.extract n k)] (by simp [go_sem, g4]) rfl (by simp [go_sem, g4]) (by simp [go_sem, Value.cells, g4]) ty_size31 hA (by simp) (by simp [Value.oneCell']) (by decide) (fun w7 hS7 hB7 => ?_)
                  simp [putC] at hB7
                  simp [go_sem]
                  refine hK _ _ ?_; clear hK K
                  refine W_ret ?_
                  repeat (first | refine thenG_ret ?_ | refine inBlock_ret ?_)
                  refine ret _ _ 4 (hX.nextS hS7 hb1) ?_ ?_ ?_ ee.symm
                  · rw [ez]; exact hB7
                  · simp [go_sem, g4]
                  · simp [go_sem]
                · have ee : wrdE L s n = 0 := by
                    unfold wrdE
                    cases L with
                    | true => rw [if_pos rfl, ez, if_neg (by simpa using hj)]
                    | false =>
                      simp at hc hj
                      rw [if_neg (by decide), ez, if_neg (by intro ⟨a, b⟩; have := hc b; omega), if_neg (by omega)]
                  simp only [decide_eq_false hj]
                  refine W_skip ?_
                  refine hK1 _ _ ?_; clear hK1 K1
                  refine W_rt (by kernel_rfl) (fun K hK => ?_)
                  simp [go_sem, g6, hb, rowV, rowOk]
                  refine hv_store (b := b1) (off := 0) [.int .i64 (kL L), .int .i64 n, .int .i64 k, .string (s.extract n k)] (by simp [go_sem, g4]) rfl (by simp [go_sem, g4]) (by simp [go_sem, Value.cells, g4]) ty_size31 hA (by simp) (by simp [Value.oneCell']) (by decide) (fun w7 hS7 hB7 => ?_)
                  simp [putC] at hB7
                  simp [go_sem]
                  refine hK _ _ ?_; clear hK K
                  refine W_ret ?_
                  repeat (first | refine thenG_ret ?_ | refine inBlock_ret ?_)
                  refine ret _ _ 0 (hX.nextS hS7 hb1) ?_ ?_ ?_ ee.symm
                  · rw [ez]; exact hB7
                  · simp [go_sem, g4]
                  · simp [go_sem]
  cases L with
  | true =>
    refine W_if (by simp [go_sem, hL]; rfl) rfl ?_
    refine W_text (by kernel_rfl) (fun K hK => ?_)
    simp [go_sem]
    refine hv_store (b := b2) (off := 0) [.int .i64 1] (by simp [go_sem]) rfl (by simp [go_sem]) (by simp [go_sem, Value.cells]) ty_size3 hB3 (by simp) (by simp [Value.oneCell']) (by decide) (fun w5 hS5 hB5 => ?_)
    simp [putC] at hB5
    simp [go_sem]
    refine hK _ _ ?_; clear hK K
    exact main _ _ (hX.nextS hS5 hb2) (hA.sto hS5 hne) (by simp [go_sem]) (by simp [go_sem]) (by simp [go_sem]) (by simp [go_sem]) hB5
  | false =>
    refine W_if (by simp [go_sem, hL]; rfl) rfl ?_
    refine W_skip ?_
    exact main _ _ hX hA (by simp [go_sem]) (by simp [go_sem]) (by simp [go_sem]) (by simp [go_sem]) hB3
end Go.Proofs.Ytdhomomiejebdaa
