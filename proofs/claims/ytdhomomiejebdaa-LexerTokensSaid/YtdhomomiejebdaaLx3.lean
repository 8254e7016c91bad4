/- The lexer, third part: the reference's IsName. -/
import Derived.Test.YtdhomomiejebdaaLx2
namespace Go.Proofs.Ytdhomomiejebdaa
open Go.RowKit Go.V
set_option linter.unusedSimpArgs false
set_option linter.unusedVariables false

theorem goOn_true (c : UInt8) : goOn true c = (letB c.toNat || digB c.toNat) := by
  unfold goOn
  rw [kind_letter, kind_digit]
  simp [Bool.or_comm]
theorem goOn_ascii (c : UInt8) (h : goOn true c = true) : c.toNat < 128 := by
  rw [goOn_true] at h
  unfold letB digB at h
  simp at h
  omega
theorem all_take (s : ByteArray) (k : Nat) (hk : ((bs s).take k).all (goOn true) = true) (hlt : k < s.size) : ((bs s).take (k + 1)).all (goOn true) = goOn true (byteAt s k) := by
  have h' : k < (bs s).length := by rw [bs_len]; exact hlt
  rw [List.take_succ_eq_append_getElem h', List.all_append, hk]
  simp [byteAt, List.getD_eq_getElem?_getD, List.getElem?_eq_getElem h']
theorem all_no (s : ByteArray) (k : Nat) (hlt : k < s.size) (h : goOn true (byteAt s k) = false) : (bs s).all (goOn true) = false := by
  have h' : k < (bs s).length := by rw [bs_len]; exact hlt
  cases hb : (bs s).all (goOn true) with
  | false => rfl
  | true =>
    rw [List.all_eq_true] at hb
    have := hb (bs s)[k] (List.getElem_mem h')
    rw [byteAt, List.getD_eq_getElem?_getD, List.getElem?_eq_getElem h', Option.getD_some] at h
    rw [h] at this; cases this

set_option maxHeartbeats 1000000 in
theorem isNameR_any (s : ByteArray) (w : World) (hs : s.size ≤ maxLen) :
    Calls Try.prog 11 #[.string s] w fun e w' => e = .returned (.bool (nameB (bs s))) ∧ Below w.heap.size w w' := by
  have hl := bs_len s
  have hpre := preB_s s
  have hs' := hs
  unfold maxLen at hs'
  refine calls_of_W (args := [.string s]) (rs := [.tmp 2]) (n := 46) Try.func11 rfl rfl rfl (by kernel_rfl) ?_
  refine W_rt (by kernel_rfl) (fun K hK => ?_)
  simp [go_sem]
  refine hK _ _ ?_; clear hK K
  refine W_seq (fun K1 hK1 => ?_)
  refine W_rtJ (fun g w1 => w1 = w ∧ g 0 = .string s ∧ g 18 = .bool (!(decide (0 < s.size) && decide (s.size ≤ 20) && letB (byteAt s 0).toNat))) (by kernel_rfl) ?_ ?_
  · by_cases h0 : s.size = 0
    · have e : bs s = [] := List.length_eq_zero_iff.1 (by rw [bs_len]; exact h0)
      have e2 : bs ⟨#[]⟩ = [] := rfl
      simp [go_sem, e, e2, h0]
    · have hpos : 0 < s.size := by omega
      have e : ¬ bs s = [] := fun h => h0 (by rw [← bs_len, h]; rfl)
      have e2 : bs ⟨#[]⟩ = [] := rfl
      by_cases h20 : s.size ≤ 20
      · have h20' : ¬ (20 : Int) < s.size := by omega
        simp [go_sem, e, e2, h20', hpos]
        refine hv_call (by simp [go_sem, h20']) rfl Try.call19 (fun R hR => ?_)
        simp [go_sem, h20']
        refine (letter_any _ _).mono ?_
        rintro e w1 ⟨rfl, rfl⟩
        refine ⟨_, rfl, hR _ _ ?_⟩
        clear hR R
        simp [go_sem, h20', hpos, h20]
      · have h20' : (20 : Int) < s.size := by omega
        simp [go_sem, e, e2, h20', hpos, h20]
  · rintro g w1 ⟨rfl, g0, g18⟩
    have kl : ∀ c : Int, decide (kindI c = 2) = letB c := kind_letter
    rw [kl] at hpre
    refine W_if g18 rfl ?_
    cases hb : (decide (0 < s.size) && decide (s.size ≤ 20) && letB (byteAt s 0).toNat) with
    | false =>
      refine W_rt (by kernel_rfl) (fun K hK => ?_)
      simp [go_sem]
      refine hK _ _ ?_; clear hK K
      refine W_ret ?_
      repeat (first | refine thenG_ret ?_ | refine inBlock_ret ?_)
      refine ⟨trivial, ?_, Below.refl _ _⟩
      rw [hb] at hpre
      simp [go_sem, pack, resL, nameB, hpre]
    | true =>
      rw [hb, Bool.true_and] at hpre
      refine W_skip (hK1 _ _ ?_); clear hK1 K1
      refine W_seq (fun K1 hK1 => ?_)
      refine W_rt (by kernel_rfl) (fun K hK => ?_)
      simp [go_sem, g0]
      refine hv_range (s := s) (by simp [go_sem]) rfl ty_isStr9 (by simp [go_sem, g0]) (fun w2 ib hE hib hit => ?_)
      simp [go_sem]
      refine hK _ _ ?_; clear hK K
      refine W_block ?_
      refine W_loop (fun m g w' => Below w1.heap.size w1 w' ∧ It w' ib s (s.size - m) ∧ ∃ k : Nat, k ≤ s.size ∧ m = s.size - k ∧ g 0 = .string s ∧ g 20 = .pointer (some ⟨ib, 0, none⟩) ∧ ((bs s).take k).all (goOn true) = true) s.size ?_ ?_
      · exact ⟨hE, by simpa using hit, 0, Nat.zero_le _, rfl, by simp [go_sem, g0], rfl, by simp⟩
      · rintro m g w' ⟨hE2, hit2, k, hk, rfl, g0, g20, hall⟩
        have ek : s.size - (s.size - k) = k := by omega
        rw [ek] at hit2
        by_cases hlt : k < s.size
        · refine W_rt (by kernel_rfl) (fun K hK => ?_)
          simp [go_sem]
          refine hv_next (by simp [go_sem]) rfl (by simp [go_sem, g20]) hit2 hlt (by decide) (fun w3 hS hit3 => ?_)
          simp [go_sem]
          refine hK _ _ ?_; clear hK K
          have hE3 : Below w1.heap.size w1 w3 := hE2.nextS hS hib
          refine W_seq (fun K2 hK2 => ?_)
          refine W_if (by simp [go_sem]; rfl) rfl ?_
          refine W_skip (hK2 _ _ ?_); clear hK2 K2
          refine W_block ?_
          refine W_rt (by kernel_rfl) (fun K hK => ?_)
          simp [go_sem]
          refine hK _ _ ?_; clear hK K
          refine W_rtJ (fun g' w4 => w4 = w3 ∧ g' 0 = .string s ∧ g' 20 = .pointer (some ⟨ib, 0, none⟩) ∧ g' 35 = .bool (!goOn true (byteAt s k))) (by kernel_rfl) ?_ ?_
          · have hlt' : (k : Int) < s.size := by omega
            simp [go_sem, g0, hlt, hlt', g20]
            refine hv_call (by simp [go_sem]) rfl Try.call19 (fun R hR => ?_)
            simp [go_sem]
            refine (letter_any _ _).mono ?_
            rintro e w4 ⟨rfl, rfl⟩
            refine ⟨_, rfl, hR _ _ ?_⟩
            clear hR R
            rw [goOn_true]
            cases hlet : letB ↑(byteAt s k).toNat with
            | true =>
              simp [go_sem, hlet, g0, g20]
            | false =>
              simp [go_sem, hlet, g0, g20, hlt, hlt']
              refine hv_call (by simp [go_sem, hlet]) rfl Try.call20 (fun R hR => ?_)
              simp [go_sem, hlet]
              refine (digit_any _ _).mono ?_
              rintro e w4 ⟨rfl, rfl⟩
              refine ⟨_, rfl, hR _ _ ?_⟩
              clear hR R
              simp [go_sem, hlet, g0, g20, hlt, hlt']
          · rintro g' w4 ⟨rfl, g0, g20, g35⟩
            refine W_if g35 rfl ?_
            cases hgo : goOn true (byteAt s k) with
            | false =>
              refine W_rt (by kernel_rfl) (fun K hK => ?_)
              simp [go_sem]
              refine hK _ _ ?_; clear hK K
              refine W_ret ?_
              repeat (first | refine thenG_ret ?_ | refine inBlock_ret ?_)
              refine ⟨trivial, ?_, hE3⟩
              have := all_no s k hlt hgo
              simp [go_sem, pack, resL, nameB, hpre, this]
            | true =>
              refine W_skip ?_
              have hw := dec_ascii s k hlt (goOn_ascii _ hgo)
              rw [hw] at hit3
              refine ⟨s.size - (k + 1), by omega, hE3, ?_, k + 1, by omega, rfl, g0, g20, ?_⟩
              · have e : s.size - (s.size - (k + 1)) = k + 1 := by omega
                rw [e]; exact hit3
              · rw [all_take s k hall hlt, hgo]
        · refine W_rt (by kernel_rfl) (fun K hK => ?_)
          simp [go_sem]
          refine hv_next_end (by simp [go_sem]) rfl (by simp [go_sem, g20]) hit2 hlt ?_
          simp [go_sem]
          refine hK _ _ ?_; clear hK K
          refine W_seq (fun K2 hK2 => ?_)
          refine W_if (by simp [go_sem]; rfl) rfl ?_
          refine W_exit ?_
          repeat (first | refine thenG_exit ?_ | refine inBlock_other rfl ?_ | refine inBlock_same ?_)
          refine hK1 _ _ ?_; clear hK1 K1 hK2 K2
          have hall' : preB (bs s) = true := by
            rw [hpre]
            have : (bs s).take k = bs s := List.take_of_length_le (by rw [bs_len]; omega)
            rw [this] at hall; exact hall
          refine W_seq (fun K1 hK1 => ?_)
          refine W_rt (by kernel_rfl) (fun K hK => ?_)
          simp [go_sem]
          refine hv_call (by simp [go_sem]) rfl Try.call8 (fun R hR => ?_)
          simp [go_sem]
          refine (kwr_any _).mono ?_
          rintro e w4 ⟨b, rfl, hE4, hle, hbx⟩
          refine ⟨_, rfl, hR _ _ ?_⟩
          clear hR R
          have hE5 : Below w1.heap.size w1 w4 := hE2.next hE4
          simp [go_sem]
          refine hK _ _ ?_; clear hK K
          refine W_block ?_
          refine W_loop (fun m g w' => w' = w4 ∧ ∃ k : Nat, k ≤ 29 ∧ m = 29 - k ∧ g 0 = .string s ∧ g 36 = .slice (some ⟨b, 0, none⟩) 29 29 ∧ g 37 = .int .i64 29 ∧ g 38 = .int .i64 k ∧ ∀ i, i < k → kwAt i ≠ bs s) 29 ?_ ?_
          · exact ⟨rfl, 0, by omega, rfl, by simp [go_sem, g0], rfl, rfl, rfl, fun i hi => by omega⟩
          · rintro m g w' ⟨rfl, k, h1, rfl, g0, g25, g26, g27, hk⟩
            by_cases hlt : k < 29
            · have hlt' : (k : Int) < 29 := by omega
              refine W_rt (by kernel_rfl) (fun K hK => ?_)
              simp [go_sem, g26, g27, hlt']
              refine hK _ _ ?_; clear hK K
              refine W_seq (fun K2 hK2 => ?_)
              refine W_if (by simp [go_sem]; rfl) rfl ?_
              refine W_skip (hK2 _ _ ?_); clear hK2 K2
              refine W_seq (fun K2 hK2 => ?_)
              refine W_block ?_
              have hc := hbx.cell k
              rw [KWC_get k hlt] at hc
              refine W_rt (by kernel_rfl) (fun K hK => ?_)
              simp [go_sem, g25, g27, hc, hlt']
              refine hK _ _ ?_; clear hK K
              have ek : bs ⟨(kwAt k).toArray⟩ = kwAt k := bs_mk _
              refine W_rt (by kernel_rfl) (fun K hK => ?_)
              simp [go_sem, g0, strV]
              by_cases heq : kwAt k = bs s
              · refine hK _ _ ?_; clear hK K
                have heq' : bs s = kwAt k := heq.symm
                refine W_if (by simp [go_sem, ek, heq']; rfl) rfl ?_
                refine W_rt (by kernel_rfl) (fun K hK => ?_)
                simp [go_sem]
                refine hK _ _ ?_; clear hK K
                refine W_ret ?_
                repeat (first | refine thenG_ret ?_ | refine inBlock_ret ?_)
                refine ⟨trivial, ?_, hE5⟩
                simp [go_sem, pack, resL, nameB, KW_hit _ k hlt heq]
              · refine hK _ _ ?_; clear hK K
                have heq' : ¬ bs s = kwAt k := fun h => heq h.symm
                refine W_if (by simp [go_sem, ek, heq']; rfl) rfl ?_
                refine W_skip ?_
                refine hK2 _ _ ?_; clear hK2 K2
                refine W_text (by kernel_rfl) (fun K hK => ?_)
                simp [go_sem, g27]
                refine hK _ _ ⟨29 - (k + 1), by omega, rfl, k + 1, by omega, rfl, ?_, ?_, ?_, ?_, ?_⟩
                · simp [go_sem, g0]
                · simp [go_sem, g25]
                · simp [go_sem, g26]
                · simp (disch := omega) [go_sem, IntWalk.i64_in]
                · intro i hi
                  by_cases h : i = k
                  · rw [h]; exact heq
                  · exact hk i (by omega)
            · have hlt' : ¬ (k : Int) < 29 := by omega
              refine W_rt (by kernel_rfl) (fun K hK => ?_)
              simp [go_sem, g26, g27, hlt']
              refine hK _ _ ?_; clear hK K
              refine W_seq (fun K2 hK2 => ?_)
              refine W_if (by simp [go_sem]; rfl) rfl ?_
              refine W_exit ?_
              repeat (first | refine thenG_exit ?_ | refine inBlock_other rfl ?_ | refine inBlock_same ?_)
              refine hK1 _ _ ?_
              refine W_rt (by kernel_rfl) (fun K hK => ?_)
              simp [go_sem]
              refine hK _ _ ?_; clear hK K
              refine W_ret ⟨trivial, ?_, hE5⟩
              have := KW_mem (bs s) (fun i hi => hk i (by omega))
              simp [go_sem, pack, resL, nameB, hall', this]
end Go.Proofs.Ytdhomomiejebdaa
