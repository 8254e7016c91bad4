/- The lexer's specification: All. -/
import Derived.Test.YtdhomomiejebdaaLxH
namespace Go.Proofs.Ytdhomomiejebdaa
open Go.RowKit Go.V Go.ChangeMaps
set_option linter.unusedSimpArgs false
set_option linter.unusedVariables false

theorem tok_let (s : ByteArray) (q : Nat) (h : letB (byteAt s q).toNat = true) : tokE s q = wrdE true s q ∧ tokK s q = 1 ∧ tokZ s q = runEnd true s q := by
  simp [tokE, tokK, tokZ, wrdE, h]
theorem tok_dig (s : ByteArray) (q : Nat) (h : letB (byteAt s q).toNat = false) (h2 : digB (byteAt s q).toNat = true) : tokE s q = wrdE false s q ∧ tokK s q = 2 ∧ tokZ s q = runEnd false s q := by
  simp [tokE, tokK, tokZ, wrdE, h, h2]
theorem tok_sgn (s : ByteArray) (q : Nat) (h : letB (byteAt s q).toNat = false) (h2 : digB (byteAt s q).toNat = false) : tokE s q = sgnE s q ∧ tokK s q = 3 ∧ tokZ s q = sgnZ s q := by
  simp [tokE, tokK, tokZ, sgnE, sgnZ, h, h2]

set_option maxHeartbeats 4000000 in
theorem allRef_any (s : ByteArray) (w : World) (hs : s.size ≤ maxLen) :
    Calls Try.prog 13 #[.string s] w (AllPost s w) := by
  refine calls_of_W (args := [.string s]) (rs := [.tmp 2, .tmp 3, .tmp 4]) (n := 59) Try.func13 rfl rfl rfl (by kernel_rfl) ?_
  refine W_rt (by kernel_rfl) (fun K hK => ?_)
  simp [go_sem]
  refine hK _ _ ?_; clear hK K
  refine W_seq (fun K1 hK1 => ?_)
  refine W_rt (by kernel_rfl) (fun K hK => ?_)
  simp [go_sem]
  refine hK _ _ ?_; clear hK K
  by_cases hbig : s.size ≤ 20000
  · have hbig' : ¬ (20000 : Int) < s.size := by omega
    have hR : allR s = allAt s 0 [] := by unfold allR; rw [if_pos hbig]
    refine W_if (by simp [go_sem, hbig']; rfl) rfl ?_
    refine W_skip ?_
    refine hK1 _ _ ?_; clear hK1 K1
    refine W_rt (by kernel_rfl) (fun K hK => ?_)
    simp [go_sem]
    refine hv_call (by simp [go_sem]) rfl Try.call23 (fun R hR => ?_)
    simp [go_sem]
    refine (skip_any s 0 _ hs (by omega)).mono ?_
    rintro e w1 ⟨rfl, rfl⟩
    refine ⟨_, rfl, hR _ _ ?_⟩
    clear hR R
    simp [go_sem]
    refine hK _ _ ?_; clear hK K
    refine W_seq (fun K1 hK1 => ?_)
    refine W_block ?_
    refine W_loop (fun m g w' => Below w.heap.size w w' ∧ ∃ (k : Nat) (v : Value) (acc : List Tk), k ≤ s.size ∧ m = s.size - k ∧ g 0 = .string s ∧ g 2 = v ∧ g 5 = .int .i64 (nxt s k) ∧ w'.ownsRow w.heap.size 31 4 v acc.length (tksC s acc) ∧ acc.length ≤ k ∧ allAt s k acc = allAt s 0 []) s.size ?_ ?_
    · exact ⟨Below.refl _ _, 0, .slice none 0 0, [], Nat.zero_le _, rfl, rfl, rfl, rfl, World.ownsRow_nil _ _ _ _, Nat.le_refl _, rfl⟩
    · rintro m g w' ⟨hE, k, v, acc, hk, rfl, g0, g2, g5, hown, hacc, hall⟩
      obtain ⟨n1, n2⟩ := nxt_bound s k hk
      have hae := allAt_eq s k acc hk
      rw [hall] at hae
      generalize hq : nxt s k = q at *
      refine W_seq (fun K2 hK2 => ?_)
      refine W_rt (by kernel_rfl) (fun K hK => ?_)
      simp [go_sem, g0, g5]
      refine hK _ _ ?_; clear hK K
      by_cases hlt : q < s.size
      · have hlt' : (q : Int) < s.size := by omega
        rw [if_pos hlt] at hae
        refine W_if (by simp [go_sem, hlt, hlt']; rfl) rfl ?_
        refine W_skip ?_
        refine hK2 _ _ ?_; clear hK2 K2
        refine W_block ?_
        refine W_rt (by kernel_rfl) (fun K hK => ?_)
        simp [go_sem, g0, g5]
        refine hv_call (by simp [go_sem, g0, g5]) rfl Try.call24 (fun R hR => ?_)
        simp [go_sem, g0, g5]
        refine (sign_any s q _ hbig hlt).mono ?_
        rintro e w5 ⟨cs, rfl, hl4, hone, hcs, hE5⟩
        refine ⟨_, rfl, hR _ _ ?_⟩
        clear hR R
        have hown5 : w5.ownsRow w.heap.size 31 4 v acc.length (tksC s acc) := own_keep hown hE5
        replace hE := hE.next hE5
        simp [go_sem]
        refine hv_alloc (by simp [go_sem]) rfl ty_zeroC31 (fun w6 b6 hE6 hle6 hB6 => ?_)
        simp [go_sem]
        refine hv_store (b := b6) (off := 0) cs (by simp [go_sem]) rfl (by simp [go_sem]) (by simp [go_sem, Value.cells]) (by rw [hl4]; exact ty_size31) hB6 (by rw [hl4]; simp) hone (by decide) (fun w7 hS7 hB7 => ?_)
        rw [putC_all _ _ (by simp [hl4])] at hB7
        have hb6 : w.heap.size ≤ b6 := by have := hE.size; omega
        have hne : v.ownBlock ≠ some b6 := fun e => by have := (hown5.lt b6 e).2; omega
        have hown7 : w7.ownsRow w.heap.size 31 4 v acc.length (tksC s acc) := own_sto (own_keep hown5 hE6) hS7 hne
        replace hE := (hE.next hE6).nextS hS7 hb6
        clear hown hown5 hE5 hE6 hS7 hB6
        simp [go_sem]
        refine hK _ _ ?_; clear hK K
        refine W_seq (fun K2 hK2 => ?_)
        have join : ∀ (g' : G) (wj : World) (er : Nat) (cs : List Value), Below w.heap.size w wj → wj.ownsRow w.heap.size 31 4 v acc.length (tksC s acc) → Bx wj b6 cs.toArray 31 → g' 0 = .string s → g' 2 = v → g' 5 = .int .i64 q → g' 6 = .pointer (some ⟨b6, 0, none⟩) → g' 7 = .int .i64 er →
            er = tokE s q → (er = 0 → cs = tokC s (tokK s q, q, tokZ s q)) → K2 g' wj := by
          clear hE hown7 hB7 hcs hl4 hone g0 g2 g5
          intro g' wj er cs hE hown7 hB7 g0 g2 g5 g6 g7 her hcs
          refine hK2 _ _ ?_; clear hK2 K2
          refine W_seq (fun K2 hK2 => ?_)
          refine W_rt (by kernel_rfl) (fun K hK => ?_)
          simp [go_sem, g7]
          refine hK _ _ ?_; clear hK K
          by_cases he : er = 0
          · have he' : (er : Int) = 0 := by omega
            rw [if_pos (her ▸ he)] at hae
            obtain ⟨ht1, ht2⟩ := tok_step s q hlt (her ▸ he)
            have e1 := hcs he
            unfold tokC at e1
            rw [e1] at hB7
            have hb := hB7.cell
            refine W_if (by simp [go_sem, he, he']; rfl) rfl ?_
            refine W_skip ?_
            refine hK2 _ _ ?_; clear hK2 K2
            refine W_rt (by kernel_rfl) (fun K hK => ?_)
            simp [go_sem, g2, g6, hb, rowV, rowOk]
            refine hv_buildSlice #[.int .i64 (tokK s q), .int .i64 q, .int .i64 (tokZ s q), .string (s.extract q (tokZ s q))] (by simp [go_sem]) rfl ty_slZ25 (by decide) [(0, .agg #[.int .i64 (tokK s q), .int .i64 q, .int .i64 (tokZ s q), .string (s.extract q (tokZ s q))])] (by simp [go_sem]) (by kernel_rfl) (fun w8 b8 hE8 hle8 hB8 => ?_)
            have hown8 : w8.ownsRow w.heap.size 31 4 v acc.length (tksC s acc) := own_keep hown7 hE8
            replace hB7 := hB7.keep hE8
            replace hE := hE.next hE8
            clear hown7 hE8
            simp [go_sem]
            refine hv_appendB (v := v) (b := b8) (len := 1) (c := 1) hB8 (by simp [go_sem]) rfl ty_slZ25 ty_bytes31 rfl (by decide) (by simp [go_sem, g2]) (by simp [go_sem]) hown8 rfl (by simp [Value.oneCell']) (by unfold maxLen; omega) (by omega) hE.size (by decide) (fun v' w9 hown9 hg9 _ => ?_)
            replace hB7 := hB7.grown hg9 (fun e => hne e.symm)
            replace hE := hE.nextG hg9 (fun b e => (hown8.lt b e).1)
            have hb := hB7.cell
            have hown10 : w9.ownsRow w.heap.size 31 4 v' (acc ++ [(tokK s q, q, tokZ s q)]).length (tksC s (acc ++ [(tokK s q, q, tokZ s q)])) := by
              rw [tksC_app, List.length_append]; exact hown9
            simp [go_sem]
            refine hK _ _ ?_; clear hK K
            refine W_text (by kernel_rfl) (fun K hK => ?_)
            simp [go_sem, g0, g6, hb]
            refine hv_call (by simp [go_sem, g0, g6, hb]) rfl Try.call23 (fun R hR => ?_)
            simp [go_sem, g0, g6, hb]
            refine (skip_any s (tokZ s q) _ hs ht2).mono ?_
            rintro e w10 ⟨rfl, rfl⟩
            refine ⟨_, rfl, hR _ _ ?_⟩
            clear hR R
            simp [go_sem]
            refine hK _ _ ?_; clear hK K
            refine ⟨s.size - tokZ s q, by omega, hE, tokZ s q, v', acc ++ [(tokK s q, q, tokZ s q)], ht2, rfl, by simp [go_sem, g0], by simp [go_sem], by simp [go_sem], hown10, by simp; omega, hae.symm⟩
          · have he' : ¬ (er : Int) = 0 := by omega
            rw [if_neg (her ▸ he)] at hae
            have hR' : allR s = ([], q, tokE s q) := by rw [hR, hae]
            refine W_if (by simp [go_sem, he, he']; rfl) rfl ?_
            refine W_rt (by kernel_rfl) (fun K hK => ?_)
            simp [go_sem, g5, g7]
            refine hK _ _ ?_; clear hK K
            refine W_ret ?_
            repeat (first | refine thenG_ret ?_ | refine inBlock_ret ?_)
            refine ⟨trivial, none, 0, ?_, by rw [hR']; exact SL.nil _ _, hE⟩
            simp [go_sem, pack, resL, hR', her]
        refine W_rtJ (fun g' wj => wj = w7 ∧ g' 0 = .string s ∧ g' 2 = v ∧ g' 5 = .int .i64 q ∧ g' 6 = .pointer (some ⟨b6, 0, none⟩) ∧ g' 7 = .int .i64 (sgnE s q) ∧ g' 32 = .bool (letB (byteAt s q).toNat || digB (byteAt s q).toNat)) (by kernel_rfl) ?_ ?_
        · simp [go_sem, g0, g2, g5, hlt, hlt']
          refine hv_call (by simp [go_sem, g0, g2, g5, hlt, hlt']) rfl Try.call19 (fun R hR => ?_)
          simp [go_sem, g0, g2, g5, hlt, hlt']
          refine (letter_any _ _).mono ?_
          rintro e w8 ⟨rfl, rfl⟩
          refine ⟨_, rfl, hR _ _ ?_⟩
          clear hR R
          cases hl : letB ↑(byteAt s q).toNat with
          | true =>
            simp [go_sem, g0, g2, g5, hlt, hlt', hl]
          | false =>
            simp [go_sem, g0, g2, g5, hlt, hlt', hl]
            refine hv_call (by simp [go_sem, g0, g2, g5, hlt, hlt', hl]) rfl Try.call20 (fun R hR => ?_)
            simp [go_sem, g0, g2, g5, hlt, hlt', hl]
            refine (digit_any _ _).mono ?_
            rintro e w8 ⟨rfl, rfl⟩
            refine ⟨_, rfl, hR _ _ ?_⟩
            clear hR R
            simp [go_sem, g0, g2, g5, hlt, hlt', hl]
        · clear g0 g2 g5
          rintro g' wj ⟨rfl, g0, g2, g5, g6, g7, g32⟩
          refine W_if g32 rfl ?_
          by_cases hld : letB (byteAt s q).toNat = true ∨ digB (byteAt s q).toNat = true
          · have hldb : (letB (byteAt s q).toNat || digB (byteAt s q).toNat) = true := by simpa using hld
            have hts : tokE s q = wrdE (letB (byteAt s q).toNat) s q ∧ tokK s q = (if letB (byteAt s q).toNat = true then 1 else 2) ∧ tokZ s q = runEnd (letB (byteAt s q).toNat) s q := by
              cases hl : letB (byteAt s q).toNat with
              | true => exact tok_let s q hl
              | false =>
                rw [hl] at hld
                exact tok_dig s q hl (by simpa using hld)
            obtain ⟨t1, t2, t3⟩ := hts
            simp only [hldb]
            refine W_text (by kernel_rfl) (fun K hK => ?_)
            simp [go_sem, g0, g5]
            refine hv_call (by simp [go_sem, g0, g5]) rfl Try.call25 (fun R hR => ?_)
            simp [go_sem, g0, g5]
            refine (word_any s q _ hbig hlt).mono ?_
            rintro e w8 ⟨cs2, rfl, hl42, hone2, hcs2, hE8⟩
            refine ⟨_, rfl, hR _ _ ?_⟩
            clear hR R
            replace hB7 := hB7.keep hE8
            replace hown7 := own_keep hown7 hE8
            replace hE := hE.next hE8
            clear hE8
            simp [go_sem, g6]
            refine hv_store (b := b6) (off := 0) cs2 (by simp [go_sem]) rfl (by simp [go_sem, g6]) (by simp [go_sem, Value.cells]) (by rw [hl42]; exact ty_size31) hB7 (by rw [hl42]; simp [hl4]) hone2 (by decide) (fun w9 hS9 hB9 => ?_)
            rw [putC_all _ _ (by simp [hl42, hl4])] at hB9
            replace hown7 := own_sto hown7 hS9 hne
            replace hE := hE.nextS hS9 hb6
            simp [go_sem]
            refine hK _ _ ?_; clear hK K
            refine join _ _ _ cs2 hE hown7 hB9 (by simp [go_sem, g0]) (by simp [go_sem, g2]) (by simp [go_sem, g5]) (by simp [go_sem, g6]) (by simp [go_sem]) t1.symm ?_
            intro h; rw [t2, t3]; exact hcs2 h
          · have hldb : (letB (byteAt s q).toNat || digB (byteAt s q).toNat) = false := by
              simp at hld; simp [hld]
            simp at hld
            obtain ⟨t1, t2, t3⟩ := tok_sgn s q hld.1 hld.2
            simp only [hldb]
            refine W_skip ?_
            refine join _ _ _ cs hE hown7 hB7 g0 g2 g5 g6 g7 t1.symm ?_
            intro h; rw [t2, t3]; exact hcs h
      · rw [if_neg hlt] at hae
        have hR' : allR s = (acc ++ [(0, s.size, s.size)], 0, 0) := by rw [hR, hae]
        refine W_if (by simp [go_sem, hlt]; rfl) rfl ?_
        refine W_exit ?_
        repeat (first | refine thenG_exit ?_ | refine inBlock_other rfl ?_ | refine inBlock_same ?_)
        refine hK1 _ _ ?_; clear hK1 K1 hK2 K2
        refine W_rt (by kernel_rfl) (fun K hK => ?_)
        simp [go_sem, g0, g2]
        refine hv_build #[.int .i64 0, .int .i64 s.size, .int .i64 s.size, .string ⟨#[]⟩] (by simp [go_sem]) rfl ty_stZ31 [(0, .int .i64 0), (1, .int .i64 s.size), (2, .int .i64 s.size)] (by simp [go_sem]) rfl ?_
        simp [go_sem]
        refine hv_buildSlice #[.int .i64 0, .int .i64 s.size, .int .i64 s.size, .string ⟨#[]⟩] (by simp [go_sem]) rfl ty_slZ25 (by decide) [(0, .agg #[.int .i64 0, .int .i64 s.size, .int .i64 s.size, .string ⟨#[]⟩])] (by simp [go_sem]) (by kernel_rfl) (fun w8 b8 hE8 hle8 hB8 => ?_)
        have hown8 : w8.ownsRow w.heap.size 31 4 v acc.length (tksC s acc) := own_keep hown hE8
        replace hE := hE.next hE8
        simp [go_sem]
        refine hv_appendB (v := v) (b := b8) (len := 1) (c := 1) hB8 (by simp [go_sem]) rfl ty_slZ25 ty_bytes31 rfl (by decide) (by simp [go_sem, g2]) (by simp [go_sem]) hown8 rfl (by simp [Value.oneCell']) (by unfold maxLen; omega) (by omega) hE.size (by decide) (fun v' w9 hown9 hg9 _ => ?_)
        replace hE := hE.nextG hg9 (fun b e => (hown8.lt b e).1)
        simp [go_sem]
        refine hK _ _ ?_; clear hK K
        obtain ⟨a, c, rfl⟩ := own_slice hown9
        refine W_ret ?_
        repeat (first | refine thenG_ret ?_ | refine inBlock_ret ?_)
        refine ⟨trivial, a, c, ?_, ?_, hE⟩
        · simp [go_sem, pack, resL, hR']
        · rw [hR']
          show SL _ a (tksC s (acc ++ [(0, s.size, s.size)]))
          rw [tksC_app]
          have e2 : tokC s (0, s.size, s.size) = [.int .i64 0, .int .i64 s.size, .int .i64 s.size, .string ⟨#[]⟩] := by
            simp only [tokC, extract_nil]
            first | rfl | skip
          rw [e2]
          exact ownsRow_SL hown9
  · have hbig' : (20000 : Int) < s.size := by omega
    have hR : allR s = ([], 0, 4) := by unfold allR; rw [if_neg hbig]
    refine W_if (by simp [go_sem, hbig']; rfl) rfl ?_
    refine W_rt (by kernel_rfl) (fun K hK => ?_)
    simp [go_sem]
    refine hK _ _ ?_; clear hK K
    refine W_ret ?_
    repeat (first | refine thenG_ret ?_ | refine inBlock_ret ?_)
    refine ⟨trivial, none, 0, ?_, by rw [hR]; exact SL.nil _ _, Below.refl _ _⟩
    simp [go_sem, pack, resL, hR]
end Go.Proofs.Ytdhomomiejebdaa
