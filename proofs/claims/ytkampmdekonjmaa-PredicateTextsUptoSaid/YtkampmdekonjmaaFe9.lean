/- Texts of facts: the specification's Text. -/
import Derived.Test.YtkampmdekonjmaaFe8
namespace Go.Proofs.Ytkampmdekonjmaa
open Go Go.RowKit Go.V Go.ChangeMaps
set_option linter.unusedSimpArgs false
set_option linter.unusedVariables false
set_option maxRecDepth 20000
theorem joinB_snoc {l : List (List UInt8)} (x : List UInt8) (h : l ≠ []) : joinB (l ++ [x]) = joinB l ++ [44, 32] ++ x := by
  cases l with
  | nil => exact absurd rfl h
  | cons y r => simp only [List.cons_append, joinB, joinT_snoc, List.append_assoc]
theorem nmB_ne {xs : List (List UInt8)} {args : List Int} (h : args.length ≠ 0) : nmB xs args ≠ [] := fun e => h (by rw [← nmB_len xs args, e]; rfl)
set_option maxHeartbeats 2000000 in
theorem gText_any (k : Int) (args : List Int) (neg : Bool) (l m : List Nat) (ad a b pa : Option Addr) (cap c d cap2 : Nat) (xs : List (List UInt8)) (w : World) (ha : SL w ad (intC args)) (hn : args.length ≤ maxLen) (hr : RD w a c l) (hs : RD w b d m) (hl : l.length ≤ 1000) (hm : m.length ≤ 1000) (hP : SL w pa (strC xs)) (hpl : xs.length ≤ maxLen) (hz : ∀ x ∈ xs, x.length ≤ 1048576) :
    Calls Try.prog 13 #[.agg #[.int .i64 k, .slice ad args.length cap, .bool neg, .slice a l.length c, .slice b m.length d], .slice pa xs.length cap2] w fun e w' => e = .returned (.tuple #[.string ⟨(if fRt k args xs.length neg l m = 0 then txtB k args xs (qv neg l m) else []).toArray⟩, .int .i64 (fRt k args xs.length neg l m)]) ∧ Below w.heap.size w w' := by
  unfold maxLen at hpl
  obtain ⟨R, hR⟩ : ∃ R, R = fRt k args xs.length neg l m := ⟨_, rfl⟩
  rw [← hR]
  refine calls_of_W (args := [.agg #[.int .i64 k, .slice ad args.length cap, .bool neg, .slice a l.length c, .slice b m.length d], .slice pa xs.length cap2]) (rs := [.tmp 4, .tmp 5]) (n := 51) Try.func13 rfl rfl rfl (by kernel_rfl) ?_
  have hA0 := Below.refl w.heap.size w
  first | refine W_rt (by kernel_rfl) (fun K hK => ?_) | refine W_text (by kernel_rfl) (fun K hK => ?_)
  simp [go_sem, add_mk, rowV, rowOk]
  refine hv_box #[.int .i64 k, .slice ad args.length cap, .bool neg, .slice a l.length c, .slice b m.length d] (by simp [go_sem, add_mk, rowV, rowOk]) rfl (by simp [go_sem, Value.cells, add_mk, rowV, rowOk]) (fun w1 b1 hE1 hle1 hB1 => ?_)
  have hb1_0 := Nat.le_trans hA0.size hle1
  replace hA0 := hA0.next hE1
  simp [go_sem, add_mk, rowV, rowOk, hB1.cell]
  refine hK _ _ ?_; clear hK K
  first | refine W_rt (by kernel_rfl) (fun K hK => ?_) | refine W_text (by kernel_rfl) (fun K hK => ?_)
  simp [go_sem, add_mk, rowV, rowOk, hB1.cell]
  refine hv_call (by simp [go_sem, add_mk, rowV, rowOk, hB1.cell]) rfl Try.call11 (fun R hR => ?_)
  simp [go_sem, add_mk, rowV, rowOk, hB1.cell]
  refine (frightR_any k args xs.length neg l m ad a b cap c d _ (ha.ext hA0) hn (hr.ext hA0) (hs.ext hA0) (by omega) (by omega)).mono ?_
  rintro e w2 ⟨rfl, hE2⟩
  refine ⟨_, rfl, hR _ _ ?_⟩
  clear hR R
  replace hA0 := hA0.next hE2
  replace hB1 := hB1.keep hE2
  simp [go_sem, add_mk, rowV, rowOk, hB1.cell]
  rw [← hR]
  refine hK _ _ ?_; clear hK K
  refine W_seq (fun K1 hK1 => ?_)
  first | refine W_rt (by kernel_rfl) (fun K hK => ?_) | refine W_text (by kernel_rfl) (fun K hK => ?_)
  simp [go_sem, add_mk, rowV, rowOk, hB1.cell]
  refine hK _ _ ?_; clear hK K
  by_cases h0 : ¬ R = 0
  · refine W_if (t := true) (by simp [go_sem, add_mk, rowV, rowOk, hB1.cell, h0]) rfl ?_
    first | refine W_rt (by kernel_rfl) (fun K hK => ?_) | refine W_text (by kernel_rfl) (fun K hK => ?_)
    simp [go_sem, add_mk, rowV, rowOk, hB1.cell]
    refine hK _ _ ?_; clear hK K
    refine W_ret ?_
    repeat (first | refine thenG_ret ?_ | refine inBlock_ret ?_)
    refine ⟨trivial, ?_, hA0⟩
    simp [go_sem, pack, resL, h0]
  replace h0 := Decidable.not_not.1 h0
  rw [h0] at hR
  obtain ⟨f1, f2, f3, f4⟩ := fRt_zeroT hR.symm
  have hle8 := fAr_leT k
  have hwl := wordB_len k
  refine W_if (t := false) (by simp [go_sem, add_mk, rowV, rowOk, hB1.cell,  h0]) rfl ?_
  refine W_skip ?_
  refine hK1 _ _ ?_
  first | refine W_rt (by kernel_rfl) (fun K hK => ?_) | refine W_text (by kernel_rfl) (fun K hK => ?_)
  simp [go_sem, add_mk, rowV, rowOk, hB1.cell]
  refine hv_call (by simp [go_sem, add_mk, rowV, rowOk, hB1.cell]) rfl Try.call35 (fun R hR => ?_)
  simp [go_sem, add_mk, rowV, rowOk, hB1.cell]
  refine (wordR_any k _ f1).mono ?_
  rintro e w3 ⟨rfl, hE3⟩
  refine ⟨_, rfl, hR _ _ ?_⟩
  clear hR R
  replace hA0 := hA0.next hE3
  replace hB1 := hB1.keep hE3
  simp [go_sem, add_mk, rowV, rowOk, hB1.cell]
  refine ⟨by omega, ?_⟩
  refine hK _ _ ?_; clear hK K
  refine W_seq (fun K2 hK2 => ?_)
  first | refine W_rt (by kernel_rfl) (fun K hK => ?_) | refine W_text (by kernel_rfl) (fun K hK => ?_)
  simp [go_sem, add_mk, rowV, rowOk, hB1.cell]
  refine hK _ _ ?_; clear hK K
  refine W_block ?_
  refine W_loop (fun m' g w' => Below w.heap.size w w' ∧ Bx w' b1 #[.int .i64 k, .slice ad args.length cap, .bool neg, .slice a l.length c, .slice b m.length d] 30 ∧ ∃ (i : Nat), i ≤ args.length ∧ m' = args.length - i ∧ g 1 = .slice pa xs.length cap2 ∧ g 2 = .pointer (some ⟨b1, 0, none⟩) ∧ g 7 = .string ⟨(wordB k ++ [40] ++ joinB (nmB xs (args.take i))).toArray⟩ ∧ g 22 = .slice ad args.length cap ∧ g 23 = .int .i64 args.length ∧ g 24 = .int .i64 i) args.length ?_ ?_
  · exact ⟨hA0, hB1, 0, by omega, rfl, by simp [go_sem], by simp [go_sem], by simp [go_sem, ba_app, nmB, joinB], by simp [go_sem], by simp [go_sem], by simp [go_sem]⟩
  clear hB1 hA0
  rintro m' g w' ⟨hA0, hB1, i, hi, rfl, g1, g2, g7, g22, g23, g24⟩
  have hlens : ∀ x ∈ nmB xs (args.take i), x.length ≤ 1099511627776 := fun x hx => Nat.le_trans (nmB_le hz x hx) (by decide)
  have hjl := joinB_len hlens
  rw [nmB_len, List.length_take] at hjl
  have hjm : min i args.length * (1099511627776 + 2) ≤ 20 * (1099511627776 + 2) := Nat.mul_le_mul_right _ (by omega)
  obtain ⟨S, hS⟩ : ∃ S, S = wordB k ++ [40] ++ joinB (nmB xs (args.take i)) := ⟨_, rfl⟩
  have hSl : S.length ≤ 30000000000000 := by rw [hS]; simp only [List.length_append, List.length_cons, List.length_nil]; omega
  rw [← hS] at g7
  first | refine W_rt (by kernel_rfl) (fun K hK => ?_) | refine W_text (by kernel_rfl) (fun K hK => ?_)
  simp [go_sem, add_mk, rowV, rowOk, hB1.cell, g1, g2, g7, g22, g23, g24]
  refine hK _ _ ?_; clear hK K
  refine W_seq (fun K3 hK3 => ?_)
  by_cases hlt : i < args.length
  · have c1 : (i : Int) < args.length := by omega
    have hw1 : IntKind.i64.wrap ((i : Int) + 1) = (i : Int) + 1 := IntWalk.i64_in _ (by unfold maxLen at hn; omega)
    obtain ⟨q1, q2⟩ := (ha.ext hA0).getD (j := i) (by simp [intC]; omega)
    rw [intC_at hlt] at q1
    have hgt := nmB_take (xs := xs) hlt
    have hmem : args.getD i 0 ∈ args := by rw [List.getD_eq_getElem?_getD, List.getElem?_eq_getElem hlt]; exact List.getElem_mem hlt
    obtain ⟨z1, z2⟩ := f3 _ hmem
    generalize args.getD i 0 = z at q1 hgt z1 z2
    have hzl : z.toNat < xs.length := by omega
    obtain ⟨q3, q4⟩ := (hP.ext hA0).getD (j := z.toNat) (by rw [strC_len]; exact hzl)
    have hgx : xs.getD z.toNat [] = xs[z.toNat]'hzl := by rw [List.getD_eq_getElem?_getD, List.getElem?_eq_getElem hzl]; rfl
    have hxl := hz _ (List.getElem_mem hzl)
    rw [strC_at hzl, ← hgx] at q3
    rw [← hgx] at hxl
    generalize xs.getD z.toNat [] = x at q3 hgt hgx hxl
    refine W_if (t := true) (by simp [go_sem, add_mk, rowV, rowOk, hB1.cell, g1, g2, g7, g22, g23, g24, c1, hlt]) rfl ?_
    refine W_skip ?_
    refine hK3 _ _ ?_
    refine W_seq (fun K4 hK4 => ?_)
    refine W_block ?_
    first | refine W_rt (by kernel_rfl) (fun K hK => ?_) | refine W_text (by kernel_rfl) (fun K hK => ?_)
    simp [go_sem, add_mk, rowV, rowOk, hB1.cell, g1, g2, g7, g22, g23, g24,  c1, hlt, q1, q2]
    refine hK _ _ ?_; clear hK K
    refine W_seq (fun K5 hK5 => ?_)
    first | refine W_rt (by kernel_rfl) (fun K hK => ?_) | refine W_text (by kernel_rfl) (fun K hK => ?_)
    simp [go_sem, add_mk, rowV, rowOk, hB1.cell, g1, g2, g7, g22, g23, g24]
    refine hK _ _ ?_; clear hK K
    by_cases hi0 : i = 0
    · have hi1 : ¬ 0 < i := by omega
      refine W_if (t := false) (by simp [go_sem, add_mk, rowV, rowOk, hB1.cell, g1, g2, g7, g22, g23, g24, hi1]) rfl ?_
      refine W_skip ?_
      refine hK5 _ _ ?_
      first | refine W_rt (by kernel_rfl) (fun K hK => ?_) | refine W_text (by kernel_rfl) (fun K hK => ?_)
      simp [go_sem, add_mk, rowV, rowOk, hB1.cell, g1, g2, g7, g22, g23, g24,  z1, z2, q3, q4]
      refine ⟨by omega, ?_⟩
      refine hK _ _ ?_; clear hK K
      refine hK4 _ _ ?_
      refine W_text (by kernel_rfl) (fun K hK => ?_)
      simp [go_sem, g24, hw1]
      refine hK _ _ ⟨args.length - (i + 1), by omega, hA0, hB1, i + 1, by omega, rfl, by simp [go_sem, g1], by simp [go_sem, g2], ?_, by simp [go_sem, g22], by simp [go_sem, g23], by simp [go_sem]⟩
      rw [hgt]
      have hnil : nmB xs (args.take i) = [] := by rw [hi0]; rfl
      rw [hnil] at hS ⊢
      simp [go_sem, ba_app, hS, joinB, joinT]
    · have hi1 : 0 < i := by omega
      refine W_if (t := true) (by simp [go_sem, add_mk, rowV, rowOk, hB1.cell, g1, g2, g7, g22, g23, g24, hi1]) rfl ?_
      first | refine W_rt (by kernel_rfl) (fun K hK => ?_) | refine W_text (by kernel_rfl) (fun K hK => ?_)
      simp [go_sem, add_mk, rowV, rowOk, hB1.cell, g1, g2, g7, g22, g23, g24]
      refine ⟨by omega, ?_⟩
      refine hK _ _ ?_; clear hK K
      refine hK5 _ _ ?_
      first | refine W_rt (by kernel_rfl) (fun K hK => ?_) | refine W_text (by kernel_rfl) (fun K hK => ?_)
      simp [go_sem, add_mk, rowV, rowOk, hB1.cell, g1, g2, g7, g22, g23, g24,  z1, z2, q3, q4]
      refine ⟨by omega, ?_⟩
      refine hK _ _ ?_; clear hK K
      refine hK4 _ _ ?_
      refine W_text (by kernel_rfl) (fun K hK => ?_)
      simp [go_sem, g24, hw1]
      refine hK _ _ ⟨args.length - (i + 1), by omega, hA0, hB1, i + 1, by omega, rfl, by simp [go_sem, g1], by simp [go_sem, g2], ?_, by simp [go_sem, g22], by simp [go_sem, g23], by simp [go_sem]⟩
      rw [hgt, joinB_snoc x (nmB_ne (by rw [List.length_take]; omega))]
      simp [go_sem, ba_app, hS]
  · have c1 : ¬ (i : Int) < args.length := by omega
    have hie : i = args.length := by omega
    rw [hie, List.take_length] at hS
    refine W_if (t := false) (by simp [go_sem, add_mk, rowV, rowOk, hB1.cell, g1, g2, g7, g22, g23, g24, c1, hlt]) rfl ?_
    refine W_exit ?_
    repeat (first | refine thenG_exit ?_ | refine inBlock_other rfl ?_ | refine inBlock_same ?_)
    refine hK2 _ _ ?_
    refine W_seq (fun K6 hK6 => ?_)
    first | refine W_rt (by kernel_rfl) (fun K hK => ?_) | refine W_text (by kernel_rfl) (fun K hK => ?_)
    simp [go_sem, add_mk, rowV, rowOk, hB1.cell, g1, g2, g7, g22, g23, g24]
    refine hK _ _ ?_; clear hK K
    by_cases h9 : k = 9
    · have hq := qtxt_le hr.ok hs.ok hl hm (by rw [h9] at f4; simpa [fRat] using f4)
      refine W_if (t := true) (by simp [go_sem, add_mk, rowV, rowOk, hB1.cell, g1, g2, g7, g22, g23, g24, h9]) rfl ?_
      first | refine W_rt (by kernel_rfl) (fun K hK => ?_) | refine W_text (by kernel_rfl) (fun K hK => ?_)
      simp [go_sem, add_mk, rowV, rowOk, hB1.cell, g1, g2, g7, g22, g23, g24,  h9]
      refine hv_call (by simp [go_sem, add_mk, rowV, rowOk, hB1.cell, g1, g2, g7, g22, g23, g24, h9]) rfl Try.call36 (fun R hR => ?_)
      simp [go_sem, add_mk, rowV, rowOk, hB1.cell, g1, g2, g7, g22, g23, g24, h9]
      refine (qTextR_any neg l m a b c d _ (hr.ext hA0) (hs.ext hA0) hl hm).mono ?_
      rintro e w4 ⟨rfl, hE4⟩
      refine ⟨_, rfl, hR _ _ ?_⟩
      clear hR R
      replace hA0 := hA0.next hE4
      replace hB1 := hB1.keep hE4
      simp [go_sem, add_mk, rowV, rowOk, hB1.cell, g1, g2, g7, g22, g23, g24, h9]
      refine ⟨by omega, by omega, ?_⟩
      refine hK _ _ ?_; clear hK K
      refine hK6 _ _ ?_
      first | refine W_rt (by kernel_rfl) (fun K hK => ?_) | refine W_text (by kernel_rfl) (fun K hK => ?_)
      simp [go_sem, add_mk, rowV, rowOk, hB1.cell, g1, g2, g7, g22, g23, g24]
      refine ⟨by omega, ?_⟩
      refine hK _ _ ?_; clear hK K
      refine W_ret ?_
      repeat (first | refine thenG_ret ?_ | refine inBlock_ret ?_)
      refine ⟨trivial, ?_, hA0⟩
      have hjs := joinB_snoc (l := nmB xs args) (qtxt (qv neg l m)) (nmB_ne (by have := fAr_ge f1; omega))
      simp [go_sem, pack, resL, h0, txtB, h9, ba_app, hS, hjs]
    · refine W_if (t := false) (by simp [go_sem, add_mk, rowV, rowOk, hB1.cell, g1, g2, g7, g22, g23, g24, h9]) rfl ?_
      refine W_skip ?_
      refine hK6 _ _ ?_
      first | refine W_rt (by kernel_rfl) (fun K hK => ?_) | refine W_text (by kernel_rfl) (fun K hK => ?_)
      simp [go_sem, add_mk, rowV, rowOk, hB1.cell, g1, g2, g7, g22, g23, g24]
      refine ⟨by omega, ?_⟩
      refine hK _ _ ?_; clear hK K
      refine W_ret ?_
      repeat (first | refine thenG_ret ?_ | refine inBlock_ret ?_)
      refine ⟨trivial, ?_, hA0⟩
      simp [go_sem, pack, resL, h0, txtB, h9, ba_app, hS]
end Go.Proofs.Ytkampmdekonjmaa
