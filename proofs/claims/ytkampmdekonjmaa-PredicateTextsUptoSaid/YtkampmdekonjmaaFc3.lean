/- Facts: Right of the specification. -/
import Derived.Test.YtkampmdekonjmaaFc1
namespace Go.Proofs.Ytkampmdekonjmaa
open Go Go.RowKit Go.V
set_option linter.unusedSimpArgs false
set_option linter.unusedVariables false
set_option maxRecDepth 20000
set_option maxHeartbeats 1000000 in
theorem frightR_any (k : Int) (args : List Int) (N : Int) (neg : Bool) (l m : List Nat) (ad a b : Option Addr) (cap c d : Nat) (w : World) (ha : SL w ad (intC args)) (hn : args.length ≤ maxLen) (hr : RD w a c l) (hs : RD w b d m) (hl : l.length ≤ 1048576) (hm : m.length ≤ 1048576) :
    Calls Try.prog 11 #[.agg #[.int .i64 k, .slice ad args.length cap, .bool neg, .slice a l.length c, .slice b m.length d], .int .i64 N] w fun e w' => e = .returned (.int .i64 (fRt k args N neg l m)) ∧ Below w.heap.size w w' := by
  unfold maxLen at hn
  obtain ⟨R, hR⟩ : ∃ R, R = fRt k args N neg l m := ⟨_, rfl⟩
  rw [← hR]
  refine calls_of_W (args := [.agg #[.int .i64 k, .slice ad args.length cap, .bool neg, .slice a l.length c, .slice b m.length d], .int .i64 N]) (rs := [.tmp 4]) (n := 51) Try.func11 rfl rfl rfl (by kernel_rfl) ?_
  first | refine W_rt (by kernel_rfl) (fun K hK => ?_) | refine W_text (by kernel_rfl) (fun K hK => ?_)
  simp [go_sem]
  refine hv_box #[.int .i64 k, .slice ad args.length cap, .bool neg, .slice a l.length c, .slice b m.length d] (by simp [go_sem]) rfl (by simp [go_sem, Value.cells]) (fun w1 b1 hE1 hle1 hB1 => ?_)
  replace ha := ha.ext hE1
  replace hr := hr.keep hE1
  replace hs := hs.keep hE1
  have hE := hE1
  obtain ⟨k0, k1, k2, k3, k4⟩ := fbx hB1
  simp [go_sem]
  refine hK _ _ ?_; clear hK K
  refine W_seq (fun K1 hK1 => ?_)
  first | refine W_rt (by kernel_rfl) (fun K hK => ?_) | refine W_text (by kernel_rfl) (fun K hK => ?_)
  simp [go_sem, k0, add_mk]
  refine hv_call (by simp [go_sem, k0, add_mk]) rfl Try.call9 (fun R hR => ?_)
  simp [go_sem, k0, add_mk]
  refine (rarity_any k _).mono ?_
  rintro e w2 ⟨rfl, hE2⟩
  refine ⟨_, rfl, hR _ _ ?_⟩
  clear hR R
  replace ha := ha.ext hE2
  replace hr := hr.keep hE2
  replace hs := hs.keep hE2
  replace hB1 := hB1.keep hE2
  replace hE := hE.next hE2
  obtain ⟨k0, k1, k2, k3, k4⟩ := fbx hB1
  obtain ⟨A, hA⟩ : ∃ A, A = fAr k := ⟨_, rfl⟩
  have har := fun w => rarity_any k w
  rw [← hA] at har ⊢
  simp [go_sem]
  refine hK _ _ ?_; clear hK K
  by_cases h1 : A = 0
  · have hq : R = 8 := by rw [hR]; unfold fRt; rw [← hA, if_pos h1]
    refine W_if (t := true) (by simp [go_sem, h1]) rfl ?_
    first | refine W_rt (by kernel_rfl) (fun K hK => ?_) | refine W_text (by kernel_rfl) (fun K hK => ?_)
    simp [go_sem]
    refine hK _ _ ?_; clear hK K
    refine W_ret ?_
    repeat (first | refine thenG_ret ?_ | refine inBlock_ret ?_)
    refine ⟨trivial, ?_, hE⟩
    simp [go_sem, pack, resL, hq]
  refine W_if (t := false) (by simp [go_sem, h1]) rfl ?_
  refine W_skip ?_
  refine hK1 _ _ ?_
  refine W_seq (fun K2 hK2 => ?_)
  have hD := Below.drew1 w2
  replace ha := ha.ext hD
  replace hr := hr.keep hD
  replace hs := hs.keep hD
  replace hB1 := hB1.keep hD
  replace hE := hE.next hD
  obtain ⟨k0, k1, k2, k3, k4⟩ := fbx hB1
  first | refine W_rd [(0, 0), (1, 0), (2, 0), (3, 0), (4, 0), (5, 1), (6, 0)] (by kernel_rfl) (by kernel_rfl) (fun K hK => ?_) | refine W_draw [(0, 0), (1, 0), (2, 0), (3, 0), (4, 0), (5, 1), (6, 0)] (by kernel_rfl) (by kernel_rfl) (fun K hK => ?_)
  simp [go_sem, k0, k1, add_mk]
  refine hv_call (by simp [go_sem, k0, k1, add_mk]) rfl Try.call9 (fun R hR => ?_)
  simp [go_sem, k0, k1, add_mk]
  refine (har _).mono ?_
  rintro e w3 ⟨rfl, hE3⟩
  refine ⟨_, rfl, (by assumption), hR _ _ ?_⟩
  clear hR R
  replace ha := ha.ext hE3
  replace hr := hr.keep hE3
  replace hs := hs.keep hE3
  replace hB1 := hB1.keep hE3
  replace hE := hE.next hE3
  obtain ⟨k0, k1, k2, k3, k4⟩ := fbx hB1
  simp [go_sem, k0, k1, add_mk]
  refine hK _ _ ?_; clear hK K
  by_cases h2 : ¬ args.length = A
  · have h2' : ¬ (args.length : Int) = A := by omega
    have hq : R = 1 := by rw [hR]; unfold fRt; rw [← hA, if_neg h1, if_pos h2]
    refine W_if (t := true) (by simp [go_sem, h2, h2']) rfl ?_
    first | refine W_rt (by kernel_rfl) (fun K hK => ?_) | refine W_text (by kernel_rfl) (fun K hK => ?_)
    simp [go_sem]
    refine hK _ _ ?_; clear hK K
    refine W_ret ?_
    repeat (first | refine thenG_ret ?_ | refine inBlock_ret ?_)
    refine ⟨trivial, ?_, hE⟩
    simp [go_sem, pack, resL, hq]
  replace h2 := Decidable.not_not.1 h2
  have h2' : (args.length : Int) = A := by omega
  refine W_if (t := false) (by simp [go_sem, h2, h2']) rfl ?_
  refine W_skip ?_
  refine hK2 _ _ ?_
  refine W_seq (fun K3 hK3 => ?_)
  first | refine W_rt (by kernel_rfl) (fun K hK => ?_) | refine W_text (by kernel_rfl) (fun K hK => ?_)
  simp [go_sem, k1, add_mk]
  refine hK _ _ ?_; clear hK K
  refine W_block ?_
  refine W_loop (fun m' g w' => w' = w3 ∧ ∃ i : Nat, i ≤ args.length ∧ m' = args.length - i ∧ (args.take i).any (badA N) = false ∧ g 1 = .int .i64 N ∧ g 2 = .pointer (some ⟨b1, 0, none⟩) ∧ g 19 = .slice ad args.length cap ∧ g 20 = .int .i64 args.length ∧ g 21 = .int .i64 i) args.length ?_ ?_
  · exact ⟨rfl, 0, by omega, rfl, rfl, by simp [go_sem], by simp [go_sem], by simp [go_sem], by simp [go_sem], by simp [go_sem]⟩
  rintro m' g w' ⟨rfl, i, hi, rfl, hany, g1, g2, g19, g20, g21⟩
  first | refine W_rt (by kernel_rfl) (fun K hK => ?_) | refine W_text (by kernel_rfl) (fun K hK => ?_)
  simp [go_sem, g20, g21]
  refine hK _ _ ?_; clear hK K
  refine W_seq (fun K4 hK4 => ?_)
  by_cases hlt : i < args.length
  · have c1 : (i : Int) < args.length := by omega
    have hw1 : IntKind.i64.wrap ((i : Int) + 1) = (i : Int) + 1 := IntWalk.i64_in _ (by omega)
    obtain ⟨q1, q2⟩ := ha.getD (j := i) (by simp [intC]; omega)
    rw [intC_at hlt] at q1
    have hnx := any_take hlt hany
    obtain ⟨z, hz⟩ : ∃ z, z = args.getD i 0 := ⟨_, rfl⟩
    rw [← hz] at q1 hnx
    refine W_if (t := true) (by simp [go_sem, c1, hlt]) rfl ?_
    refine W_skip ?_
    refine hK4 _ _ ?_
    refine W_seq (fun K5 hK5 => ?_)
    refine W_block ?_
    first | refine W_rt (by kernel_rfl) (fun K hK => ?_) | refine W_text (by kernel_rfl) (fun K hK => ?_)
    simp [go_sem, g19, g21, c1, hlt, q1, q2]
    refine hK _ _ ?_; clear hK K
    by_cases z1 : z < 0
    · have hb : badA N z = true := by unfold badA; rw [decide_eq_true z1]; rfl
      have hq : R = 2 := by
        rw [hR]; unfold fRt
        rw [← hA, if_neg h1, if_neg (fun h => h h2), if_pos]
        rw [List.any_eq_true]
        exact ⟨z, by rw [hz, List.getD_eq_getElem?_getD, List.getElem?_eq_getElem hlt]; exact List.getElem_mem hlt, hb⟩
      first | refine W_rt (by kernel_rfl) (fun K hK => ?_) | refine W_text (by kernel_rfl) (fun K hK => ?_)
      simp [go_sem, z1]
      refine hK _ _ ?_; clear hK K
      refine W_if (t := true) (by simp [go_sem, z1]) rfl ?_
      first | refine W_rt (by kernel_rfl) (fun K hK => ?_) | refine W_text (by kernel_rfl) (fun K hK => ?_)
      simp [go_sem]
      refine hK _ _ ?_; clear hK K
      refine W_ret ?_
      repeat (first | refine thenG_ret ?_ | refine inBlock_ret ?_)
      refine ⟨trivial, ?_, hE⟩
      simp [go_sem, pack, resL, hq]
    · by_cases z2 : N ≤ z
      · have hb : badA N z = true := by unfold badA; rw [decide_eq_true z2, Bool.or_true]
        have hq : R = 2 := by
          rw [hR]; unfold fRt
          rw [← hA, if_neg h1, if_neg (fun h => h h2), if_pos]
          rw [List.any_eq_true]
          exact ⟨z, by rw [hz, List.getD_eq_getElem?_getD, List.getElem?_eq_getElem hlt]; exact List.getElem_mem hlt, hb⟩
        first | refine W_rt (by kernel_rfl) (fun K hK => ?_) | refine W_text (by kernel_rfl) (fun K hK => ?_)
        simp [go_sem, z1, z2, g1]
        refine hK _ _ ?_; clear hK K
        refine W_if (t := true) (by simp [go_sem, z2]) rfl ?_
        first | refine W_rt (by kernel_rfl) (fun K hK => ?_) | refine W_text (by kernel_rfl) (fun K hK => ?_)
        simp [go_sem]
        refine hK _ _ ?_; clear hK K
        refine W_ret ?_
        repeat (first | refine thenG_ret ?_ | refine inBlock_ret ?_)
        refine ⟨trivial, ?_, hE⟩
        simp [go_sem, pack, resL, hq]
      · have hb : badA N z = false := by unfold badA; rw [decide_eq_false z1, decide_eq_false z2]; rfl
        first | refine W_rt (by kernel_rfl) (fun K hK => ?_) | refine W_text (by kernel_rfl) (fun K hK => ?_)
        simp [go_sem, z1, z2, g1]
        refine hK _ _ ?_; clear hK K
        refine W_if (t := false) (by simp [go_sem, z2]) rfl ?_
        refine W_skip ?_
        refine hK5 _ _ ?_
        refine W_text (by kernel_rfl) (fun K hK => ?_)
        simp [go_sem, g21, hw1]
        refine hK _ _ ⟨args.length - (i + 1), by omega, rfl, i + 1, by omega, rfl, by rw [hnx]; exact hb, by simp [go_sem, g1], by simp [go_sem, g2], by simp [go_sem, g19], by simp [go_sem, g20], by simp [go_sem]⟩
  · have c1 : ¬ (i : Int) < args.length := by omega
    have hie : i = args.length := by omega
    rw [hie, List.take_length] at hany
    refine W_if (t := false) (by simp [go_sem, c1, hlt]) rfl ?_
    refine W_exit ?_
    repeat (first | refine thenG_exit ?_ | refine inBlock_other rfl ?_ | refine inBlock_same ?_)
    refine hK3 _ _ ?_
    refine W_seq (fun K6 hK6 => ?_)
    have hbad : ¬ args.any (badA N) = true := by rw [hany]; decide
    have hR' : R = if fRat k neg l m = true then 0 else 1 := by
      rw [hR]; unfold fRt
      rw [← hA, if_neg h1, if_neg (fun h => h h2), if_neg hbad]
    by_cases h9 : k = 9
    · have hf : fRat k neg l m = qRight neg l m := if_pos h9
      rw [hf] at hR'
      subst h9
      first | refine W_rt (by kernel_rfl) (fun K hK => ?_) | refine W_text (by kernel_rfl) (fun K hK => ?_)
      simp [go_sem, k0, k2, k3, k4, g2, add_mk, rowV, rowOk]
      refine hv_call (by simp [go_sem, k0, k2, k3, k4, g2, add_mk, rowV, rowOk]) rfl Try.call30 (fun R hR => ?_)
      simp [go_sem, k0, k2, k3, k4, g2, add_mk, rowV, rowOk]
      refine (rqRight_any neg l m a b c d _ hr hs hl hm).mono ?_
      rintro e w4 ⟨rfl, hE4⟩
      refine ⟨_, rfl, hR _ _ ?_⟩
      clear hR R
      replace hB1 := hB1.keep hE4
      replace hE := hE.next hE4
      obtain ⟨k0, k1, k2, k3, k4⟩ := fbx hB1
      cases hQ : qRight neg l m with
      | false =>
        rw [hQ] at hR'
        have hR2 : R = 1 := hR'
        simp [go_sem, k0, g2, add_mk]
        refine hK _ _ ?_; clear hK K
        refine W_if (t := true) (by simp [go_sem]) rfl ?_
        first | refine W_rt (by kernel_rfl) (fun K hK => ?_) | refine W_text (by kernel_rfl) (fun K hK => ?_)
        simp [go_sem]
        refine hK _ _ ?_; clear hK K
        refine W_ret ?_
        repeat (first | refine thenG_ret ?_ | refine inBlock_ret ?_)
        refine ⟨trivial, ?_, hE⟩
        simp [go_sem, pack, resL, hR2]
      | true =>
        rw [hQ] at hR'
        have hR2 : R = 0 := hR'
        simp [go_sem, k0, g2, add_mk]
        refine hK _ _ ?_; clear hK K
        refine W_if (t := false) (by simp [go_sem]) rfl ?_
        refine W_skip ?_
        refine hK6 _ _ ?_
        refine W_seq (fun K7 hK7 => ?_)
        first | refine W_rt (by kernel_rfl) (fun K hK => ?_) | refine W_text (by kernel_rfl) (fun K hK => ?_)
        simp [go_sem, k0, g2, add_mk]
        refine hK _ _ ?_; clear hK K
        refine W_if (t := false) (by simp [go_sem]) rfl ?_
        refine W_skip ?_
        refine hK7 _ _ ?_
        first | refine W_rt (by kernel_rfl) (fun K hK => ?_) | refine W_text (by kernel_rfl) (fun K hK => ?_)
        simp [go_sem]
        refine hK _ _ ?_; clear hK K
        refine W_ret ?_
        repeat (first | refine thenG_ret ?_ | refine inBlock_ret ?_)
        refine ⟨trivial, ?_, hE⟩
        simp [go_sem, pack, resL, hR2]
    · have hf : fRat k neg l m = qZero neg l m := if_neg h9
      rw [hf] at hR'
      first | refine W_rt (by kernel_rfl) (fun K hK => ?_) | refine W_text (by kernel_rfl) (fun K hK => ?_)
      simp [go_sem, k0, k2, k3, k4, g2, add_mk, rowV, rowOk, h9]
      refine hK _ _ ?_; clear hK K
      refine W_if (t := false) (by simp [go_sem, h9]) rfl ?_
      refine W_skip ?_
      refine hK6 _ _ ?_
      refine W_seq (fun K7 hK7 => ?_)
      first | refine W_rt (by kernel_rfl) (fun K hK => ?_) | refine W_text (by kernel_rfl) (fun K hK => ?_)
      simp [go_sem, k0, k2, k3, k4, g2, add_mk, rowV, rowOk, h9]
      refine hv_call (by simp [go_sem, k0, k2, k3, k4, g2, add_mk, rowV, rowOk, h9]) rfl Try.call31 (fun R hR => ?_)
      simp [go_sem, k0, k2, k3, k4, g2, add_mk, rowV, rowOk, h9]
      refine (none_any neg l m a b c d _ hr hs hl hm).mono ?_
      rintro e w4 ⟨rfl, hE4⟩
      refine ⟨_, rfl, hR _ _ ?_⟩
      clear hR R
      replace hE := hE.next hE4
      cases hQ : qZero neg l m with
      | false =>
        rw [hQ] at hR'
        have hR2 : R = 1 := hR'
        simp [go_sem, h9]
        refine hK _ _ ?_; clear hK K
        refine W_if (t := true) (by simp [go_sem]) rfl ?_
        first | refine W_rt (by kernel_rfl) (fun K hK => ?_) | refine W_text (by kernel_rfl) (fun K hK => ?_)
        simp [go_sem]
        refine hK _ _ ?_; clear hK K
        refine W_ret ?_
        repeat (first | refine thenG_ret ?_ | refine inBlock_ret ?_)
        refine ⟨trivial, ?_, hE⟩
        simp [go_sem, pack, resL, hR2]
      | true =>
        rw [hQ] at hR'
        have hR2 : R = 0 := hR'
        simp [go_sem, h9]
        refine hK _ _ ?_; clear hK K
        refine W_if (t := false) (by simp [go_sem]) rfl ?_
        refine W_skip ?_
        refine hK7 _ _ ?_
        first | refine W_rt (by kernel_rfl) (fun K hK => ?_) | refine W_text (by kernel_rfl) (fun K hK => ?_)
        simp [go_sem]
        refine hK _ _ ?_; clear hK K
        refine W_ret ?_
        repeat (first | refine thenG_ret ?_ | refine inBlock_ret ?_)
        refine ⟨trivial, ?_, hE⟩
        simp [go_sem, pack, resL, hR2]
end Go.Proofs.Ytkampmdekonjmaa
