/- Integers: the order. -/
import Derived.Test.YtkampmdekonjmaaIn4
namespace Go.Proofs.Ytkampmdekonjmaa
open Go.RowKit Go.V
set_option linter.unusedSimpArgs false
set_option linter.unusedVariables false
set_option maxRecDepth 20000

theorem sg_neg {z : Int} (h : z < 0) : sg z = -1 := by unfold sg; rw [if_neg (by omega), if_pos h]
theorem sg_pos {z : Int} (h : 0 < z) : sg z = 1 := by unfold sg; rw [if_neg (by omega), if_neg (by omega)]
theorem sg_zero {z : Int} (h : z = 0) : sg z = 0 := by unfold sg; rw [if_pos h]
theorem icmp_sg_lt {z y : Int} (h : sg z < sg y) : icmp z y = -1 := by
  have : z < y := by unfold sg at h; repeat (split at h) <;> omega
  unfold icmp; rw [if_pos this]
theorem icmp_sg_gt {z y : Int} (h : sg y < sg z) : icmp z y = 1 := by
  have : y < z := by unfold sg at h; repeat (split at h) <;> omega
  unfold icmp; rw [if_neg (by omega), if_pos this]
theorem icmp_neg {z y : Int} (h1 : z < 0) (h2 : y < 0) : icmp z y = cmpV y.natAbs z.natAbs := by
  unfold icmp
  by_cases h3 : z < y
  · rw [if_pos h3, cmpV_lt (by omega)]
  · rw [if_neg h3]
    by_cases h4 : y < z
    · rw [if_pos h4, cmpV_gt (by omega)]
    · rw [if_neg h4, cmpV_eq (by omega)]
theorem icmp_pos {z y : Int} (h1 : 0 ≤ z) (h2 : 0 ≤ y) : icmp z y = cmpV z.natAbs y.natAbs := by
  unfold icmp
  by_cases h3 : z < y
  · rw [if_pos h3, cmpV_lt (by omega)]
  · rw [if_neg h3]
    by_cases h4 : y < z
    · rw [if_pos h4, cmpV_gt (by omega)]
    · rw [if_neg h4, cmpV_eq (by omega)]
theorem sg_lt0 {z : Int} : sg z < 0 ↔ z < 0 := by
  unfold sg; constructor
  · intro h; repeat (split at h) <;> omega
  · intro h; rw [if_neg (by omega), if_pos h]; decide
set_option maxHeartbeats 400000 in
theorem iSignR_any (neg : Bool) (l : List Nat) (a : Option Addr) (c : Nat) (w : World) (hr : RD w a c l) (hl : l.length ≤ lenB) :
    Calls Try.prog 37 #[.agg #[.bool neg, .slice a l.length c]] w fun e w' => e = .returned (.int .i64 (sg (iv neg (val l)))) ∧ Below w.heap.size w w' := by
  obtain ⟨Z, hZ⟩ : ∃ Z, Z = iv neg (val l) := ⟨_, rfl⟩
  obtain ⟨S, hS⟩ : ∃ S, S = sg Z := ⟨_, rfl⟩
  rw [← hZ, ← hS]
  have hno := fun {w} hr => iNormR_any neg l a c w hr hl
  rw [← hZ] at hno
  refine calls_of_W (args := [.agg #[.bool neg, .slice a l.length c]]) (rs := [.tmp 2]) (n := 11) Try.func37 rfl rfl rfl (by kernel_rfl) ?_
  first | refine W_rt (by kernel_rfl) (fun K hK => ?_) | refine W_text (by kernel_rfl) (fun K hK => ?_)
  simp [go_sem]
  refine hv_box #[.bool neg, .slice a l.length c] (by simp [go_sem]) rfl (by simp [go_sem, Value.cells]) (fun w1 b1 hE1 hle1 hB1 => ?_)
  replace hr := hr.ext hE1
  obtain ⟨k0, k1⟩ := ibx hB1
  have hE := hE1
  simp [go_sem]
  refine hK _ _ ?_; clear hK K
  first | refine W_rt (by kernel_rfl) (fun K hK => ?_) | refine W_text (by kernel_rfl) (fun K hK => ?_)
  simp [go_sem, k0, k1, add_mk, rowV, rowOk]
  refine hv_call (by simp [go_sem, k0, k1, add_mk, rowV, rowOk]) rfl Try.call75 (fun R hR => ?_)
  simp [go_sem, k0, k1, add_mk, rowV, rowOk]
  refine (hno hr).mono ?_
  rintro e w6 ⟨a6, c6, rfl, hr6, hE6⟩
  refine ⟨_, rfl, hR _ _ ?_⟩
  clear hR R
  replace hB1 := hB1.keep hE6
  replace hE := hE.next hE6
  simp [go_sem]
  refine hv_store (b := b1) (off := 0) [.bool (decide (Z < 0)), .slice a6 (lim Z.natAbs).length c6] (by simp [go_sem, iR]) rfl (by simp [go_sem, iR]) (by simp [go_sem, Value.cells, iR]) ty_size26 hB1 (by simp) (by simp [Value.oneCell']) (by decide) (fun w9 hS9 hB9 => ?_)
  simp [putC] at hB9
  replace hE := hE.nextS hS9 hle1
  obtain ⟨k0, k1⟩ := ibx hB9
  simp [go_sem]
  refine hK _ _ ?_; clear hK K
  refine W_seq (fun K1 hK1 => ?_)
  by_cases h0 : Z = 0
  · have hl0 : (lim Z.natAbs).length = 0 := by rw [h0]; show (lim 0).length = 0; rw [lim_zero]; rfl
    have hl0' : ((lim Z.natAbs).length : Int) = 0 := by omega
    have hs := hS.trans (sg_zero h0)
    subst hs
    first | refine W_rt (by kernel_rfl) (fun K hK => ?_) | refine W_text (by kernel_rfl) (fun K hK => ?_)
    simp [go_sem, k0, k1, add_mk, hl0, hl0']
    refine hK _ _ ?_; clear hK K
    refine W_if (by simp [go_sem]; rfl) rfl ?_
    first | refine W_rt (by kernel_rfl) (fun K hK => ?_) | refine W_text (by kernel_rfl) (fun K hK => ?_)
    simp [go_sem]
    refine hK _ _ ?_; clear hK K
    refine W_ret ?_
    repeat (first | refine thenG_ret ?_ | refine inBlock_ret ?_)
    refine ⟨trivial, ?_, hE⟩
    simp [go_sem, pack, resL]
  · have hlp := lim_ne (B := Z.natAbs) (by omega)
    have hl0 : ¬ (lim Z.natAbs).length = 0 := by omega
    have hl0' : ¬ ((lim Z.natAbs).length : Int) = 0 := by omega
    first | refine W_rt (by kernel_rfl) (fun K hK => ?_) | refine W_text (by kernel_rfl) (fun K hK => ?_)
    simp [go_sem, k0, k1, add_mk, hl0, hl0']
    refine hK _ _ ?_; clear hK K
    refine W_if (by simp [go_sem, hl0, hl0']; rfl) rfl ?_
    refine W_skip ?_
    refine hK1 _ _ ?_; clear hK1 K1
    refine W_seq (fun K1 hK1 => ?_)
    by_cases hz : Z < 0
    · have hs := hS.trans (sg_neg hz)
      subst hs
      first | refine W_rt (by kernel_rfl) (fun K hK => ?_) | refine W_text (by kernel_rfl) (fun K hK => ?_)
      simp [go_sem, k0, k1, add_mk, hz]
      refine hK _ _ ?_; clear hK K
      refine W_if (by simp [go_sem, hz]; rfl) rfl ?_
      first | refine W_rt (by kernel_rfl) (fun K hK => ?_) | refine W_text (by kernel_rfl) (fun K hK => ?_)
      simp [go_sem]
      refine hK _ _ ?_; clear hK K
      refine W_ret ?_
      repeat (first | refine thenG_ret ?_ | refine inBlock_ret ?_)
      refine ⟨trivial, ?_, hE⟩
      simp [go_sem, pack, resL]
    · have hs := hS.trans (sg_pos (by omega))
      subst hs
      first | refine W_rt (by kernel_rfl) (fun K hK => ?_) | refine W_text (by kernel_rfl) (fun K hK => ?_)
      simp [go_sem, k0, k1, add_mk, hz]
      refine hK _ _ ?_; clear hK K
      refine W_if (by simp [go_sem, hz]; rfl) rfl ?_
      refine W_skip ?_
      refine hK1 _ _ ?_; clear hK1 K1
      first | refine W_rt (by kernel_rfl) (fun K hK => ?_) | refine W_text (by kernel_rfl) (fun K hK => ?_)
      simp [go_sem]
      refine hK _ _ ?_; clear hK K
      refine W_ret ?_
      repeat (first | refine thenG_ret ?_ | refine inBlock_ret ?_)
      refine ⟨trivial, ?_, hE⟩
      simp [go_sem, pack, resL]
set_option maxHeartbeats 400000 in
theorem iLit_any (l m : List Nat) (a b : Option Addr) (c d : Nat) (w : World) (hr : RD w a c l) (hs : RD w b d m) (hl : l.length ≤ lenB) (hm : m.length ≤ lenB) :
    Calls Try.prog 144 #[.slice a l.length c, .slice b m.length d] w fun e w' => e = .returned (.int .i64 (cmpV (val l) (val m))) ∧ Below w.heap.size w w' := by
  obtain ⟨Z, hZ⟩ : ∃ Z, Z = cmpV (val l) (val m) := ⟨_, rfl⟩
  have hc := fun {w} hr hs => cmp_any l m a b c d w hr hs hl hm
  rw [← hZ] at hc
  rw [← hZ]
  refine calls_of_W (args := [.slice a l.length c, .slice b m.length d]) (rs := [.tmp 4]) (n := 8) Try.func144 rfl rfl rfl (by kernel_rfl) ?_
  first | refine W_rt (by kernel_rfl) (fun K hK => ?_) | refine W_text (by kernel_rfl) (fun K hK => ?_)
  simp [go_sem]
  refine hK _ _ ?_; clear hK K
  first | refine W_rt (by kernel_rfl) (fun K hK => ?_) | refine W_text (by kernel_rfl) (fun K hK => ?_)
  simp [go_sem]
  refine hv_call (by simp [go_sem]) rfl Try.call124 (fun R hR => ?_)
  simp [go_sem]
  refine (hc hr hs).mono ?_
  rintro e w6 ⟨rfl, hE6⟩
  refine ⟨_, rfl, hR _ _ ?_⟩
  clear hR R
  simp [go_sem]
  refine hK _ _ ?_; clear hK K
  refine W_ret ?_
  repeat (first | refine thenG_ret ?_ | refine inBlock_ret ?_)
  refine ⟨trivial, ?_, hE6⟩
  simp [go_sem, pack, resL]
set_option maxHeartbeats 1000000 in
theorem iCmp_any (neg peg : Bool) (l m : List Nat) (a b : Option Addr) (c d : Nat) (w : World) (hr : RD w a c l) (hs : RD w b d m) (hl : l.length ≤ lenB) (hm : m.length ≤ lenB) :
    Calls Try.prog 143 #[.agg #[.bool neg, .slice a l.length c], .agg #[.bool peg, .slice b m.length d]] w fun e w' => e = .returned (.int .i64 (icmp (iv neg (val l)) (iv peg (val m)))) ∧ Below w.heap.size w w' := by
  obtain ⟨Z, hZ⟩ : ∃ Z, Z = iv neg (val l) := ⟨_, rfl⟩
  obtain ⟨Y, hY⟩ : ∃ Y, Y = iv peg (val m) := ⟨_, rfl⟩
  obtain ⟨S, hS⟩ : ∃ S, S = icmp Z Y := ⟨_, rfl⟩
  rw [← hZ, ← hY, ← hS]
  have hzn : Z.natAbs = val l := by rw [hZ, iv_abs]
  have hyn : Y.natAbs = val m := by rw [hY, iv_abs]
  have hs1 := fun {w} hr => iSign_any neg l a c w hr hl
  have hs2 := fun {w} hr => iSign_any peg m b d w hr hm
  rw [← hZ] at hs1
  rw [← hY] at hs2
  obtain ⟨p, hp⟩ : ∃ p, p = sg Z := ⟨_, rfl⟩
  obtain ⟨q, hq⟩ : ∃ q, q = sg Y := ⟨_, rfl⟩
  rw [← hp] at hs1
  rw [← hq] at hs2
  refine calls_of_W (args := [.agg #[.bool neg, .slice a l.length c], .agg #[.bool peg, .slice b m.length d]]) (rs := [.tmp 4]) (n := 35) Try.func143 rfl rfl rfl (by kernel_rfl) ?_
  first | refine W_rt (by kernel_rfl) (fun K hK => ?_) | refine W_text (by kernel_rfl) (fun K hK => ?_)
  simp [go_sem]
  refine hv_box #[.bool neg, .slice a l.length c] (by simp [go_sem]) rfl (by simp [go_sem, Value.cells]) (fun w2 b2 hE2 hle2 hB2 => ?_)
  replace hr := hr.keep hE2
  replace hs := hs.keep hE2
  simp [go_sem]
  refine hv_box #[.bool peg, .slice b m.length d] (by simp [go_sem]) rfl (by simp [go_sem, Value.cells]) (fun w3 b3 hE3 hle3 hB3 => ?_)
  replace hr := hr.keep hE3
  replace hs := hs.keep hE3
  replace hB2 := hB2.keep hE3
  have hE := hE2.next hE3
  simp [go_sem]
  refine hK _ _ ?_; clear hK K
  have hD : Below w3.heap.size w3 w3.drew := Below.drew1 _
  replace hr := hr.keep hD
  replace hs := hs.keep hD
  replace hB2 := hB2.keep hD
  replace hB3 := hB3.keep hD
  replace hE := hE.next hD
  obtain ⟨k0, k1⟩ := ibx hB2
  obtain ⟨k2, k3⟩ := ibx hB3
  first | refine W_rd [(0, 0), (2, 0), (1, 1), (3, 1), (4, 0), (5, 0)] (by kernel_rfl) (by kernel_rfl) (fun K hK => ?_) | refine W_draw [(0, 0), (2, 0), (1, 1), (3, 1), (4, 0), (5, 0)] (by kernel_rfl) (by kernel_rfl) (fun K hK => ?_)
  simp [go_sem, k0, k1, k2, k3, add_mk, rowV, rowOk]
  refine hv_call (by simp [go_sem, k0, k1, k2, k3, add_mk, rowV, rowOk]) rfl Try.call82 (fun R hR => ?_)
  simp [go_sem, k0, k1, k2, k3, add_mk, rowV, rowOk]
  refine (hs1 hr).mono ?_
  rintro e w4 ⟨rfl, hE4⟩
  refine ⟨_, rfl, hE4, hR _ _ ?_⟩
  clear hR R
  replace hr := hr.keep hE4
  replace hs := hs.keep hE4
  replace hB2 := hB2.keep hE4
  replace hB3 := hB3.keep hE4
  replace hE := hE.next hE4
  obtain ⟨k0, k1⟩ := ibx hB2
  obtain ⟨k2, k3⟩ := ibx hB3
  simp [go_sem, k0, k1, k2, k3, add_mk, rowV, rowOk]
  refine hv_call (by simp [go_sem, k0, k1, k2, k3, add_mk, rowV, rowOk]) rfl Try.call82 (fun R hR => ?_)
  simp [go_sem, k0, k1, k2, k3, add_mk, rowV, rowOk]
  refine (hs2 hs).mono ?_
  rintro e w5 ⟨rfl, hE5⟩
  refine ⟨_, rfl, hE5, hR _ _ ?_⟩
  clear hR R
  replace hr := hr.keep hE5
  replace hs := hs.keep hE5
  replace hB2 := hB2.keep hE5
  replace hB3 := hB3.keep hE5
  replace hE := hE.next hE5
  obtain ⟨k0, k1⟩ := ibx hB2
  obtain ⟨k2, k3⟩ := ibx hB3
  simp [go_sem, k0, k1, k2, k3, add_mk, rowV, rowOk]
  refine hK _ _ ?_; clear hK K
  first | refine W_rt (by kernel_rfl) (fun K hK => ?_) | refine W_text (by kernel_rfl) (fun K hK => ?_)
  simp [go_sem]
  refine hK _ _ ?_; clear hK K
  refine W_seq (fun K1 hK1 => ?_)
  refine W_block ?_
  first | refine W_rt (by kernel_rfl) (fun K hK => ?_) | refine W_text (by kernel_rfl) (fun K hK => ?_)
  simp [go_sem]
  refine hK _ _ ?_; clear hK K
  by_cases h1 : p < q
  · have hc := hS.trans (icmp_sg_lt (hp ▸ hq ▸ h1))
    subst hc
    refine W_if (by simp [go_sem, h1]; rfl) rfl ?_
    first | refine W_rt (by kernel_rfl) (fun K hK => ?_) | refine W_text (by kernel_rfl) (fun K hK => ?_)
    simp [go_sem]
    refine hK _ _ ?_; clear hK K
    refine W_ret ?_
    repeat (first | refine thenG_ret ?_ | refine inBlock_ret ?_)
    refine ⟨trivial, ?_, hE⟩
    simp [go_sem, pack, resL]
  · refine W_if (by simp [go_sem, h1]; rfl) rfl ?_
    first | refine W_rt (by kernel_rfl) (fun K hK => ?_) | refine W_text (by kernel_rfl) (fun K hK => ?_)
    simp [go_sem]
    refine hK _ _ ?_; clear hK K
    by_cases h2 : q < p
    · have hc := hS.trans (icmp_sg_gt (hp ▸ hq ▸ h2))
      subst hc
      refine W_if (by simp [go_sem, h2]; rfl) rfl ?_
      first | refine W_rt (by kernel_rfl) (fun K hK => ?_) | refine W_text (by kernel_rfl) (fun K hK => ?_)
      simp [go_sem]
      refine hK _ _ ?_; clear hK K
      refine W_ret ?_
      repeat (first | refine thenG_ret ?_ | refine inBlock_ret ?_)
      refine ⟨trivial, ?_, hE⟩
      simp [go_sem, pack, resL]
    · refine W_if (by simp [go_sem, h2]; rfl) rfl ?_
      first | refine W_rt (by kernel_rfl) (fun K hK => ?_) | refine W_text (by kernel_rfl) (fun K hK => ?_)
      simp [go_sem]
      refine hK _ _ ?_; clear hK K
      have hpq : p = q := by omega
      by_cases h3 : p < 0
      · have hzl : Z < 0 := sg_lt0.1 (hp ▸ h3)
        have hyl : Y < 0 := sg_lt0.1 (hq ▸ hpq ▸ h3)
        have hc := hS.trans (icmp_neg hzl hyl)
        rw [hzn, hyn] at hc
        refine W_if (by simp [go_sem, h3]; rfl) rfl ?_
        first | refine W_rt (by kernel_rfl) (fun K hK => ?_) | refine W_text (by kernel_rfl) (fun K hK => ?_)
        simp [go_sem, k0, k1, k2, k3, add_mk]
        refine hv_callc (by simp [go_sem]) rfl (by simp [go_sem]; rfl) Try.call144 (fun R1 hR => ?_)
        simp [go_sem, k0, k1, k2, k3, add_mk]
        refine (iLit_any m l b a d c _ hs hr hm hl).mono ?_
        rintro e w6 ⟨rfl, hE6⟩
        rw [← hc]
        refine ⟨_, rfl, hR _ _ ?_⟩
        clear hR R1
        simp [go_sem]
        refine hK _ _ ?_; clear hK K
        refine W_ret ?_
        repeat (first | refine thenG_ret ?_ | refine inBlock_ret ?_)
        refine ⟨trivial, ?_, hE.next hE6⟩
        simp [go_sem, pack, resL]
      · have hzl : 0 ≤ Z := by rcases Int.lt_or_le Z 0 with h | h; exact absurd (hp ▸ sg_lt0.2 h) h3; exact h
        have hyl : 0 ≤ Y := by rcases Int.lt_or_le Y 0 with h | h; exact absurd (hpq ▸ hq ▸ sg_lt0.2 h) h3; exact h
        have hc := hS.trans (icmp_pos hzl hyl)
        rw [hzn, hyn] at hc
        refine W_if (by simp [go_sem, h3]; rfl) rfl ?_
        refine W_skip ?_
        refine hK1 _ _ ?_; clear hK1 K1
        first | refine W_rt (by kernel_rfl) (fun K hK => ?_) | refine W_text (by kernel_rfl) (fun K hK => ?_)
        simp [go_sem, k0, k1, k2, k3, add_mk]
        refine hv_callc (by simp [go_sem]) rfl (by simp [go_sem]; rfl) Try.call144 (fun R1 hR => ?_)
        simp [go_sem, k0, k1, k2, k3, add_mk]
        refine (iLit_any l m a b c d _ hr hs hl hm).mono ?_
        rintro e w6 ⟨rfl, hE6⟩
        rw [← hc]
        refine ⟨_, rfl, hR _ _ ?_⟩
        clear hR R1
        simp [go_sem]
        refine hK _ _ ?_; clear hK K
        refine W_ret ?_
        repeat (first | refine thenG_ret ?_ | refine inBlock_ret ?_)
        refine ⟨trivial, ?_, hE.next hE6⟩
        simp [go_sem, pack, resL]
end Go.Proofs.Ytkampmdekonjmaa
