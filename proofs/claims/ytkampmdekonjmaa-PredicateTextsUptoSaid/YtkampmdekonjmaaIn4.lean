/- Integers: Add, Sub. -/
import Derived.Test.YtkampmdekonjmaaIn3
namespace Go.Proofs.Ytkampmdekonjmaa
open Go.RowKit Go.V
set_option linter.unusedSimpArgs false
set_option linter.unusedVariables false
set_option maxRecDepth 20000

theorem lim_of_len {l : List Nat} (h : Ok l) {k : Nat} (hl : l.length ≤ k) : (lim (val l)).length ≤ k := by rw [lim_val l h]; exact Nat.le_trans (nrm_len l) hl
set_option maxHeartbeats 1000000 in
theorem iAdd_any (neg peg : Bool) (l m : List Nat) (a b : Option Addr) (c d : Nat) (w : World) (hr : RD w a c l) (hs : RD w b d m) (hl : l.length ≤ 1000000000) (hm : m.length ≤ 1000000000) :
    Calls Try.prog 134 #[.agg #[.bool neg, .slice a l.length c], .agg #[.bool peg, .slice b m.length d]] w (RetI w (iv neg (val l) + iv peg (val m))) := by
  have hT : isBoolT Try.prog 4 = true := by kernel_rfl
  obtain ⟨Z, hZ⟩ : ∃ Z, Z = iv neg (val l) + iv peg (val m) := ⟨_, rfl⟩
  rw [← hZ]
  refine calls_of_W (args := [.agg #[.bool neg, .slice a l.length c], .agg #[.bool peg, .slice b m.length d]]) (rs := [.cell 4 26]) (n := 40) Try.func134 rfl rfl rfl (by kernel_rfl) ?_
  first | refine W_rt (by kernel_rfl) (fun K hK => ?_) | refine W_text (by kernel_rfl) (fun K hK => ?_)
  simp [go_sem]
  refine hv_box #[.bool neg, .slice a l.length c] (by simp [go_sem]) rfl (by simp [go_sem, Value.cells]) (fun w1 b1 hE1 hle1 hB1 => ?_)
  replace hr := hr.keep hE1
  replace hs := hs.keep hE1
  have hb1 := hB1.lt
  simp [go_sem]
  refine hv_box #[.bool peg, .slice b m.length d] (by simp [go_sem]) rfl (by simp [go_sem, Value.cells]) (fun w2 b2 hE2 hle2 hB2 => ?_)
  replace hr := hr.keep hE2
  replace hs := hs.keep hE2
  replace hB1 := hB1.keep hE2
  have hb2 := hB2.lt
  simp [go_sem]
  refine hv_alloc (by simp [go_sem]) rfl ty_zeroC26 (fun w4 b4 hE4 hle4 hB4 => ?_)
  replace hr := hr.keep hE4
  replace hs := hs.keep hE4
  replace hB1 := hB1.keep hE4
  replace hB2 := hB2.keep hE4
  have hE := (hE1.next hE2).next hE4
  have hle4' : w.heap.size ≤ b4 := Nat.le_trans hE1.size (Nat.le_trans hE2.size hle4)
  have hle2' : w.heap.size ≤ b2 := Nat.le_trans hE1.size hle2
  obtain ⟨k0, k1⟩ := ibx hB1
  obtain ⟨k2, k3⟩ := ibx hB2
  simp [go_sem]
  refine hK _ _ ?_; clear hK K
  refine W_seq (fun K1 hK1 => ?_)
  by_cases hnp : neg = peg
  · subst hnp
    rw [← iv_add] at hZ
    first | refine W_rt (by kernel_rfl) (fun K hK => ?_) | refine W_text (by kernel_rfl) (fun K hK => ?_)
    simp [go_sem, k0, k2, add_mk, hT]
    refine hK _ _ ?_; clear hK K
    refine W_if (by simp [go_sem]; rfl) rfl ?_
    have hD : Below w4.heap.size w4 w4.drew := Below.drew1 _
    replace hr := hr.keep hD
    replace hs := hs.keep hD
    replace hB1 := hB1.keep hD
    replace hB2 := hB2.keep hD
    replace hB4 := hB4.keep hD
    replace hE := hE.next hD
    obtain ⟨k0, k1⟩ := ibx hB1
    obtain ⟨k2, k3⟩ := ibx hB2
    first | refine W_rd [(0, 0), (1, 0), (2, 0), (3, 0), (4, 0), (5, 0), (6, 1), (7, 1), (8, 2)] (by kernel_rfl) (by kernel_rfl) (fun K hK => ?_) | refine W_draw [(0, 0), (1, 0), (2, 0), (3, 0), (4, 0), (5, 0), (6, 1), (7, 1), (8, 2)] (by kernel_rfl) (by kernel_rfl) (fun K hK => ?_)
    simp [go_sem, k0, k1, k2, k3, add_mk, hT]
    refine hv_call (by simp [go_sem, k0, k1, k2, k3, add_mk, hT]) rfl Try.call141 (fun R hR => ?_)
    simp [go_sem, k0, k1, k2, k3, add_mk, hT]
    refine (add_any l m a b c d _ hr hs (by unfold lenB; omega) (by unfold lenB; omega)).mono ?_
    rintro e w5 ⟨a5, c5, rfl, hr5, hE5⟩
    refine ⟨_, rfl, hE5, hR _ _ ?_⟩
    clear hR R
    replace hB4 := hB4.keep hE5
    replace hE := hE.next hE5
    have hma := made_any neg _ _ _ _ hr5
    rw [← hZ] at hma
    simp [go_sem, k0, k2, hT]
    refine hv_call (by simp [go_sem, k0, k2, hT]) rfl Try.call121 (fun R hR => ?_)
    simp [go_sem, k0, k2, hT]
    refine (hma).mono ?_
    rintro e w6 ⟨a6, c6, rfl, hr6, hE6⟩
    refine ⟨_, rfl, hE6, hR _ _ ?_⟩
    clear hR R
    replace hB4 := hB4.keep hE6
    replace hE := hE.next hE6
    simp [go_sem]
    refine hv_store (b := b4) (off := 0) [.bool (decide (Z < 0)), .slice a6 (lim Z.natAbs).length c6] (by simp [go_sem, iR]) rfl (by simp [go_sem, iR]) (by simp [go_sem, Value.cells, iR]) ty_size26 hB4 (by simp) (by simp [Value.oneCell']) (by decide) (fun w9 hS9 hB9 => ?_)
    simp [putC] at hB9
    replace hr6 := hr6.sto hS9 (hr6.nbox hB4)
    obtain ⟨k0, k1⟩ := ibx hB9
    simp [go_sem]
    refine hK _ _ ?_; clear hK K
    refine W_ret ?_
    repeat (first | refine thenG_ret ?_ | refine inBlock_ret ?_)
    refine ⟨by simp [resOk, go_sem, rowOk, k0, k1, add_mk], a6, c6, ?_, hr6, hE.nextS hS9 hle4'⟩
    simp [go_sem, pack, resL, rowV, k0, k1, add_mk, iR]
  · have hnb : (neg == peg) = false := by simpa using hnp
    first | refine W_rt (by kernel_rfl) (fun K hK => ?_) | refine W_text (by kernel_rfl) (fun K hK => ?_)
    simp [go_sem, k0, k2, add_mk, hT, hnb]
    refine hK _ _ ?_; clear hK K
    refine W_if (by simp [go_sem, hnb]; rfl) rfl ?_
    refine W_skip ?_
    refine hK1 _ _ ?_; clear hK1 K1
    refine W_seq (fun K1 hK1 => ?_)
    have main : ∀ (g : G) (w' : World) (s p : Bool) (L Q : List Nat) (x y : Option Addr) (i j : Nat), Below w.heap.size w w' → RD w' x i L → RD w' y j Q → L.length ≤ 1000000000 → Q.length ≤ 1000000000 → Bx w' b1 #[.bool s, .slice x L.length i] 26 → Bx w' b2 #[.bool p, .slice y Q.length j] 26 → Bx w' b4 #[.bool false, .slice none 0 0] 26 →
        val Q ≤ val L → iv s (val L - val Q) = Z → g 2 = .pointer (some ⟨b1, 0, none⟩) → g 3 = .pointer (some ⟨b2, 0, none⟩) → g 4 = .pointer (some ⟨b4, 0, none⟩) → K1 g w' := by
      intro g w' s p L Q x y i j hE hr hs hL hQ hB1 hB2 hB4 hle hz g2 g3 g4
      refine hK1 _ _ ?_; clear hK1 K1
      obtain ⟨k0, k1⟩ := ibx hB1
      obtain ⟨k2, k3⟩ := ibx hB2
      have hsu := sub_any L Q x y i j _ hr hs (by unfold lenB; omega) (by unfold lenB; omega)
      first | refine W_rt (by kernel_rfl) (fun K hK => ?_) | refine W_text (by kernel_rfl) (fun K hK => ?_)
      simp [go_sem, g2, g3, k0, k1, k2, k3, add_mk]
      refine hv_call (by simp [go_sem]) rfl Try.call142 (fun R hR => ?_)
      simp [go_sem, g2, g3, k0, k1, k2, k3, add_mk]
      refine hsu.mono ?_
      rintro e w5 (⟨hbad, _⟩ | ⟨_, a5, c5, rfl, hr5, hE5⟩)
      · omega
      refine ⟨_, rfl, hR _ _ ?_⟩
      clear hR R
      replace hB1 := hB1.keep hE5
      replace hB4 := hB4.keep hE5
      replace hE := hE.next hE5
      obtain ⟨k0, k1⟩ := ibx hB1
      have hma := made_any s _ _ _ _ hr5
      rw [hz] at hma
      simp [go_sem]
      refine hK _ _ ?_; clear hK K
      first | refine W_rt (by kernel_rfl) (fun K hK => ?_) | refine W_text (by kernel_rfl) (fun K hK => ?_)
      simp [go_sem, g2, g4, k0, add_mk]
      refine hv_call (by simp [go_sem, g2, g4, k0, add_mk]) rfl Try.call121 (fun R hR => ?_)
      simp [go_sem, g2, g4, k0, add_mk]
      refine (hma).mono ?_
      rintro e w6 ⟨a6, c6, rfl, hr6, hE6⟩
      refine ⟨_, rfl, hR _ _ ?_⟩
      clear hR R
      replace hB4 := hB4.keep hE6
      replace hE := hE.next hE6
      simp [go_sem, g4]
      refine hv_store (b := b4) (off := 0) [.bool (decide (Z < 0)), .slice a6 (lim Z.natAbs).length c6] (by simp [go_sem, iR, g4]) rfl (by simp [go_sem, iR, g4]) (by simp [go_sem, Value.cells, iR, g4]) ty_size26 hB4 (by simp) (by simp [Value.oneCell']) (by decide) (fun w9 hS9 hB9 => ?_)
      simp [putC] at hB9
      replace hr6 := hr6.sto hS9 (hr6.nbox hB4)
      obtain ⟨k0, k1⟩ := ibx hB9
      simp [go_sem]
      refine hK _ _ ?_; clear hK K
      refine W_ret ?_
      repeat (first | refine thenG_ret ?_ | refine inBlock_ret ?_)
      refine ⟨by simp [resOk, go_sem, rowOk, k0, k1, add_mk, g4], a6, c6, ?_, hr6, hE.nextS hS9 hle4'⟩
      simp [go_sem, pack, resL, rowV, k0, k1, add_mk, iR, g4]
    first | refine W_rt (by kernel_rfl) (fun K hK => ?_) | refine W_text (by kernel_rfl) (fun K hK => ?_)
    simp [go_sem, k1, k3, add_mk]
    refine hv_call (by simp [go_sem, k1, k3, add_mk]) rfl Try.call124 (fun R hR => ?_)
    simp [go_sem, k1, k3, add_mk]
    refine (cmp_any l m a b c d _ hr hs (by unfold lenB; omega) (by unfold lenB; omega)).mono ?_
    rintro e w5 ⟨rfl, hE5⟩
    refine ⟨_, rfl, hR _ _ ?_⟩
    clear hR R
    replace hr := hr.keep hE5
    replace hs := hs.keep hE5
    replace hB1 := hB1.keep hE5
    replace hB2 := hB2.keep hE5
    replace hB4 := hB4.keep hE5
    replace hE := hE.next hE5
    obtain ⟨k0, k1⟩ := ibx hB1
    obtain ⟨k2, k3⟩ := ibx hB2
    simp [go_sem]
    refine hK _ _ ?_; clear hK K
    by_cases hlt : val l < val m
    · have hc : cmpV (val l) (val m) < 0 := by rw [cmpV_lt hlt]; decide
      refine W_if (by simp [go_sem, hc]; rfl) rfl ?_
      first | refine W_rt (by kernel_rfl) (fun K hK => ?_) | refine W_text (by kernel_rfl) (fun K hK => ?_)
      simp [go_sem, k0, k1, k2, k3, add_mk, rowV, rowOk]
      refine hv_store (b := b1) (off := 0) [.bool peg, .slice b m.length d] (by simp [go_sem, k0, k1, k2, k3, add_mk, rowV]) rfl (by simp [go_sem, k0, k1, k2, k3, add_mk, rowV]) (by simp [go_sem, Value.cells, k0, k1, k2, k3, add_mk, rowV]) ty_size26 hB1 (by simp) (by simp [Value.oneCell']) (by decide) (fun w6 hS6 hB6 => ?_)
      simp [putC] at hB6
      replace hB2 := hB2.sto hS6 (by omega)
      replace hB4 := hB4.sto hS6 (by omega)
      replace hr := hr.sto hS6 (hr.nbox hB1)
      replace hs := hs.sto hS6 (hs.nbox hB1)
      replace hE := hE.nextS hS6 hle1
      simp [go_sem]
      refine hv_store (b := b2) (off := 0) [.bool neg, .slice a l.length c] (by simp [go_sem, k0, k1, k2, k3, add_mk, rowV]) rfl (by simp [go_sem, k0, k1, k2, k3, add_mk, rowV]) (by simp [go_sem, Value.cells, k0, k1, k2, k3, add_mk, rowV]) ty_size26 hB2 (by simp) (by simp [Value.oneCell']) (by decide) (fun w7 hS7 hB7 => ?_)
      simp [putC] at hB7
      replace hB6 := hB6.sto hS7 (by omega)
      replace hB4 := hB4.sto hS7 (by omega)
      replace hr := hr.sto hS7 (hr.nbox hB2)
      replace hs := hs.sto hS7 (hs.nbox hB2)
      replace hE := hE.nextS hS7 hle2'
      simp [go_sem]
      refine hK _ _ ?_
      exact main _ _ peg neg m l b a d c hE hs hr hm hl hB6 hB7 hB4 (by omega) (by rw [hZ]; exact iv_sub2 hnp hlt) (by simp [go_sem]) (by simp [go_sem]) (by simp [go_sem])
    · have hc : ¬ cmpV (val l) (val m) < 0 := by unfold cmpV; rw [if_neg hlt]; split <;> omega
      refine W_if (by simp [go_sem, hc]; rfl) rfl ?_
      refine W_skip ?_
      exact main _ _ neg peg l m a b c d hE hr hs hl hm hB1 hB2 hB4 (by omega) (by rw [hZ]; exact iv_sub1 hnp (by omega)) (by simp [go_sem]) (by simp [go_sem]) (by simp [go_sem])
set_option maxHeartbeats 1000000 in
theorem iAddR_any (neg peg : Bool) (l m : List Nat) (a b : Option Addr) (c d : Nat) (w : World) (hr : RD w a c l) (hs : RD w b d m) (hl : l.length ≤ 1000000000) (hm : m.length ≤ 1000000000) :
    Calls Try.prog 107 #[.agg #[.bool neg, .slice a l.length c], .agg #[.bool peg, .slice b m.length d]] w (RetI w (iv neg (val l) + iv peg (val m))) := by
  have hT : isBoolT Try.prog 4 = true := by kernel_rfl
  obtain ⟨Z, hZ⟩ : ∃ Z, Z = iv neg (val l) + iv peg (val m) := ⟨_, rfl⟩
  rw [← hZ]
  refine calls_of_W (args := [.agg #[.bool neg, .slice a l.length c], .agg #[.bool peg, .slice b m.length d]]) (rs := [.cell 4 26]) (n := 48) Try.func107 rfl rfl rfl (by kernel_rfl) ?_
  first | refine W_rt (by kernel_rfl) (fun K hK => ?_) | refine W_text (by kernel_rfl) (fun K hK => ?_)
  simp [go_sem]
  refine hv_box #[.bool neg, .slice a l.length c] (by simp [go_sem]) rfl (by simp [go_sem, Value.cells]) (fun w1 b1 hE1 hle1 hB1 => ?_)
  replace hr := hr.keep hE1
  replace hs := hs.keep hE1
  have hb1 := hB1.lt
  simp [go_sem]
  refine hv_box #[.bool peg, .slice b m.length d] (by simp [go_sem]) rfl (by simp [go_sem, Value.cells]) (fun w2 b2 hE2 hle2 hB2 => ?_)
  replace hr := hr.keep hE2
  replace hs := hs.keep hE2
  replace hB1 := hB1.keep hE2
  have hb2 := hB2.lt
  simp [go_sem]
  refine hv_alloc (by simp [go_sem]) rfl ty_zeroC26 (fun w4 b4 hE4 hle4 hB4 => ?_)
  replace hr := hr.keep hE4
  replace hs := hs.keep hE4
  replace hB1 := hB1.keep hE4
  replace hB2 := hB2.keep hE4
  have hE := (hE1.next hE2).next hE4
  have hle4' : w.heap.size ≤ b4 := Nat.le_trans hE1.size (Nat.le_trans hE2.size hle4)
  have hle2' : w.heap.size ≤ b2 := Nat.le_trans hE1.size hle2
  obtain ⟨k0, k1⟩ := ibx hB1
  obtain ⟨k2, k3⟩ := ibx hB2
  simp [go_sem]
  refine hK _ _ ?_; clear hK K
  have hll := lim_of_len hr.ok hl
  have hml := lim_of_len hs.ok hm
  refine W_seq (fun K1 hK1 => ?_)
  by_cases hnp : neg = peg
  · subst hnp
    rw [← iv_add] at hZ
    first | refine W_rt (by kernel_rfl) (fun K hK => ?_) | refine W_text (by kernel_rfl) (fun K hK => ?_)
    simp [go_sem, k0, k2, add_mk, hT]
    refine hK _ _ ?_; clear hK K
    refine W_if (by simp [go_sem]; rfl) rfl ?_
    have hD : Below w4.heap.size w4 w4.drew := Below.drew1 _
    replace hr := hr.keep hD
    replace hs := hs.keep hD
    replace hB1 := hB1.keep hD
    replace hB2 := hB2.keep hD
    replace hB4 := hB4.keep hD
    replace hE := hE.next hD
    obtain ⟨k0, k1⟩ := ibx hB1
    obtain ⟨k2, k3⟩ := ibx hB2
    first | refine W_rd [(0, 0), (1, 0), (2, 0), (3, 0), (4, 0), (5, 0), (6, 1), (7, 1), (8, 2)] (by kernel_rfl) (by kernel_rfl) (fun K hK => ?_) | refine W_draw [(0, 0), (1, 0), (2, 0), (3, 0), (4, 0), (5, 0), (6, 1), (7, 1), (8, 2)] (by kernel_rfl) (by kernel_rfl) (fun K hK => ?_)
    simp [go_sem, k0, k1, k2, k3, add_mk, hT]
    refine hv_call (by simp [go_sem, k0, k1, k2, k3, add_mk, hT]) rfl Try.call86 (fun R hR => ?_)
    simp [go_sem, k0, k1, k2, k3, add_mk, hT]
    refine (addR_any l m a b c d _ hr hs (by unfold lenS; omega) (by unfold lenS; omega)).mono ?_
    rintro e w5 ⟨a5, c5, rfl, hr5, hE5⟩
    refine ⟨_, rfl, hE5, hR _ _ ?_⟩
    clear hR R
    replace hB4 := hB4.keep hE5
    replace hE := hE.next hE5
    have hal : (lim (val l + val m)).length ≤ 1000000000 + 1 := lim_add_len hll hml
    have hma := iofR_any neg _ _ _ _ hr5 (by unfold lenB; omega)
    rw [val_lim, ← hZ] at hma
    simp [go_sem, k0, k2, hT]
    refine hv_call (by simp [go_sem, k0, k2, hT]) rfl Try.call85 (fun R hR => ?_)
    simp [go_sem, k0, k2, hT]
    refine (hma).mono ?_
    rintro e w6 ⟨a6, c6, rfl, hr6, hE6⟩
    refine ⟨_, rfl, hE6, hR _ _ ?_⟩
    clear hR R
    replace hB4 := hB4.keep hE6
    replace hE := hE.next hE6
    simp [go_sem]
    refine hv_store (b := b4) (off := 0) [.bool (decide (Z < 0)), .slice a6 (lim Z.natAbs).length c6] (by simp [go_sem, iR]) rfl (by simp [go_sem, iR]) (by simp [go_sem, Value.cells, iR]) ty_size26 hB4 (by simp) (by simp [Value.oneCell']) (by decide) (fun w9 hS9 hB9 => ?_)
    simp [putC] at hB9
    replace hr6 := hr6.sto hS9 (hr6.nbox hB4)
    obtain ⟨k0, k1⟩ := ibx hB9
    simp [go_sem]
    refine hK _ _ ?_; clear hK K
    refine W_ret ?_
    repeat (first | refine thenG_ret ?_ | refine inBlock_ret ?_)
    refine ⟨by simp [resOk, go_sem, rowOk, k0, k1, add_mk], a6, c6, ?_, hr6, hE.nextS hS9 hle4'⟩
    simp [go_sem, pack, resL, rowV, k0, k1, add_mk, iR]
  · have hnb : (neg == peg) = false := by simpa using hnp
    first | refine W_rt (by kernel_rfl) (fun K hK => ?_) | refine W_text (by kernel_rfl) (fun K hK => ?_)
    simp [go_sem, k0, k2, add_mk, hT, hnb]
    refine hK _ _ ?_; clear hK K
    refine W_if (by simp [go_sem, hnb]; rfl) rfl ?_
    refine W_skip ?_
    refine hK1 _ _ ?_; clear hK1 K1
    refine W_seq (fun K1 hK1 => ?_)
    by_cases hlt : val l < val m
    · first | refine W_rt (by kernel_rfl) (fun K hK => ?_) | refine W_text (by kernel_rfl) (fun K hK => ?_)
      simp [go_sem, k0, k1, k2, k3, add_mk]
      refine hv_call (by simp [go_sem]) rfl Try.call129 (fun R hR => ?_)
      simp [go_sem, k0, k1, k2, k3, add_mk]
      refine (subR_any l m a b c d _ hr hs (by unfold lenB; omega) (by unfold lenB; omega)).mono ?_
      rintro e w5 (⟨_, rfl, hE5⟩ | ⟨hbad, _⟩)
      · refine ⟨_, rfl, hR _ _ ?_⟩
        clear hR R
        replace hr := hr.keep hE5
        replace hs := hs.keep hE5
        replace hB1 := hB1.keep hE5
        replace hB2 := hB2.keep hE5
        replace hB4 := hB4.keep hE5
        replace hE := hE.next hE5
        obtain ⟨k0, k1⟩ := ibx hB1
        obtain ⟨k2, k3⟩ := ibx hB2
        simp [go_sem]
        refine hK _ _ ?_; clear hK K
        first | refine W_rt (by kernel_rfl) (fun K hK => ?_) | refine W_text (by kernel_rfl) (fun K hK => ?_)
        simp [go_sem]
        refine hK _ _ ?_; clear hK K
        refine W_if (by simp [go_sem]; rfl) rfl ?_
        refine W_skip ?_
        refine hK1 _ _ ?_; clear hK1 K1
        first | refine W_rt (by kernel_rfl) (fun K hK => ?_) | refine W_text (by kernel_rfl) (fun K hK => ?_)
        simp [go_sem, k0, k1, k2, k3, add_mk]
        refine hv_call (by simp [go_sem]) rfl Try.call129 (fun R hR => ?_)
        simp [go_sem, k0, k1, k2, k3, add_mk]
        refine (subR_any m l b a d c _ hs hr (by unfold lenB; omega) (by unfold lenB; omega)).mono ?_
        rintro e w7 (⟨hbad, _⟩ | ⟨_, a7, c7, rfl, hr7, hE7⟩)
        · omega
        refine ⟨_, rfl, hR _ _ ?_⟩
        clear hR R
        replace hB2 := hB2.keep hE7
        replace hB4 := hB4.keep hE7
        replace hE := hE.next hE7
        obtain ⟨k2, k3⟩ := ibx hB2
        have hal : (lim (val m - val l)).length ≤ 1000000000 := lim_mono (Nat.sub_le _ _) hml
        have hma := iofR_any peg _ _ _ _ hr7 (by unfold lenB; omega)
        rw [val_lim, iv_sub2 hnp hlt, ← hZ] at hma
        simp [go_sem]
        refine hK _ _ ?_; clear hK K
        first | refine W_rt (by kernel_rfl) (fun K hK => ?_) | refine W_text (by kernel_rfl) (fun K hK => ?_)
        simp [go_sem, k2, add_mk]
        refine hv_call (by simp [go_sem, k2, add_mk]) rfl Try.call85 (fun R hR => ?_)
        simp [go_sem, k2, add_mk]
        refine (hma).mono ?_
        rintro e w6 ⟨a6, c6, rfl, hr6, hE6⟩
        refine ⟨_, rfl, hR _ _ ?_⟩
        clear hR R
        replace hB4 := hB4.keep hE6
        replace hE := hE.next hE6
        simp [go_sem]
        refine hv_store (b := b4) (off := 0) [.bool (decide (Z < 0)), .slice a6 (lim Z.natAbs).length c6] (by simp [go_sem, iR]) rfl (by simp [go_sem, iR]) (by simp [go_sem, Value.cells, iR]) ty_size26 hB4 (by simp) (by simp [Value.oneCell']) (by decide) (fun w9 hS9 hB9 => ?_)
        simp [putC] at hB9
        replace hr6 := hr6.sto hS9 (hr6.nbox hB4)
        obtain ⟨k0, k1⟩ := ibx hB9
        simp [go_sem]
        refine hK _ _ ?_; clear hK K
        refine W_ret ?_
        repeat (first | refine thenG_ret ?_ | refine inBlock_ret ?_)
        refine ⟨by simp [resOk, go_sem, rowOk, k0, k1, add_mk], a6, c6, ?_, hr6, hE.nextS hS9 hle4'⟩
        simp [go_sem, pack, resL, rowV, k0, k1, add_mk, iR]
      · omega
    · first | refine W_rt (by kernel_rfl) (fun K hK => ?_) | refine W_text (by kernel_rfl) (fun K hK => ?_)
      simp [go_sem, k0, k1, k2, k3, add_mk]
      refine hv_call (by simp [go_sem]) rfl Try.call129 (fun R hR => ?_)
      simp [go_sem, k0, k1, k2, k3, add_mk]
      refine (subR_any l m a b c d _ hr hs (by unfold lenB; omega) (by unfold lenB; omega)).mono ?_
      rintro e w5 (⟨hbad, _⟩ | ⟨_, a5, c5, rfl, hr5, hE5⟩)
      · omega
      refine ⟨_, rfl, hR _ _ ?_⟩
      clear hR R
      replace hB1 := hB1.keep hE5
      replace hB4 := hB4.keep hE5
      replace hE := hE.next hE5
      obtain ⟨k0, k1⟩ := ibx hB1
      have hal : (lim (val l - val m)).length ≤ 1000000000 := lim_mono (Nat.sub_le _ _) hll
      have hma := iofR_any neg _ _ _ _ hr5 (by unfold lenB; omega)
      rw [val_lim, iv_sub1 hnp (by omega), ← hZ] at hma
      simp [go_sem]
      refine hK _ _ ?_; clear hK K
      first | refine W_rt (by kernel_rfl) (fun K hK => ?_) | refine W_text (by kernel_rfl) (fun K hK => ?_)
      simp [go_sem]
      refine hK _ _ ?_; clear hK K
      refine W_if (by simp [go_sem]; rfl) rfl ?_
      first | refine W_rt (by kernel_rfl) (fun K hK => ?_) | refine W_text (by kernel_rfl) (fun K hK => ?_)
      simp [go_sem, k0, add_mk]
      refine hv_call (by simp [go_sem, k0, add_mk]) rfl Try.call85 (fun R hR => ?_)
      simp [go_sem, k0, add_mk]
      refine (hma).mono ?_
      rintro e w6 ⟨a6, c6, rfl, hr6, hE6⟩
      refine ⟨_, rfl, hR _ _ ?_⟩
      clear hR R
      replace hB4 := hB4.keep hE6
      replace hE := hE.next hE6
      simp [go_sem]
      refine hv_store (b := b4) (off := 0) [.bool (decide (Z < 0)), .slice a6 (lim Z.natAbs).length c6] (by simp [go_sem, iR]) rfl (by simp [go_sem, iR]) (by simp [go_sem, Value.cells, iR]) ty_size26 hB4 (by simp) (by simp [Value.oneCell']) (by decide) (fun w9 hS9 hB9 => ?_)
      simp [putC] at hB9
      replace hr6 := hr6.sto hS9 (hr6.nbox hB4)
      obtain ⟨k0, k1⟩ := ibx hB9
      simp [go_sem]
      refine hK _ _ ?_; clear hK K
      refine W_ret ?_
      repeat (first | refine thenG_ret ?_ | refine inBlock_ret ?_)
      refine ⟨by simp [resOk, go_sem, rowOk, k0, k1, add_mk], a6, c6, ?_, hr6, hE.nextS hS9 hle4'⟩
      simp [go_sem, pack, resL, rowV, k0, k1, add_mk, iR]
end Go.Proofs.Ytkampmdekonjmaa
