/- Integers: division. -/
import Derived.Test.YtifgdiejpglhfaaGreatIn5
import Derived.Test.YtifgdiejpglhfaaGreatIn6
namespace Go.Proofs.YtifgdiejpglhfaaGreat
open Go.RowKit Go.V
set_option linter.unusedSimpArgs false
set_option linter.unusedVariables false
set_option maxRecDepth 20000

def qq (z y : Int) : Int := if y = 0 then 0 else z / y
def rr (z y : Int) : Int := if y = 0 then 0 else z % y
def ee (y : Int) : Int := if y = 0 then 3 else 0
def RetQ (w : World) (z y : Int) (e : Ending) (w' : World) : Prop := ∃ a c a' c', e = .returned (.tuple #[iR (qq z y) a c, iR (rr z y) a' c', .int .i64 (ee y)]) ∧ RD w' a c (lim (qq z y).natAbs) ∧ RD w' a' c' (lim (rr z y).natAbs) ∧ Below w.heap.size w w'
theorem ed {z y q r : Int} (hy : y ≠ 0) (h : r + y * q = z) (h0 : 0 ≤ r) (h1 : r < y.natAbs) : z / y = q ∧ z % y = r := by
  rcases Int.lt_or_gt_of_ne hy with h' | h'
  · have := (Int.ediv_emod_unique (a := z) (b := -y) (q := -q) (r := r) (by omega)).2 ⟨by rw [Int.neg_mul_neg]; exact h, h0, by omega⟩
    rw [Int.ediv_neg, Int.emod_neg] at this
    exact ⟨by omega, this.2⟩
  · exact (Int.ediv_emod_unique h').2 ⟨h, h0, by omega⟩
theorem iv_ne (peg : Bool) {m : Nat} (h : m ≠ 0) : iv peg m ≠ 0 := by unfold iv; cases peg <;> simp <;> omega
theorem dm1 (neg peg : Bool) (x m : Nat) (hm : m ≠ 0) (hc : ¬ (neg = true ∧ 0 < x % m)) :
    iv (!(neg == peg)) (x / m) = qq (iv neg x) (iv peg m) ∧ iv false (x % m) = rr (iv neg x) (iv peg m) := by
  unfold qq rr
  have hn := iv_ne peg hm
  rw [if_neg hn, if_neg hn]
  have e : (m : Int) * ((x / m : Nat) : Int) + ((x % m : Nat) : Int) = (x : Int) := by exact_mod_cast Nat.div_add_mod x m
  have hl := Nat.mod_lt x (Nat.pos_of_ne_zero hm)
  generalize x / m = q at *
  generalize x % m = r at *
  have := ed (z := iv neg x) (q := iv (!(neg == peg)) q) (r := iv false r) hn (by
    cases neg <;> cases peg <;> simp [iv, Int.neg_mul, Int.mul_neg] at * <;> omega) (by simp [iv]) (by rw [iv_abs]; simp [iv]; omega)
  exact ⟨this.1.symm, this.2.symm⟩
theorem dm2 (peg : Bool) (x m : Nat) (hm : m ≠ 0) (hc : 0 < x % m) :
    iv (!(true == peg)) (x / m + 1) = qq (iv true x) (iv peg m) ∧ iv false (m - x % m) = rr (iv true x) (iv peg m) := by
  unfold qq rr
  have hn := iv_ne peg hm
  rw [if_neg hn, if_neg hn]
  obtain ⟨Q, hQ⟩ : ∃ Q, Q = x / m + 1 := ⟨_, rfl⟩
  have e : m * Q + x % m = x + m := by
    have := Nat.div_add_mod x m
    rw [hQ, Nat.mul_add, Nat.mul_one]; omega
  have hl := Nat.mod_lt x (Nat.pos_of_ne_zero hm)
  obtain ⟨s, hs⟩ : ∃ s, s = m - x % m := ⟨_, rfl⟩
  rw [← hQ, ← hs]
  have e' : m * Q = x + s := by omega
  have e2 : (m : Int) * (Q : Int) = (x : Int) + s := by exact_mod_cast e'
  have := ed (z := iv true x) (q := iv (!(true == peg)) Q) (r := iv false s) hn (by
    cases peg <;> simp [iv, Int.neg_mul, Int.mul_neg] at * <;> omega) (by simp [iv]) (by rw [iv_abs]; simp [iv]; omega)
  exact ⟨this.1.symm, this.2.symm⟩
theorem rd_one {w : World} {b x : Nat} {t : TypeId} (h : Bx w b #[.int .u16 (x : Int)] t) (hx : x < 65536) : RD w (some ⟨b, 0, none⟩) 1 [x] := by
  refine ⟨.inr ⟨b, 0, rfl, fun j u hu => ?_⟩, ?_, by simp⟩
  · match j with
    | 0 =>
      simp [lmC] at hu
      subst hu
      simpa using h.cell 0
    | j + 1 => simp [lmC] at hu
  · intro y hy
    simp at hy; omega
set_option maxHeartbeats 2000000 in
theorem iDivMod_any (neg peg : Bool) (l m : List Nat) (a b : Option Addr) (c d : Nat) (w : World) (hr : RD w a c l) (hs : RD w b d m) (hl : l.length ≤ 1000000000) (hm : m.length ≤ 1000000000) :
    Calls Tryz.prog 83 #[.agg #[.bool neg, .slice a l.length c], .agg #[.bool peg, .slice b m.length d]] w (RetQ w (iv neg (val l)) (iv peg (val m))) := by
  have hT : isBoolT Tryz.prog 4 = true := by kernel_rfl
  obtain ⟨Z, hZ⟩ : ∃ Z, Z = iv neg (val l) := ⟨_, rfl⟩
  obtain ⟨Y, hY⟩ : ∃ Y, Y = iv peg (val m) := ⟨_, rfl⟩
  rw [← hZ, ← hY]
  refine calls_of_W (args := [.agg #[.bool neg, .slice a l.length c], .agg #[.bool peg, .slice b m.length d]]) (rs := [.cell 4 25, .cell 5 25, .tmp 6]) (n := 49) Tryz.func83 rfl rfl rfl (by kernel_rfl) ?_
  first | refine W_rt (by kernel_rfl) (fun K hK => ?_) | refine W_text (by kernel_rfl) (fun K hK => ?_)
  simp [go_sem]
  refine hv_box #[.bool neg, .slice a l.length c] (by simp [go_sem]) rfl (by simp [go_sem, Value.cells]) (fun w2 b2 hE2 hle2 hB2 => ?_)
  replace hr := hr.keep hE2
  replace hs := hs.keep hE2
  have hb2 := hB2.lt
  simp [go_sem]
  refine hv_box #[.bool peg, .slice b m.length d] (by simp [go_sem]) rfl (by simp [go_sem, Value.cells]) (fun w3 b3 hE3 hle3 hB3 => ?_)
  replace hr := hr.keep hE3
  replace hs := hs.keep hE3
  replace hB2 := hB2.keep hE3
  have hb3 := hB3.lt
  simp [go_sem]
  refine hv_alloc (by simp [go_sem]) rfl ty_zeroC25 (fun w4 b4 hE4 hle4 hB4 => ?_)
  replace hr := hr.keep hE4
  replace hs := hs.keep hE4
  replace hB2 := hB2.keep hE4
  replace hB3 := hB3.keep hE4
  have hb4 := hB4.lt
  simp [go_sem]
  refine hv_alloc (by simp [go_sem]) rfl ty_zeroC25 (fun w5 b5 hE5 hle5 hB5 => ?_)
  replace hr := hr.keep hE5
  replace hs := hs.keep hE5
  replace hB2 := hB2.keep hE5
  replace hB3 := hB3.keep hE5
  replace hB4 := hB4.keep hE5
  have hE := ((hE2.next hE3).next hE4).next hE5
  have hle4' : w.heap.size ≤ b4 := Nat.le_trans hE2.size (Nat.le_trans hE3.size hle4)
  have hle5' : w.heap.size ≤ b5 := Nat.le_trans hE2.size (Nat.le_trans hE3.size (Nat.le_trans hE4.size hle5))
  have h45 : b4 ≠ b5 := by omega
  clear hE2 hE3 hE4 hE5
  obtain ⟨k0, k1⟩ := ibx hB2
  obtain ⟨k2, k3⟩ := ibx hB3
  simp [go_sem]
  refine hK _ _ ?_; clear hK K
  first | refine W_rt (by kernel_rfl) (fun K hK => ?_) | refine W_text (by kernel_rfl) (fun K hK => ?_)
  simp [go_sem, k0, k1, k2, k3, add_mk]
  refine hv_call (by simp [go_sem]) rfl Tryz.call117 (fun R hR => ?_)
  simp [go_sem, k0, k1, k2, k3, add_mk]
  refine (divmod_any l m a b c d _ hr hs (by unfold lenS; omega) (by unfold lenS; omega)).mono ?_
  rintro e w6 (⟨h0, rfl, hE6⟩ | ⟨h0, a6, c6, a6', c6', rfl, hr6, hs6, hE6⟩)
  · refine ⟨_, rfl, hR _ _ ?_⟩
    clear hR R
    have hZ0 : Y = 0 := by rw [hY]; unfold iv; rw [h0]; cases peg <;> rfl
    replace hB4 := hB4.keep hE6
    replace hB5 := hB5.keep hE6
    replace hE := hE.next hE6
    simp [go_sem]
    refine hK _ _ ?_; clear hK K
    refine W_seq (fun K1 hK1 => ?_)
    first | refine W_rt (by kernel_rfl) (fun K hK => ?_) | refine W_text (by kernel_rfl) (fun K hK => ?_)
    simp [go_sem]
    refine hK _ _ ?_; clear hK K
    refine W_if (by simp [go_sem]; rfl) rfl ?_
    first | refine W_rt (by kernel_rfl) (fun K hK => ?_) | refine W_text (by kernel_rfl) (fun K hK => ?_)
    simp [go_sem]
    refine hv_build #[.bool false, .slice none 0 0] (by simp [go_sem]) rfl ty_stZ25 [] (by simp [go_sem]) rfl ?_
    simp [go_sem]
    refine hv_build #[.bool false, .slice none 0 0] (by simp [go_sem]) rfl ty_stZ25 [] (by simp [go_sem]) rfl ?_
    simp [go_sem]
    refine hv_store (b := b4) (off := 0) [.bool false, .slice none 0 0] (by simp [go_sem]) rfl (by simp [go_sem]) (by simp [go_sem, Value.cells]) ty_size25 hB4 (by simp) (by simp [Value.oneCell']) (by decide) (fun w7 hS7 hB7 => ?_)
    simp [putC] at hB7
    replace hB5 := hB5.sto hS7 (by omega)
    replace hE := hE.nextS hS7 hle4'
    simp [go_sem]
    refine hv_store (b := b5) (off := 0) [.bool false, .slice none 0 0] (by simp [go_sem]) rfl (by simp [go_sem]) (by simp [go_sem, Value.cells]) ty_size25 hB5 (by simp) (by simp [Value.oneCell']) (by decide) (fun w8 hS8 hB8 => ?_)
    simp [putC] at hB8
    replace hB7 := hB7.sto hS8 (by omega)
    replace hE := hE.nextS hS8 hle5'
    obtain ⟨k0, k1⟩ := ibx hB7
    obtain ⟨k2, k3⟩ := ibx hB8
    simp [go_sem]
    refine hK _ _ ?_; clear hK K
    refine W_ret ?_
    repeat (first | refine thenG_ret ?_ | refine inBlock_ret ?_)
    have q1 : qq Z Y = 0 := by unfold qq; rw [if_pos hZ0]
    have q2 : rr Z Y = 0 := by unfold rr; rw [if_pos hZ0]
    have q3 : ee Y = 3 := by unfold ee; rw [if_pos hZ0]
    refine ⟨by simp [resOk, go_sem, rowOk, k0, k1, k2, k3, add_mk], none, 0, none, 0, ?_, ?_, ?_, hE⟩
    · rw [q1, q2, q3]
      have hz0 : (lim 0).length = 0 := by rw [lim_zero]; rfl
      simp [go_sem, pack, resL, rowV, k0, k1, k2, k3, add_mk, iR, hz0]
    · rw [q1]; show RD _ none 0 (lim 0); rw [lim_zero]; exact RD.nil _ _ _
    · rw [q2]; show RD _ none 0 (lim 0); rw [lim_zero]; exact RD.nil _ _ _
  · replace hE := hE.next hE6
    replace hr := hr.keep hE6
    replace hs := hs.keep hE6
    replace hB2 := hB2.keep hE6
    replace hB3 := hB3.keep hE6
    replace hB4 := hB4.keep hE6
    replace hB5 := hB5.keep hE6
    obtain ⟨k0, k1⟩ := ibx hB2
    obtain ⟨k2, k3⟩ := ibx hB3
    have hY0 : Y ≠ 0 := by rw [hY]; exact iv_ne peg h0
    have hll : (lim (val l)).length ≤ 1000000000 := lim_of_len hr.ok hl
    have hQl : (lim (val l / val m)).length ≤ 1000000000 := lim_mono (Nat.div_le_self _ _) hll
    have hRl : (lim (val l % val m)).length ≤ 1000000000 := lim_mono (Nat.mod_le _ _) hll
    have hd1 := dm1 neg peg (val l) (val m) h0
    have hd2 := dm2 peg (val l) (val m) h0
    have hml := Nat.mod_lt (val l) (Nat.pos_of_ne_zero h0)
    obtain ⟨Q, hQ⟩ : ∃ Q, Q = val l / val m := ⟨_, rfl⟩
    obtain ⟨T, hT0⟩ : ∃ T, T = val l % val m := ⟨_, rfl⟩
    rw [← hQ] at hr6 hQl hd1 hd2 ⊢
    rw [← hT0] at hs6 hRl hd1 hd2 hml ⊢
    rw [← hZ, ← hY] at hd1
    refine ⟨_, rfl, hR _ _ ?_⟩
    clear hR R
    simp [go_sem]
    refine hK _ _ ?_; clear hK K
    refine W_seq (fun K1 hK1 => ?_)
    first | refine W_rt (by kernel_rfl) (fun K hK => ?_) | refine W_text (by kernel_rfl) (fun K hK => ?_)
    simp [go_sem]
    refine hK _ _ ?_; clear hK K
    refine W_if (by simp [go_sem]; rfl) rfl ?_
    refine W_skip ?_
    refine hK1 _ _ ?_; clear hK1 K1
    refine W_seq (fun K1 hK1 => ?_)
    by_cases hc : neg = true ∧ 0 < T
    · obtain ⟨hn, hT1⟩ := hc
      subst hn
      obtain ⟨e1, e2⟩ := hd2 hT1
      rw [← hZ, ← hY] at e1 e2
      have hbt : (true == peg) = peg := by cases peg <;> rfl
      rw [hbt] at e1
      have hlp := lim_ne (B := T) (by omega)
      have hlp' : (0 : Int) < ((lim T).length : Int) := by omega
      first | refine W_rt (by kernel_rfl) (fun K hK => ?_) | refine W_text (by kernel_rfl) (fun K hK => ?_)
      simp [go_sem, k0, k2, add_mk, hlp, hlp']
      refine hK _ _ ?_; clear hK K
      refine W_if (by simp [go_sem]; rfl) rfl ?_
      first | refine W_rt (by kernel_rfl) (fun K hK => ?_) | refine W_text (by kernel_rfl) (fun K hK => ?_)
      simp [go_sem]
      refine hv_buildSlice #[.int .u16 1] (by simp [go_sem]) rfl ty_slZ23 (by decide) [(0, .int .u16 1)] (by simp [go_sem]) (by kernel_rfl) (fun w7 b7 hE7 hle7 hB7 => ?_)
      have hone := rd_one (x := 1) hB7 (by decide)
      replace hE := hE.next hE7
      replace hr := hr.keep hE7
      replace hs := hs.keep hE7
      replace hB2 := hB2.keep hE7
      replace hB3 := hB3.keep hE7
      replace hB4 := hB4.keep hE7
      replace hB5 := hB5.keep hE7
      replace hr6 := hr6.keep hE7
      replace hs6 := hs6.keep hE7
      simp [go_sem]
      refine hv_call (by simp [go_sem]) rfl Tryz.call118 (fun R hR => ?_)
      simp [go_sem]
      refine (add_any (lim Q) [1] a6 _ c6 1 _ hr6 hone (by unfold lenB; omega) (by simp [lenB])).mono ?_
      rintro e w8 ⟨a8, c8, rfl, hr8, hE8⟩
      refine ⟨_, rfl, hR _ _ ?_⟩
      clear hR R
      replace hE := hE.next hE8
      replace hr := hr.keep hE8
      replace hs := hs.keep hE8
      replace hB2 := hB2.keep hE8
      replace hB3 := hB3.keep hE8
      replace hB4 := hB4.keep hE8
      replace hB5 := hB5.keep hE8
      replace hs6 := hs6.keep hE8
      have hv1 : val [1] = 1 := rfl
      rw [val_lim, hv1] at hr8 ⊢
      obtain ⟨k0, k1⟩ := ibx hB2
      obtain ⟨k2, k3⟩ := ibx hB3
      simp [go_sem]
      refine hK _ _ ?_; clear hK K
      first | refine W_rt (by kernel_rfl) (fun K hK => ?_) | refine W_text (by kernel_rfl) (fun K hK => ?_)
      simp [go_sem, k0, k1, k2, k3, add_mk]
      refine hv_call (by simp [go_sem]) rfl Tryz.call119 (fun R hR => ?_)
      simp [go_sem, k0, k1, k2, k3, add_mk]
      refine (sub_any m (lim T) b a6' d c6' _ hs hs6 (by unfold lenB; omega) (by unfold lenB; omega)).mono ?_
      rintro e w9 (⟨hbad, _⟩ | ⟨_, a7, c7, rfl, hr7, hE9⟩)
      · rw [val_lim] at hbad; omega
      rw [val_lim] at hr7 ⊢
      refine ⟨_, rfl, hR _ _ ?_⟩
      clear hR R
      replace hE := hE.next hE9
      replace hr := hr.keep hE9
      replace hs := hs.keep hE9
      replace hB2 := hB2.keep hE9
      replace hB3 := hB3.keep hE9
      replace hB4 := hB4.keep hE9
      replace hB5 := hB5.keep hE9
      replace hr8 := hr8.keep hE9
      obtain ⟨k0, k1⟩ := ibx hB2
      obtain ⟨k2, k3⟩ := ibx hB3
      have hma := fun {w} hr => made_any (!peg) (Q + 1) a8 c8 w hr
      have hmb := fun {w} hr => made_any false (val m - T) a7 c7 w hr
      rw [e1] at hma
      rw [e2] at hmb
      simp [go_sem]
      refine hK _ _ ?_; clear hK K
      refine hK1 _ _ ?_; clear hK1 K1
      first | refine W_rt (by kernel_rfl) (fun K hK => ?_) | refine W_text (by kernel_rfl) (fun K hK => ?_)
      simp [go_sem, k0, k1, k2, k3, add_mk, hT]
      refine hv_call (by simp [go_sem, k0, k1, k2, k3, add_mk, hT]) rfl Tryz.call113 (fun R hR => ?_)
      simp [go_sem, k0, k1, k2, k3, add_mk, hT]
      refine (hma hr8).mono ?_
      rintro e w10 ⟨a9, c9, rfl, hr9, hE9⟩
      refine ⟨_, rfl, hR _ _ ?_⟩
      clear hR R
      replace hE := hE.next hE9
      replace hB4 := hB4.keep hE9
      replace hB5 := hB5.keep hE9
      replace hr7 := hr7.keep hE9
      simp [go_sem]
      refine hv_call (by simp [go_sem]) rfl Tryz.call113 (fun R hR => ?_)
      simp [go_sem]
      refine (hmb hr7).mono ?_
      rintro e w11 ⟨a10, c10, rfl, hr10, hE10⟩
      refine ⟨_, rfl, hR _ _ ?_⟩
      clear hR R
      replace hE := hE.next hE10
      replace hB4 := hB4.keep hE10
      replace hB5 := hB5.keep hE10
      replace hr9 := hr9.keep hE10
      simp [go_sem]
      refine hv_store (b := b4) (off := 0) [.bool (decide (qq Z Y < 0)), .slice a9 (lim (qq Z Y).natAbs).length c9] (by simp [go_sem, iR]) rfl (by simp [go_sem, iR]) (by simp [go_sem, Value.cells, iR]) ty_size25 hB4 (by simp) (by simp [Value.oneCell']) (by decide) (fun w11 hS11 hB11 => ?_)
      simp [putC] at hB11
      replace hB5 := hB5.sto hS11 (by omega)
      replace hr9 := hr9.sto hS11 (hr9.nbox hB4)
      replace hr10 := hr10.sto hS11 (hr10.nbox hB4)
      replace hE := hE.nextS hS11 hle4'
      simp [go_sem]
      refine hv_store (b := b5) (off := 0) [.bool (decide (rr Z Y < 0)), .slice a10 (lim (rr Z Y).natAbs).length c10] (by simp [go_sem, iR]) rfl (by simp [go_sem, iR]) (by simp [go_sem, Value.cells, iR]) ty_size25 hB5 (by simp) (by simp [Value.oneCell']) (by decide) (fun w12 hS12 hB12 => ?_)
      simp [putC] at hB12
      replace hB11 := hB11.sto hS12 (by omega)
      replace hr9 := hr9.sto hS12 (hr9.nbox hB5)
      replace hr10 := hr10.sto hS12 (hr10.nbox hB5)
      replace hE := hE.nextS hS12 hle5'
      obtain ⟨k0, k1⟩ := ibx hB11
      obtain ⟨k2, k3⟩ := ibx hB12
      simp [go_sem]
      refine hK _ _ ?_; clear hK K
      refine W_ret ?_
      repeat (first | refine thenG_ret ?_ | refine inBlock_ret ?_)
      have q3 : ee Y = 0 := by unfold ee; rw [if_neg hY0]
      refine ⟨by simp [resOk, go_sem, rowOk, k0, k1, k2, k3, add_mk], a9, c9, a10, c10, ?_, hr9, hr10, hE⟩
      rw [q3]
      simp [go_sem, pack, resL, rowV, k0, k1, k2, k3, add_mk, iR]
    · obtain ⟨e1, e2⟩ := hd1 hc
      have hma := fun {w} hr => made_any (!(neg == peg)) Q a6 c6 w hr
      have hmb := fun {w} hr => made_any false T a6' c6' w hr
      rw [e1] at hma
      rw [e2] at hmb
      have hcc : (neg && decide (0 < (lim T).length)) = false := by
        cases neg with
        | false => rfl
        | true =>
          have : T = 0 := by
            rcases Nat.eq_zero_or_pos T with h | h
            · exact h
            · exact absurd ⟨rfl, h⟩ hc
          rw [this, lim_zero]; rfl
      cases neg with
      | false =>
        have hbt : (!(false == peg)) = peg := by cases peg <;> rfl
        rw [hbt] at hma
        first | refine W_rt (by kernel_rfl) (fun K hK => ?_) | refine W_text (by kernel_rfl) (fun K hK => ?_)
        simp [go_sem, k0, k2, add_mk]
        refine hK _ _ ?_; clear hK K
        refine W_if (by simp [go_sem]; rfl) rfl ?_
        refine W_skip ?_
        refine hK1 _ _ ?_; clear hK1 K1
        first | refine W_rt (by kernel_rfl) (fun K hK => ?_) | refine W_text (by kernel_rfl) (fun K hK => ?_)
        simp [go_sem, k0, k1, k2, k3, add_mk, hT]
        refine hv_call (by simp [go_sem, k0, k1, k2, k3, add_mk, hT]) rfl Tryz.call113 (fun R hR => ?_)
        simp [go_sem, k0, k1, k2, k3, add_mk, hT]
        refine (hma hr6).mono ?_
        rintro e w10 ⟨a9, c9, rfl, hr9, hE9⟩
        refine ⟨_, rfl, hR _ _ ?_⟩
        clear hR R
        replace hE := hE.next hE9
        replace hB4 := hB4.keep hE9
        replace hB5 := hB5.keep hE9
        replace hs6 := hs6.keep hE9
        simp [go_sem]
        refine hv_call (by simp [go_sem]) rfl Tryz.call113 (fun R hR => ?_)
        simp [go_sem]
        refine (hmb hs6).mono ?_
        rintro e w11 ⟨a10, c10, rfl, hr10, hE10⟩
        refine ⟨_, rfl, hR _ _ ?_⟩
        clear hR R
        replace hE := hE.next hE10
        replace hB4 := hB4.keep hE10
        replace hB5 := hB5.keep hE10
        replace hr9 := hr9.keep hE10
        simp [go_sem]
        refine hv_store (b := b4) (off := 0) [.bool (decide (qq Z Y < 0)), .slice a9 (lim (qq Z Y).natAbs).length c9] (by simp [go_sem, iR]) rfl (by simp [go_sem, iR]) (by simp [go_sem, Value.cells, iR]) ty_size25 hB4 (by simp) (by simp [Value.oneCell']) (by decide) (fun w11 hS11 hB11 => ?_)
        simp [putC] at hB11
        replace hB5 := hB5.sto hS11 (by omega)
        replace hr9 := hr9.sto hS11 (hr9.nbox hB4)
        replace hr10 := hr10.sto hS11 (hr10.nbox hB4)
        replace hE := hE.nextS hS11 hle4'
        simp [go_sem]
        refine hv_store (b := b5) (off := 0) [.bool (decide (rr Z Y < 0)), .slice a10 (lim (rr Z Y).natAbs).length c10] (by simp [go_sem, iR]) rfl (by simp [go_sem, iR]) (by simp [go_sem, Value.cells, iR]) ty_size25 hB5 (by simp) (by simp [Value.oneCell']) (by decide) (fun w12 hS12 hB12 => ?_)
        simp [putC] at hB12
        replace hB11 := hB11.sto hS12 (by omega)
        replace hr9 := hr9.sto hS12 (hr9.nbox hB5)
        replace hr10 := hr10.sto hS12 (hr10.nbox hB5)
        replace hE := hE.nextS hS12 hle5'
        obtain ⟨k0, k1⟩ := ibx hB11
        obtain ⟨k2, k3⟩ := ibx hB12
        simp [go_sem]
        refine hK _ _ ?_; clear hK K
        refine W_ret ?_
        repeat (first | refine thenG_ret ?_ | refine inBlock_ret ?_)
        have q3 : ee Y = 0 := by unfold ee; rw [if_neg hY0]
        refine ⟨by simp [resOk, go_sem, rowOk, k0, k1, k2, k3, add_mk], a9, c9, a10, c10, ?_, hr9, hr10, hE⟩
        rw [q3]
        simp [go_sem, pack, resL, rowV, k0, k1, k2, k3, add_mk, iR]
      | true =>
        have hbt : (true == peg) = peg := by cases peg <;> rfl
        rw [hbt] at hma
        have hlp : (lim T).length = 0 := by simpa using hcc
        have hlp' : ¬ (0 : Int) < ((lim T).length : Int) := by omega
        first | refine W_rt (by kernel_rfl) (fun K hK => ?_) | refine W_text (by kernel_rfl) (fun K hK => ?_)
        simp [go_sem, k0, k2, add_mk, hlp, hlp']
        refine hK _ _ ?_; clear hK K
        refine W_if (by simp [go_sem]; rfl) rfl ?_
        refine W_skip ?_
        refine hK1 _ _ ?_; clear hK1 K1
        first | refine W_rt (by kernel_rfl) (fun K hK => ?_) | refine W_text (by kernel_rfl) (fun K hK => ?_)
        simp [go_sem, k0, k1, k2, k3, add_mk, hT]
        refine hv_call (by simp [go_sem, k0, k1, k2, k3, add_mk, hT]) rfl Tryz.call113 (fun R hR => ?_)
        simp [go_sem, k0, k1, k2, k3, add_mk, hT]
        refine (hma hr6).mono ?_
        rintro e w10 ⟨a9, c9, rfl, hr9, hE9⟩
        refine ⟨_, rfl, hR _ _ ?_⟩
        clear hR R
        replace hE := hE.next hE9
        replace hB4 := hB4.keep hE9
        replace hB5 := hB5.keep hE9
        replace hs6 := hs6.keep hE9
        rw [hlp] at hmb
        simp [go_sem]
        refine hv_call (by simp [go_sem]) rfl Tryz.call113 (fun R hR => ?_)
        simp [go_sem]
        refine (hmb hs6).mono ?_
        rintro e w11 ⟨a10, c10, rfl, hr10, hE10⟩
        refine ⟨_, rfl, hR _ _ ?_⟩
        clear hR R
        replace hE := hE.next hE10
        replace hB4 := hB4.keep hE10
        replace hB5 := hB5.keep hE10
        replace hr9 := hr9.keep hE10
        simp [go_sem]
        refine hv_store (b := b4) (off := 0) [.bool (decide (qq Z Y < 0)), .slice a9 (lim (qq Z Y).natAbs).length c9] (by simp [go_sem, iR]) rfl (by simp [go_sem, iR]) (by simp [go_sem, Value.cells, iR]) ty_size25 hB4 (by simp) (by simp [Value.oneCell']) (by decide) (fun w11 hS11 hB11 => ?_)
        simp [putC] at hB11
        replace hB5 := hB5.sto hS11 (by omega)
        replace hr9 := hr9.sto hS11 (hr9.nbox hB4)
        replace hr10 := hr10.sto hS11 (hr10.nbox hB4)
        replace hE := hE.nextS hS11 hle4'
        simp [go_sem]
        refine hv_store (b := b5) (off := 0) [.bool (decide (rr Z Y < 0)), .slice a10 (lim (rr Z Y).natAbs).length c10] (by simp [go_sem, iR]) rfl (by simp [go_sem, iR]) (by simp [go_sem, Value.cells, iR]) ty_size25 hB5 (by simp) (by simp [Value.oneCell']) (by decide) (fun w12 hS12 hB12 => ?_)
        simp [putC] at hB12
        replace hB11 := hB11.sto hS12 (by omega)
        replace hr9 := hr9.sto hS12 (hr9.nbox hB5)
        replace hr10 := hr10.sto hS12 (hr10.nbox hB5)
        replace hE := hE.nextS hS12 hle5'
        obtain ⟨k0, k1⟩ := ibx hB11
        obtain ⟨k2, k3⟩ := ibx hB12
        simp [go_sem]
        refine hK _ _ ?_; clear hK K
        refine W_ret ?_
        repeat (first | refine thenG_ret ?_ | refine inBlock_ret ?_)
        have q3 : ee Y = 0 := by unfold ee; rw [if_neg hY0]
        refine ⟨by simp [resOk, go_sem, rowOk, k0, k1, k2, k3, add_mk], a9, c9, a10, c10, ?_, hr9, hr10, hE⟩
        rw [q3]
        simp [go_sem, pack, resL, rowV, k0, k1, k2, k3, add_mk, iR]
end Go.Proofs.YtifgdiejpglhfaaGreat
