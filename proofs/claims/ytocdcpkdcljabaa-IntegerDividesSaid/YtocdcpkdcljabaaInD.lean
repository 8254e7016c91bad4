/- IntegerDivides. -/
import Derived.Test.YtocdcpkdcljabaaInB
namespace Go.Proofs.Ytocdcpkdcljabaa
open Go.RowKit Go.V Go.ChangeMaps
set_option linter.unusedSimpArgs false
set_option linter.unusedVariables false
theorem sameN (x : Nat) (a b : Option Addr) (c d : Nat) (w : World) (hr : RD w a c (lim x)) (hs : RD w b d (lim x)) (hl : (lim x).length ≤ lenB) :
    Calls Try.prog 14 #[.agg #[.bool false, .slice a (lim x).length c], .agg #[.bool false, .slice b (lim x).length d]] w fun e w' => e = .returned (.bool true) ∧ Below w.heap.size w w' := by
  have := iSame_any (iv false x) a b c d w (by rw [iv_abs]; exact hr) (by rw [iv_abs]; exact hs) (by rw [iv_abs]; exact hl)
  rw [iR_iv, iR_iv] at this
  exact this
theorem sameI (z : Int) (a b : Option Addr) (c d : Nat) (w : World) (hr : RD w a c (lim z.natAbs)) (hs : RD w b d (lim z.natAbs)) (hl : (lim z.natAbs).length ≤ lenB) :
    Calls Try.prog 14 #[.agg #[.bool (decide (z < 0)), .slice a (lim z.natAbs).length c], .agg #[.bool (decide (z < 0)), .slice b (lim z.natAbs).length d]] w fun e w' => e = .returned (.bool true) ∧ Below w.heap.size w w' :=
  iSame_any z a b c d w hr hs hl
theorem qq_le (neg peg : Bool) (x m : Nat) : (qq (iv neg x) (iv peg m)).natAbs ≤ x + 1 ∧ (rr (iv neg x) (iv peg m)).natAbs ≤ m := by
  by_cases hm : m = 0
  · subst hm
    have h0 : iv peg 0 = 0 := by cases peg <;> rfl
    unfold qq rr
    rw [h0, if_pos rfl, if_pos rfl]
    exact ⟨Nat.zero_le _, Nat.zero_le _⟩
  · have hq := Nat.div_le_self x m
    have hml := Nat.mod_lt x (Nat.pos_of_ne_zero hm)
    by_cases hc : neg = true ∧ 0 < x % m
    · obtain ⟨rfl, h⟩ := hc
      obtain ⟨h1, h2⟩ := dm2 peg x m hm h
      rw [← h1, ← h2, iv_abs, iv_abs]
      exact ⟨by omega, by omega⟩
    · obtain ⟨h1, h2⟩ := dm1 neg peg x m hm hc
      rw [← h1, ← h2, iv_abs, iv_abs]
      exact ⟨by omega, by omega⟩
theorem gcd_len {x y : Nat} (hx : (lim x).length ≤ 24) (hy : (lim y).length ≤ 24) : (lim (Nat.gcd x y)).length ≤ 24 := by
  rcases Nat.eq_zero_or_pos y with h | h
  · subst h; rw [Nat.gcd_zero_right]; exact hx
  · exact lim_mono (Nat.gcd_le_right _ h) hy

set_option maxHeartbeats 4000000 in
theorem integerDivides_any (neg peg : Bool) (l m : List Nat) (a b : Option Addr) (c d : Nat) (w : World) (hr : RD w a c l) (hs : RD w b d m) :
    Calls Try.prog 4 #[.agg #[.bool neg, .slice a l.length c], .agg #[.bool peg, .slice b m.length d]] w fun e w' => e = .returned (.bool true) ∧ Below w.heap.size w w' := by
  refine calls_of_W (args := [.agg #[.bool neg, .slice a l.length c], .agg #[.bool peg, .slice b m.length d]]) (rs := [.tmp 4]) (n := 58) Try.func4 rfl rfl rfl (by kernel_rfl) ?_
  first | refine W_rt (by kernel_rfl) (fun K hK => ?_) | refine W_text (by kernel_rfl) (fun K hK => ?_)
  simp [go_sem]
  refine hv_box #[.bool neg, .slice a l.length c] (by simp [go_sem]) rfl (by simp [go_sem, Value.cells]) (fun w2 b2 hE2 hle2 hB2 => ?_)
  replace hr := hr.keep hE2
  replace hs := hs.keep hE2
  simp [go_sem]
  refine hv_box #[.bool peg, .slice b m.length d] (by simp [go_sem]) rfl (by simp [go_sem, Value.cells]) (fun w3 b3 hE3 hle3 hB3 => ?_)
  replace hr := hr.keep hE3
  replace hs := hs.keep hE3
  replace hB2 := hB2.keep hE3
  have hE := hE2.next hE3
  obtain ⟨k0, k1⟩ := ibx hB2
  obtain ⟨k2, k3⟩ := ibx hB3
  simp [go_sem]
  refine hK _ _ ?_; clear hK K
  refine W_seq (fun K1 hK1 => ?_)
  first | refine W_rt (by kernel_rfl) (fun K hK => ?_) | refine W_text (by kernel_rfl) (fun K hK => ?_)
  simp [go_sem, k0, k1, k2, k3, add_mk, rowV, rowOk]
  refine hv_buildSlice #[.bool neg, .slice a l.length c, .bool peg, .slice b m.length d] (by simp [go_sem, k0, k1, k2, k3, add_mk, rowV, rowOk]) rfl ty_slZ45 (by decide) [(0, .agg #[.bool neg, .slice a l.length c]), (1, .agg #[.bool peg, .slice b m.length d])] (by simp [go_sem, k0, k1, k2, k3, add_mk, rowV, rowOk]) (by kernel_rfl) (fun w4 b4 hE4 hle4 hB4 => ?_)
  replace hr := hr.keep hE4
  replace hs := hs.keep hE4
  replace hB2 := hB2.keep hE4
  replace hB3 := hB3.keep hE4
  replace hE := hE.next hE4
  have hsm := small2 hB4
  simp [go_sem, k0, k1, k2, k3, add_mk, rowV, rowOk]
  refine hv_call (by simp [go_sem]) rfl Try.call10 (fun R hR => ?_)
  simp [go_sem]
  refine (smallI_any [(a, l.length, c), (b, m.length, d)] b4 _ hsm (by simp)).mono ?_
  rintro e w5 ⟨rfl, rfl⟩
  refine ⟨_, rfl, hR _ _ ?_⟩
  clear hR R
  simp [go_sem]
  refine hK _ _ ?_; clear hK K
  clear hE2 hE3 hE4 hB4 hsm k0 k1 k2 k3
  by_cases h24 : l.length ≤ 24 ∧ m.length ≤ 24
  · obtain ⟨h1, h2⟩ := h24
    have hb1 : l.length ≤ 100000 := by omega
    have hb2 : m.length ≤ 100000 := by omega
    have x1 := lim_24 l hr.ok h1
    have x2 := lim_24 m hs.ok h2
    obtain ⟨q1, q2⟩ := qq_le neg peg (val l) (val m)
    have la : (lim (qq (iv neg (val l)) (iv peg (val m))).natAbs).length ≤ lenB := Nat.le_trans (lim_mono q1 (lim_add_len x1 (Nat.le_trans (lim_len 1 1 (by decide)) (by decide)))) (by decide)
    have lb : (lim (rr (iv neg (val l)) (iv peg (val m))).natAbs).length ≤ lenB := Nat.le_trans (lim_mono q2 x2) (by decide)
    have lc : (lim (Nat.gcd (val l) (val m))).length ≤ lenB := Nat.le_trans (gcd_len x1 x2) (by decide)
    have c1 := fun {w} hr hs => iDivMod_any neg peg l m a b c d w hr hs hb1 hb2
    have c2 := fun {w} hr hs => iDivModR_any neg peg l m a b c d w hr hs hb1 hb2
    have c3 := fun {w} hr hs => iGcd_any neg peg l m a b c d w hr hs hb1 hb2
    have c4 := fun {w} hr hs => iGcdR_any neg peg l m a b c d w hr hs hb1 hb2
    unfold RetQ at c1 c2
    generalize qq (iv neg (val l)) (iv peg (val m)) = ZA at *
    generalize rr (iv neg (val l)) (iv peg (val m)) = ZB at *
    generalize ee (iv peg (val m)) = ZE at *
    generalize Nat.gcd (val l) (val m) = g at *
    refine W_if (by simp [go_sem, h1, h2]; rfl) rfl ?_
    refine W_skip ?_
    refine hK1 _ _ ?_; clear hK1 K1
    obtain ⟨k0, k1⟩ := ibx hB2
    obtain ⟨k2, k3⟩ := ibx hB3
    first | refine W_rt (by kernel_rfl) (fun K hK => ?_) | refine W_text (by kernel_rfl) (fun K hK => ?_)
    simp [go_sem, k0, k1, k2, k3, add_mk, rowV, rowOk]
    refine hv_call (by simp [go_sem, k0, k1, k2, k3, add_mk, rowV, rowOk]) rfl Try.call25 (fun R hR => ?_)
    simp [go_sem, k0, k1, k2, k3, add_mk, rowV, rowOk]
    refine (c1 hr hs).mono ?_
    rintro e w10 ⟨a10, c10, a10', c10', rfl, hr10, hs10, hE10⟩
    refine ⟨_, rfl, hR _ _ ?_⟩
    clear hR R
    replace hE := hE.next hE10
    replace hr := hr.keep hE10
    replace hs := hs.keep hE10
    replace hB2 := hB2.keep hE10
    replace hB3 := hB3.keep hE10
    have lt10_2 := hB2.lt
    have lt10_3 := hB3.lt
    simp [go_sem]
    refine hv_alloc (by simp [go_sem]) rfl ty_zeroC25 (fun w15 b15 hE15 hle15 hB15 => ?_)
    replace hr := hr.keep hE15
    replace hs := hs.keep hE15
    replace hB2 := hB2.keep hE15
    replace hB3 := hB3.keep hE15
    replace hr10 := hr10.keep hE15
    replace hs10 := hs10.keep hE15
    have ltA10 := hB15.lt
    simp [go_sem]
    refine hv_alloc (by simp [go_sem]) rfl ty_zeroC25 (fun w16 b16 hE16 hle16 hB16 => ?_)
    replace hr := hr.keep hE16
    replace hs := hs.keep hE16
    replace hB2 := hB2.keep hE16
    replace hB3 := hB3.keep hE16
    replace hr10 := hr10.keep hE16
    replace hs10 := hs10.keep hE16
    replace hB15 := hB15.keep hE16
    have hle15' : w.heap.size ≤ b15 := Nat.le_trans hE.size hle15
    have hle16' : w.heap.size ≤ b16 := Nat.le_trans hE.size (Nat.le_trans hE15.size hle16)
    have szA10 := hE15.size
    replace hE := (hE.next hE15).next hE16
    simp [go_sem]
    refine hv_store (b := b15) (off := 0) [.bool (decide (ZA < 0)), .slice a10 (lim ZA.natAbs).length c10] (by simp [go_sem, iR]) rfl (by simp [go_sem, iR]) (by simp [go_sem, Value.cells, iR]) ty_size25 hB15 (by simp) (by simp [Value.oneCell']) (by decide) (fun w17 hS17 hB17 => ?_)
    simp [putC] at hB17
    replace hr := hr.sto hS17 (hr.nbox hB15)
    replace hs := hs.sto hS17 (hs.nbox hB15)
    replace hB2 := hB2.sto hS17 (by omega)
    replace hB3 := hB3.sto hS17 (by omega)
    replace hr10 := hr10.sto hS17 (hr10.nbox hB15)
    replace hs10 := hs10.sto hS17 (hs10.nbox hB15)
    replace hB16 := hB16.sto hS17 (by omega)
    replace hE := hE.nextS hS17 hle15'
    simp [go_sem]
    refine hv_store (b := b16) (off := 0) [.bool (decide (ZB < 0)), .slice a10' (lim ZB.natAbs).length c10'] (by simp [go_sem, iR]) rfl (by simp [go_sem, iR]) (by simp [go_sem, Value.cells, iR]) ty_size25 hB16 (by simp) (by simp [Value.oneCell']) (by decide) (fun w18 hS18 hB18 => ?_)
    simp [putC] at hB18
    replace hr := hr.sto hS18 (hr.nbox hB16)
    replace hs := hs.sto hS18 (hs.nbox hB16)
    replace hB2 := hB2.sto hS18 (by omega)
    replace hB3 := hB3.sto hS18 (by omega)
    replace hr10 := hr10.sto hS18 (hr10.nbox hB16)
    replace hs10 := hs10.sto hS18 (hs10.nbox hB16)
    replace hB17 := hB17.sto hS18 (by omega)
    replace hE := hE.nextS hS18 hle16'
    simp [go_sem]
    refine hK _ _ ?_; clear hK K
    obtain ⟨k0, k1⟩ := ibx hB2
    obtain ⟨k2, k3⟩ := ibx hB3
    clear hE15 hE16 hS17 hS18
    first | refine W_rt (by kernel_rfl) (fun K hK => ?_) | refine W_text (by kernel_rfl) (fun K hK => ?_)
    simp [go_sem, k0, k1, k2, k3, add_mk, rowV, rowOk]
    refine hv_call (by simp [go_sem, k0, k1, k2, k3, add_mk, rowV, rowOk]) rfl Try.call26 (fun R hR => ?_)
    simp [go_sem, k0, k1, k2, k3, add_mk, rowV, rowOk]
    refine (c2 hr hs).mono ?_
    rintro e w20 ⟨a20, c20, a20', c20', rfl, hr20, hs20, hE20⟩
    refine ⟨_, rfl, hR _ _ ?_⟩
    clear hR R
    replace hE := hE.next hE20
    replace hr := hr.keep hE20
    replace hs := hs.keep hE20
    replace hB2 := hB2.keep hE20
    replace hB3 := hB3.keep hE20
    replace hr10 := hr10.keep hE20
    replace hs10 := hs10.keep hE20
    replace hB17 := hB17.keep hE20
    replace hB18 := hB18.keep hE20
    have lt20_2 := hB2.lt
    have lt20_3 := hB3.lt
    have lt20_6 := hB17.lt
    have lt20_7 := hB18.lt
    simp [go_sem]
    refine hv_alloc (by simp [go_sem]) rfl ty_zeroC25 (fun w25 b25 hE25 hle25 hB25 => ?_)
    replace hr := hr.keep hE25
    replace hs := hs.keep hE25
    replace hB2 := hB2.keep hE25
    replace hB3 := hB3.keep hE25
    replace hr10 := hr10.keep hE25
    replace hs10 := hs10.keep hE25
    replace hB17 := hB17.keep hE25
    replace hB18 := hB18.keep hE25
    replace hr20 := hr20.keep hE25
    replace hs20 := hs20.keep hE25
    have ltA20 := hB25.lt
    simp [go_sem]
    refine hv_alloc (by simp [go_sem]) rfl ty_zeroC25 (fun w26 b26 hE26 hle26 hB26 => ?_)
    replace hr := hr.keep hE26
    replace hs := hs.keep hE26
    replace hB2 := hB2.keep hE26
    replace hB3 := hB3.keep hE26
    replace hr10 := hr10.keep hE26
    replace hs10 := hs10.keep hE26
    replace hB17 := hB17.keep hE26
    replace hB18 := hB18.keep hE26
    replace hr20 := hr20.keep hE26
    replace hs20 := hs20.keep hE26
    replace hB25 := hB25.keep hE26
    have hle25' : w.heap.size ≤ b25 := Nat.le_trans hE.size hle25
    have hle26' : w.heap.size ≤ b26 := Nat.le_trans hE.size (Nat.le_trans hE25.size hle26)
    have szA20 := hE25.size
    replace hE := (hE.next hE25).next hE26
    simp [go_sem]
    refine hv_store (b := b25) (off := 0) [.bool (decide (ZA < 0)), .slice a20 (lim ZA.natAbs).length c20] (by simp [go_sem, iR]) rfl (by simp [go_sem, iR]) (by simp [go_sem, Value.cells, iR]) ty_size25 hB25 (by simp) (by simp [Value.oneCell']) (by decide) (fun w27 hS27 hB27 => ?_)
    simp [putC] at hB27
    replace hr := hr.sto hS27 (hr.nbox hB25)
    replace hs := hs.sto hS27 (hs.nbox hB25)
    replace hB2 := hB2.sto hS27 (by omega)
    replace hB3 := hB3.sto hS27 (by omega)
    replace hr10 := hr10.sto hS27 (hr10.nbox hB25)
    replace hs10 := hs10.sto hS27 (hs10.nbox hB25)
    replace hB17 := hB17.sto hS27 (by omega)
    replace hB18 := hB18.sto hS27 (by omega)
    replace hr20 := hr20.sto hS27 (hr20.nbox hB25)
    replace hs20 := hs20.sto hS27 (hs20.nbox hB25)
    replace hB26 := hB26.sto hS27 (by omega)
    replace hE := hE.nextS hS27 hle25'
    simp [go_sem]
    refine hv_store (b := b26) (off := 0) [.bool (decide (ZB < 0)), .slice a20' (lim ZB.natAbs).length c20'] (by simp [go_sem, iR]) rfl (by simp [go_sem, iR]) (by simp [go_sem, Value.cells, iR]) ty_size25 hB26 (by simp) (by simp [Value.oneCell']) (by decide) (fun w28 hS28 hB28 => ?_)
    simp [putC] at hB28
    replace hr := hr.sto hS28 (hr.nbox hB26)
    replace hs := hs.sto hS28 (hs.nbox hB26)
    replace hB2 := hB2.sto hS28 (by omega)
    replace hB3 := hB3.sto hS28 (by omega)
    replace hr10 := hr10.sto hS28 (hr10.nbox hB26)
    replace hs10 := hs10.sto hS28 (hs10.nbox hB26)
    replace hB17 := hB17.sto hS28 (by omega)
    replace hB18 := hB18.sto hS28 (by omega)
    replace hr20 := hr20.sto hS28 (hr20.nbox hB26)
    replace hs20 := hs20.sto hS28 (hs20.nbox hB26)
    replace hB27 := hB27.sto hS28 (by omega)
    replace hE := hE.nextS hS28 hle26'
    simp [go_sem]
    refine hK _ _ ?_; clear hK K
    obtain ⟨k0, k1⟩ := ibx hB2
    obtain ⟨k2, k3⟩ := ibx hB3
    clear hE25 hE26 hS27 hS28
    have hD := Below.drew1 w28
    replace hr := hr.keep hD
    replace hs := hs.keep hD
    replace hB2 := hB2.keep hD
    replace hB3 := hB3.keep hD
    replace hr10 := hr10.keep hD
    replace hs10 := hs10.keep hD
    replace hr20 := hr20.keep hD
    replace hs20 := hs20.keep hD
    replace hB17 := hB17.keep hD
    replace hB18 := hB18.keep hD
    replace hB27 := hB27.keep hD
    replace hB28 := hB28.keep hD
    replace hE := hE.next hD
    have hz0 : w28.heap.size ≤ w28.drew.heap.size := hD.size
    refine W_rdTJ (fun g' w2 => g' 4 = .bool true ∧ Below w.heap.size w w2) (.li 0 (.li 1 (.hv 2 (.li 3 (.li 4 (.li 5 (.hv 6 (.li 7 (.li 8 (.li 9 (.li 10 (.li 11 (.li 12 (.li 13 (.li 14 (.li 15 (.li 18 (.li 19 (.hv 16 (.fork 17 (.hv 20 (.hv 21 (.hv 22 (.li 23 (.li 24 (.hv 25 (.li 26 (.li 27 .done)))))))) (.hv 20 (.fork 17 (.hv 21 (.hv 22 (.li 23 (.li 24 (.hv 25 (.li 26 (.li 27 .done))))))) (.hv 21 (.hv 17 (.hv 22 (.li 23 (.li 24 (.hv 25 (.li 26 (.li 27 .done)))))))))))))))))))))))))))))) (by kernel_rfl) (by kernel_rfl) ?_ ?_
    · intro w0 hw0
      rw [← hw0] at hr hs hB2 hB3 hr10 hs10 hr20 hs20 hB17 hB18 hB27 hB28 hE
      clear hw0 hD hz0
      have hz := Nat.le_refl w0.heap.size
      obtain ⟨k0, k1⟩ := ibx hB2
      obtain ⟨k2, k3⟩ := ibx hB3
      obtain ⟨p0, p1⟩ := ibx hB17
      obtain ⟨p2, p3⟩ := ibx hB18
      obtain ⟨p4, p5⟩ := ibx hB27
      obtain ⟨p6, p7⟩ := ibx hB28
      simp [go_sem, k0, k1, k2, k3, add_mk, rowV, rowOk, p0, p1, p2, p3, p4, p5, p6, p7]
      refine hv_call (by simp [go_sem, k0, k1, k2, k3, add_mk, rowV, rowOk, p0, p1, p2, p3, p4, p5, p6, p7]) rfl Try.call14 (fun R hR => ?_)
      simp [go_sem, k0, k1, k2, k3, add_mk, rowV, rowOk, p0, p1, p2, p3, p4, p5, p6, p7]
      refine (sameI ZA _ _ _ _ _ hr10 hr20 la).mono ?_
      rintro e w30 ⟨rfl, hE30⟩
      refine ⟨_, rfl, hR _ _ ?_⟩
      clear hR R
      refine nxT_intro (hE30.mono hz) ?_
      replace hz := Nat.le_trans hz hE30.size
      replace hE := hE.next hE30
      replace hr := hr.keep hE30
      replace hs := hs.keep hE30
      replace hB2 := hB2.keep hE30
      replace hB3 := hB3.keep hE30
      replace hs10 := hs10.keep hE30
      replace hs20 := hs20.keep hE30
      replace hB17 := hB17.keep hE30
      replace hB18 := hB18.keep hE30
      replace hB27 := hB27.keep hE30
      replace hB28 := hB28.keep hE30
      simp [go_sem, k0, k1, k2, k3, add_mk, rowV, rowOk, p0, p1, p2, p3, p4, p5, p6, p7]
      refine hv_call (by simp [go_sem, k0, k1, k2, k3, add_mk, rowV, rowOk, p0, p1, p2, p3, p4, p5, p6, p7]) rfl Try.call14 (fun R hR => ?_)
      simp [go_sem, k0, k1, k2, k3, add_mk, rowV, rowOk, p0, p1, p2, p3, p4, p5, p6, p7]
      refine (sameI ZB _ _ _ _ _ hs10 hs20 lb).mono ?_
      rintro e w31 ⟨rfl, hE31⟩
      refine ⟨_, rfl, hR _ _ ?_⟩
      clear hR R
      refine nxT_intro (hE31.mono hz) ?_
      replace hz := Nat.le_trans hz hE31.size
      replace hE := hE.next hE31
      replace hr := hr.keep hE31
      replace hs := hs.keep hE31
      replace hB2 := hB2.keep hE31
      replace hB3 := hB3.keep hE31
      simp [go_sem, k0, k1, k2, k3, add_mk, rowV, rowOk, p0, p1, p2, p3, p4, p5, p6, p7]
      refine hv_call (by simp [go_sem, k0, k1, k2, k3, add_mk, rowV, rowOk, p0, p1, p2, p3, p4, p5, p6, p7]) rfl Try.call27 (fun R hR => ?_)
      simp [go_sem, k0, k1, k2, k3, add_mk, rowV, rowOk, p0, p1, p2, p3, p4, p5, p6, p7]
      refine (c3 hr hs).mono ?_
      rintro e w32 ⟨a32, c32, rfl, hr32, hE32⟩
      refine ⟨_, rfl, hR _ _ ?_⟩
      clear hR R
      refine nxT_intro (hE32.mono hz) ?_
      replace hz := Nat.le_trans hz hE32.size
      replace hE := hE.next hE32
      replace hr := hr.keep hE32
      replace hs := hs.keep hE32
      replace hB2 := hB2.keep hE32
      replace hB3 := hB3.keep hE32
      simp [go_sem, k0, k1, k2, k3, add_mk, rowV, rowOk, p0, p1, p2, p3, p4, p5, p6, p7]
      refine ⟨?_, ?_⟩
      · skip
        refine hv_build #[.bool false, .slice a32 (lim g).length c32] (by simp [go_sem]) rfl ty_stZ25 [(1, .slice a32 (lim g).length c32)] (by simp [go_sem]) rfl ?_
        refine nxT_intro (Below.refl _ _) ?_
        simp [go_sem, k0, k1, k2, k3, add_mk, rowV, rowOk, p0, p1, p2, p3, p4, p5, p6, p7]
        refine hv_call (by simp [go_sem, k0, k1, k2, k3, add_mk, rowV, rowOk, p0, p1, p2, p3, p4, p5, p6, p7]) rfl Try.call28 (fun R hR => ?_)
        simp [go_sem, k0, k1, k2, k3, add_mk, rowV, rowOk, p0, p1, p2, p3, p4, p5, p6, p7]
        refine (c4 hr hs).mono ?_
        rintro e w33 ⟨a33, c33, rfl, hr33, hE33⟩
        refine ⟨_, rfl, hR _ _ ?_⟩
        clear hR R
        refine nxT_intro (hE33.mono hz) ?_
        replace hz := Nat.le_trans hz hE33.size
        replace hE := hE.next hE33
        replace hr32 := hr32.keep hE33
        replace hB2 := hB2.keep hE33
        replace hB3 := hB3.keep hE33
        simp [go_sem, k0, k1, k2, k3, add_mk, rowV, rowOk, p0, p1, p2, p3, p4, p5, p6, p7]
        refine hv_build #[.bool false, .slice a33 (lim g).length c33] (by simp [go_sem]) rfl ty_stZ25 [(1, .slice a33 (lim g).length c33)] (by simp [go_sem]) rfl ?_
        refine nxT_intro (Below.refl _ _) ?_
        simp [go_sem, k0, k1, k2, k3, add_mk, rowV, rowOk, p0, p1, p2, p3, p4, p5, p6, p7]
        refine hv_call (by simp [go_sem]) rfl Try.call14 (fun R hR => ?_)
        simp [go_sem]
        refine (sameN g _ _ _ _ _ hr32 hr33 lc).mono ?_
        rintro e w34 ⟨rfl, hE34⟩
        refine ⟨_, rfl, hR _ _ ?_⟩
        clear hR R
        refine nxT_intro (hE34.mono hz) ?_
        replace hz := Nat.le_trans hz hE34.size
        replace hE := hE.next hE34
        simp [go_sem]
        refine hv_call (by simp [go_sem]) rfl Try.call11 (fun R hR => ?_)
        simp [go_sem]
        refine (aliveI_any _).mono ?_
        rintro e w80 ⟨rfl, hE80⟩
        refine ⟨_, rfl, hR _ _ ?_⟩
        clear hR R
        refine nxT_intro (hE80.mono hz) ?_
        replace hz := Nat.le_trans hz hE80.size
        replace hE := hE.next hE80
        simp [go_sem]
        exact hE
      · skip
        refine hv_call (by simp [go_sem, k0, k1, k2, k3, add_mk, rowV, rowOk, p0, p1, p2, p3, p4, p5, p6, p7]) rfl Try.call28 (fun R hR => ?_)
        simp [go_sem, k0, k1, k2, k3, add_mk, rowV, rowOk, p0, p1, p2, p3, p4, p5, p6, p7]
        refine (c4 hr hs).mono ?_
        rintro e w33 ⟨a33, c33, rfl, hr33, hE33⟩
        refine ⟨_, rfl, hR _ _ ?_⟩
        clear hR R
        refine nxT_intro (hE33.mono hz) ?_
        replace hz := Nat.le_trans hz hE33.size
        replace hE := hE.next hE33
        replace hr32 := hr32.keep hE33
        replace hB2 := hB2.keep hE33
        replace hB3 := hB3.keep hE33
        simp [go_sem, k0, k1, k2, k3, add_mk, rowV, rowOk, p0, p1, p2, p3, p4, p5, p6, p7]
        refine ⟨?_, ?_⟩
        · skip
          refine hv_build #[.bool false, .slice a32 (lim g).length c32] (by simp [go_sem]) rfl ty_stZ25 [(1, .slice a32 (lim g).length c32)] (by simp [go_sem]) rfl ?_
          refine nxT_intro (Below.refl _ _) ?_
          simp [go_sem, k0, k1, k2, k3, add_mk, rowV, rowOk, p0, p1, p2, p3, p4, p5, p6, p7]
          refine hv_build #[.bool false, .slice a33 (lim g).length c33] (by simp [go_sem]) rfl ty_stZ25 [(1, .slice a33 (lim g).length c33)] (by simp [go_sem]) rfl ?_
          refine nxT_intro (Below.refl _ _) ?_
          simp [go_sem, k0, k1, k2, k3, add_mk, rowV, rowOk, p0, p1, p2, p3, p4, p5, p6, p7]
          refine hv_call (by simp [go_sem]) rfl Try.call14 (fun R hR => ?_)
          simp [go_sem]
          refine (sameN g _ _ _ _ _ hr32 hr33 lc).mono ?_
          rintro e w34 ⟨rfl, hE34⟩
          refine ⟨_, rfl, hR _ _ ?_⟩
          clear hR R
          refine nxT_intro (hE34.mono hz) ?_
          replace hz := Nat.le_trans hz hE34.size
          replace hE := hE.next hE34
          simp [go_sem]
          refine hv_call (by simp [go_sem]) rfl Try.call11 (fun R hR => ?_)
          simp [go_sem]
          refine (aliveI_any _).mono ?_
          rintro e w80 ⟨rfl, hE80⟩
          refine ⟨_, rfl, hR _ _ ?_⟩
          clear hR R
          refine nxT_intro (hE80.mono hz) ?_
          replace hz := Nat.le_trans hz hE80.size
          replace hE := hE.next hE80
          simp [go_sem]
          exact hE
        · skip
          refine hv_build #[.bool false, .slice a33 (lim g).length c33] (by simp [go_sem]) rfl ty_stZ25 [(1, .slice a33 (lim g).length c33)] (by simp [go_sem]) rfl ?_
          refine nxT_intro (Below.refl _ _) ?_
          simp [go_sem, k0, k1, k2, k3, add_mk, rowV, rowOk, p0, p1, p2, p3, p4, p5, p6, p7]
          refine hv_build #[.bool false, .slice a32 (lim g).length c32] (by simp [go_sem]) rfl ty_stZ25 [(1, .slice a32 (lim g).length c32)] (by simp [go_sem]) rfl ?_
          refine nxT_intro (Below.refl _ _) ?_
          simp [go_sem, k0, k1, k2, k3, add_mk, rowV, rowOk, p0, p1, p2, p3, p4, p5, p6, p7]
          refine hv_call (by simp [go_sem]) rfl Try.call14 (fun R hR => ?_)
          simp [go_sem]
          refine (sameN g _ _ _ _ _ hr32 hr33 lc).mono ?_
          rintro e w34 ⟨rfl, hE34⟩
          refine ⟨_, rfl, hR _ _ ?_⟩
          clear hR R
          refine nxT_intro (hE34.mono hz) ?_
          replace hz := Nat.le_trans hz hE34.size
          replace hE := hE.next hE34
          simp [go_sem]
          refine hv_call (by simp [go_sem]) rfl Try.call11 (fun R hR => ?_)
          simp [go_sem]
          refine (aliveI_any _).mono ?_
          rintro e w80 ⟨rfl, hE80⟩
          refine ⟨_, rfl, hR _ _ ?_⟩
          clear hR R
          refine nxT_intro (hE80.mono hz) ?_
          replace hz := Nat.le_trans hz hE80.size
          replace hE := hE.next hE80
          simp [go_sem]
          exact hE
    rintro g5 w90 ⟨g4, hE⟩
    refine W_ret ?_
    repeat (first | refine thenG_ret ?_ | refine inBlock_ret ?_)
    refine ⟨trivial, ?_, hE⟩
    simp [go_sem, pack, resL, g4]
  · have hb : (!decide (l.length ≤ 24) || !decide (m.length ≤ 24)) = true := by
      by_cases h : l.length ≤ 24
      · have : ¬ m.length ≤ 24 := fun h' => h24 ⟨h, h'⟩
        simp [h, this]
      · simp [h]
    refine W_if (by simp [go_sem, hb]; rfl) rfl ?_
    first | refine W_rt (by kernel_rfl) (fun K hK => ?_) | refine W_text (by kernel_rfl) (fun K hK => ?_)
    simp [go_sem]
    refine hv_call (by simp [go_sem]) rfl Try.call11 (fun R hR => ?_)
    simp [go_sem]
    refine (aliveI_any _).mono ?_
    rintro e w4 ⟨rfl, hE4⟩
    refine ⟨_, rfl, hR _ _ ?_⟩
    clear hR R
    replace hE := hE.next hE4
    clear hE4
    simp [go_sem]
    refine hK _ _ ?_; clear hK K
    refine W_ret ?_
    repeat (first | refine thenG_ret ?_ | refine inBlock_ret ?_)
    refine ⟨trivial, ?_, hE⟩
    simp [go_sem, pack, resL]
set_option maxRecDepth 100000 in
theorem integerDivides_lifted (os : Os) (started : os.Started) (H : Type) (enc : TypeId × Value → H) :
    ReturnsInHanded {} Try.checked os 4 .any (Rows.integerDividesSpec.pre6 enc Try.prog Try.f4 Rows.integerDividesRow.domain false) (Rows.integerDividesSpec.post enc Try.prog Try.f4 false true false false) := by
  refine law_lifted (C := Try.checked) (s := Rows.integerDividesSpec) Try.own Try.laidOut (by kernel_rfl) Try.func4 rfl 4 rfl Try.underlying4 (by kernel_rfl) enc ?_ ?_ os started
    (ChangeSpec.witness6 (enc := enc) (C := Try.checked) false ⟨#[], #[.agg #[.bool false, .slice none 0 0], .agg #[.bool false, .slice none 0 0]], []⟩ 8 (by kernel_rfl) (by kernel_rfl) (by kernel_rfl) (by kernel_rfl))
  · intro ds hl
    match ds, hl with
    | [d0, d1], _ => rfl
  · intro W base args ds ps hval hA hlt _
    have hA' : DataW.TrodAll enc Try.prog W 0 (fun _ => true) true [25, 25] args.toList ds ps := hA
    have hval' : ∀ (j : Nat) t v, Try.f4.params[j]? = some t → args[j]? = some v → Value.okWide Try.prog W .any base t v := hval
    obtain ⟨v0, v1, d0, d1, p0, p1, rfl, rfl, rfl, h0, h1⟩ := Go.ChangeShapes.trodAll_two hA'
    obtain ⟨n_x, x, a_x, c_x, rfl, hr_x⟩ := open_Int (hval' 0 25 v0 rfl rfl) h0
    obtain ⟨n_y, y, a_y, c_y, rfl, hr_y⟩ := open_Int (hval' 1 25 v1 rfl rfl) h1
    exact integerDivides_any n_x n_y x y a_x a_y c_x c_y W hr_x hr_y

theorem integerDivides_holds : Rows.IntegerDividesSaid :=
  OpenClaim.holds_of_wide 4 Try.f4 rfl rfl rfl rfl rfl rfl rfl ⟨rfl, rfl, rfl, rfl, rfl⟩ rfl rfl rfl rfl rfl (by kernel_rfl) Try.func4 (by kernel_rfl)
    (of_decide_eq_true (by kernel_rfl)) (by unfold Func.isWrapper; first | (rw [if_pos (by decide +kernel)]; kernel_rfl) | (rw [if_neg (by decide +kernel)]; exact ⟨rfl, rfl⟩))
    (fun os started H enc _ => integerDivides_lifted os started H enc)
end Go.Proofs.Ytocdcpkdcljabaa
