/- NaturalGcds. -/
import Derived.Test.YtomniiobaonloaaNtW
namespace Go.Proofs.Ytomniiobaonloaa
open Go.RowKit Go.V Go.ChangeMaps
set_option linter.unusedSimpArgs false
set_option linter.unusedVariables false

theorem gcd_mod0 {x y : Nat} : x % Nat.gcd x y = 0 ∧ y % Nat.gcd x y = 0 := ⟨Nat.mod_eq_zero_of_dvd (Nat.gcd_dvd_left x y), Nat.mod_eq_zero_of_dvd (Nat.gcd_dvd_right x y)⟩
theorem gcd_div1 {x y : Nat} (h : Nat.gcd x y ≠ 0) : Nat.gcd (x / Nat.gcd x y) (y / Nat.gcd x y) = 1 := by
  rw [Nat.gcd_div (Nat.gcd_dvd_left x y) (Nat.gcd_dvd_right x y), Nat.div_self (Nat.pos_of_ne_zero h)]
theorem NV.nil (w : World) (a : Option Addr) (c : Nat) : NV w a c [] 0 := ⟨RD.nil _ _ _, rfl, by simp⟩
theorem cmpNV {l m : List Nat} {a b : Option Addr} {c d x y : Nat} {w : World} (hr : NV w a c l x) (hs : NV w b d m y) :
    Calls Try.prog 21 #[.slice a l.length c, .slice b m.length d] w fun e w' => e = .returned (.int .i64 (cmpV x y)) ∧ Below w.heap.size w w' := by
  have := cmp_any l m a b c d w hr.rd hs.rd hr.b hs.b
  rw [hr.eq, hs.eq] at this
  exact this

set_option maxHeartbeats 4000000 in
theorem naturalGcds_any (l m : List Nat) (a b : Option Addr) (c d : Nat) (w : World) (hr0 : RD w a c l) (hs0 : RD w b d m) :
    Calls Try.prog 5 #[.slice a l.length c, .slice b m.length d] w fun e w' => e = .returned (.bool true) ∧ Below w.heap.size w w' := by
  refine calls_of_W (args := [.slice a l.length c, .slice b m.length d]) (rs := [.tmp 4]) (n := 75) Try.func5 rfl rfl rfl (by kernel_rfl) ?_
  first | refine W_rt (by kernel_rfl) (fun K hK => ?_) | refine W_text (by kernel_rfl) (fun K hK => ?_)
  simp [go_sem]
  refine hK _ _ ?_; clear hK K
  refine W_seq (fun K1 hK1 => ?_)
  first | refine W_rt (by kernel_rfl) (fun K hK => ?_) | refine W_text (by kernel_rfl) (fun K hK => ?_)
  simp [go_sem]
  refine hv_buildSlice #[.slice a l.length c, .slice b m.length d] (by simp [go_sem]) rfl ty_slZ50 (by decide) [(0, .slice a l.length c), (1, .slice b m.length d)] (by simp [go_sem]) (by kernel_rfl) (fun w2 b2 hE2 hle2 hB2 => ?_)
  replace hr0 := hr0.ext hE2
  replace hs0 := hs0.ext hE2
  simp [go_sem]
  refine hv_call (by simp [go_sem]) rfl Try.call12 (fun R hR => ?_)
  simp [go_sem]
  refine (small_any [(a, l.length, c), (b, m.length, d)] b2 _ hB2 (by simp)).mono ?_
  rintro e w3 ⟨rfl, rfl⟩
  refine ⟨_, rfl, hR _ _ ?_⟩
  clear hR R
  simp [go_sem]
  refine hK _ _ ?_; clear hK K
  have hE := hE2
  clear hE2 hB2
  by_cases h24 : l.length ≤ 24 ∧ m.length ≤ 24
  · obtain ⟨h1, h2⟩ := h24
    have hr : NV w2 a c l (val l) := ⟨hr0, rfl, by omega⟩
    have hs : NV w2 b d m (val m) := ⟨hs0, rfl, by omega⟩
    have bx := val_100 l hr0.ok h1
    have bY := val_100 m hs0.ok h2
    clear hr0 hs0
    generalize val l = x at *
    generalize val m = y at *
    have bg := gcd_lt bx bY
    obtain ⟨z1, z2⟩ := gcd_mod0 (x := x) (y := y)
    have z3 := gcd_div1 (x := x) (y := y)
    refine W_if (by simp [go_sem, h1, h2]; rfl) rfl ?_
    refine W_skip ?_
    refine hK1 _ _ ?_; clear hK1 K1
    first | refine W_rt (by kernel_rfl) (fun K hK => ?_) | refine W_text (by kernel_rfl) (fun K hK => ?_)
    simp [go_sem]
    refine hv_call (by simp [go_sem]) rfl Try.call27 (fun R hR => ?_)
    simp [go_sem]
    refine (gcdV hr hs bx bY).mono ?_
    rintro e w4 ⟨a4, c4, rfl, hr4, hE4⟩
    refine ⟨_, rfl, hR _ _ ?_⟩
    clear hR R
    replace hr := hr.ext hE4
    replace hs := hs.ext hE4
    replace hE := hE.next hE4
    clear hE4
    simp [go_sem]
    refine hK _ _ ?_; clear hK K
    refine W_seq (fun K1 hK1 => ?_)
    by_cases h0 : Nat.gcd x y = 0
    · obtain ⟨e1, e2⟩ := Nat.gcd_eq_zero_iff.1 h0
      subst e1
      subst e2
      rw [Nat.gcd_zero_right, lim_zero]
      first | refine W_rt (by kernel_rfl) (fun K hK => ?_) | refine W_text (by kernel_rfl) (fun K hK => ?_)
      simp [go_sem]
      refine hK _ _ ?_; clear hK K
      refine W_if (by simp [go_sem]; rfl) rfl ?_
      have cz : cmpV 0 0 = 0 := rfl
      first | refine W_rt (by kernel_rfl) (fun K hK => ?_) | refine W_text (by kernel_rfl) (fun K hK => ?_)
      simp [go_sem]
      refine hv_call (by simp [go_sem]) rfl Try.call21 (fun R hR => ?_)
      simp [go_sem]
      refine (cmpNV (m := []) hr (NV.nil _ none 0)).mono ?_
      rintro e w5 ⟨rfl, hE5⟩
      refine ⟨_, rfl, hR _ _ ?_⟩
      clear hR R
      replace hs := hs.ext hE5
      replace hE := hE.next hE5
      simp [go_sem, cz]
      refine hv_call (by simp [go_sem, cz]) rfl Try.call21 (fun R hR => ?_)
      simp [go_sem, cz]
      refine (cmpNV (m := []) hs (NV.nil _ none 0)).mono ?_
      rintro e w6 ⟨rfl, hE6⟩
      refine ⟨_, rfl, hR _ _ ?_⟩
      clear hR R
      replace hE := hE.next hE6
      simp [go_sem, cz]
      refine hv_call (by simp [go_sem, cz]) rfl Try.call13 (fun R hR => ?_)
      simp [go_sem, cz]
      refine (alive_any _).mono ?_
      rintro e w7 ⟨rfl, hE7⟩
      refine ⟨_, rfl, hR _ _ ?_⟩
      clear hR R
      replace hE := hE.next hE7
      simp [go_sem]
      refine hK _ _ ?_; clear hK K
      refine W_ret ?_
      repeat (first | refine thenG_ret ?_ | refine inBlock_ret ?_)
      refine ⟨trivial, ?_, hE⟩
      simp [go_sem, pack, resL]
    · have hgl : 0 < (lim (Nat.gcd x y)).length := lim_ne h0
      have hgl' : ¬ ((lim (Nat.gcd x y)).length : Int) = 0 := by omega
      have hgl'' : ¬ lim (Nat.gcd x y) = [] := by intro e; rw [e] at hgl; simp at hgl
      have hd1 := fun {a b c d w} hr4 hr => divV (l := l) (m := lim (Nat.gcd x y)) (a := a) (b := b) (c := c) (d := d) (w := w) (x := x) hr hr4 h0 bx
      replace z3 := z3 h0
      generalize hg : Nat.gcd x y = gg at *
      first | refine W_rt (by kernel_rfl) (fun K hK => ?_) | refine W_text (by kernel_rfl) (fun K hK => ?_)
      simp [go_sem, hgl', hgl'']
      refine hK _ _ ?_; clear hK K
      refine W_if (by simp [go_sem, hgl', hgl'']; rfl) rfl ?_
      refine W_skip ?_
      refine hK1 _ _ ?_; clear hK1 K1
      have bq1 : x / gg < 65536 ^ 100 := Nat.lt_of_le_of_lt (Nat.div_le_self _ _) bx
      have bq2 : y / gg < 65536 ^ 100 := Nat.lt_of_le_of_lt (Nat.div_le_self _ _) bY
      first | refine W_rt (by kernel_rfl) (fun K hK => ?_) | refine W_text (by kernel_rfl) (fun K hK => ?_)
      simp [go_sem]
      refine hv_call (by simp [go_sem]) rfl Try.call25 (fun R hR => ?_)
      simp [go_sem]
      refine (divV hr hr4 h0 bx).mono ?_
      rintro e w5 ⟨a5, c5, a5', c5', rfl, hr5, hs5, hE5⟩
      refine ⟨_, rfl, hR _ _ ?_⟩
      clear hR R
      replace hs := hs.ext hE5
      replace hr4 := hr4.ext hE5
      replace hE := hE.next hE5
      clear hE5
      simp [go_sem]
      rw [z1, lim_zero]
      clear hs5
      refine hK _ _ ?_; clear hK K
      first | refine W_rt (by kernel_rfl) (fun K hK => ?_) | refine W_text (by kernel_rfl) (fun K hK => ?_)
      simp [go_sem]
      refine hv_call (by simp [go_sem]) rfl Try.call25 (fun R hR => ?_)
      simp [go_sem]
      refine (divV hs hr4 h0 bY).mono ?_
      rintro e w6 ⟨a6, c6, a6', c6', rfl, hr6, hs6, hE6⟩
      refine ⟨_, rfl, hR _ _ ?_⟩
      clear hR R
      replace hr5 := hr5.ext hE6
      replace hE := hE.next hE6
      clear hE6
      simp [go_sem]
      rw [z2, lim_zero]
      clear hs6
      refine hK _ _ ?_; clear hK K
      have one : lim 1 = [1] := lim_1 1 (by decide) (by decide)
      generalize x / gg = q1 at *
      generalize y / gg = q2 at *
      first | refine W_rt (by kernel_rfl) (fun K hK => ?_) | refine W_text (by kernel_rfl) (fun K hK => ?_)
      simp [go_sem]
      refine hv_call (by simp [go_sem]) rfl Try.call27 (fun R hR => ?_)
      simp [go_sem]
      refine (gcdV hr5 hr6 bq1 bq2).mono ?_
      rintro e w7 ⟨a7, c7, rfl, hr7, hE7⟩
      refine ⟨_, rfl, hR _ _ ?_⟩
      clear hR R
      replace hE := hE.next hE7
      clear hE7
      simp [go_sem]
      rw [z3, one] at hr7
      rw [z3, one]
      refine hv_buildSlice #[.int .u16 1] (by simp [go_sem]) rfl ty_slZ22 (by decide) [(0, .int .u16 1)] (by simp [go_sem]) (by kernel_rfl) (fun w8 b8 hE8 hle8 hB8 => ?_)
      have hr8 : RD w8 (some ⟨b8, 0, none⟩) 1 [1] := RD.of_lm hB8 (Ok.cons (by decide) Ok.nil) (by decide)
      replace hr7 := hr7.ext hE8
      replace hE := hE.next hE8
      simp [go_sem]
      refine hv_call (by simp [go_sem]) rfl Try.call16 (fun R hR => ?_)
      simp [go_sem]
      refine (same_any [1] _ _ _ _ _ hr7.rd hr8 (by decide)).mono ?_
      rintro e w9 ⟨rfl, hE9⟩
      refine ⟨_, rfl, hR _ _ ?_⟩
      clear hR R
      replace hE := hE.next hE9
      clear hE9
      simp [go_sem]
      refine hv_call (by simp [go_sem]) rfl Try.call13 (fun R hR => ?_)
      simp [go_sem]
      refine (alive_any _).mono ?_
      rintro e w11 ⟨rfl, hE11⟩
      refine ⟨_, rfl, hR _ _ ?_⟩
      clear hR R
      replace hE := hE.next hE11
      clear hE11
      simp [go_sem]
      refine hK _ _ ?_; clear hK K
      refine W_ret ?_
      repeat (first | refine thenG_ret ?_ | refine inBlock_ret ?_)
      refine ⟨trivial, ?_, hE⟩
      simp [go_sem, pack, resL]
  · have hb : (!decide (l.length ≤ 24) || !decide (m.length ≤ 24)) = true := by
      by_cases h : l.length ≤ 24
      · have : ¬ m.length ≤ 24 := fun h' => h24 ⟨h, h'⟩
        simp [h, this]
      · simp [h]
    refine W_if (by simp [go_sem, hb]; rfl) rfl ?_
    first | refine W_rt (by kernel_rfl) (fun K hK => ?_) | refine W_text (by kernel_rfl) (fun K hK => ?_)
    simp [go_sem]
    refine hv_call (by simp [go_sem]) rfl Try.call13 (fun R hR => ?_)
    simp [go_sem]
    refine (alive_any _).mono ?_
    rintro e w4 ⟨rfl, hE4⟩
    refine ⟨_, rfl, hR _ _ ?_⟩
    clear hR R
    replace hE := hE.next hE4
    clear hE4
    simp [go_sem]
    refine hK _ _ ?_; clear hK K
    refine W_ret ?_
    repeat (first | refine thenG_ret ?_ | refine inBlock_ret ?_)
    refine ⟨trivial, ?_, hE⟩
    simp [go_sem, pack, resL]
set_option maxRecDepth 100000 in
theorem naturalGcds_lifted (os : Os) (started : os.Started) (H : Type) (enc : TypeId × Value → H) :
    ReturnsInHanded {} Try.checked os 5 .any (Rows.naturalGcdsSpec.pre6 enc Try.prog Try.f5 Rows.naturalGcdsRow.domain false) (Rows.naturalGcdsSpec.post enc Try.prog Try.f5 false true false false) := by
  refine law_lifted (C := Try.checked) (s := Rows.naturalGcdsSpec) Try.own Try.laidOut (by kernel_rfl) Try.func5 rfl 4 rfl Try.underlying4 (by kernel_rfl) enc ?_ ?_ os started
    (ChangeSpec.witness6 (enc := enc) (C := Try.checked) false ⟨#[], #[.slice none 0 0, .slice none 0 0], []⟩ 8 (by kernel_rfl) (by kernel_rfl) (by kernel_rfl) (by kernel_rfl))
  · intro ds hl
    match ds, hl with
    | [d0, d1], _ => rfl
  · intro W base args ds ps hval hA hlt _
    have hA' : DataW.TrodAll enc Try.prog W 0 (fun _ => true) true [23, 23] args.toList ds ps := hA
    have hval' : ∀ (j : Nat) t v, Try.f5.params[j]? = some t → args[j]? = some v → Value.okWide Try.prog W .any base t v := hval
    obtain ⟨v0, v1, d0, d1, p0, p1, rfl, rfl, rfl, h0, h1⟩ := Go.ChangeShapes.trodAll_two hA'
    obtain ⟨x, a_x, c_x, rfl, hr_x, hk_x⟩ := open_nat (hval' 0 23 v0 rfl rfl) h0
    obtain ⟨y, a_y, c_y, rfl, hr_y, hk_y⟩ := open_nat (hval' 1 23 v1 rfl rfl) h1
    exact naturalGcds_any x y a_x a_y c_x c_y W hr_x hr_y

theorem naturalGcds_holds : Rows.NaturalGcdsSaid :=
  OpenClaim.holds_of_wide 5 Try.f5 rfl rfl rfl rfl rfl rfl rfl ⟨rfl, rfl, rfl, rfl, rfl⟩ rfl rfl rfl rfl rfl (by kernel_rfl) Try.func5 (by kernel_rfl)
    (of_decide_eq_true (by kernel_rfl)) (by unfold Func.isWrapper; first | (rw [if_pos (by decide +kernel)]; kernel_rfl) | (rw [if_neg (by decide +kernel)]; exact ⟨rfl, rfl⟩))
    (fun os started H enc _ => naturalGcds_lifted os started H enc)
end Go.Proofs.Ytomniiobaonloaa
