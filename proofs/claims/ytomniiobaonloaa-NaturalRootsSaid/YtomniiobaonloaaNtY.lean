/- NaturalQuotients. -/
import Derived.Test.YtomniiobaonloaaNtX
import Derived.Test.YtomniiobaonloaaNtK
namespace Go.Proofs.Ytomniiobaonloaa
open Go.RowKit Go.V Go.ChangeMaps
set_option linter.unusedSimpArgs false
set_option linter.unusedVariables false

theorem div0 (l : List Nat) (a : Option Addr) (c : Nat) (w : World) (hr : RD w a c l) (hl : l.length ≤ 9223372036854775807) :
    Calls Try.prog 25 #[.slice a l.length c, .slice none 0 0] w fun e w' => e = .returned (.tuple #[.slice none 0 0, .slice none 0 0, .int .i64 3]) ∧ Below w.heap.size w w' := by
  have ht := trim_any [] none 0 w (RD.nil _ _ _) (by decide)
  have e : (nrm []).length = 0 := rfl
  rw [e] at ht
  refine calls_of_W (args := [.slice a l.length c, .slice none 0 0]) (rs := [.tmp 4, .tmp 5, .tmp 6]) (n := 71) Try.func25 rfl rfl rfl (by kernel_rfl) ?_
  first | refine W_rt (by kernel_rfl) (fun K hK => ?_) | refine W_text (by kernel_rfl) (fun K hK => ?_)
  simp [go_sem]
  refine hK _ _ ?_; clear hK K
  first | refine W_rt (by kernel_rfl) (fun K hK => ?_) | refine W_text (by kernel_rfl) (fun K hK => ?_)
  simp [go_sem]
  refine hv_call (by simp [go_sem]) rfl Try.call43 (fun R hR => ?_)
  simp [go_sem]
  refine (trim_big l a c _ hr hl).mono ?_
  rintro e w1 ⟨rfl, rfl⟩
  refine ⟨_, rfl, hR _ _ ?_⟩
  clear hR R
  simp [go_sem]
  refine hv_call (by simp [go_sem]) rfl Try.call43 (fun R hR => ?_)
  simp [go_sem]
  refine (ht).mono ?_
  rintro e w1 ⟨rfl, rfl⟩
  refine ⟨_, rfl, hR _ _ ?_⟩
  clear hR R
  simp [go_sem]
  refine hK _ _ ?_; clear hK K
  refine W_seq (fun K1 hK1 => ?_)
  refine W_block ?_
  first | refine W_rt (by kernel_rfl) (fun K hK => ?_) | refine W_text (by kernel_rfl) (fun K hK => ?_)
  simp [go_sem]
  refine hK _ _ ?_; clear hK K
  refine W_if (by simp [go_sem]; rfl) rfl ?_
  first | refine W_rt (by kernel_rfl) (fun K hK => ?_) | refine W_text (by kernel_rfl) (fun K hK => ?_)
  simp [go_sem]
  refine hK _ _ ?_; clear hK K
  refine W_ret ?_
  repeat (first | refine thenG_ret ?_ | refine inBlock_ret ?_)
  refine ⟨trivial, ?_, Below.refl _ _⟩
  simp [go_sem, pack, resL]
theorem quo_facts (x y z : Nat) (hz : z < y) : (x * y + z) / y = x ∧ (x * y + z) % y = z := by
  have hy : 0 < y := by omega
  rw [Nat.mul_comm x y]
  exact ⟨by rw [Nat.mul_add_div hy, Nat.div_eq_of_lt hz, Nat.add_zero], by rw [Nat.mul_add_mod, Nat.mod_eq_of_lt hz]⟩
theorem divE' {l m : List Nat} {a b : Option Addr} {c d x y : Nat} {w : World} (q r : Nat) (hr : NV w a c l x) (hs : NV w b d m y) (h0 : y ≠ 0) (hx : x < 65536 ^ 100) (hq : x / y = q) (hrr : x % y = r) :
    Calls Try.prog 25 #[.slice a l.length c, .slice b m.length d] w fun e w' => ∃ a c a' c', e = .returned (.tuple #[.slice a (lim q).length c, .slice a' (lim r).length c', .int .i64 0]) ∧ NV w' a c (lim q) q ∧ NV w' a' c' (lim r) r ∧ Below w.heap.size w w' := by
  subst hq; subst hrr; exact divV hr hs h0 hx

set_option maxHeartbeats 4000000 in
theorem naturalQuotients_any (l m n : List Nat) (a b e : Option Addr) (c d f : Nat) (w : World) (hr0 : RD w a c l) (hs0 : RD w b d m) (ht0 : RD w e f n) (hl : l.length ≤ 9223372036854775807) :
    Calls Try.prog 6 #[.slice a l.length c, .slice b m.length d, .slice e n.length f] w fun e w' => e = .returned (.bool true) ∧ Below w.heap.size w w' := by
  refine calls_of_W (args := [.slice a l.length c, .slice b m.length d, .slice e n.length f]) (rs := [.tmp 6]) (n := 97) Try.func6 rfl rfl rfl (by kernel_rfl) ?_
  first | refine W_rt (by kernel_rfl) (fun K hK => ?_) | refine W_text (by kernel_rfl) (fun K hK => ?_)
  simp [go_sem]
  refine hK _ _ ?_; clear hK K
  refine W_seq (fun K1 hK1 => ?_)
  first | refine W_rt (by kernel_rfl) (fun K hK => ?_) | refine W_text (by kernel_rfl) (fun K hK => ?_)
  simp [go_sem]
  refine hv_buildSlice #[.slice a l.length c, .slice b m.length d, .slice e n.length f] (by simp [go_sem]) rfl ty_slZ50 (by decide) [(0, .slice a l.length c), (1, .slice b m.length d), (2, .slice e n.length f)] (by simp [go_sem]) (by kernel_rfl) (fun w2 b2 hE2 hle2 hB2 => ?_)
  replace hr0 := hr0.ext hE2
  replace hs0 := hs0.ext hE2
  replace ht0 := ht0.ext hE2
  simp [go_sem]
  refine hv_call (by simp [go_sem]) rfl Try.call12 (fun R hR => ?_)
  simp [go_sem]
  refine (small_any [(a, l.length, c), (b, m.length, d), (e, n.length, f)] b2 _ hB2 (by simp)).mono ?_
  rintro e' w3 ⟨rfl, rfl⟩
  refine ⟨_, rfl, hR _ _ ?_⟩
  clear hR R
  have hE := hE2
  clear hE2 hB2
  by_cases h24 : l.length ≤ 24 ∧ m.length ≤ 24 ∧ n.length ≤ 24
  · obtain ⟨h1, h2, h3⟩ := h24
    have hr : NV w2 a c l (val l) := ⟨hr0, rfl, by omega⟩
    have hs : NV w2 b d m (val m) := ⟨hs0, rfl, by omega⟩
    have ht : NV w2 e f n (val n) := ⟨ht0, rfl, by omega⟩
    have bx := val_24 l hr0.ok h1
    have bY := val_24 m hs0.ok h2
    have bz := val_24 n ht0.ok h3
    generalize val l = x at *
    generalize val m = y at *
    generalize val n = z at *
    simp [go_sem, h1, h2, h3]
    refine hv_call (by simp [go_sem, h1, h2, h3]) rfl Try.call21 (fun R hR => ?_)
    simp [go_sem, h1, h2, h3]
    refine (cmpNV (m := []) hs (NV.nil _ none 0)).mono ?_
    rintro e' w4 ⟨rfl, hE4⟩
    refine ⟨_, rfl, hR _ _ ?_⟩
    clear hR R
    replace hr0 := hr0.ext hE4
    replace hr := hr.ext hE4
    replace hs := hs.ext hE4
    replace ht := ht.ext hE4
    replace hE := hE.next hE4
    clear hs0 ht0 hE4
    by_cases h0 : y = 0
    · subst h0
      have cz : cmpV 0 0 = 0 := rfl
      simp [go_sem, cz]
      refine hK _ _ ?_; clear hK K
      refine W_if (by simp [go_sem, cz]; rfl) rfl ?_
      first | refine W_rt (by kernel_rfl) (fun K hK => ?_) | refine W_text (by kernel_rfl) (fun K hK => ?_)
      simp [go_sem]
      refine hv_call (by simp [go_sem]) rfl Try.call25 (fun R hR => ?_)
      simp [go_sem]
      refine (div0 l a c _ hr0 hl).mono ?_
      rintro e' w5 ⟨rfl, hE5⟩
      refine ⟨_, rfl, hR _ _ ?_⟩
      clear hR R
      replace hE := hE.next hE5
      simp [go_sem]
      refine hK _ _ ?_; clear hK K
      first | refine W_rt (by kernel_rfl) (fun K hK => ?_) | refine W_text (by kernel_rfl) (fun K hK => ?_)
      simp [go_sem]
      refine hv_call (by simp [go_sem]) rfl Try.call13 (fun R hR => ?_)
      simp [go_sem]
      refine (alive_any _).mono ?_
      rintro e w6 ⟨rfl, hE6⟩
      refine ⟨_, rfl, hR _ _ ?_⟩
      clear hR R
      replace hE := hE.next hE6
      clear hE6
      simp [go_sem]
      refine hK _ _ ?_; clear hK K
      refine W_ret ?_
      repeat (first | refine thenG_ret ?_ | refine inBlock_ret ?_)
      refine ⟨trivial, ?_, hE⟩
      simp [go_sem, pack, resL]
    · have cz : ¬ cmpV y 0 = 0 := by rw [cmpV_gt (by omega)]; decide
      clear hr0
      obtain ⟨q1, q2, q3, q4, q5, q6, q7⟩ := big3 x y z _ bx bY bz
      have hQ : 65536 ^ 24 * 65536 ^ 24 * 65536 ^ 24 * 65536 ≤ 65536 ^ 100 := by
        rw [← Nat.pow_add, ← Nat.pow_add, ← Nat.pow_succ]; exact Nat.pow_le_pow_right (by decide) (by decide)
      have hlt := Nat.mod_lt x (show 0 < y by omega)
      have hdm : x / y * y + x % y = x := by rw [Nat.mul_comm]; exact Nat.div_add_mod x y
      have hqf := quo_facts x y z
      have hqle := Nat.div_le_self x y
      generalize hqq : x / y = qq at *
      generalize hrr : x % y = rr at *
      generalize hqy : qq * y = qy at *
      generalize hXY : x * y = xy at *
      generalize x * y * z = xyz at *
      generalize x * z = xz at *
      generalize y * z = yz at *
      generalize 65536 ^ 24 * 65536 ^ 24 * 65536 ^ 24 = PPP at *
      generalize hQQ : 65536 ^ 100 = QQ at *
      simp [go_sem, cz]
      refine hK _ _ ?_; clear hK K
      refine W_if (by simp [go_sem, cz]; rfl) rfl ?_
      refine W_skip ?_
      refine hK1 _ _ ?_; clear hK1 K1
      first | refine W_rt (by kernel_rfl) (fun K hK => ?_) | refine W_text (by kernel_rfl) (fun K hK => ?_)
      simp [go_sem]
      refine hv_call (by simp [go_sem]) rfl Try.call25 (fun R hR => ?_)
      simp [go_sem]
      refine (divE' qq rr hr hs h0 (by omega) hqq hrr).mono ?_
      rintro e w5 ⟨a5, c5, a5', c5', rfl, hr5, hs5, hE5⟩
      refine ⟨_, rfl, hR _ _ ?_⟩
      clear hR R
      replace hr := hr.ext hE5
      replace hs := hs.ext hE5
      replace ht := ht.ext hE5
      replace hE := hE.next hE5
      clear hE5
      simp [go_sem]
      refine hK _ _ ?_; clear hK K
      refine W_seq (fun K1 hK1 => ?_)
      have cr : cmpV rr y < 0 := by rw [cmpV_lt hlt]; decide
      have cr1 : ¬ (0 : Int) ≤ cmpV rr y := by omega
      first | refine W_rt (by kernel_rfl) (fun K hK => ?_) | refine W_text (by kernel_rfl) (fun K hK => ?_)
      simp [go_sem]
      refine hv_call (by simp [go_sem]) rfl Try.call21 (fun R hR => ?_)
      simp [go_sem]
      refine (cmpNV hs5 hs).mono ?_
      rintro e w6 ⟨rfl, hE6⟩
      refine ⟨_, rfl, hR _ _ ?_⟩
      clear hR R
      replace hr := hr.ext hE6
      replace hs := hs.ext hE6
      replace ht := ht.ext hE6
      replace hr5 := hr5.ext hE6
      replace hs5 := hs5.ext hE6
      replace hE := hE.next hE6
      clear hE6
      simp [go_sem]
      simp [go_sem, cr, cr1]
      refine hv_call (by simp [go_sem, cr, cr1]) rfl Try.call30 (fun R hR => ?_)
      simp [go_sem, cr, cr1]
      refine (mulE qy hr5 hs hqy (by omega)).mono ?_
      rintro e w7 ⟨a7, c7, rfl, hr7, hE7⟩
      refine ⟨_, rfl, hR _ _ ?_⟩
      clear hR R
      replace hr := hr.ext hE7
      replace hs := hs.ext hE7
      replace ht := ht.ext hE7
      replace hs5 := hs5.ext hE7
      replace hE := hE.next hE7
      clear hE7
      simp [go_sem, cr, cr1]
      refine hv_call (by simp [go_sem, cr, cr1]) rfl Try.call29 (fun R hR => ?_)
      simp [go_sem, cr, cr1]
      refine (addE x hr7 hs5 (by omega) (by omega)).mono ?_
      rintro e w8 ⟨a8, c8, rfl, hr8, hE8⟩
      refine ⟨_, rfl, hR _ _ ?_⟩
      clear hR R
      replace hr := hr.ext hE8
      replace hs := hs.ext hE8
      replace ht := ht.ext hE8
      replace hE := hE.next hE8
      clear hE8
      simp [go_sem, cr, cr1]
      refine hv_call (by simp [go_sem, cr, cr1]) rfl Try.call17 (fun R hR => ?_)
      simp [go_sem, cr, cr1]
      refine (normV hr (by omega)).mono ?_
      rintro e w9 ⟨a9, c9, rfl, hr9, hE9⟩
      refine ⟨_, rfl, hR _ _ ?_⟩
      clear hR R
      replace hr := hr.ext hE9
      replace hs := hs.ext hE9
      replace ht := ht.ext hE9
      replace hr8 := hr8.ext hE9
      replace hE := hE.next hE9
      clear hE9
      simp [go_sem, cr, cr1]
      refine hv_call (by simp [go_sem, cr, cr1]) rfl Try.call16 (fun R hR => ?_)
      simp [go_sem, cr, cr1]
      refine (sameV hr8 hr9).mono ?_
      rintro e w10 ⟨rfl, hE10⟩
      refine ⟨_, rfl, hR _ _ ?_⟩
      clear hR R
      replace hr := hr.ext hE10
      replace hs := hs.ext hE10
      replace ht := ht.ext hE10
      replace hE := hE.next hE10
      clear hE10
      simp [go_sem, cr, cr1]
      refine hK _ _ ?_; clear hK K
      refine W_if (by simp [go_sem, cr, cr1]; rfl) rfl ?_
      refine W_skip ?_
      refine hK1 _ _ ?_; clear hK1 K1
      refine W_seq (fun K1 hK1 => ?_)
      first | refine W_rt (by kernel_rfl) (fun K hK => ?_) | refine W_text (by kernel_rfl) (fun K hK => ?_)
      simp [go_sem]
      refine hv_call (by simp [go_sem]) rfl Try.call21 (fun R hR => ?_)
      simp [go_sem]
      refine (cmpNV ht hs).mono ?_
      rintro e w11 ⟨rfl, hE11⟩
      refine ⟨_, rfl, hR _ _ ?_⟩
      clear hR R
      replace hr := hr.ext hE11
      replace hs := hs.ext hE11
      replace ht := ht.ext hE11
      replace hE := hE.next hE11
      clear hE11
      simp [go_sem]
      refine hK _ _ ?_; clear hK K
      by_cases hzy : z < y
      · have cz3 : cmpV z y < 0 := by rw [cmpV_lt hzy]; decide
        have cz2 : ¬ (0 : Int) ≤ cmpV z y := by omega
        obtain ⟨r1, r2⟩ := hqf hzy
        refine W_if (by simp [go_sem, cz2, cz3]; rfl) rfl ?_
        refine W_skip ?_
        refine hK1 _ _ ?_; clear hK1 K1
        first | refine W_rt (by kernel_rfl) (fun K hK => ?_) | refine W_text (by kernel_rfl) (fun K hK => ?_)
        simp [go_sem]
        refine hv_call (by simp [go_sem]) rfl Try.call30 (fun R hR => ?_)
        simp [go_sem]
        refine (mulE xy hr hs hXY (by omega)).mono ?_
        rintro e w12 ⟨a12, c12, rfl, hr12, hE12⟩
        refine ⟨_, rfl, hR _ _ ?_⟩
        clear hR R
        replace hr := hr.ext hE12
        replace hs := hs.ext hE12
        replace ht := ht.ext hE12
        replace hE := hE.next hE12
        clear hE12
        simp [go_sem]
        refine hv_call (by simp [go_sem]) rfl Try.call29 (fun R hR => ?_)
        simp [go_sem]
        refine (addE (xy + z) hr12 ht rfl (by omega)).mono ?_
        rintro e w13 ⟨a13, c13, rfl, hr13, hE13⟩
        refine ⟨_, rfl, hR _ _ ?_⟩
        clear hR R
        replace hr := hr.ext hE13
        replace hs := hs.ext hE13
        replace ht := ht.ext hE13
        replace hE := hE.next hE13
        clear hE13
        simp [go_sem]
        refine hv_call (by simp [go_sem]) rfl Try.call25 (fun R hR => ?_)
        simp [go_sem]
        refine (divE' x z hr13 hs h0 (by omega) r1 r2).mono ?_
        rintro e w14 ⟨a14, c14, a14', c14', rfl, hr14, hs14, hE14⟩
        refine ⟨_, rfl, hR _ _ ?_⟩
        clear hR R
        replace hr := hr.ext hE14
        replace ht := ht.ext hE14
        replace hE := hE.next hE14
        clear hE14
        simp [go_sem]
        refine hK _ _ ?_; clear hK K
        first | refine W_rt (by kernel_rfl) (fun K hK => ?_) | refine W_text (by kernel_rfl) (fun K hK => ?_)
        simp [go_sem]
        refine hv_call (by simp [go_sem]) rfl Try.call17 (fun R hR => ?_)
        simp [go_sem]
        refine (normV hr (by omega)).mono ?_
        rintro e w15 ⟨a15, c15, rfl, hr15, hE15⟩
        refine ⟨_, rfl, hR _ _ ?_⟩
        clear hR R
        replace ht := ht.ext hE15
        replace hr14 := hr14.ext hE15
        replace hs14 := hs14.ext hE15
        replace hE := hE.next hE15
        clear hE15
        simp [go_sem]
        refine hv_call (by simp [go_sem]) rfl Try.call16 (fun R hR => ?_)
        simp [go_sem]
        refine (sameV hr14 hr15).mono ?_
        rintro e w16 ⟨rfl, hE16⟩
        refine ⟨_, rfl, hR _ _ ?_⟩
        clear hR R
        replace ht := ht.ext hE16
        replace hs14 := hs14.ext hE16
        replace hE := hE.next hE16
        clear hE16
        simp [go_sem]
        refine hv_call (by simp [go_sem]) rfl Try.call17 (fun R hR => ?_)
        simp [go_sem]
        refine (normV ht (by omega)).mono ?_
        rintro e w17 ⟨a17, c17, rfl, hr17, hE17⟩
        refine ⟨_, rfl, hR _ _ ?_⟩
        clear hR R
        replace hs14 := hs14.ext hE17
        replace hE := hE.next hE17
        clear hE17
        simp [go_sem]
        refine hv_call (by simp [go_sem]) rfl Try.call16 (fun R hR => ?_)
        simp [go_sem]
        refine (sameV hs14 hr17).mono ?_
        rintro e w18 ⟨rfl, hE18⟩
        refine ⟨_, rfl, hR _ _ ?_⟩
        clear hR R
        replace hE := hE.next hE18
        clear hE18
        simp [go_sem]
        refine hv_call (by simp [go_sem]) rfl Try.call13 (fun R hR => ?_)
        simp [go_sem]
        refine (alive_any _).mono ?_
        rintro e w19 ⟨rfl, hE19⟩
        refine ⟨_, rfl, hR _ _ ?_⟩
        clear hR R
        replace hE := hE.next hE19
        clear hE19
        simp [go_sem]
        refine hK _ _ ?_; clear hK K
        refine W_ret ?_
        repeat (first | refine thenG_ret ?_ | refine inBlock_ret ?_)
        refine ⟨trivial, ?_, hE⟩
        simp [go_sem, pack, resL]
      · have cz2 : (0 : Int) ≤ cmpV z y := by unfold cmpV; rw [if_neg hzy]; split <;> omega
        refine W_if (by simp [go_sem, cz2]; rfl) rfl ?_
        first | refine W_rt (by kernel_rfl) (fun K hK => ?_) | refine W_text (by kernel_rfl) (fun K hK => ?_)
        simp [go_sem]
        refine hv_call (by simp [go_sem]) rfl Try.call13 (fun R hR => ?_)
        simp [go_sem]
        refine (alive_any _).mono ?_
        rintro e w12 ⟨rfl, hE12⟩
        refine ⟨_, rfl, hR _ _ ?_⟩
        clear hR R
        replace hE := hE.next hE12
        clear hE12
        simp [go_sem]
        refine hK _ _ ?_; clear hK K
        refine W_ret ?_
        repeat (first | refine thenG_ret ?_ | refine inBlock_ret ?_)
        refine ⟨trivial, ?_, hE⟩
        simp [go_sem, pack, resL]
  · have hb : (decide (l.length ≤ 24) && (decide (m.length ≤ 24) && decide (n.length ≤ 24))) = false := by
      by_cases h : l.length ≤ 24
      · by_cases h' : m.length ≤ 24
        · have : ¬ n.length ≤ 24 := fun h'' => h24 ⟨h, h', h''⟩
          simp [h, h', this]
        · simp [h']
      · simp [h]
    have hb1 : (!decide (l.length ≤ 24) || (!decide (m.length ≤ 24) || !decide (n.length ≤ 24))) = true := by
      rw [← Bool.not_and, ← Bool.not_and, hb]; rfl
    clear hs0 ht0
    simp [go_sem, hb, hb1]
    refine hK _ _ ?_; clear hK K
    refine W_if (by simp [go_sem, hb, hb1]; rfl) rfl ?_
    first | refine W_rt (by kernel_rfl) (fun K hK => ?_) | refine W_text (by kernel_rfl) (fun K hK => ?_)
    simp [go_sem]
    refine hv_call (by simp [go_sem]) rfl Try.call25 (fun R hR => ?_)
    simp [go_sem]
    refine (div0 l a c _ hr0 hl).mono ?_
    rintro e' w5 ⟨rfl, hE5⟩
    refine ⟨_, rfl, hR _ _ ?_⟩
    clear hR R
    replace hE := hE.next hE5
    simp [go_sem]
    refine hK _ _ ?_; clear hK K
    first | refine W_rt (by kernel_rfl) (fun K hK => ?_) | refine W_text (by kernel_rfl) (fun K hK => ?_)
    simp [go_sem]
    refine hv_call (by simp [go_sem]) rfl Try.call13 (fun R hR => ?_)
    simp [go_sem]
    refine (alive_any _).mono ?_
    rintro e w6 ⟨rfl, hE6⟩
    refine ⟨_, rfl, hR _ _ ?_⟩
    clear hR R
    replace hE := hE.next hE6
    clear hE6
    simp [go_sem]
    refine hK _ _ ?_; clear hK K
    refine W_ret ?_
    repeat (first | refine thenG_ret ?_ | refine inBlock_ret ?_)
    refine ⟨trivial, ?_, hE⟩
    simp [go_sem, pack, resL]
set_option maxRecDepth 100000 in
theorem naturalQuotients_lifted (os : Os) (started : os.Started) (H : Type) (enc : TypeId × Value → H) :
    ReturnsInHanded {} Try.checked os 6 .any (Rows.naturalQuotientsSpec.pre6 enc Try.prog Try.f6 Rows.naturalQuotientsRow.domain false) (Rows.naturalQuotientsSpec.post enc Try.prog Try.f6 false true false false) := by
  refine law_lifted (C := Try.checked) (s := Rows.naturalQuotientsSpec) Try.own Try.laidOut (by kernel_rfl) Try.func6 rfl 4 rfl Try.underlying4 (by kernel_rfl) enc ?_ ?_ os started
    (ChangeSpec.witness6 (enc := enc) (C := Try.checked) false ⟨#[], #[.slice none 0 0, .slice none 0 0, .slice none 0 0], []⟩ 8 (by kernel_rfl) (by kernel_rfl) (by kernel_rfl) (by kernel_rfl))
  · intro ds hl
    match ds, hl with
    | [d0, d1, d2], _ => rfl
  · intro W base args ds ps hval hA hlt _
    have hA' : DataW.TrodAll enc Try.prog W 0 (fun _ => true) true [23, 23, 23] args.toList ds ps := hA
    have hval' : ∀ (j : Nat) t v, Try.f6.params[j]? = some t → args[j]? = some v → Value.okWide Try.prog W .any base t v := hval
    obtain ⟨v0, v1, v2, d0, d1, d2, p0, p1, p2, rfl, rfl, rfl, h0, h1, h2⟩ := Go.ChangeShapes.trodAll_three hA'
    obtain ⟨x, a_x, c_x, rfl, hr_x, hk_x⟩ := open_nat (hval' 0 23 v0 rfl rfl) h0
    obtain ⟨y, a_y, c_y, rfl, hr_y, hk_y⟩ := open_nat (hval' 1 23 v1 rfl rfl) h1
    obtain ⟨z, a_z, c_z, rfl, hr_z, hk_z⟩ := open_nat (hval' 2 23 v2 rfl rfl) h2
    exact naturalQuotients_any x y z a_x a_y a_z c_x c_y c_z W hr_x hr_y hr_z (Nat.le_trans hr_x.cap hk_x)

theorem naturalQuotients_holds : Rows.NaturalQuotientsSaid :=
  OpenClaim.holds_of_wide 6 Try.f6 rfl rfl rfl rfl rfl rfl rfl ⟨rfl, rfl, rfl, rfl, rfl⟩ rfl rfl rfl rfl rfl (by kernel_rfl) Try.func6 (by kernel_rfl)
    (of_decide_eq_true (by kernel_rfl)) (by unfold Func.isWrapper; first | (rw [if_pos (by decide +kernel)]; kernel_rfl) | (rw [if_neg (by decide +kernel)]; exact ⟨rfl, rfl⟩))
    (fun os started H enc _ => naturalQuotients_lifted os started H enc)
end Go.Proofs.Ytomniiobaonloaa
