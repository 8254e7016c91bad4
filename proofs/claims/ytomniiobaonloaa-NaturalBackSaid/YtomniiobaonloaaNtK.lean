/- NaturalRing. -/
import Derived.Test.YtomniiobaonloaaNtJ
namespace Go.Proofs.Ytomniiobaonloaa
open Go.RowKit Go.V Go.ChangeMaps
set_option linter.unusedSimpArgs false
set_option linter.unusedVariables false

theorem addE {l m : List Nat} {a b : Option Addr} {c d x y : Nat} {w : World} (s : Nat) (hr : NV w a c l x) (hs : NV w b d m y) (h : x + y = s) (hb : s < 65536 ^ 100) :
    Calls Try.prog 29 #[.slice a l.length c, .slice b m.length d] w (RetV w s) := by subst h; exact addV hr hs hb
theorem mulE {l m : List Nat} {a b : Option Addr} {c d x y : Nat} {w : World} (s : Nat) (hr : NV w a c l x) (hs : NV w b d m y) (h : x * y = s) (hb : s < 65536 ^ 100) :
    Calls Try.prog 30 #[.slice a l.length c, .slice b m.length d] w (RetV w s) := by subst h; exact mulV hr hs hb
theorem big3 (x y z P : Nat) (hx : x < P) (hy : y < P) (hz : z < P) : x * y < P * P * P ∧ x * z < P * P * P ∧ y * z < P * P * P ∧ x * y * z < P * P * P ∧ x < P * P * P ∧ y < P * P * P ∧ z < P * P * P := by
  have p0 : 0 < P := by omega
  have p1 : P * 1 ≤ P * P := Nat.mul_le_mul_left _ p0
  have p2 : P * P * 1 ≤ P * P * P := Nat.mul_le_mul_left _ p0
  have a1 := Nat.mul_lt_mul'' hx hy
  have a2 := Nat.mul_lt_mul'' hx hz
  have a3 := Nat.mul_lt_mul'' hy hz
  have a4 := Nat.mul_lt_mul'' a1 hz
  omega

set_option maxHeartbeats 4000000 in
theorem naturalRing_any (l m n : List Nat) (a b e : Option Addr) (c d f : Nat) (w : World) (hr0 : RD w a c l) (hs0 : RD w b d m) (ht0 : RD w e f n) :
    Calls Try.prog 8 #[.slice a l.length c, .slice b m.length d, .slice e n.length f] w fun e w' => e = .returned (.bool true) ∧ Below w.heap.size w w' := by
  refine calls_of_W (args := [.slice a l.length c, .slice b m.length d, .slice e n.length f]) (rs := [.tmp 6]) (n := 91) Try.func8 rfl rfl rfl (by kernel_rfl) ?_
  first | refine W_rt (by kernel_rfl) (fun K hK => ?_) | refine W_text (by kernel_rfl) (fun K hK => ?_)
  simp [go_sem]
  refine hK _ _ ?_; clear hK K
  refine W_seq (fun K1 hK1 => ?_)
  first | refine W_rt (by kernel_rfl) (fun K hK => ?_) | refine W_text (by kernel_rfl) (fun K hK => ?_)
  simp [go_sem]
  refine hv_buildSlice #[.slice a l.length c, .slice b m.length d, .slice e n.length f] (by simp [go_sem]) rfl ty_slZ50 (by decide) [(0, .slice a l.length c), (1, .slice b m.length d), (2, .slice e n.length f)] (by simp [go_sem]) (by kernel_rfl) (fun w2 b2 hE2 hle2 hB2 => ?_)
  replace hr0 := hr0.ext hE2
  replace hs0 := hs0.ext hE2
  replace ht0 := ht0.ext hE2
  simp [go_sem]
  refine hv_call (by simp [go_sem]) rfl Try.call12 (fun R hR => ?_)
  simp [go_sem]
  refine (small_any [(a, l.length, c), (b, m.length, d), (e, n.length, f)] b2 _ hB2 (by simp)).mono ?_
  rintro e' w3 ⟨rfl, rfl⟩
  refine ⟨_, rfl, hR _ _ ?_⟩
  clear hR R
  simp [go_sem]
  refine hK _ _ ?_; clear hK K
  have hE := hE2
  clear hE2 hB2
  by_cases h24 : l.length ≤ 24 ∧ m.length ≤ 24 ∧ n.length ≤ 24
  · obtain ⟨h1, h2, h3⟩ := h24
    have hr : NV w2 a c l (val l) := ⟨hr0, rfl, by omega⟩
    have hs : NV w2 b d m (val m) := ⟨hs0, rfl, by omega⟩
    have ht : NV w2 e f n (val n) := ⟨ht0, rfl, by omega⟩
    have bx := val_24 l hr0.ok h1
    have bY := val_24 m hs0.ok h2
    have bz := val_24 n ht0.ok h3
    clear hr0 hs0 ht0
    generalize val l = x at *
    generalize val m = y at *
    generalize val n = z at *
    obtain ⟨q1, q2, q3, q4, q5, q6, q7⟩ := big3 x y z _ bx bY bz
    have hQ : 65536 ^ 24 * 65536 ^ 24 * 65536 ^ 24 * 65536 ≤ 65536 ^ 100 := by
      rw [← Nat.pow_add, ← Nat.pow_add, ← Nat.pow_succ]; exact Nat.pow_le_pow_right (by decide) (by decide)
    have qs : (x + y) * z = x * z + y * z := Nat.add_mul x y z
    have qa : x * (y * z) = x * y * z := (Nat.mul_assoc x y z).symm
    have qc : y * x = x * y := Nat.mul_comm y x
    generalize hT : x * z + y * z = T at *
    generalize hXZ : x * z = xz at *
    generalize hYZ : y * z = yz at *
    generalize hXYZ : x * y * z = xyz at *
    generalize hXY : x * y = xy at *
    generalize 65536 ^ 24 * 65536 ^ 24 * 65536 ^ 24 = PPP at *
    generalize hQQ : 65536 ^ 100 = QQ at *
    refine W_if (by simp [go_sem, h1, h2, h3]; rfl) rfl ?_
    refine W_skip ?_
    refine hK1 _ _ ?_; clear hK1 K1
    first | refine W_rt (by kernel_rfl) (fun K hK => ?_) | refine W_text (by kernel_rfl) (fun K hK => ?_)
    simp [go_sem]
    refine hv_call (by simp [go_sem]) rfl Try.call29 (fun R hR => ?_)
    simp [go_sem]
    refine (addE (x + y) hr hs rfl (by omega)).mono ?_
    rintro e w4 ⟨a4, c4, rfl, hr4, hE4⟩
    refine ⟨_, rfl, hR _ _ ?_⟩
    clear hR R
    replace hr := hr.ext hE4
    replace hs := hs.ext hE4
    replace ht := ht.ext hE4
    replace hE := hE.next hE4
    clear hE4
    simp [go_sem]
    refine hK _ _ ?_; clear hK K
    first | refine W_rt (by kernel_rfl) (fun K hK => ?_) | refine W_text (by kernel_rfl) (fun K hK => ?_)
    simp [go_sem]
    refine hv_call (by simp [go_sem]) rfl Try.call31 (fun R hR => ?_)
    simp [go_sem]
    refine (subV hr4 hs (by omega) (by omega)).mono ?_
    rintro e' w5 ⟨a5, c5, rfl, hr5, hE5⟩
    refine ⟨_, rfl, hR _ _ ?_⟩
    clear hR R
    replace hr := hr.ext hE5
    replace hs := hs.ext hE5
    replace ht := ht.ext hE5
    replace hr4 := hr4.ext hE5
    replace hE := hE.next hE5
    have e5 : x + y - y = x := by omega
    rw [e5] at hr5
    simp only [e5]
    simp [go_sem]
    refine hK _ _ ?_; clear hK K
    refine W_seq (fun K1 hK1 => ?_)
    first | refine W_rt (by kernel_rfl) (fun K hK => ?_) | refine W_text (by kernel_rfl) (fun K hK => ?_)
    simp [go_sem]
    refine hv_call (by simp [go_sem]) rfl Try.call29 (fun R hR => ?_)
    simp [go_sem]
    refine (addE (x + y) hs hr (by omega) (by omega)).mono ?_
    rintro e w6 ⟨a6, c6, rfl, hr6, hE6⟩
    refine ⟨_, rfl, hR _ _ ?_⟩
    clear hR R
    replace hr := hr.ext hE6
    replace hs := hs.ext hE6
    replace ht := ht.ext hE6
    replace hr4 := hr4.ext hE6
    replace hr5 := hr5.ext hE6
    replace hE := hE.next hE6
    clear hE6
    simp [go_sem]
    refine hv_call (by simp [go_sem]) rfl Try.call16 (fun R hR => ?_)
    simp [go_sem]
    refine (sameV hr4 hr6).mono ?_
    rintro e w7 ⟨rfl, hE7⟩
    refine ⟨_, rfl, hR _ _ ?_⟩
    clear hR R
    replace hr := hr.ext hE7
    replace hs := hs.ext hE7
    replace ht := ht.ext hE7
    replace hr4 := hr4.ext hE7
    replace hr5 := hr5.ext hE7
    replace hE := hE.next hE7
    clear hE7
    simp [go_sem]
    refine hv_call (by simp [go_sem]) rfl Try.call17 (fun R hR => ?_)
    simp [go_sem]
    refine (normV hr (by omega)).mono ?_
    rintro e w8 ⟨a8, c8, rfl, hr8, hE8⟩
    refine ⟨_, rfl, hR _ _ ?_⟩
    clear hR R
    replace hr := hr.ext hE8
    replace hs := hs.ext hE8
    replace ht := ht.ext hE8
    replace hr4 := hr4.ext hE8
    replace hr5 := hr5.ext hE8
    replace hE := hE.next hE8
    clear hE8
    simp [go_sem]
    refine hv_call (by simp [go_sem]) rfl Try.call16 (fun R hR => ?_)
    simp [go_sem]
    refine (sameV hr5 hr8).mono ?_
    rintro e w9 ⟨rfl, hE9⟩
    refine ⟨_, rfl, hR _ _ ?_⟩
    clear hR R
    replace hr := hr.ext hE9
    replace hs := hs.ext hE9
    replace ht := ht.ext hE9
    replace hr4 := hr4.ext hE9
    replace hE := hE.next hE9
    clear hE9
    simp [go_sem]
    refine hv_call (by simp [go_sem]) rfl Try.call29 (fun R hR => ?_)
    simp [go_sem]
    refine (addE (x + y + z) hr4 ht rfl (by omega)).mono ?_
    rintro e w10 ⟨a10, c10, rfl, hr10, hE10⟩
    refine ⟨_, rfl, hR _ _ ?_⟩
    clear hR R
    replace hr := hr.ext hE10
    replace hs := hs.ext hE10
    replace ht := ht.ext hE10
    replace hr4 := hr4.ext hE10
    replace hE := hE.next hE10
    clear hE10
    simp [go_sem]
    refine hv_call (by simp [go_sem]) rfl Try.call29 (fun R hR => ?_)
    simp [go_sem]
    refine (addE (y + z) hs ht rfl (by omega)).mono ?_
    rintro e w11 ⟨a11, c11, rfl, hr11, hE11⟩
    refine ⟨_, rfl, hR _ _ ?_⟩
    clear hR R
    replace hr := hr.ext hE11
    replace hs := hs.ext hE11
    replace ht := ht.ext hE11
    replace hr4 := hr4.ext hE11
    replace hr10 := hr10.ext hE11
    replace hE := hE.next hE11
    clear hE11
    simp [go_sem]
    refine hv_call (by simp [go_sem]) rfl Try.call29 (fun R hR => ?_)
    simp [go_sem]
    refine (addE (x + y + z) hr hr11 (by omega) (by omega)).mono ?_
    rintro e w12 ⟨a12, c12, rfl, hr12, hE12⟩
    refine ⟨_, rfl, hR _ _ ?_⟩
    clear hR R
    replace hr := hr.ext hE12
    replace hs := hs.ext hE12
    replace ht := ht.ext hE12
    replace hr4 := hr4.ext hE12
    replace hr10 := hr10.ext hE12
    replace hE := hE.next hE12
    clear hE12
    simp [go_sem]
    refine hv_call (by simp [go_sem]) rfl Try.call16 (fun R hR => ?_)
    simp [go_sem]
    refine (sameV hr10 hr12).mono ?_
    rintro e w13 ⟨rfl, hE13⟩
    refine ⟨_, rfl, hR _ _ ?_⟩
    clear hR R
    replace hr := hr.ext hE13
    replace hs := hs.ext hE13
    replace ht := ht.ext hE13
    replace hr4 := hr4.ext hE13
    replace hE := hE.next hE13
    clear hE13
    simp [go_sem]
    refine hK _ _ ?_; clear hK K
    refine W_if (by simp [go_sem]; rfl) rfl ?_
    refine W_skip ?_
    refine hK1 _ _ ?_; clear hK1 K1
    first | refine W_rt (by kernel_rfl) (fun K hK => ?_) | refine W_text (by kernel_rfl) (fun K hK => ?_)
    simp [go_sem]
    refine hv_call (by simp [go_sem]) rfl Try.call30 (fun R hR => ?_)
    simp [go_sem]
    refine (mulE xy hr hs (by omega) (by omega)).mono ?_
    rintro e w14 ⟨a14, c14, rfl, hr14, hE14⟩
    refine ⟨_, rfl, hR _ _ ?_⟩
    clear hR R
    replace hr := hr.ext hE14
    replace hs := hs.ext hE14
    replace ht := ht.ext hE14
    replace hr4 := hr4.ext hE14
    replace hE := hE.next hE14
    clear hE14
    simp [go_sem]
    refine hK _ _ ?_; clear hK K
    refine W_seq (fun K1 hK1 => ?_)
    first | refine W_rt (by kernel_rfl) (fun K hK => ?_) | refine W_text (by kernel_rfl) (fun K hK => ?_)
    simp [go_sem]
    refine hv_call (by simp [go_sem]) rfl Try.call30 (fun R hR => ?_)
    simp [go_sem]
    refine (mulE xy hs hr (by omega) (by omega)).mono ?_
    rintro e w15 ⟨a15, c15, rfl, hr15, hE15⟩
    refine ⟨_, rfl, hR _ _ ?_⟩
    clear hR R
    replace hr := hr.ext hE15
    replace hs := hs.ext hE15
    replace ht := ht.ext hE15
    replace hr4 := hr4.ext hE15
    replace hr14 := hr14.ext hE15
    replace hE := hE.next hE15
    clear hE15
    simp [go_sem]
    refine hv_call (by simp [go_sem]) rfl Try.call16 (fun R hR => ?_)
    simp [go_sem]
    refine (sameV hr14 hr15).mono ?_
    rintro e w16 ⟨rfl, hE16⟩
    refine ⟨_, rfl, hR _ _ ?_⟩
    clear hR R
    replace hr := hr.ext hE16
    replace hs := hs.ext hE16
    replace ht := ht.ext hE16
    replace hr4 := hr4.ext hE16
    replace hr14 := hr14.ext hE16
    replace hE := hE.next hE16
    clear hE16
    simp [go_sem]
    refine hv_call (by simp [go_sem]) rfl Try.call30 (fun R hR => ?_)
    simp [go_sem]
    refine (mulE xyz hr14 ht hXYZ (by omega)).mono ?_
    rintro e w17 ⟨a17, c17, rfl, hr17, hE17⟩
    refine ⟨_, rfl, hR _ _ ?_⟩
    clear hR R
    replace hr := hr.ext hE17
    replace hs := hs.ext hE17
    replace ht := ht.ext hE17
    replace hr4 := hr4.ext hE17
    replace hE := hE.next hE17
    clear hE17
    simp [go_sem]
    refine hv_call (by simp [go_sem]) rfl Try.call30 (fun R hR => ?_)
    simp [go_sem]
    refine (mulE yz hs ht hYZ (by omega)).mono ?_
    rintro e w18 ⟨a18, c18, rfl, hr18, hE18⟩
    refine ⟨_, rfl, hR _ _ ?_⟩
    clear hR R
    replace hr := hr.ext hE18
    replace hs := hs.ext hE18
    replace ht := ht.ext hE18
    replace hr4 := hr4.ext hE18
    replace hr17 := hr17.ext hE18
    replace hE := hE.next hE18
    clear hE18
    simp [go_sem]
    refine hv_call (by simp [go_sem]) rfl Try.call30 (fun R hR => ?_)
    simp [go_sem]
    refine (mulE xyz hr hr18 qa (by omega)).mono ?_
    rintro e w19 ⟨a19, c19, rfl, hr19, hE19⟩
    refine ⟨_, rfl, hR _ _ ?_⟩
    clear hR R
    replace hr := hr.ext hE19
    replace hs := hs.ext hE19
    replace ht := ht.ext hE19
    replace hr4 := hr4.ext hE19
    replace hr17 := hr17.ext hE19
    replace hE := hE.next hE19
    clear hE19
    simp [go_sem]
    refine hv_call (by simp [go_sem]) rfl Try.call16 (fun R hR => ?_)
    simp [go_sem]
    refine (sameV hr17 hr19).mono ?_
    rintro e w20 ⟨rfl, hE20⟩
    refine ⟨_, rfl, hR _ _ ?_⟩
    clear hR R
    replace hr := hr.ext hE20
    replace hs := hs.ext hE20
    replace ht := ht.ext hE20
    replace hr4 := hr4.ext hE20
    replace hE := hE.next hE20
    clear hE20
    simp [go_sem]
    refine hK _ _ ?_; clear hK K
    refine W_if (by simp [go_sem]; rfl) rfl ?_
    refine W_skip ?_
    refine hK1 _ _ ?_; clear hK1 K1
    first | refine W_rt (by kernel_rfl) (fun K hK => ?_) | refine W_text (by kernel_rfl) (fun K hK => ?_)
    simp [go_sem]
    refine hv_call (by simp [go_sem]) rfl Try.call30 (fun R hR => ?_)
    simp [go_sem]
    refine (mulE T hr4 ht qs (by omega)).mono ?_
    rintro e w21 ⟨a21, c21, rfl, hr21, hE21⟩
    refine ⟨_, rfl, hR _ _ ?_⟩
    clear hR R
    replace hr := hr.ext hE21
    replace hs := hs.ext hE21
    replace ht := ht.ext hE21
    replace hE := hE.next hE21
    clear hE21
    simp [go_sem]
    refine hv_call (by simp [go_sem]) rfl Try.call30 (fun R hR => ?_)
    simp [go_sem]
    refine (mulE xz hr ht hXZ (by omega)).mono ?_
    rintro e w22 ⟨a22, c22, rfl, hr22, hE22⟩
    refine ⟨_, rfl, hR _ _ ?_⟩
    clear hR R
    replace hs := hs.ext hE22
    replace ht := ht.ext hE22
    replace hr21 := hr21.ext hE22
    replace hE := hE.next hE22
    clear hE22
    simp [go_sem]
    refine hv_call (by simp [go_sem]) rfl Try.call30 (fun R hR => ?_)
    simp [go_sem]
    refine (mulE yz hs ht hYZ (by omega)).mono ?_
    rintro e w23 ⟨a23, c23, rfl, hr23, hE23⟩
    refine ⟨_, rfl, hR _ _ ?_⟩
    clear hR R
    replace hr21 := hr21.ext hE23
    replace hr22 := hr22.ext hE23
    replace hE := hE.next hE23
    clear hE23
    simp [go_sem]
    refine hv_call (by simp [go_sem]) rfl Try.call29 (fun R hR => ?_)
    simp [go_sem]
    refine (addE T hr22 hr23 hT (by omega)).mono ?_
    rintro e w24 ⟨a24, c24, rfl, hr24, hE24⟩
    refine ⟨_, rfl, hR _ _ ?_⟩
    clear hR R
    replace hr21 := hr21.ext hE24
    replace hE := hE.next hE24
    clear hE24
    simp [go_sem]
    refine hv_call (by simp [go_sem]) rfl Try.call16 (fun R hR => ?_)
    simp [go_sem]
    refine (sameV hr21 hr24).mono ?_
    rintro e w25 ⟨rfl, hE25⟩
    refine ⟨_, rfl, hR _ _ ?_⟩
    clear hR R
    replace hE := hE.next hE25
    clear hE25
    simp [go_sem]
    refine hv_call (by simp [go_sem]) rfl Try.call13 (fun R hR => ?_)
    simp [go_sem]
    refine (alive_any _).mono ?_
    rintro e w26 ⟨rfl, hE26⟩
    refine ⟨_, rfl, hR _ _ ?_⟩
    clear hR R
    replace hE := hE.next hE26
    clear hE26
    simp [go_sem]
    refine hK _ _ ?_; clear hK K
    refine W_ret ?_
    repeat (first | refine thenG_ret ?_ | refine inBlock_ret ?_)
    refine ⟨trivial, ?_, hE⟩
    simp [go_sem, pack, resL]
  · have hb : (!decide (l.length ≤ 24) || (!decide (m.length ≤ 24) || !decide (n.length ≤ 24))) = true := by
      by_cases h : l.length ≤ 24
      · by_cases h' : m.length ≤ 24
        · have : ¬ n.length ≤ 24 := fun h'' => h24 ⟨h, h', h''⟩
          simp [h, h', this]
        · simp [h']
      · simp [h]
    refine W_if (by simp [go_sem, hb]; rfl) rfl ?_
    first | refine W_rt (by kernel_rfl) (fun K hK => ?_) | refine W_text (by kernel_rfl) (fun K hK => ?_)
    simp [go_sem]
    refine hv_call (by simp [go_sem]) rfl Try.call13 (fun R hR => ?_)
    simp [go_sem]
    refine (alive_any _).mono ?_
    rintro e' w4 ⟨rfl, hE4⟩
    refine ⟨_, rfl, hR _ _ ?_⟩
    clear hR R
    simp [go_sem]
    refine hK _ _ ?_; clear hK K
    refine W_ret ?_
    repeat (first | refine thenG_ret ?_ | refine inBlock_ret ?_)
    refine ⟨trivial, ?_, hE.next hE4⟩
    simp [go_sem, pack, resL]
set_option maxRecDepth 100000 in
theorem naturalRing_lifted (os : Os) (started : os.Started) (H : Type) (enc : TypeId × Value → H) :
    ReturnsInHanded {} Try.checked os 8 .any (Rows.naturalRingSpec.pre6 enc Try.prog Try.f8 Rows.naturalRingRow.domain false) (Rows.naturalRingSpec.post enc Try.prog Try.f8 false true false false) := by
  refine law_lifted (C := Try.checked) (s := Rows.naturalRingSpec) Try.own Try.laidOut (by kernel_rfl) Try.func8 rfl 4 rfl Try.underlying4 (by kernel_rfl) enc ?_ ?_ os started
    (ChangeSpec.witness6 (enc := enc) (C := Try.checked) false ⟨#[], #[.slice none 0 0, .slice none 0 0, .slice none 0 0], []⟩ 8 (by kernel_rfl) (by kernel_rfl) (by kernel_rfl) (by kernel_rfl))
  · intro ds hl
    match ds, hl with
    | [d0, d1, d2], _ => rfl
  · intro W base args ds ps hval hA hlt _
    have hA' : DataW.TrodAll enc Try.prog W 0 (fun _ => true) true [23, 23, 23] args.toList ds ps := hA
    have hval' : ∀ (j : Nat) t v, Try.f8.params[j]? = some t → args[j]? = some v → Value.okWide Try.prog W .any base t v := hval
    obtain ⟨v0, v1, v2, d0, d1, d2, p0, p1, p2, rfl, rfl, rfl, h0, h1, h2⟩ := Go.ChangeShapes.trodAll_three hA'
    obtain ⟨x, a_x, c_x, rfl, hr_x, hk_x⟩ := open_nat (hval' 0 23 v0 rfl rfl) h0
    obtain ⟨y, a_y, c_y, rfl, hr_y, hk_y⟩ := open_nat (hval' 1 23 v1 rfl rfl) h1
    obtain ⟨z, a_z, c_z, rfl, hr_z, hk_z⟩ := open_nat (hval' 2 23 v2 rfl rfl) h2
    exact naturalRing_any x y z a_x a_y a_z c_x c_y c_z W hr_x hr_y hr_z

theorem naturalRing_holds : Rows.NaturalRingSaid :=
  OpenClaim.holds_of_wide 8 Try.f8 rfl rfl rfl rfl rfl rfl rfl ⟨rfl, rfl, rfl, rfl, rfl⟩ rfl rfl rfl rfl rfl (by kernel_rfl) Try.func8 (by kernel_rfl)
    (of_decide_eq_true (by kernel_rfl)) (by unfold Func.isWrapper; first | (rw [if_pos (by decide +kernel)]; kernel_rfl) | (rw [if_neg (by decide +kernel)]; exact ⟨rfl, rfl⟩))
    (fun os started H enc _ => naturalRing_lifted os started H enc)
end Go.Proofs.Ytomniiobaonloaa
