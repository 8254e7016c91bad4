/- NaturalAdds. -/
import Derived.Test.YtomniiobaonloaaNtB
import Derived.Test.YtomniiobaonloaaNtH
namespace Go.Proofs.Ytomniiobaonloaa
open Go.RowKit Go.V Go.ChangeMaps
set_option linter.unusedSimpArgs false
set_option linter.unusedVariables false

def subL (A B : Nat) : List Nat := if A < B then [] else lim (A - B)
def subE (A B : Nat) : Nat := if A < B then 2 else 0
theorem sub_uni {w : World} {A B : Nat} {e : Ending} {w' : World} (h : SubPost w A B e w') : ∃ a c, e = .returned (.tuple #[.slice a (subL A B).length c, .int .i64 (subE A B)]) ∧ RD w' a c (subL A B) ∧ Below w.heap.size w w' := by
  rcases h with ⟨h, he, hE⟩ | ⟨h, a, c, he, hr, hE⟩
  · refine ⟨none, 0, ?_, ?_, hE⟩
    · rw [he, subL, subE, if_pos h, if_pos h]; rfl
    · rw [subL, if_pos h]; exact RD.nil _ _ _
  · refine ⟨a, c, ?_, ?_, hE⟩
    · rw [he, subL, subE, if_neg (by omega), if_neg (by omega)]; rfl
    · rw [subL, if_neg (by omega)]; exact hr
theorem val_24 (l : List Nat) (h : Ok l) (hl : l.length ≤ 24) : val l < 65536 ^ 24 :=
  Nat.lt_of_lt_of_le (val_lt l h) (Nat.pow_le_pow_right (by decide) hl)
theorem len_add (l m : List Nat) (hl : Ok l) (hm : Ok m) (h1 : l.length ≤ 24) (h2 : m.length ≤ 24) : (lim (val l + val m)).length ≤ lenB := by
  have a1 := val_24 l hl h1
  have a2 := val_24 m hm h2
  have := lim_len 25 (val l + val m) (by rw [Nat.pow_succ]; generalize 65536 ^ 24 = P at *; omega)
  unfold lenB; omega
theorem len_mul (l m : List Nat) (hl : Ok l) (hm : Ok m) (h1 : l.length ≤ 24) (h2 : m.length ≤ 24) : (lim (val l * val m)).length ≤ lenB := by
  have a1 := val_24 l hl h1
  have a2 := val_24 m hm h2
  have := lim_len 48 (val l * val m) (by
    have e : (65536 : Nat) ^ 48 = 65536 ^ 24 * 65536 ^ 24 := by rw [← Nat.pow_add]
    rw [e]; exact Nat.mul_lt_mul'' a1 a2)
  unfold lenB; omega
theorem len_sub (l m : List Nat) (hl : Ok l) (h1 : l.length ≤ 24) : (subL (val l) (val m)).length ≤ lenB := by
  have a1 := val_24 l hl h1
  unfold subL
  split
  · exact Nat.zero_le _
  · have := lim_len 24 (val l - val m) (Nat.lt_of_le_of_lt (Nat.sub_le _ _) a1)
    unfold lenB; omega

set_option maxHeartbeats 4000000 in
theorem naturalAdds_any (l m : List Nat) (a b : Option Addr) (c d : Nat) (w : World) (hr : RD w a c l) (hs : RD w b d m) :
    Calls Try.prog 7 #[.slice a l.length c, .slice b m.length d] w fun e w' => e = .returned (.bool true) ∧ Below w.heap.size w w' := by
  refine calls_of_W (args := [.slice a l.length c, .slice b m.length d]) (rs := [.tmp 4]) (n := 56) Try.func7 rfl rfl rfl (by kernel_rfl) ?_
  first | refine W_rt (by kernel_rfl) (fun K hK => ?_) | refine W_text (by kernel_rfl) (fun K hK => ?_)
  simp [go_sem]
  refine hK _ _ ?_; clear hK K
  refine W_seq (fun K1 hK1 => ?_)
  first | refine W_rt (by kernel_rfl) (fun K hK => ?_) | refine W_text (by kernel_rfl) (fun K hK => ?_)
  simp [go_sem]
  refine hv_buildSlice #[.slice a l.length c, .slice b m.length d] (by simp [go_sem]) rfl ty_slZ50 (by decide) [(0, .slice a l.length c), (1, .slice b m.length d)] (by simp [go_sem]) (by kernel_rfl) (fun w2 b2 hE2 hle2 hB2 => ?_)
  replace hr := hr.ext hE2
  replace hs := hs.ext hE2
  simp [go_sem]
  refine hv_call (by simp [go_sem]) rfl Try.call12 (fun R hR => ?_)
  simp [go_sem]
  refine (small_any [(a, l.length, c), (b, m.length, d)] b2 _ hB2 (by simp)).mono ?_
  rintro e w3 ⟨rfl, rfl⟩
  refine ⟨_, rfl, hR _ _ ?_⟩
  clear hR R
  simp [go_sem]
  refine hK _ _ ?_; clear hK K
  have hE := hE2
  clear hE2 hB2
  by_cases h24 : l.length ≤ 24 ∧ m.length ≤ 24
  · obtain ⟨h1, h2⟩ := h24
    have hb1 : l.length ≤ lenB := by unfold lenB; omega
    have hb2 : m.length ≤ lenB := by unfold lenB; omega
    have hb3 : l.length ≤ lenS := by unfold lenS; omega
    have hb4 : m.length ≤ lenS := by unfold lenS; omega
    have la := len_add l m hr.ok hs.ok h1 h2
    have lm := len_mul l m hr.ok hs.ok h1 h2
    have ls := len_sub l m hr.ok h1
    refine W_if (by simp [go_sem, h1, h2]; rfl) rfl ?_
    refine W_skip ?_
    refine hK1 _ _ ?_; clear hK1 K1
    first | refine W_rt (by kernel_rfl) (fun K hK => ?_) | refine W_text (by kernel_rfl) (fun K hK => ?_)
    simp [go_sem]
    refine hv_call (by simp [go_sem]) rfl Try.call31 (fun R hR => ?_)
    simp [go_sem]
    refine ((sub_any l m a b c d _ hr hs hb1 hb2).mono (fun _ _ h => sub_uni h)).mono ?_
    rintro e w4 ⟨a4, c4, rfl, hr4, hE4⟩
    refine ⟨_, rfl, hR _ _ ?_⟩
    clear hR R
    replace hr := hr.ext hE4
    replace hs := hs.ext hE4
    replace hE := hE.next hE4
    clear hE4
    simp [go_sem]
    refine hK _ _ ?_; clear hK K
    first | refine W_rt (by kernel_rfl) (fun K hK => ?_) | refine W_text (by kernel_rfl) (fun K hK => ?_)
    simp [go_sem]
    refine hv_call (by simp [go_sem]) rfl Try.call32 (fun R hR => ?_)
    simp [go_sem]
    refine ((subR_any l m a b c d _ hr hs hb1 hb2).mono (fun _ _ h => sub_uni h)).mono ?_
    rintro e w5 ⟨a5, c5, rfl, hr5, hE5⟩
    refine ⟨_, rfl, hR _ _ ?_⟩
    clear hR R
    replace hr := hr.ext hE5
    replace hs := hs.ext hE5
    replace hr4 := hr4.ext hE5
    replace hE := hE.next hE5
    clear hE5
    simp [go_sem]
    refine hK _ _ ?_; clear hK K
    generalize subL (val l) (val m) = D at *
    generalize subE (val l) (val m) = er at *
    first | refine W_rt (by kernel_rfl) (fun K hK => ?_) | refine W_text (by kernel_rfl) (fun K hK => ?_)
    simp [go_sem]
    refine hv_call (by simp [go_sem]) rfl Try.call29 (fun R hR => ?_)
    simp [go_sem]
    refine (add_any l m a b c d _ hr hs hb1 hb2).mono ?_
    rintro e w6 ⟨a6, c6, rfl, hr6, hE6⟩
    refine ⟨_, rfl, hR _ _ ?_⟩
    clear hR R
    replace hr := hr.ext hE6
    replace hs := hs.ext hE6
    replace hr4 := hr4.ext hE6
    replace hr5 := hr5.ext hE6
    replace hE := hE.next hE6
    clear hE6
    simp [go_sem]
    refine hv_call (by simp [go_sem]) rfl Try.call33 (fun R hR => ?_)
    simp [go_sem]
    refine (addR_any l m a b c d _ hr hs hb3 hb4).mono ?_
    rintro e w7 ⟨a7, c7, rfl, hr7, hE7⟩
    refine ⟨_, rfl, hR _ _ ?_⟩
    clear hR R
    replace hr := hr.ext hE7
    replace hs := hs.ext hE7
    replace hr4 := hr4.ext hE7
    replace hr5 := hr5.ext hE7
    replace hr6 := hr6.ext hE7
    replace hE := hE.next hE7
    clear hE7
    simp [go_sem]
    refine hv_call (by simp [go_sem]) rfl Try.call16 (fun R hR => ?_)
    simp [go_sem]
    refine (same_any _ _ _ _ _ _ hr6 hr7 la).mono ?_
    rintro e w8 ⟨rfl, hE8⟩
    refine ⟨_, rfl, hR _ _ ?_⟩
    clear hR R
    replace hr := hr.ext hE8
    replace hs := hs.ext hE8
    replace hr4 := hr4.ext hE8
    replace hr5 := hr5.ext hE8
    replace hE := hE.next hE8
    clear hE8 hr6 hr7
    simp [go_sem]
    refine hv_call (by simp [go_sem]) rfl Try.call30 (fun R hR => ?_)
    simp [go_sem]
    refine (mul_any l m a b c d _ hr hs hb3 hb4).mono ?_
    rintro e w9 ⟨a9, c9, rfl, hr9, hE9⟩
    refine ⟨_, rfl, hR _ _ ?_⟩
    clear hR R
    replace hr := hr.ext hE9
    replace hs := hs.ext hE9
    replace hr4 := hr4.ext hE9
    replace hr5 := hr5.ext hE9
    replace hE := hE.next hE9
    clear hE9
    simp [go_sem]
    refine hv_call (by simp [go_sem]) rfl Try.call34 (fun R hR => ?_)
    simp [go_sem]
    refine (mulR_any l m a b c d _ hr hs hb3 hb4).mono ?_
    rintro e w10 ⟨a10, c10, rfl, hr10, hE10⟩
    refine ⟨_, rfl, hR _ _ ?_⟩
    clear hR R
    replace hr9 := hr9.ext hE10
    replace hr4 := hr4.ext hE10
    replace hr5 := hr5.ext hE10
    replace hE := hE.next hE10
    clear hE10
    simp [go_sem]
    refine hv_call (by simp [go_sem]) rfl Try.call16 (fun R hR => ?_)
    simp [go_sem]
    refine (same_any _ _ _ _ _ _ hr9 hr10 lm).mono ?_
    rintro e w11 ⟨rfl, hE11⟩
    refine ⟨_, rfl, hR _ _ ?_⟩
    clear hR R
    replace hr4 := hr4.ext hE11
    replace hr5 := hr5.ext hE11
    replace hE := hE.next hE11
    clear hE11
    simp [go_sem]
    refine hv_call (by simp [go_sem]) rfl Try.call16 (fun R hR => ?_)
    simp [go_sem]
    refine (same_any _ _ _ _ _ _ hr4 hr5 ls).mono ?_
    rintro e w12 ⟨rfl, hE12⟩
    refine ⟨_, rfl, hR _ _ ?_⟩
    clear hR R
    replace hE := hE.next hE12
    clear hE12
    simp [go_sem]
    refine hv_call (by simp [go_sem]) rfl Try.call13 (fun R hR => ?_)
    simp [go_sem]
    refine (alive_any _).mono ?_
    rintro e w13 ⟨rfl, hE13⟩
    refine ⟨_, rfl, hR _ _ ?_⟩
    clear hR R
    replace hE := hE.next hE13
    simp [go_sem]
    refine hK _ _ ?_; clear hK K
    refine W_ret ?_
    repeat (first | refine thenG_ret ?_ | refine inBlock_ret ?_)
    refine ⟨trivial, ?_, hE⟩
    simp [go_sem, pack, resL]
  · have hb : (!decide (l.length ≤ 24) || !decide (m.length ≤ 24)) = true := by
      by_cases h : l.length ≤ 24
      · have : ¬ m.length ≤ 24 := fun h' => h24 ⟨h, h'⟩
        simp [h, this]
      · simp [h]
    refine W_if (by simp [go_sem, hb]; rfl) rfl ?_
    first | refine W_rt (by kernel_rfl) (fun K hK => ?_) | refine W_text (by kernel_rfl) (fun K hK => ?_)
    simp [go_sem]
    refine hv_call (by simp [go_sem]) rfl Try.call13 (fun R hR => ?_)
    simp [go_sem]
    refine (alive_any _).mono ?_
    rintro e w4 ⟨rfl, hE4⟩
    refine ⟨_, rfl, hR _ _ ?_⟩
    clear hR R
    simp [go_sem]
    refine hK _ _ ?_; clear hK K
    refine W_ret ?_
    repeat (first | refine thenG_ret ?_ | refine inBlock_ret ?_)
    refine ⟨trivial, ?_, hE.next hE4⟩
    simp [go_sem, pack, resL]
set_option maxRecDepth 100000 in
theorem naturalAdds_lifted (os : Os) (started : os.Started) (H : Type) (enc : TypeId × Value → H) :
    ReturnsInHanded {} Try.checked os 7 .any (Rows.naturalAddsSpec.pre6 enc Try.prog Try.f7 Rows.naturalAddsRow.domain false) (Rows.naturalAddsSpec.post enc Try.prog Try.f7 false true false false) := by
  refine law_lifted (C := Try.checked) (s := Rows.naturalAddsSpec) Try.own Try.laidOut (by kernel_rfl) Try.func7 rfl 4 rfl Try.underlying4 (by kernel_rfl) enc ?_ ?_ os started
    (ChangeSpec.witness6 (enc := enc) (C := Try.checked) false ⟨#[], #[.slice none 0 0, .slice none 0 0], []⟩ 8 (by kernel_rfl) (by kernel_rfl) (by kernel_rfl) (by kernel_rfl))
  · intro ds hl
    match ds, hl with
    | [d0, d1], _ => rfl
  · intro W base args ds ps hval hA hlt _
    have hA' : DataW.TrodAll enc Try.prog W 0 (fun _ => true) true [23, 23] args.toList ds ps := hA
    have hval' : ∀ (j : Nat) t v, Try.f7.params[j]? = some t → args[j]? = some v → Value.okWide Try.prog W .any base t v := hval
    obtain ⟨v0, v1, d0, d1, p0, p1, rfl, rfl, rfl, h0, h1⟩ := Go.ChangeShapes.trodAll_two hA'
    obtain ⟨x, a_x, c_x, rfl, hr_x, hk_x⟩ := open_nat (hval' 0 23 v0 rfl rfl) h0
    obtain ⟨y, a_y, c_y, rfl, hr_y, hk_y⟩ := open_nat (hval' 1 23 v1 rfl rfl) h1
    exact naturalAdds_any x y a_x a_y c_x c_y W hr_x hr_y

theorem naturalAdds_holds : Rows.NaturalAddsSaid :=
  OpenClaim.holds_of_wide 7 Try.f7 rfl rfl rfl rfl rfl rfl rfl ⟨rfl, rfl, rfl, rfl, rfl⟩ rfl rfl rfl rfl rfl (by kernel_rfl) Try.func7 (by kernel_rfl)
    (of_decide_eq_true (by kernel_rfl)) (by unfold Func.isWrapper; first | (rw [if_pos (by decide +kernel)]; kernel_rfl) | (rw [if_neg (by decide +kernel)]; exact ⟨rfl, rfl⟩))
    (fun os started H enc _ => naturalAdds_lifted os started H enc)
end Go.Proofs.Ytomniiobaonloaa
