/- NaturalDivides. -/
import Derived.Test.YtomniiobaonloaaNtV
import Derived.Test.YtomniiobaonloaaNtJ
namespace Go.Proofs.Ytomniiobaonloaa
open Go.RowKit Go.V Go.ChangeMaps
set_option linter.unusedSimpArgs false
set_option linter.unusedVariables false

def divL (A B : Nat) : List Nat := if B = 0 then [] else lim (A / B)
def modL (A B : Nat) : List Nat := if B = 0 then [] else lim (A % B)
def divE (B : Nat) : Int := if B = 0 then 3 else 0
/-- what both divisions return -/
def DivU (w : World) (A B : Nat) (e : Ending) (w' : World) : Prop := ∃ a c a' c', e = .returned (.tuple #[.slice a (divL A B).length c, .slice a' (modL A B).length c', .int .i64 (divE B)]) ∧ RD w' a c (divL A B) ∧ RD w' a' c' (modL A B) ∧ Below w.heap.size w w'
theorem div_uni {w : World} {A B : Nat} {e : Ending} {w' : World} (h : DivPost w A B e w') : DivU w A B e w' := by
  unfold DivU divL modL divE
  rcases h with ⟨h0, he, hE⟩ | ⟨h0, a, c, a', c', he, hr, hs, hE⟩
  · rw [if_pos h0, if_pos h0, if_pos h0]; exact ⟨none, 0, none, 0, he, RD.nil _ _ _, RD.nil _ _ _, hE⟩
  · rw [if_neg h0, if_neg h0, if_neg h0]; exact ⟨a, c, a', c', he, hr, hs, hE⟩
theorem NV.s1 {w : World} {a : Option Addr} {c : Nat} {l : List Nat} {x : Nat} (h : NV w a c l x) : l.length + 1 ≤ lenS := by have := h.len; unfold lenS; omega
theorem divU {l m : List Nat} {a b : Option Addr} {c d x y : Nat} {w : World} (hr : NV w a c l x) (hs : NV w b d m y) :
    Calls Try.prog 25 #[.slice a l.length c, .slice b m.length d] w (DivU w x y) := by
  have := divmod_any l m a b c d w hr.rd hs.rd hr.s1 hs.s
  rw [hr.eq, hs.eq] at this
  exact this.mono (fun _ _ => div_uni)
theorem divRU {l m : List Nat} {a b : Option Addr} {c d x y : Nat} {w : World} (hr : NV w a c l x) (hs : NV w b d m y) :
    Calls Try.prog 26 #[.slice a l.length c, .slice b m.length d] w (DivU w x y) := by
  have := divmodR_any l m a b c d w hr.rd hs.rd hr.s1 hs.s1
  rw [hr.eq, hs.eq] at this
  exact this.mono (fun _ _ => div_uni)
theorem divL_len {A B : Nat} (h : A < 65536 ^ 100) : (divL A B).length ≤ lenB := by
  unfold divL
  split
  · simp
  · exact Nat.le_trans (lim_len 100 _ (Nat.lt_of_le_of_lt (Nat.div_le_self _ _) h)) (by decide)
theorem modL_len {A B : Nat} (h : A < 65536 ^ 100) : (modL A B).length ≤ lenB := by
  unfold modL
  split
  · simp
  · exact Nat.le_trans (lim_len 100 _ (Nat.lt_of_le_of_lt (Nat.mod_le _ _) h)) (by decide)
/-- the division by a number other than 0 -/
def DivV (w : World) (A B : Nat) (e : Ending) (w' : World) : Prop := ∃ a c a' c', e = .returned (.tuple #[.slice a (lim (A / B)).length c, .slice a' (lim (A % B)).length c', .int .i64 0]) ∧ NV w' a c (lim (A / B)) (A / B) ∧ NV w' a' c' (lim (A % B)) (A % B) ∧ Below w.heap.size w w'
theorem divV {l m : List Nat} {a b : Option Addr} {c d x y : Nat} {w : World} (hr : NV w a c l x) (hs : NV w b d m y) (h0 : y ≠ 0) (hx : x < 65536 ^ 100) :
    Calls Try.prog 25 #[.slice a l.length c, .slice b m.length d] w (DivV w x y) := by
  have := divmod_any l m a b c d w hr.rd hs.rd hr.s1 hs.s
  rw [hr.eq, hs.eq] at this
  refine this.mono ?_
  rintro e w' (⟨hbad, _⟩ | ⟨_, a, c, a', c', he, hr, hs, hE⟩)
  · exact absurd hbad h0
  · exact ⟨a, c, a', c', he, NV.lim hr (Nat.lt_of_le_of_lt (Nat.div_le_self _ _) hx), NV.lim hs (Nat.lt_of_le_of_lt (Nat.mod_le _ _) hx), hE⟩
theorem gcd_lt {x y P : Nat} (hx : x < P) (hy : y < P) : Nat.gcd x y < P := by
  rcases Nat.eq_zero_or_pos y with h | h
  · subst h; rw [Nat.gcd_zero_right]; exact hx
  · exact Nat.lt_of_le_of_lt (Nat.gcd_le_right _ h) hy
theorem gcdV {l m : List Nat} {a b : Option Addr} {c d x y : Nat} {w : World} (hr : NV w a c l x) (hs : NV w b d m y) (hx : x < 65536 ^ 100) (hy : y < 65536 ^ 100) :
    Calls Try.prog 27 #[.slice a l.length c, .slice b m.length d] w (RetV w (Nat.gcd x y)) := by
  have := gcd_any l m a b c d w hr.rd hs.rd hr.s1 hs.s1
  rw [hr.eq, hs.eq] at this
  exact this.mono (fun _ _ => retV (gcd_lt hx hy))
theorem gcdRV {l m : List Nat} {a b : Option Addr} {c d x y : Nat} {w : World} (hr : NV w a c l x) (hs : NV w b d m y) (hx : x < 65536 ^ 100) (hy : y < 65536 ^ 100) :
    Calls Try.prog 28 #[.slice a l.length c, .slice b m.length d] w (RetV w (Nat.gcd x y)) := by
  have := gcdR_any l m a b c d w hr.rd hs.rd hr.s1 hs.s1
  rw [hr.eq, hs.eq] at this
  exact this.mono (fun _ _ => retV (gcd_lt hx hy))
theorem val_100 (l : List Nat) (h : Ok l) (hl : l.length ≤ 24) : val l < 65536 ^ 100 := Nat.lt_of_lt_of_le (val_lt l h) (Nat.pow_le_pow_right (by decide) (by omega))

set_option maxHeartbeats 4000000 in
theorem naturalDivides_any (l m : List Nat) (a b : Option Addr) (c d : Nat) (w : World) (hr0 : RD w a c l) (hs0 : RD w b d m) :
    Calls Try.prog 4 #[.slice a l.length c, .slice b m.length d] w fun e w' => e = .returned (.bool true) ∧ Below w.heap.size w w' := by
  refine calls_of_W (args := [.slice a l.length c, .slice b m.length d]) (rs := [.tmp 4]) (n := 56) Try.func4 rfl rfl rfl (by kernel_rfl) ?_
  first | refine W_rt (by kernel_rfl) (fun K hK => ?_) | refine W_text (by kernel_rfl) (fun K hK => ?_)
  simp [go_sem]
  refine hK _ _ ?_; clear hK K
  refine W_seq (fun K1 hK1 => ?_)
  first | refine W_rt (by kernel_rfl) (fun K hK => ?_) | refine W_text (by kernel_rfl) (fun K hK => ?_)
  simp [go_sem]
  refine hv_buildSlice #[.slice a l.length c, .slice b m.length d] (by simp [go_sem]) rfl ty_slZ50 (by decide) [(0, .slice a l.length c), (1, .slice b m.length d)] (by simp [go_sem]) (by kernel_rfl) (fun w2 b2 hE2 hle2 hB2 => ?_)
  replace hr0 := hr0.ext hE2
  replace hs0 := hs0.ext hE2
  simp [go_sem]
  refine hv_call (by simp [go_sem]) rfl Try.call12 (fun R hR => ?_)
  simp [go_sem]
  refine (small_any [(a, l.length, c), (b, m.length, d)] b2 _ hB2 (by simp)).mono ?_
  rintro e w3 ⟨rfl, rfl⟩
  refine ⟨_, rfl, hR _ _ ?_⟩
  clear hR R
  simp [go_sem]
  refine hK _ _ ?_; clear hK K
  have hE := hE2
  clear hE2 hB2
  by_cases h24 : l.length ≤ 24 ∧ m.length ≤ 24
  · obtain ⟨h1, h2⟩ := h24
    have hr : NV w2 a c l (val l) := ⟨hr0, rfl, by omega⟩
    have hs : NV w2 b d m (val m) := ⟨hs0, rfl, by omega⟩
    have bx := val_100 l hr0.ok h1
    have bY := val_100 m hs0.ok h2
    clear hr0 hs0
    generalize val l = x at *
    generalize val m = y at *
    have d1 := divL_len (B := y) bx
    have d2 := modL_len (B := y) bx
    refine W_if (by simp [go_sem, h1, h2]; rfl) rfl ?_
    refine W_skip ?_
    refine hK1 _ _ ?_; clear hK1 K1
    first | refine W_rt (by kernel_rfl) (fun K hK => ?_) | refine W_text (by kernel_rfl) (fun K hK => ?_)
    simp [go_sem]
    refine hv_call (by simp [go_sem]) rfl Try.call25 (fun R hR => ?_)
    simp [go_sem]
    refine (divU hr hs).mono ?_
    rintro e w4 ⟨a4, c4, a4', c4', rfl, hr4, hs4, hE4⟩
    refine ⟨_, rfl, hR _ _ ?_⟩
    clear hR R
    replace hr := hr.ext hE4
    replace hs := hs.ext hE4
    replace hE := hE.next hE4
    clear hE4
    simp [go_sem]
    refine hK _ _ ?_; clear hK K
    first | refine W_rt (by kernel_rfl) (fun K hK => ?_) | refine W_text (by kernel_rfl) (fun K hK => ?_)
    simp [go_sem]
    refine hv_call (by simp [go_sem]) rfl Try.call26 (fun R hR => ?_)
    simp [go_sem]
    refine (divRU hr hs).mono ?_
    rintro e w5 ⟨a5, c5, a5', c5', rfl, hr5, hs5, hE5⟩
    refine ⟨_, rfl, hR _ _ ?_⟩
    clear hR R
    replace hr := hr.ext hE5
    replace hs := hs.ext hE5
    replace hr4 := hr4.ext hE5
    replace hs4 := hs4.ext hE5
    replace hE := hE.next hE5
    clear hE5
    simp [go_sem]
    refine hK _ _ ?_; clear hK K
    generalize divL x y = D1 at *
    generalize modL x y = D2 at *
    generalize divE y = D3 at *
    first | refine W_rt (by kernel_rfl) (fun K hK => ?_) | refine W_text (by kernel_rfl) (fun K hK => ?_)
    simp [go_sem]
    refine hv_call (by simp [go_sem]) rfl Try.call16 (fun R hR => ?_)
    simp [go_sem]
    refine (same_any D1 _ _ _ _ _ hr4 hr5 d1).mono ?_
    rintro e w6 ⟨rfl, hE6⟩
    refine ⟨_, rfl, hR _ _ ?_⟩
    clear hR R
    replace hr := hr.ext hE6
    replace hs := hs.ext hE6
    replace hs4 := hs4.ext hE6
    replace hs5 := hs5.ext hE6
    replace hE := hE.next hE6
    clear hE6
    simp [go_sem]
    refine hv_call (by simp [go_sem]) rfl Try.call16 (fun R hR => ?_)
    simp [go_sem]
    refine (same_any D2 _ _ _ _ _ hs4 hs5 d2).mono ?_
    rintro e w7 ⟨rfl, hE7⟩
    refine ⟨_, rfl, hR _ _ ?_⟩
    clear hR R
    replace hr := hr.ext hE7
    replace hs := hs.ext hE7
    replace hE := hE.next hE7
    clear hE7
    simp [go_sem]
    refine hv_call (by simp [go_sem]) rfl Try.call27 (fun R hR => ?_)
    simp [go_sem]
    refine (gcdV hr hs bx bY).mono ?_
    rintro e w8 ⟨a8, c8, rfl, hr8, hE8⟩
    refine ⟨_, rfl, hR _ _ ?_⟩
    clear hR R
    replace hr := hr.ext hE8
    replace hs := hs.ext hE8
    replace hE := hE.next hE8
    clear hE8
    simp [go_sem]
    refine hv_call (by simp [go_sem]) rfl Try.call28 (fun R hR => ?_)
    simp [go_sem]
    refine (gcdRV hr hs bx bY).mono ?_
    rintro e w9 ⟨a9, c9, rfl, hr9, hE9⟩
    refine ⟨_, rfl, hR _ _ ?_⟩
    clear hR R
    replace hr8 := hr8.ext hE9
    replace hE := hE.next hE9
    clear hE9
    simp [go_sem]
    refine hv_call (by simp [go_sem]) rfl Try.call16 (fun R hR => ?_)
    simp [go_sem]
    refine (sameV hr8 hr9).mono ?_
    rintro e w10 ⟨rfl, hE10⟩
    refine ⟨_, rfl, hR _ _ ?_⟩
    clear hR R
    replace hE := hE.next hE10
    clear hE10
    simp [go_sem]
    refine hv_call (by simp [go_sem]) rfl Try.call13 (fun R hR => ?_)
    simp [go_sem]
    refine (alive_any _).mono ?_
    rintro e w11 ⟨rfl, hE11⟩
    refine ⟨_, rfl, hR _ _ ?_⟩
    clear hR R
    replace hE := hE.next hE11
    clear hE11
    simp [go_sem]
    refine hK _ _ ?_; clear hK K
    refine W_ret ?_
    repeat (first | refine thenG_ret ?_ | refine inBlock_ret ?_)
    refine ⟨trivial, ?_, hE⟩
    simp [go_sem, pack, resL]
  · have hb : (!decide (l.length ≤ 24) || !decide (m.length ≤ 24)) = true := by
      by_cases h : l.length ≤ 24
      · have : ¬ m.length ≤ 24 := fun h' => h24 ⟨h, h'⟩
        simp [h, this]
      · simp [h]
    refine W_if (by simp [go_sem, hb]; rfl) rfl ?_
    first | refine W_rt (by kernel_rfl) (fun K hK => ?_) | refine W_text (by kernel_rfl) (fun K hK => ?_)
    simp [go_sem]
    refine hv_call (by simp [go_sem]) rfl Try.call13 (fun R hR => ?_)
    simp [go_sem]
    refine (alive_any _).mono ?_
    rintro e w4 ⟨rfl, hE4⟩
    refine ⟨_, rfl, hR _ _ ?_⟩
    clear hR R
    replace hE := hE.next hE4
    clear hE4
    simp [go_sem]
    refine hK _ _ ?_; clear hK K
    refine W_ret ?_
    repeat (first | refine thenG_ret ?_ | refine inBlock_ret ?_)
    refine ⟨trivial, ?_, hE⟩
    simp [go_sem, pack, resL]
set_option maxRecDepth 100000 in
theorem naturalDivides_lifted (os : Os) (started : os.Started) (H : Type) (enc : TypeId × Value → H) :
    ReturnsInHanded {} Try.checked os 4 .any (Rows.naturalDividesSpec.pre6 enc Try.prog Try.f4 Rows.naturalDividesRow.domain false) (Rows.naturalDividesSpec.post enc Try.prog Try.f4 false true false false) := by
  refine law_lifted (C := Try.checked) (s := Rows.naturalDividesSpec) Try.own Try.laidOut (by kernel_rfl) Try.func4 rfl 4 rfl Try.underlying4 (by kernel_rfl) enc ?_ ?_ os started
    (ChangeSpec.witness6 (enc := enc) (C := Try.checked) false ⟨#[], #[.slice none 0 0, .slice none 0 0], []⟩ 8 (by kernel_rfl) (by kernel_rfl) (by kernel_rfl) (by kernel_rfl))
  · intro ds hl
    match ds, hl with
    | [d0, d1], _ => rfl
  · intro W base args ds ps hval hA hlt _
    have hA' : DataW.TrodAll enc Try.prog W 0 (fun _ => true) true [23, 23] args.toList ds ps := hA
    have hval' : ∀ (j : Nat) t v, Try.f4.params[j]? = some t → args[j]? = some v → Value.okWide Try.prog W .any base t v := hval
    obtain ⟨v0, v1, d0, d1, p0, p1, rfl, rfl, rfl, h0, h1⟩ := Go.ChangeShapes.trodAll_two hA'
    obtain ⟨x, a_x, c_x, rfl, hr_x, hk_x⟩ := open_nat (hval' 0 23 v0 rfl rfl) h0
    obtain ⟨y, a_y, c_y, rfl, hr_y, hk_y⟩ := open_nat (hval' 1 23 v1 rfl rfl) h1
    exact naturalDivides_any x y a_x a_y c_x c_y W hr_x hr_y

theorem naturalDivides_holds : Rows.NaturalDividesSaid :=
  OpenClaim.holds_of_wide 4 Try.f4 rfl rfl rfl rfl rfl rfl rfl ⟨rfl, rfl, rfl, rfl, rfl⟩ rfl rfl rfl rfl rfl (by kernel_rfl) Try.func4 (by kernel_rfl)
    (of_decide_eq_true (by kernel_rfl)) (by unfold Func.isWrapper; first | (rw [if_pos (by decide +kernel)]; kernel_rfl) | (rw [if_neg (by decide +kernel)]; exact ⟨rfl, rfl⟩))
    (fun os started H enc _ => naturalDivides_lifted os started H enc)
end Go.Proofs.Ytomniiobaonloaa
