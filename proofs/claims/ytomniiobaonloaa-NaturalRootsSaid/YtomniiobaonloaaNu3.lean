/- NaturalRoots. -/
import Derived.Test.YtomniiobaonloaaNu2
import Derived.Test.YtomniiobaonloaaNtY
namespace Go.Proofs.Ytomniiobaonloaa
open Go.RowKit Go.V Go.ChangeMaps
set_option linter.unusedSimpArgs false
set_option linter.unusedVariables false

theorem shiftV_len {A : Nat} {N : Int} (h : (lim A).length ≤ 24) (hN : N ≤ 400 ∨ 1048576 < N) : (lim (shiftV A N)).length ≤ 60 := by
  unfold shiftV
  split
  · rw [lim_zero]; simp
  · split
    · exact lim_mono (Nat.div_le_self _ _) (by omega)
    · obtain ⟨n, rfl⟩ : ∃ n : Nat, N = (n : Int) := ⟨N.toNat, by omega⟩
      rw [Int.toNat_natCast]
      exact Nat.le_trans (lim_mul_len h (lim_len2 n 26 (by omega))) (by decide)
set_option maxHeartbeats 1000000 in
theorem naturalRoots_any (l : List Nat) (a : Option Addr) (c : Nat) (N : Int) (w : World) (hr0 : RD w a c l) :
    Calls Try.prog 10 #[.slice a l.length c, .int .i64 N] w fun e w' => e = .returned (.bool true) ∧ Below w.heap.size w w' := by
  refine calls_of_W (args := [.slice a l.length c, .int .i64 N]) (rs := [.tmp 4]) (n := 60) Try.func10 rfl rfl rfl (by kernel_rfl) ?_
  first | refine W_rt (by kernel_rfl) (fun K hK => ?_) | refine W_text (by kernel_rfl) (fun K hK => ?_)
  simp [go_sem]
  refine hK _ _ ?_; clear hK K
  refine W_seq (fun K1 hK1 => ?_)
  first | refine W_rt (by kernel_rfl) (fun K hK => ?_) | refine W_text (by kernel_rfl) (fun K hK => ?_)
  simp [go_sem]
  refine hv_buildSlice #[.slice a l.length c] (by simp [go_sem]) rfl ty_slZ50 (by decide) [(0, .slice a l.length c)] (by simp [go_sem]) (by kernel_rfl) (fun w2 b2 hE2 hle2 hB2 => ?_)
  replace hr0 := hr0.ext hE2
  simp [go_sem]
  refine hv_call (by simp [go_sem]) rfl Try.call12 (fun R hR => ?_)
  simp [go_sem]
  refine (small_any [(a, l.length, c)] b2 _ hB2 (by simp)).mono ?_
  rintro e w3 ⟨rfl, rfl⟩
  refine ⟨_, rfl, hR _ _ ?_⟩
  clear hR R
  have hE := hE2
  clear hE2 hB2
  by_cases h1 : l.length ≤ 24
  · have good : (N ≤ 400 ∨ 1048576 < N) → ∀ g : G, g 0 = .slice a l.length c → g 1 = .int .i64 N → K1 g w2 := by
      intro hN g g0 g1
      refine hK1 _ _ ?_; clear hK K hK1 K1
      have hAl : (lim (val l)).length ≤ 24 := by rw [lim_val l hr0.ok]; exact Nat.le_trans (nrm_len l) h1
      have hsl := shiftV_len hAl hN
      have hsq := sqrt_any l a c w2 hr0 (by omega)
      have hsqR := fun {w} hr => sqrtR_any l a c w hr (by omega)
      have hsh := fun {w} hr => shift_any l a c N w hr (by unfold lenS; omega)
      have hshR := fun {w} hr => shiftR_any l a c N w hr (by unfold lenS; omega)
      have hq1 : (lim (isq (val l))).length ≤ lenB := lim_mono (sq_self_le (isq_spec _).1) (by unfold lenB; omega)
      have hq2 : (lim (val l - isq (val l) * isq (val l))).length ≤ lenB := lim_mono (Nat.sub_le _ _) (by unfold lenB; omega)
      unfold SqPost at hsq hsqR
      generalize lim (val l - isq (val l) * isq (val l)) = Q2 at *
      generalize lim (isq (val l)) = Q1 at *
      generalize lim (shiftV (val l) N) = SH at *
      first | refine W_rt (by kernel_rfl) (fun K hK => ?_) | refine W_text (by kernel_rfl) (fun K hK => ?_)
      simp [go_sem, g0, g1]
      refine hv_call (by simp [go_sem, g0, g1]) rfl Try.call39 (fun R hR => ?_)
      simp [go_sem, g0, g1]
      refine (hsq).mono ?_
      rintro e w4 ⟨a4, c4, a4', c4', rfl, hr4, hs4, hE4⟩
      refine ⟨_, rfl, hR _ _ ?_⟩
      clear hR R
      replace hr0 := hr0.ext hE4
      replace hE := hE.next hE4
      simp [go_sem, g0, g1]
      refine hK _ _ ?_; clear hK K
      first | refine W_rt (by kernel_rfl) (fun K hK => ?_) | refine W_text (by kernel_rfl) (fun K hK => ?_)
      simp [go_sem, g0, g1]
      refine hv_call (by simp [go_sem, g0, g1]) rfl Try.call40 (fun R hR => ?_)
      simp [go_sem, g0, g1]
      refine (hsqR hr0).mono ?_
      rintro e w5 ⟨a5, c5, a5', c5', rfl, hr5, hs5, hE5⟩
      refine ⟨_, rfl, hR _ _ ?_⟩
      clear hR R
      replace hr0 := hr0.ext hE5
      replace hr4 := hr4.ext hE5
      replace hs4 := hs4.ext hE5
      replace hE := hE.next hE5
      simp [go_sem, g0, g1]
      refine hK _ _ ?_; clear hK K
      first | refine W_rt (by kernel_rfl) (fun K hK => ?_) | refine W_text (by kernel_rfl) (fun K hK => ?_)
      simp [go_sem, g0, g1]
      refine hv_call (by simp [go_sem, g0, g1]) rfl Try.call16 (fun R hR => ?_)
      simp [go_sem, g0, g1]
      refine (same_any Q1 _ _ _ _ _ hr4 hr5 hq1).mono ?_
      rintro e w6 ⟨rfl, hE6⟩
      refine ⟨_, rfl, hR _ _ ?_⟩
      clear hR R
      replace hr0 := hr0.ext hE6
      replace hs4 := hs4.ext hE6
      replace hs5 := hs5.ext hE6
      replace hE := hE.next hE6
      clear hE6
      simp [go_sem, g0, g1]
      refine hv_call (by simp [go_sem, g0, g1]) rfl Try.call16 (fun R hR => ?_)
      simp [go_sem, g0, g1]
      refine (same_any Q2 _ _ _ _ _ hs4 hs5 hq2).mono ?_
      rintro e w7 ⟨rfl, hE7⟩
      refine ⟨_, rfl, hR _ _ ?_⟩
      clear hR R
      replace hr0 := hr0.ext hE7
      replace hE := hE.next hE7
      clear hE7
      simp [go_sem, g0, g1]
      refine hv_call (by simp [go_sem, g0, g1]) rfl Try.call41 (fun R hR => ?_)
      simp [go_sem, g0, g1]
      refine (hsh hr0).mono ?_
      rintro e w8 ⟨a8, c8, rfl, hr8, hE8⟩
      refine ⟨_, rfl, hR _ _ ?_⟩
      clear hR R
      replace hr0 := hr0.ext hE8
      replace hE := hE.next hE8
      clear hE8
      simp [go_sem, g0, g1]
      refine hv_call (by simp [go_sem, g0, g1]) rfl Try.call42 (fun R hR => ?_)
      simp [go_sem, g0, g1]
      refine (hshR hr0).mono ?_
      rintro e w9 ⟨a9, c9, rfl, hr9, hE9⟩
      refine ⟨_, rfl, hR _ _ ?_⟩
      clear hR R
      replace hr8 := hr8.ext hE9
      replace hE := hE.next hE9
      clear hE9
      simp [go_sem, g0, g1]
      refine hv_call (by simp [go_sem, g0, g1]) rfl Try.call16 (fun R hR => ?_)
      simp [go_sem, g0, g1]
      refine (same_any SH _ _ _ _ _ hr8 hr9 (Nat.le_trans hsl (by decide))).mono ?_
      rintro e w10 ⟨rfl, hE10⟩
      refine ⟨_, rfl, hR _ _ ?_⟩
      clear hR R
      replace hE := hE.next hE10
      clear hE10
      simp [go_sem, g0, g1]
      refine hv_call (by simp [go_sem]) rfl Try.call13 (fun R hR => ?_)
      simp [go_sem]
      refine (alive_any _).mono ?_
      rintro e w11 ⟨rfl, hE11⟩
      refine ⟨_, rfl, hR _ _ ?_⟩
      clear hR R
      replace hE := hE.next hE11
      clear hE11
      simp [go_sem]
      refine hK _ _ ?_; clear hK K
      refine W_ret ?_
      repeat (first | refine thenG_ret ?_ | refine inBlock_ret ?_)
      refine ⟨trivial, ?_, hE⟩
      simp [go_sem, pack, resL]
    have h1' : (l.length : Int) ≤ 24 := by omega
    by_cases n1 : (400 : Int) < N
    · by_cases n2 : N ≤ 1048576
      · simp [go_sem, h1, n1, n2]
        refine hK _ _ ?_; clear hK K
        refine W_if (by simp [go_sem, h1, n1, n2]; rfl) rfl ?_
        first | refine W_rt (by kernel_rfl) (fun K hK => ?_) | refine W_text (by kernel_rfl) (fun K hK => ?_)
        simp [go_sem]
        refine hv_call (by simp [go_sem]) rfl Try.call13 (fun R hR => ?_)
        simp [go_sem]
        refine (alive_any _).mono ?_
        rintro e w4 ⟨rfl, hE4⟩
        refine ⟨_, rfl, hR _ _ ?_⟩
        clear hR R
        replace hE := hE.next hE4
        clear hE4
        simp [go_sem]
        refine hK _ _ ?_; clear hK K
        refine W_ret ?_
        repeat (first | refine thenG_ret ?_ | refine inBlock_ret ?_)
        refine ⟨trivial, ?_, hE⟩
        simp [go_sem, pack, resL]
      · have n3 : ¬ N < -400 := by omega
        simp [go_sem, h1, n1, n2, n3]
        refine hK _ _ ?_; clear hK K
        refine W_if (by simp [go_sem, h1, n1, n2, n3]; rfl) rfl ?_
        refine W_skip ?_
        exact good (by omega) _ (by simp [go_sem]) (by simp [go_sem])
    · by_cases n3 : N < -400
      · by_cases n4 : -1048576 ≤ N
        · simp [go_sem, h1, n1, n3, n4]
          refine hK _ _ ?_; clear hK K
          refine W_if (by simp [go_sem, h1, n1, n3, n4]; rfl) rfl ?_
          first | refine W_rt (by kernel_rfl) (fun K hK => ?_) | refine W_text (by kernel_rfl) (fun K hK => ?_)
          simp [go_sem]
          refine hv_call (by simp [go_sem]) rfl Try.call13 (fun R hR => ?_)
          simp [go_sem]
          refine (alive_any _).mono ?_
          rintro e w4 ⟨rfl, hE4⟩
          refine ⟨_, rfl, hR _ _ ?_⟩
          clear hR R
          replace hE := hE.next hE4
          clear hE4
          simp [go_sem]
          refine hK _ _ ?_; clear hK K
          refine W_ret ?_
          repeat (first | refine thenG_ret ?_ | refine inBlock_ret ?_)
          refine ⟨trivial, ?_, hE⟩
          simp [go_sem, pack, resL]
        · simp [go_sem, h1, n1, n3, n4]
          refine hK _ _ ?_; clear hK K
          refine W_if (by simp [go_sem, h1, n1, n3, n4]; rfl) rfl ?_
          refine W_skip ?_
          exact good (by omega) _ (by simp [go_sem]) (by simp [go_sem])
      · simp [go_sem, h1, n1, n3]
        refine hK _ _ ?_; clear hK K
        refine W_if (by simp [go_sem, h1, n1, n3]; rfl) rfl ?_
        refine W_skip ?_
        exact good (by omega) _ (by simp [go_sem]) (by simp [go_sem])
  · simp [go_sem, h1]
    refine hK _ _ ?_; clear hK K
    refine W_if (by simp [go_sem, h1]; rfl) rfl ?_
    first | refine W_rt (by kernel_rfl) (fun K hK => ?_) | refine W_text (by kernel_rfl) (fun K hK => ?_)
    simp [go_sem]
    refine hv_call (by simp [go_sem]) rfl Try.call13 (fun R hR => ?_)
    simp [go_sem]
    refine (alive_any _).mono ?_
    rintro e w4 ⟨rfl, hE4⟩
    refine ⟨_, rfl, hR _ _ ?_⟩
    clear hR R
    replace hE := hE.next hE4
    clear hE4
    simp [go_sem]
    refine hK _ _ ?_; clear hK K
    refine W_ret ?_
    repeat (first | refine thenG_ret ?_ | refine inBlock_ret ?_)
    refine ⟨trivial, ?_, hE⟩
    simp [go_sem, pack, resL]
set_option maxRecDepth 100000 in
theorem naturalRoots_lifted (os : Os) (started : os.Started) (H : Type) (enc : TypeId × Value → H) :
    ReturnsInHanded {} Try.checked os 10 .any (Rows.naturalRootsSpec.pre6 enc Try.prog Try.f10 Rows.naturalRootsRow.domain false) (Rows.naturalRootsSpec.post enc Try.prog Try.f10 false true false false) := by
  refine law_lifted (C := Try.checked) (s := Rows.naturalRootsSpec) Try.own Try.laidOut (by kernel_rfl) Try.func10 rfl 4 rfl Try.underlying4 (by kernel_rfl) enc ?_ ?_ os started
    (ChangeSpec.witness6 (enc := enc) (C := Try.checked) false ⟨#[], #[.slice none 0 0, .int .i64 0], []⟩ 8 (by kernel_rfl) (by kernel_rfl) (by kernel_rfl) (by kernel_rfl))
  · intro ds hl
    match ds, hl with
    | [d0, d1], _ => rfl
  · intro W base args ds ps hval hA hlt _
    have hA' : DataW.TrodAll enc Try.prog W 0 (fun _ => true) true [23, 3] args.toList ds ps := hA
    have hval' : ∀ (j : Nat) t v, Try.f10.params[j]? = some t → args[j]? = some v → Value.okWide Try.prog W .any base t v := hval
    obtain ⟨v0, v1, d0, d1, p0, p1, rfl, rfl, rfl, h0, h1⟩ := Go.ChangeShapes.trodAll_two hA'
    obtain ⟨x, a_x, c_x, rfl, hr_x, hk_x⟩ := open_nat (hval' 0 23 v0 rfl rfl) h0
    obtain ⟨n, rfl, rfl, rfl, hs_n⟩ := Go.ChangeShapes.open_int Try.underlying3 (hval' 1 3 v1 rfl rfl) h1
    exact naturalRoots_any x a_x c_x n W hr_x

theorem naturalRoots_holds : Rows.NaturalRootsSaid :=
  OpenClaim.holds_of_wide 10 Try.f10 rfl rfl rfl rfl rfl rfl rfl ⟨rfl, rfl, rfl, rfl, rfl⟩ rfl rfl rfl rfl rfl (by kernel_rfl) Try.func10 (by kernel_rfl)
    (of_decide_eq_true (by kernel_rfl)) (by unfold Func.isWrapper; first | (rw [if_pos (by decide +kernel)]; kernel_rfl) | (rw [if_neg (by decide +kernel)]; exact ⟨rfl, rfl⟩))
    (fun os started H enc _ => naturalRoots_lifted os started H enc)
end Go.Proofs.Ytomniiobaonloaa
