/- Natural numbers: the greatest common divisor. -/
import Derived.Test.YtomniiobaonloaaNtU
namespace Go.Proofs.Ytomniiobaonloaa
open Go.RowKit Go.V
set_option linter.unusedSimpArgs false
set_option linter.unusedVariables false

theorem lim_mono {A B k : Nat} (h : A ≤ B) (hk : (lim B).length ≤ k) : (lim A).length ≤ k := by
  refine Nat.le_trans (lim_len (lim B).length A ?_) hk
  have := val_lt _ (lim_ok B)
  rw [val_lim] at this
  omega
theorem lim_ne {B : Nat} (h : B ≠ 0) : 0 < (lim B).length := by
  rw [lim_pos B h]; simp
theorem lim_small {A : Nat} (h : (lim A).length ≤ 4) : A < 18446744073709551616 := by
  have := val_lt4 _ (lim_ok A) h
  rwa [val_lim] at this

set_option maxHeartbeats 4000000 in
theorem gcd_any (l m : List Nat) (a b : Option Addr) (c d : Nat) (w : World) (hr : RD w a c l) (hs : RD w b d m) (hl : l.length + 1 ≤ lenS) (hm : m.length + 1 ≤ lenS) :
    Calls Try.prog 27 #[.slice a l.length c, .slice b m.length d] w (RetN w (lim (Nat.gcd (val l) (val m)))) := by
  have hl' : l.length + 1 ≤ 100000000000 := hl
  have hm' : m.length + 1 ≤ 100000000000 := hm
  have hn1 := nrm_len l
  have hn2 := nrm_len m
  refine calls_of_W (args := [.slice a l.length c, .slice b m.length d]) (rs := [.tmp 4]) (n := 51) Try.func27 rfl rfl rfl (by kernel_rfl) ?_
  first | refine W_rt (by kernel_rfl) (fun K hK => ?_) | refine W_text (by kernel_rfl) (fun K hK => ?_)
  simp [go_sem]
  refine hK _ _ ?_; clear hK K
  first | refine W_rt (by kernel_rfl) (fun K hK => ?_) | refine W_text (by kernel_rfl) (fun K hK => ?_)
  simp [go_sem]
  refine hv_call (by simp [go_sem]) rfl Try.call17 (fun R hR => ?_)
  simp [go_sem]
  refine (norm_any l a c _ hr (by unfold lenB; omega)).mono ?_
  rintro e w1 ⟨a1, c1, rfl, hr1, hE1⟩
  refine ⟨_, rfl, hR _ _ ?_⟩
  clear hR R
  replace hs := hs.ext hE1
  simp [go_sem]
  refine hv_call (by simp [go_sem]) rfl Try.call17 (fun R hR => ?_)
  simp [go_sem]
  refine (norm_any m b d _ hs (by unfold lenB; omega)).mono ?_
  rintro e w2 ⟨b1, d1, rfl, hs1, hE2⟩
  refine ⟨_, rfl, hR _ _ ?_⟩
  clear hR R
  replace hr1 := hr1.ext hE2
  have hE := hE1.next hE2
  have hokl := hr.ok
  have hokm := hs.ok
  rw [← lim_val l hokl] at hr1 hn1
  rw [← lim_val m hokm] at hs1 hn2
  rw [← lim_val l hokl, ← lim_val m hokm]
  simp [go_sem]
  refine hK _ _ ?_; clear hK K
  clear hr hs hE1 hE2
  generalize val l = A0 at *
  generalize val m = B0 at *
  have hkA : (lim A0).length + 1 ≤ lenS := by unfold lenS; omega
  have hkB : (lim B0).length + 1 ≤ lenS := by unfold lenS; omega
  refine W_seq (fun K1 hK1 => ?_)
  refine W_block ?_
  refine W_loop (fun t g w' => Below w.heap.size w w' ∧ ∃ A B a1 c1 b1 d1, B = t ∧ g 0 = .slice a1 (lim A).length c1 ∧ g 1 = .slice b1 (lim B).length d1 ∧ RD w' a1 c1 (lim A) ∧ RD w' b1 d1 (lim B) ∧ (lim A).length + 1 ≤ lenS ∧ (lim B).length + 1 ≤ lenS ∧ Nat.gcd A B = Nat.gcd A0 B0) B0 ?_ ?_
  · exact ⟨hE, A0, B0, a1, c1, b1, d1, rfl, by simp [go_sem], by simp [go_sem], hr1, hs1, hkA, hkB, rfl⟩
  · clear hE hr1 hs1
    rintro t g w' ⟨hE, A, B, a1, c1, b1, d1, rfl, g0, g1, hr1, hs1, hA, hB, hg⟩
    refine W_seq (fun K2 hK2 => ?_)
    by_cases h0 : B = 0
    · subst h0
      rw [Nat.gcd_zero_right] at hg
      rw [lim_zero] at g1
      first | refine W_rt (by kernel_rfl) (fun K hK => ?_) | refine W_text (by kernel_rfl) (fun K hK => ?_)
      simp [go_sem, g1]
      refine hK _ _ ?_; clear hK K
      refine W_if (by simp [go_sem]; rfl) rfl ?_
      refine W_exit ?_
      repeat (first | refine thenG_exit ?_ | refine inBlock_other rfl ?_ | refine inBlock_same ?_)
      refine hK1 _ _ ?_; clear hK1 K1 hK2 K2
      first | refine W_rt (by kernel_rfl) (fun K hK => ?_) | refine W_text (by kernel_rfl) (fun K hK => ?_)
      simp [go_sem, g0]
      refine hK _ _ ?_; clear hK K
      refine W_ret ?_
      repeat (first | refine thenG_ret ?_ | refine inBlock_ret ?_)
      rw [← hg]
      refine ⟨trivial, a1, c1, ?_, hr1, hE⟩
      simp [go_sem, pack, resL, g0]
    · have hp : 0 < (lim B).length := lim_ne h0
      have hp' : (0 : Int) < (lim B).length := by omega
      have hu1 := uint_any (lim A) a1 c1 _ hr1 (by unfold lenB; unfold lenS at hA; omega)
      have hu2 := uint_any (lim B) b1 d1 _ hs1 (by unfold lenB; unfold lenS at hB; omega)
      unfold uintV at hu1 hu2
      rw [nrm_lim, val_lim] at hu1 hu2
      generalize hla : (lim A).length = la at *
      generalize hlb : (lim B).length = lb at *
      first | refine W_rt (by kernel_rfl) (fun K hK => ?_) | refine W_text (by kernel_rfl) (fun K hK => ?_)
      simp [go_sem, g1, hp, hp']
      refine hK _ _ ?_; clear hK K
      refine W_if (by simp [go_sem, hp, hp']; rfl) rfl ?_
      refine W_skip ?_
      refine hK2 _ _ ?_; clear hK2 K2
      refine W_block ?_
      first | refine W_rt (by kernel_rfl) (fun K hK => ?_) | refine W_text (by kernel_rfl) (fun K hK => ?_)
      simp [go_sem, g0]
      refine hv_call (by simp [go_sem, g0]) rfl Try.call14 (fun R hR => ?_)
      simp [go_sem, g0]
      refine (hu1).mono ?_
      rintro e w3 ⟨rfl, rfl⟩
      refine ⟨_, rfl, hR _ _ ?_⟩
      clear hR R
      simp [go_sem]
      refine hK _ _ ?_; clear hK K
      first | refine W_rt (by kernel_rfl) (fun K hK => ?_) | refine W_text (by kernel_rfl) (fun K hK => ?_)
      simp [go_sem, g1]
      refine hv_call (by simp [go_sem, g1]) rfl Try.call14 (fun R hR => ?_)
      simp [go_sem, g1]
      refine (hu2).mono ?_
      rintro e w3 ⟨rfl, rfl⟩
      refine ⟨_, rfl, hR _ _ ?_⟩
      clear hR R
      simp [go_sem]
      refine hK _ _ ?_; clear hK K
      refine W_seq (fun K3 hK3 => ?_)
      have big : ∀ g : G, g 0 = .slice a1 la c1 → g 1 = .slice b1 lb d1 → K3 g w' := by
        clear g0 g1
        clear g
        intro g g0 g1
        refine hK3 _ _ ?_; clear hK3 K3
        rw [← hla] at g0
        rw [← hlb] at g1
        have hdm := divmod_any (lim A) (lim B) a1 b1 c1 d1 _ hr1 hs1 (by rw [hla]; exact hA) (by rw [hlb]; omega)
        rw [val_lim, val_lim] at hdm
        first | refine W_rt (by kernel_rfl) (fun K hK => ?_) | refine W_text (by kernel_rfl) (fun K hK => ?_)
        simp [go_sem, g0, g1]
        refine hv_call (by simp [go_sem, g0, g1]) rfl Try.call25 (fun R hR => ?_)
        simp [go_sem, g0, g1]
        refine hdm.mono ?_
        rintro e w4 (⟨hbad, _⟩ | ⟨_, a4, c4, a5, c5, rfl, hr4, hr5, hE4⟩)
        · exact absurd hbad h0
        refine ⟨_, rfl, hR _ _ ?_⟩
        clear hR R
        replace hs1 := hs1.ext hE4
        simp [go_sem]
        refine hK _ _ ?_; clear hK K
        first | refine W_rt (by kernel_rfl) (fun K hK => ?_) | refine W_text (by kernel_rfl) (fun K hK => ?_)
        simp [go_sem, g1]
        have hlt := Nat.mod_lt A (show 0 < B by omega)
        exact hK _ _ ⟨A % B, hlt, hE.next hE4, B, A % B, b1, d1, a5, c5, rfl, by simp [go_sem], by simp [go_sem], hs1, hr5, by rw [hlb]; exact hB, by
          have := lim_mono (Nat.le_of_lt hlt) (Nat.le_of_eq hlb)
          omega, by rw [← hg, Nat.gcd_comm A B, Nat.gcd_comm B, ← Nat.gcd_rec]⟩
      by_cases h1 : la ≤ 4
      · by_cases h2 : lb ≤ 4
        · have hAs := lim_small (by rw [hla]; exact h1)
          have hBs := lim_small (by rw [hlb]; exact h2)
          first | refine W_rt (by kernel_rfl) (fun K hK => ?_) | refine W_text (by kernel_rfl) (fun K hK => ?_)
          simp [go_sem, h1, h2]
          refine hK _ _ ?_; clear hK K
          refine W_if (by simp [go_sem, h1, h2]; rfl) rfl ?_
          refine W_seq (fun K4 hK4 => ?_)
          refine W_block ?_
          refine W_loop (fun t g w1 => Below w.heap.size w w1 ∧ ∃ x y : Nat, y = t ∧ x < 18446744073709551616 ∧ y < 18446744073709551616 ∧ g 5 = .int .u64 x ∧ g 7 = .int .u64 y ∧ Nat.gcd x y = Nat.gcd A0 B0) B ?_ ?_
          · exact ⟨hE, A, B, rfl, hAs, hBs, by simp [go_sem, h1], by simp [go_sem, h2], hg⟩
          · clear big g0 g1
            clear g
            rintro t g w1 ⟨hE, x, y, rfl, hx, hy, g5, g7, hg⟩
            refine W_seq (fun K5 hK5 => ?_)
            by_cases hy0 : y = 0
            · subst hy0
              rw [Nat.gcd_zero_right] at hg
              first | refine W_rt (by kernel_rfl) (fun K hK => ?_) | refine W_text (by kernel_rfl) (fun K hK => ?_)
              simp [go_sem, g7]
              refine hK _ _ ?_; clear hK K
              refine W_if (by simp [go_sem]; rfl) rfl ?_
              refine W_exit ?_
              repeat (first | refine thenG_exit ?_ | refine inBlock_other rfl ?_ | refine inBlock_same ?_)
              refine hK4 _ _ ?_; clear hK4 K4 hK5 K5
              first | refine W_rt (by kernel_rfl) (fun K hK => ?_) | refine W_text (by kernel_rfl) (fun K hK => ?_)
              simp [go_sem, g5]
              refine hv_call (by simp [go_sem, g5]) rfl Try.call23 (fun R hR => ?_)
              simp [go_sem, g5]
              refine (of_any x _ hx).mono ?_
              rintro e w5 ⟨a5, c5, rfl, hr5, hE5⟩
              refine ⟨_, rfl, hR _ _ ?_⟩
              clear hR R
              simp [go_sem]
              refine hK _ _ ?_; clear hK K
              refine W_ret ?_
              repeat (first | refine thenG_ret ?_ | refine inBlock_ret ?_)
              rw [← hg]
              refine ⟨trivial, a5, c5, ?_, hr5, hE.next hE5⟩
              simp [go_sem, pack, resL]
            · have hy' : (0 : Int) < y := by omega
              have hyp : 0 < y := by omega
              have hy'' : ¬ (y : Int) = 0 := by omega
              have hlt := Nat.mod_lt x hyp
              have f1 : (x : Int).tmod y = ((x % y : Nat) : Int) := rfl
              obtain ⟨z, hz⟩ : ∃ z, z = x % y := ⟨_, rfl⟩
              rw [← hz] at f1 hlt
              first | refine W_rt (by kernel_rfl) (fun K hK => ?_) | refine W_text (by kernel_rfl) (fun K hK => ?_)
              simp [go_sem, g7, hy', hyp]
              refine hK _ _ ?_; clear hK K
              refine W_if (by simp [go_sem, hy', hyp]; rfl) rfl ?_
              refine W_skip ?_
              refine hK5 _ _ ?_; clear hK5 K5
              refine W_block ?_
              first | refine W_rd [(0, 0), (1, 0), (2, 0), (3, 0), (4, 0), (5, 0)] (by kernel_rfl) (by kernel_rfl) (fun K hK => ?_) | refine W_draw [(0, 0), (1, 0), (2, 0), (3, 0), (4, 0), (5, 0)] (by kernel_rfl) (by kernel_rfl) (fun K hK => ?_)
              simp [go_sem, g5, g7, hy0, hy'', f1]
              refine hK _ _ ⟨z, hlt, ?_, y, z, rfl, hy, by omega, by simp [go_sem], by simp [go_sem], by rw [← hg, hz, Nat.gcd_comm x y, Nat.gcd_comm y, ← Nat.gcd_rec]⟩
              exact hE.next (Below.drew1 _)
        · first | refine W_rt (by kernel_rfl) (fun K hK => ?_) | refine W_text (by kernel_rfl) (fun K hK => ?_)
          simp [go_sem, h1, h2]
          refine hK _ _ ?_; clear hK K
          refine W_if (by simp [go_sem, h1, h2]; rfl) rfl ?_
          refine W_skip ?_
          exact big _ (by simp [go_sem, g0]) (by simp [go_sem, g1])
      · first | refine W_rt (by kernel_rfl) (fun K hK => ?_) | refine W_text (by kernel_rfl) (fun K hK => ?_)
        simp [go_sem, h1]
        refine hK _ _ ?_; clear hK K
        refine W_if (by simp [go_sem, h1]; rfl) rfl ?_
        refine W_skip ?_
        exact big _ (by simp [go_sem, g0]) (by simp [go_sem, g1])

set_option maxHeartbeats 4000000 in
theorem gcdR_any (l m : List Nat) (a b : Option Addr) (c d : Nat) (w : World) (hr : RD w a c l) (hs : RD w b d m) (hl : l.length + 1 ≤ lenS) (hm : m.length + 1 ≤ lenS) :
    Calls Try.prog 28 #[.slice a l.length c, .slice b m.length d] w (RetN w (lim (Nat.gcd (val l) (val m)))) := by
  have hl' : l.length + 1 ≤ 100000000000 := hl
  have hm' : m.length + 1 ≤ 100000000000 := hm
  have hn1 := nrm_len l
  have hn2 := nrm_len m
  refine calls_of_W (args := [.slice a l.length c, .slice b m.length d]) (rs := [.tmp 4]) (n := 25) Try.func28 rfl rfl rfl (by kernel_rfl) ?_
  first | refine W_rt (by kernel_rfl) (fun K hK => ?_) | refine W_text (by kernel_rfl) (fun K hK => ?_)
  simp [go_sem]
  refine hK _ _ ?_; clear hK K
  first | refine W_rt (by kernel_rfl) (fun K hK => ?_) | refine W_text (by kernel_rfl) (fun K hK => ?_)
  simp [go_sem]
  refine hv_call (by simp [go_sem]) rfl Try.call18 (fun R hR => ?_)
  simp [go_sem]
  refine (normR_any l a c _ hr (by unfold lenB; omega)).mono ?_
  rintro e w1 ⟨a1, c1, rfl, hr1, hE1⟩
  refine ⟨_, rfl, hR _ _ ?_⟩
  clear hR R
  replace hs := hs.ext hE1
  simp [go_sem]
  refine hv_call (by simp [go_sem]) rfl Try.call18 (fun R hR => ?_)
  simp [go_sem]
  refine (normR_any m b d _ hs (by unfold lenB; omega)).mono ?_
  rintro e w2 ⟨b1, d1, rfl, hs1, hE2⟩
  refine ⟨_, rfl, hR _ _ ?_⟩
  clear hR R
  replace hr1 := hr1.ext hE2
  have hE := hE1.next hE2
  have hokl := hr.ok
  have hokm := hs.ok
  rw [← lim_val l hokl] at hr1 hn1
  rw [← lim_val m hokm] at hs1 hn2
  rw [← lim_val l hokl, ← lim_val m hokm]
  simp [go_sem]
  refine hK _ _ ?_; clear hK K
  clear hr hs hE1 hE2
  generalize val l = A0 at *
  generalize val m = B0 at *
  have hkA : (lim A0).length + 1 ≤ lenS := by unfold lenS; omega
  have hkB : (lim B0).length + 1 ≤ lenS := by unfold lenS; omega
  refine W_seq (fun K1 hK1 => ?_)
  refine W_block ?_
  refine W_loop (fun t g w' => Below w.heap.size w w' ∧ ∃ A B a1 c1 b1 d1, B = t ∧ g 0 = .slice a1 (lim A).length c1 ∧ g 1 = .slice b1 (lim B).length d1 ∧ RD w' a1 c1 (lim A) ∧ RD w' b1 d1 (lim B) ∧ (lim A).length + 1 ≤ lenS ∧ (lim B).length + 1 ≤ lenS ∧ Nat.gcd A B = Nat.gcd A0 B0) B0 ?_ ?_
  · exact ⟨hE, A0, B0, a1, c1, b1, d1, rfl, by simp [go_sem], by simp [go_sem], hr1, hs1, hkA, hkB, rfl⟩
  · clear hE hr1 hs1
    rintro t g w' ⟨hE, A, B, a1, c1, b1, d1, rfl, g0, g1, hr1, hs1, hA, hB, hg⟩
    refine W_seq (fun K2 hK2 => ?_)
    by_cases h0 : B = 0
    · subst h0
      rw [Nat.gcd_zero_right] at hg
      rw [lim_zero] at g1
      first | refine W_rt (by kernel_rfl) (fun K hK => ?_) | refine W_text (by kernel_rfl) (fun K hK => ?_)
      simp [go_sem, g1]
      refine hK _ _ ?_; clear hK K
      refine W_if (by simp [go_sem]; rfl) rfl ?_
      refine W_exit ?_
      repeat (first | refine thenG_exit ?_ | refine inBlock_other rfl ?_ | refine inBlock_same ?_)
      refine hK1 _ _ ?_; clear hK1 K1 hK2 K2
      first | refine W_rt (by kernel_rfl) (fun K hK => ?_) | refine W_text (by kernel_rfl) (fun K hK => ?_)
      simp [go_sem, g0]
      refine hK _ _ ?_; clear hK K
      refine W_ret ?_
      repeat (first | refine thenG_ret ?_ | refine inBlock_ret ?_)
      rw [← hg]
      refine ⟨trivial, a1, c1, ?_, hr1, hE⟩
      simp [go_sem, pack, resL, g0]
    · have hp : 0 < (lim B).length := lim_ne h0
      have hp' : (0 : Int) < (lim B).length := by omega
      have hdm := divmodR_any (lim A) (lim B) a1 b1 c1 d1 _ hr1 hs1 hA hB
      rw [val_lim, val_lim] at hdm
      first | refine W_rt (by kernel_rfl) (fun K hK => ?_) | refine W_text (by kernel_rfl) (fun K hK => ?_)
      simp [go_sem, g1, hp, hp']
      refine hK _ _ ?_; clear hK K
      refine W_if (by simp [go_sem, hp, hp']; rfl) rfl ?_
      refine W_skip ?_
      refine hK2 _ _ ?_; clear hK2 K2
      refine W_block ?_
      first | refine W_rt (by kernel_rfl) (fun K hK => ?_) | refine W_text (by kernel_rfl) (fun K hK => ?_)
      simp [go_sem, g0, g1]
      refine hv_call (by simp [go_sem, g0, g1]) rfl Try.call26 (fun R hR => ?_)
      simp [go_sem, g0, g1]
      refine hdm.mono ?_
      rintro e w4 (⟨hbad, _⟩ | ⟨_, a4, c4, a5, c5, rfl, hr4, hr5, hE4⟩)
      · exact absurd hbad h0
      refine ⟨_, rfl, hR _ _ ?_⟩
      clear hR R
      replace hs1 := hs1.ext hE4
      simp [go_sem]
      refine hK _ _ ?_; clear hK K
      first | refine W_rt (by kernel_rfl) (fun K hK => ?_) | refine W_text (by kernel_rfl) (fun K hK => ?_)
      simp [go_sem, g1]
      have hlt := Nat.mod_lt A (show 0 < B by omega)
      exact hK _ _ ⟨A % B, hlt, hE.next hE4, B, A % B, b1, d1, a5, c5, rfl, by simp [go_sem], by simp [go_sem], hs1, hr5, hB, by
        have := lim_mono (Nat.le_of_lt hlt) (Nat.le_refl _)
        omega, by rw [← hg, Nat.gcd_comm A B, Nat.gcd_comm B, ← Nat.gcd_rec]⟩
end Go.Proofs.Ytomniiobaonloaa
