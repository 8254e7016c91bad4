/- Natural numbers, sixth part: Cmp, Bits, small. -/
import Derived.Test.YtomniiobaonloaaNt5
namespace Go.Proofs.Ytomniiobaonloaa
open Go.RowKit Go.V
set_option linter.unusedSimpArgs false
set_option linter.unusedVariables false

theorem len_lt_val (l m : List Nat) (hl : Ok l) (hm : Ok m) (h : (nrm l).length < (nrm m).length) : val l < val m := by
  have h1 := val_lt (nrm l) (nrm_ok l hl)
  rw [val_nrm] at h1
  have h2 := val_len m hm ((nrm m).length - 1) (by omega)
  have h3 : 65536 ^ (nrm l).length ≤ 65536 ^ ((nrm m).length - 1) := Nat.pow_le_pow_right (by decide) (by omega)
  omega

set_option maxHeartbeats 1000000 in
theorem cmp_any (l m : List Nat) (a b : Option Addr) (c d : Nat) (w : World) (hr : RD w a c l) (hs : RD w b d m) (hl : l.length ≤ lenB) (hm : m.length ≤ lenB) :
    Calls Try.prog 21 #[.slice a l.length c, .slice b m.length d] w fun e w' => e = .returned (.int .i64 (cmpV (val l) (val m))) ∧ Below w.heap.size w w' := by
  have hl' : l.length ≤ 1000000000000 := hl
  have hm' : m.length ≤ 1000000000000 := hm
  have hll := len_lt_val l m hr.ok hs.ok
  have hlg := len_lt_val m l hs.ok hr.ok
  have hn1 := nrm_len l
  have hn2 := nrm_len m
  refine calls_of_W (args := [.slice a l.length c, .slice b m.length d]) (rs := [.tmp 4]) (n := 45) Try.func21 rfl rfl rfl (by kernel_rfl) ?_
  refine W_rt (by kernel_rfl) (fun K hK => ?_)
  simp [go_sem]
  refine hK _ _ ?_; clear hK K
  refine W_rt (by kernel_rfl) (fun K hK => ?_)
  simp [go_sem]
  refine hv_call (by simp [go_sem]) rfl Try.call43 (fun R hR => ?_)
  simp [go_sem]
  refine (trim_any l a c _ hr hl).mono ?_
  rintro e w1 ⟨rfl, rfl⟩
  refine ⟨_, rfl, hR _ _ ?_⟩
  clear hR R
  simp [go_sem]
  refine hv_call (by simp [go_sem]) rfl Try.call43 (fun R hR => ?_)
  simp [go_sem]
  refine (trim_any m b d _ hs hm).mono ?_
  rintro e w1 ⟨rfl, rfl⟩
  refine ⟨_, rfl, hR _ _ ?_⟩
  clear hR R
  simp [go_sem]
  refine hK _ _ ?_; clear hK K
  replace hr := hr.nrm
  replace hs := hs.nrm
  have hvl := val_nrm l
  have hvm := val_nrm m
  rw [← hvl, ← hvm] at hll hlg
  rw [← hvl, ← hvm]
  generalize nrm l = L at *
  generalize nrm m = M at *
  refine W_seq (fun K1 hK1 => ?_)
  refine W_rt (by kernel_rfl) (fun K hK => ?_)
  simp [go_sem]
  refine hK _ _ ?_; clear hK K
  by_cases hne : L.length = M.length
  · have hne' : (L.length : Int) = M.length := by omega
    refine W_if (by simp [go_sem, hne, hne']; rfl) rfl ?_
    refine W_skip ?_
    refine hK1 _ _ ?_; clear hK1 K1
    have hw0 : IntKind.i64.wrap (↑L.length - 1) = (L.length : Int) - 1 := IntWalk.i64_in _ (by omega)
    have hw0' : IntKind.i64.wrap (↑M.length - 1) = (L.length : Int) - 1 := by rw [← hne']; exact hw0
    refine W_seq (fun K1 hK1 => ?_)
    refine W_rt (by kernel_rfl) (fun K hK => ?_)
    simp [go_sem, hw0, hne, hw0']
    refine hK _ _ ?_; clear hK K
    refine W_block ?_
    refine W_loop (fun k g w' => Below w.heap.size w w' ∧ RD w' a c L ∧ RD w' b d M ∧ k ≤ L.length ∧ g 0 = .slice a L.length c ∧ g 1 = .slice b M.length d ∧ g 5 = .int .i64 ((k : Int) - 1) ∧ val (L.drop k) = val (M.drop k)) L.length ?_ ?_
    · exact ⟨Below.refl _ _, hr, hs, Nat.le_refl _, by simp [go_sem, hne], by simp [go_sem, hne], by simp [go_sem, hne], by rw [List.drop_length, hne, List.drop_length]⟩
    · clear hr hs
      rintro k g w' ⟨hE, hr, hs, hk, g0, g1, g5, hD⟩
      refine W_seq (fun K2 hK2 => ?_)
      rcases k with _ | i
      · have g5' : g 5 = .int .i64 (-1) := g5
        refine W_rt (by kernel_rfl) (fun K hK => ?_)
        simp [go_sem, g5']
        refine hK _ _ ?_; clear hK K
        refine W_if (by simp [go_sem]; rfl) rfl ?_
        refine W_exit ?_
        repeat (first | refine thenG_exit ?_ | refine inBlock_other rfl ?_ | refine inBlock_same ?_)
        refine hK1 _ _ ?_; clear hK1 K1 hK2 K2
        rw [List.drop_zero, List.drop_zero] at hD
        refine W_rt (by kernel_rfl) (fun K hK => ?_)
        simp [go_sem]
        refine hK _ _ ?_; clear hK K
        refine W_ret ?_
        repeat (first | refine thenG_ret ?_ | refine inBlock_ret ?_)
        refine ⟨trivial, ?_, hE⟩
        simp [go_sem, pack, resL, cmpV_eq hD]
      · have g5' : g 5 = .int .i64 (i : Int) := by rw [g5]; congr 1; omega
        have hi0 : (0 : Int) ≤ i := by omega
        have h4 : IntKind.i64.wrap (↑i - 1) = (i : Int) - 1 := IntWalk.i64_in _ (by omega)
        have hi1 : i < L.length := by omega
        have hi2 : i < M.length := by omega
        have hi1' : (i : Int) < L.length := by omega
        have hi2' : (i : Int) < M.length := by omega
        refine W_rt (by kernel_rfl) (fun K hK => ?_)
        simp [go_sem, g5', hi0]
        refine hK _ _ ?_; clear hK K
        refine W_if (by simp [go_sem, hi0]; rfl) rfl ?_
        refine W_skip ?_
        refine hK2 _ _ ?_; clear hK2 K2
        refine W_seq (fun K2 hK2 => ?_)
        refine W_block ?_
        have hDr : Below w'.heap.size w' w'.drew := Below.drew1 _
        replace hE := hE.next hDr
        replace hr := hr.ext hDr
        replace hs := hs.ext hDr
        clear hDr
        obtain ⟨c1, c2⟩ := hr.at hi1
        obtain ⟨c3, c4⟩ := hs.at hi2
        refine W_seq (fun K3 hK3 => ?_)
        refine W_rd [(0, 0), (1, 0), (2, 0), (3, 0), (4, 0), (5, 0), (6, 0), (7, 0), (8, 0)] (by kernel_rfl) (by kernel_rfl) (fun K hK => ?_)
        simp [go_sem, g0, g1, g5', hi1, hi2, hi1', hi2', c1, c2, c3, c4]
        refine hK _ _ ?_; clear hK K
        by_cases hlt : lat L i < lat M i
        · have hlt' : (lat L i : Int) < lat M i := by omega
          have := cmpV_lt (cmp_step L M hr.ok hs.ok i hD hlt)
          refine W_if (by simp [go_sem, hlt, hlt']; rfl) rfl ?_
          refine W_rt (by kernel_rfl) (fun K hK => ?_)
          simp [go_sem]
          refine hK _ _ ?_; clear hK K
          refine W_ret ?_
          repeat (first | refine thenG_ret ?_ | refine inBlock_ret ?_)
          refine ⟨trivial, ?_, hE⟩
          simp [go_sem, pack, resL, this]
        · have hlt' : ¬ (lat L i : Int) < lat M i := by omega
          refine W_if (by simp [go_sem, hlt, hlt']; rfl) rfl ?_
          refine W_skip ?_
          refine hK3 _ _ ?_; clear hK3 K3
          have hDr : Below w'.drew.heap.size w'.drew w'.drew.drew := Below.drew1 _
          replace hE := hE.next hDr
          replace hr := hr.ext hDr
          replace hs := hs.ext hDr
          clear hDr c1 c2 c3 c4
          obtain ⟨c1, c2⟩ := hr.at hi1
          obtain ⟨c3, c4⟩ := hs.at hi2
          refine W_rd [(0, 0), (1, 0), (2, 0), (3, 0), (4, 0), (5, 0), (6, 0), (7, 0), (8, 0)] (by kernel_rfl) (by kernel_rfl) (fun K hK => ?_)
          simp [go_sem, g0, g1, g5', hi1, hi2, hi1', hi2', c1, c2, c3, c4]
          refine hK _ _ ?_; clear hK K
          by_cases hgt : lat M i < lat L i
          · have hgt' : (lat M i : Int) < lat L i := by omega
            have := cmpV_gt (cmp_step M L hs.ok hr.ok i hD.symm hgt)
            refine W_if (by simp [go_sem, hgt, hgt']; rfl) rfl ?_
            refine W_rt (by kernel_rfl) (fun K hK => ?_)
            simp [go_sem]
            refine hK _ _ ?_; clear hK K
            refine W_ret ?_
            repeat (first | refine thenG_ret ?_ | refine inBlock_ret ?_)
            refine ⟨trivial, ?_, hE⟩
            simp [go_sem, pack, resL, this]
          · have hgt' : ¬ (lat M i : Int) < lat L i := by omega
            refine W_if (by simp [go_sem, hgt, hgt']; rfl) rfl ?_
            refine W_skip ?_
            refine hK2 _ _ ?_; clear hK2 K2
            refine W_text (by kernel_rfl) (fun K hK => ?_)
            simp [go_sem, g5', h4]
            refine hK _ _ ⟨i, by omega, hE, hr, hs, by omega, by simp [go_sem, g0], by simp [go_sem, g1], by simp [go_sem], ?_⟩
            rw [val_drop' L i, val_drop' M i, hD]; omega
  · have hne' : ¬ (L.length : Int) = M.length := by omega
    refine W_if (by simp [go_sem, hne, hne']; rfl) rfl ?_
    refine W_seq (fun K2 hK2 => ?_)
    refine W_rt (by kernel_rfl) (fun K hK => ?_)
    simp [go_sem]
    refine hK _ _ ?_; clear hK K
    by_cases hlt : L.length < M.length
    · have hlt' : (L.length : Int) < M.length := by omega
      have := cmpV_lt (hll hlt)
      refine W_if (by simp [go_sem, hlt, hlt']; rfl) rfl ?_
      refine W_rt (by kernel_rfl) (fun K hK => ?_)
      simp [go_sem]
      refine hK _ _ ?_; clear hK K
      refine W_ret ?_
      repeat (first | refine thenG_ret ?_ | refine inBlock_ret ?_)
      refine ⟨trivial, ?_, Below.refl _ _⟩
      simp [go_sem, pack, resL, this]
    · have hlt' : ¬ (L.length : Int) < M.length := by omega
      have := cmpV_gt (hlg (by omega))
      refine W_if (by simp [go_sem, hlt, hlt']; rfl) rfl ?_
      refine W_skip ?_
      refine hK2 _ _ ?_; clear hK2 K2
      refine W_rt (by kernel_rfl) (fun K hK => ?_)
      simp [go_sem]
      refine hK _ _ ?_; clear hK K
      refine W_ret ?_
      repeat (first | refine thenG_ret ?_ | refine inBlock_ret ?_)
      refine ⟨trivial, ?_, Below.refl _ _⟩
      simp [go_sem, pack, resL, this]

def smallB (l : List Nat) : Bool := l.all (fun n => decide (n ≤ 24))
set_option maxHeartbeats 1000000 in
theorem small_any (ts : List (Option Addr × Nat × Nat)) (b : Nat) (w : World) (hr : Bx w b (ts.map fun t => Value.slice t.1 t.2.1 t.2.2).toArray 23) (hl : ts.length ≤ 10) :
    Calls Try.prog 12 #[.slice (some ⟨b, 0, none⟩) ts.length ts.length] w fun e w' => e = .returned (.bool (ts.all fun t => decide (t.2.1 ≤ 24))) ∧ w = w' := by
  refine calls_of_W (args := [.slice (some ⟨b, 0, none⟩) ts.length ts.length]) (rs := [.tmp 2]) (n := 16) Try.func12 rfl rfl rfl (by kernel_rfl) ?_
  refine W_rt (by kernel_rfl) (fun K hK => ?_)
  simp [go_sem]
  refine hK _ _ ?_; clear hK K
  refine W_seq (fun K1 hK1 => ?_)
  refine W_rt (by kernel_rfl) (fun K hK => ?_)
  simp [go_sem]
  refine hK _ _ ?_; clear hK K
  refine W_block ?_
  refine W_loop (fun k g w' => w' = w ∧ ∃ i : Nat, i ≤ ts.length ∧ k = ts.length - i ∧ g 0 = .slice (some ⟨b, 0, none⟩) ts.length ts.length ∧ g 3 = .int .i64 i ∧ (ts.all fun t => decide (t.2.1 ≤ 24)) = ((ts.drop i).all fun t => decide (t.2.1 ≤ 24))) ts.length ?_ ?_
  · exact ⟨rfl, 0, by omega, rfl, rfl, rfl, rfl⟩
  · rintro k g w' ⟨rfl, i, hi, rfl, g0, g3, hA⟩
    refine W_seq (fun K2 hK2 => ?_)
    refine W_rt (by kernel_rfl) (fun K hK => ?_)
    simp [go_sem, g0, g3]
    refine hK _ _ ?_; clear hK K
    by_cases hlt : i < ts.length
    · have hlt' : (i : Int) < ts.length := by omega
      have hw1 : IntKind.i64.wrap (↑i + 1) = (i : Int) + 1 := IntWalk.i64_in _ (by omega)
      have hc := hr.cell i
      rw [List.drop_eq_getElem_cons hlt] at hA
      have hc' : w'.cell? ⟨b, i, none⟩ = some (.slice ts[i].1 ts[i].2.1 ts[i].2.2) := by
        rw [hc]; simp [hlt]
      generalize ts[i] = t at hA hc'
      refine W_if (by simp [go_sem, hlt, hlt']; rfl) rfl ?_
      refine W_skip ?_
      refine hK2 _ _ ?_; clear hK2 K2
      refine W_seq (fun K2 hK2 => ?_)
      refine W_block ?_
      refine W_rt (by kernel_rfl) (fun K hK => ?_)
      simp [go_sem, g0, g3, hlt, hlt', add_mk, hc']
      refine hK _ _ ?_; clear hK K
      by_cases h24 : t.2.1 ≤ 24
      · have h24' : ¬ (24 : Int) < t.2.1 := by omega
        refine W_if (by simp [go_sem, h24']; rfl) rfl ?_
        refine W_skip ?_
        refine hK2 _ _ ?_; clear hK2 K2
        refine W_text (by kernel_rfl) (fun K hK => ?_)
        simp [go_sem, g3, hw1]
        refine hK _ _ ⟨ts.length - (i + 1), by omega, rfl, i + 1, by omega, rfl, by simp [go_sem, g0], by simp [go_sem], ?_⟩
        rw [hA, List.all_cons, decide_eq_true h24, Bool.true_and]
      · have h24' : (24 : Int) < t.2.1 := by omega
        refine W_if (by simp [go_sem, h24']; rfl) rfl ?_
        refine W_rt (by kernel_rfl) (fun K hK => ?_)
        simp [go_sem]
        refine hK _ _ ?_; clear hK K
        refine W_ret ?_
        repeat (first | refine thenG_ret ?_ | refine inBlock_ret ?_)
        refine ⟨trivial, ?_, rfl⟩
        rw [hA, List.all_cons, decide_eq_false h24, Bool.false_and]
        simp [go_sem, pack, resL]
    · have hil : i = ts.length := by omega
      refine W_if (by simp [go_sem, hlt]; rfl) rfl ?_
      refine W_exit ?_
      repeat (first | refine thenG_exit ?_ | refine inBlock_other rfl ?_ | refine inBlock_same ?_)
      refine hK1 _ _ ?_; clear hK1 K1 hK2 K2
      rw [hil, List.drop_length] at hA
      rw [hA]
      refine W_rt (by kernel_rfl) (fun K hK => ?_)
      simp [go_sem]
      refine hK _ _ ?_; clear hK K
      refine W_ret ?_
      repeat (first | refine thenG_ret ?_ | refine inBlock_ret ?_)
      refine ⟨trivial, ?_, rfl⟩
      simp [go_sem, pack, resL]
end Go.Proofs.Ytomniiobaonloaa
