/- Natural numbers: right (a shift to the right). -/
import Derived.Test.YtomniiobaonloaaNtG
namespace Go.Proofs.Ytomniiobaonloaa
open Go.RowKit Go.V
set_option linter.unusedSimpArgs false
set_option linter.unusedVariables false

theorem lat_drop (l : List Nat) (k i : Nat) : lat (l.drop k) i = lat l (i + k) := by
  simp [lat, List.getD_eq_getElem?_getD, List.getElem?_drop, Nat.add_comm]
theorem pow_dvd16 (s : Nat) (h : s < 16) : ∃ t, 65536 = 2 ^ s * t := by
  refine ⟨2 ^ (16 - s), ?_⟩
  rw [← Nat.pow_add]
  have : s + (16 - s) = 16 := by omega
  rw [this]
theorem right_limb (D : List Nat) (i s : Nat) (hok : Ok D) (hs : s < 16) : (val D / 2 ^ s) / 65536 ^ i % 65536 = ((lat D i + 65536 * lat D (i + 1)) / 2 ^ s) % 65536 := by
  rw [Nat.div_div_eq_div_mul, Nat.mul_comm, ← Nat.div_div_eq_div_mul, ← val_drop_div i D hok, val_drop' D i, val_drop' D (i + 1)]
  obtain ⟨t, ht⟩ := pow_dvd16 s hs
  have e : lat D i + 65536 * (lat D (i + 1) + 65536 * val (D.drop (i + 1 + 1))) = (lat D i + 65536 * lat D (i + 1)) + 2 ^ s * (65536 * (t * val (D.drop (i + 1 + 1)))) := by
    have : 65536 * (65536 * val (D.drop (i + 1 + 1))) = 2 ^ s * (65536 * (t * val (D.drop (i + 1 + 1)))) := by
      conv => lhs; rw [ht]
      rw [Nat.mul_left_comm (2 ^ s) 65536, ← Nat.mul_assoc (2 ^ s) t, ← ht]
    omega
  rw [e, Nat.add_mul_div_left _ _ (Nat.pow_pos (by decide)), Nat.add_mul_mod_self_left]
theorem right_step (ws : List Nat) (V i q : Nat) (hw : ws.length = i) (h : val ws = V % 65536 ^ i) (hq : V / 65536 ^ i % 65536 = q) : val (ws ++ [q]) = V % 65536 ^ (i + 1) := by
  rw [val_app, hw, h, Nat.mod_pow_succ, hq]; simp [val]
theorem or_lim (x y : Nat) (hx : x < 65536) (hy : y < 65536) : x ||| (y * 65536) = x + 65536 * y := by
  have := or_add x y 16 (by omega)
  simp at this
  rw [this]; omega

set_option maxHeartbeats 2000000 in
theorem right_any (l : List Nat) (a : Option Addr) (c n : Nat) (w : World) (hr : RD w a c l) (hl : l.length ≤ lenB) (hn : n ≤ 1048576) :
    Calls Try.prog 54 #[.slice a l.length c, .int .i64 n] w (RetN w (lim (val l / 2 ^ n))) := by
  have hl' : l.length ≤ 1000000000000 := hl
  have hbr := fun b (hb : w.heap.size ≤ b) => hr.below hb
  have e1 : (n : Int).tdiv 16 = ((n / 16 : Nat) : Int) := rfl
  have e1' : IntKind.i64.wrap ((n / 16 : Nat) : Int) = ((n / 16 : Nat) : Int) := IntWalk.i64_in _ (by omega)
  have e2 : (n : Int).tmod 16 = ((n % 16 : Nat) : Int) := rfl
  have hks : n = 16 * (n / 16) + n % 16 := by omega
  have hs16 : n % 16 < 16 := by omega
  have hk : n / 16 ≤ 65536 := by omega
  generalize n / 16 = k at *
  generalize n % 16 = s at *
  have hV : val l / 2 ^ n = val (l.drop k) / 2 ^ s := by
    rw [val_drop_div k l hr.ok, Nat.div_div_eq_div_mul, pow_16, ← Nat.pow_add, ← hks]
  rw [hV]
  refine calls_of_W (args := [.slice a l.length c, .int .i64 n]) (rs := [.tmp 4]) (n := 63) Try.func54 rfl rfl rfl (by kernel_rfl) ?_
  refine W_rt (by kernel_rfl) (fun K hK => ?_)
  simp [go_sem]
  refine hK _ _ ?_; clear hK K
  refine W_rt (by kernel_rfl) (fun K hK => ?_)
  simp [go_sem, e1, e1', e2]
  refine hK _ _ ?_; clear hK K
  refine W_seq (fun K1 hK1 => ?_)
  refine W_rt (by kernel_rfl) (fun K hK => ?_)
  simp [go_sem]
  refine hK _ _ ?_; clear hK K
  by_cases hkl : l.length ≤ k
  · have hkl' : (l.length : Int) ≤ k := by omega
    have hz : lim (val (l.drop k) / 2 ^ s) = [] := by
      rw [List.drop_eq_nil_of_le hkl]; simp [val, lim_zero]
    refine W_if (by simp [go_sem, hkl, hkl']; rfl) rfl ?_
    refine W_rt (by kernel_rfl) (fun K hK => ?_)
    simp [go_sem]
    refine hK _ _ ?_; clear hK K
    refine W_ret ?_
    repeat (first | refine thenG_ret ?_ | refine inBlock_ret ?_)
    rw [hz]
    refine ⟨trivial, none, 0, ?_, RD.nil _ _ _, Below.refl _ _⟩
    simp [go_sem, pack, resL]
  · have hkl' : ¬ (l.length : Int) ≤ k := by omega
    refine W_if (by simp [go_sem, hkl, hkl']; rfl) rfl ?_
    refine W_skip ?_
    refine hK1 _ _ ?_; clear hK1 K1
    obtain ⟨N, hN⟩ : ∃ N, N = l.length - k := ⟨_, rfl⟩
    have hDl : (l.drop k).length = N := by rw [List.length_drop, hN]
    have hDok := hr.ok.drop k
    have hlast : val (l.drop k) < 65536 ^ N := by rw [← hDl]; exact val_lt _ hDok
    have hlat : ∀ i, lat (l.drop k) i = lat l (i + k) := lat_drop l k
    have eN : IntKind.i64.wrap (↑l.length - ↑k) = (N : Int) := by rw [IntWalk.i64_in _ (by omega)]; omega
    refine W_rt (by kernel_rfl) (fun K hK => ?_)
    simp [go_sem, eN]
    refine hv_make (kl := .i64) (kc := .i64) N N (by simp [go_sem, eN]) rfl ty_slZ22 ty_bytes39 (by simp [go_sem, eN]) (by simp [go_sem, eN]) (by omega) (by omega) (by omega) (fun w2 b2 hE2 hle2 hB2 => ?_)
    rw [Nat.mul_one, madeCells_one, lm_zeros] at hB2
    replace hr := hr.ext hE2
    have hne1 := hbr b2 hle2
    clear hbr
    simp [go_sem]
    refine hK _ _ ?_; clear hK K
    refine W_seq (fun K1 hK1 => ?_)
    refine W_rt (by kernel_rfl) (fun K hK => ?_)
    simp [go_sem]
    refine hK _ _ ?_; clear hK K
    refine W_block ?_
    refine W_loop (fun t g w' => Below w.heap.size w w' ∧ RD w' a c l ∧ ∃ (i : Nat) (ws : List Nat), i ≤ N ∧ t = N - i ∧ g 0 = .slice a l.length c ∧ g 5 = .int .i64 k ∧ g 6 = .int .i64 s ∧ g 7 = .slice (some ⟨b2, 0, none⟩) N N ∧ g 24 = .int .i64 N ∧ g 25 = .int .i64 i ∧
      Bx w' b2 (lmC (ws ++ List.replicate (N - i) 0)).toArray 39 ∧ ws.length = i ∧ Ok ws ∧ val ws = (val (l.drop k) / 2 ^ s) % 65536 ^ i) N ?_ ?_
    · exact ⟨hE2, hr, 0, [], by omega, rfl, by simp [go_sem], by simp [go_sem], by simp [go_sem], by simp [go_sem], by simp [go_sem], by simp [go_sem], hB2, rfl, Ok.nil, by simp [val, Nat.mod_one]⟩
    · clear hr hE2 hB2
      rintro t g w' ⟨hE, hr, i, ws, hi, rfl, g0, g5, g6, g7, g24, g25, hB, hwl, hwok, hval⟩
      refine W_rt (by kernel_rfl) (fun K hK => ?_)
      simp [go_sem, g24, g25]
      refine hK _ _ ?_; clear hK K
      refine W_seq (fun K2 hK2 => ?_)
      by_cases hlt : i < N
      · have hlt' : (i : Int) < N := by omega
        obtain ⟨j, hj⟩ : ∃ j, j = i + k := ⟨_, rfl⟩
        have hjl : j < l.length := by omega
        have hjl' : (j : Int) < l.length := by omega
        obtain ⟨c1, c2⟩ := hr.at hjl
        have hx := lat_lt hr.ok j
        have hy := lat_lt hr.ok (j + 1)
        have hlimb := right_limb (l.drop k) i s hDok hs16
        rw [hlat, hlat, ← hj, show i + 1 + k = j + 1 by omega] at hlimb
        obtain ⟨S, hS⟩ : ∃ S, S = lat l j + 65536 * lat l (j + 1) := ⟨_, rfl⟩
        rw [← hS] at hlimb
        have hstep := right_step ws _ i _ hwl hval hlimb
        have f0 : IntKind.i64.wrap (↑i + ↑k) = (j : Int) := by rw [IntWalk.i64_in _ (by omega)]; omega
        have f1 : IntKind.i64.wrap ((j : Int) + 1) = ((j + 1 : Nat) : Int) := by rw [IntWalk.i64_in _ (by omega)]; omega
        have f2 : IntKind.u32.wrap (lat l j : Int) = lat l j := w32_in _ (by omega)
        have f6 : shrI .u32 (S : Int) (s : Int) = ((S / 2 ^ s : Nat) : Int) := shr_nat .u32 S s (by show s ≤ 32; omega)
        have f7 : IntKind.u16.wrap ((S / 2 ^ s : Nat) : Int) = ((S / 2 ^ s % 65536 : Nat) : Int) := w16 _
        have f8 : (0 : Int) ≤ s := by omega
        have hw1 : IntKind.i64.wrap (↑i + 1) = (i : Int) + 1 := IntWalk.i64_in _ (by omega)
        have hQ' : S / 2 ^ s % 65536 < 65536 := Nat.mod_lt _ (by decide)
        generalize hR : S / 2 ^ s = R at *
        generalize hQ : R % 65536 = Q at *
        obtain ⟨j1, hj1⟩ : ∃ j1, j1 = j + 1 := ⟨_, rfl⟩
        rw [← hj1] at f1 hS hy
        refine W_if (by simp [go_sem, hlt, hlt']; rfl) rfl ?_
        refine W_skip ?_
        refine hK2 _ _ ?_; clear hK2 K2
        refine W_seq (fun K2 hK2 => ?_)
        refine W_block ?_
        refine W_rt (by kernel_rfl) (fun K hK => ?_)
        simp [go_sem, g25]
        refine hK _ _ ?_; clear hK K
        refine W_rt (by kernel_rfl) (fun K hK => ?_)
        simp [go_sem, g0, g5, f0, hjl, hjl', c1, c2, f2]
        refine hK _ _ ?_; clear hK K
        refine W_seq (fun K3 hK3 => ?_)
        refine W_rt (by kernel_rfl) (fun K hK => ?_)
        simp [go_sem, g0, g5, f0, f1]
        refine hK _ _ ?_; clear hK K
        have next : ∀ g' : G, g' 0 = .slice a l.length c → g' 5 = .int .i64 k → g' 6 = .int .i64 s → g' 7 = .slice (some ⟨b2, 0, none⟩) N N → g' 8 = .int .i64 i → g' 9 = .int .u32 S → g' 24 = .int .i64 N → g' 25 = .int .i64 i → K3 g' w' := by
          clear g0 g5 g6 g7 g24 g25
          intro g' g0 g5 g6 g7 g8 g9 g24 g25
          refine hK3 _ _ ?_; clear hK3 K3
          refine W_text (by kernel_rfl) (fun K hK => ?_)
          simp [go_sem, g6, g7, g8, g9, f6, f7, f8, hlt, hlt', add_mk]
          refine hv_store (b := b2) (off := i) [.int .u16 Q] (by simp [go_sem]) rfl (by simp [go_sem]) (by simp [go_sem, Value.cells]) ty_size39 hB (by simp [lmC_len] <;> omega) (by simp [Value.oneCell']) (by decide) (fun w4 hS4 hB4 => ?_)
          rw [putC_lm] at hB4
          have hrep : N - i = (N - (i + 1)) + 1 := by omega
          rw [hrep, set_next ws i _ Q hwl] at hB4
          replace hr := hr.sto hS4 hne1
          replace hE := hE.nextS hS4 hle2
          simp [go_sem]
          refine hK _ _ ?_; clear hK K
          refine hK2 _ _ ?_; clear hK2 K2
          refine W_text (by kernel_rfl) (fun K hK => ?_)
          simp [go_sem, g25, hw1]
          refine hK _ _ ⟨N - (i + 1), by omega, hE, hr, i + 1, ws ++ [Q], by omega, rfl, by simp [go_sem, g0], by simp [go_sem, g5], by simp [go_sem, g6], by simp [go_sem, g7], by simp [go_sem, g24], by simp [go_sem], hB4, by simp [hwl], hwok.app (Ok.cons hQ' Ok.nil), hstep⟩
        by_cases hb : j1 < l.length
        · have hb' : (j1 : Int) < l.length := by omega
          obtain ⟨c3, c4⟩ := hr.at hb
          have f3 : IntKind.u32.wrap (lat l j1 : Int) = lat l j1 := w32_in _ (by omega)
          have f4 : shlI .u32 (lat l j1 : Int) 16 = ((lat l j1 * 65536 : Nat) : Int) := by
            have := shl_nat .u32 (lat l j1) 16 (by decide)
            rw [show ((16 : Nat) : Int) = 16 from rfl] at this
            rw [this]; exact w32_in _ (by omega)
          have f5 : orI .u32 (lat l j : Int) ((lat l j1 * 65536 : Nat) : Int) = (S : Int) := by
            rw [or_u32 _ _ (by omega) (by omega), or_lim _ _ hx hy, hS]
          generalize lat l j1 * 65536 = Y at *
          refine W_if (by simp [go_sem, hb, hb']; rfl) rfl ?_
          refine W_text (by kernel_rfl) (fun K hK => ?_)
          simp [go_sem, g0, g5, f0, f1, hb, hb', c3, c4, f3, f4, f5]
          refine hK _ _ ?_; clear hK K
          exact next _ (by simp [go_sem, g0]) (by simp [go_sem, g5]) (by simp [go_sem, g6]) (by simp [go_sem, g7]) (by simp [go_sem]) (by simp [go_sem]) (by simp [go_sem, g24]) (by simp [go_sem, g25])
        · have hb' : ¬ (j1 : Int) < l.length := by omega
          have hz : lat l j1 = 0 := lat_out (by omega)
          have hS' : lat l j = S := by omega
          refine W_if (by simp [go_sem, hb, hb']; rfl) rfl ?_
          refine W_skip ?_
          exact next _ (by simp [go_sem, g0]) (by simp [go_sem, g5]) (by simp [go_sem, g6]) (by simp [go_sem, g7]) (by simp [go_sem]) (by simp [go_sem, hS']) (by simp [go_sem, g24]) (by simp [go_sem, g25])
      · have him : i = N := by omega
        subst him
        have hV2 : val (l.drop k) / 2 ^ s < 65536 ^ i := Nat.lt_of_le_of_lt (Nat.div_le_self _ _) hlast
        rw [Nat.mod_eq_of_lt hV2] at hval
        have hrep : i - i = 0 := by omega
        rw [hrep, List.replicate_zero, List.append_nil] at hB
        have hrw := RD.of_lm hB hwok (c := i) (by omega)
        have hres : lim (val (l.drop k) / 2 ^ s) = nrm ws := by rw [← hval, lim_val ws hwok]
        have hi2 : i ≤ lenB := by unfold lenB; omega
        rw [← hwl] at g7 hrw
        refine W_if (by simp [go_sem, hlt]; rfl) rfl ?_
        refine W_exit ?_
        repeat (first | refine thenG_exit ?_ | refine inBlock_other rfl ?_ | refine inBlock_same ?_)
        refine hK1 _ _ ?_; clear hK1 K1 hK2 K2
        refine W_rt (by kernel_rfl) (fun K hK => ?_)
        simp [go_sem, g7]
        refine hv_call (by simp [go_sem, g7]) rfl Try.call43 (fun R hR => ?_)
        simp [go_sem, g7]
        refine (trim_any ws _ _ _ hrw (by omega)).mono ?_
        rintro e w4 ⟨rfl, rfl⟩
        refine ⟨_, rfl, hR _ _ ?_⟩
        clear hR R
        simp [go_sem]
        refine hK _ _ ?_; clear hK K
        refine W_ret ?_
        repeat (first | refine thenG_ret ?_ | refine inBlock_ret ?_)
        rw [hres]
        refine ⟨trivial, some ⟨b2, 0, none⟩, ws.length, ?_, hrw.nrm, hE⟩
        simp [go_sem, pack, resL]
end Go.Proofs.Ytomniiobaonloaa
