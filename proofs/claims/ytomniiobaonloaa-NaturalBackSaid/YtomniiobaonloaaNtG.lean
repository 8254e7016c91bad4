/- Natural numbers: Mul. -/
import Derived.Test.YtomniiobaonloaaNtF
namespace Go.Proofs.Ytomniiobaonloaa
open Go.RowKit Go.V
set_option linter.unusedSimpArgs false
set_option linter.unusedVariables false

theorem val_set (l : List Nat) (j x : Nat) (h : j < l.length) : val (l.set j x) + 65536 ^ j * lat l j = val l + 65536 ^ j * x := by
  induction l generalizing j with
  | nil => simp at h
  | cons y l ih =>
    cases j with
    | zero => simp [val, lat]; omega
    | succ j =>
      have := ih j (by simpa using h)
      have e : lat (y :: l) (j + 1) = lat l j := rfl
      rw [List.set_cons_succ, val, val, e, Nat.pow_succ, Nat.mul_comm (65536 ^ j) 65536, Nat.mul_assoc, Nat.mul_assoc]
      omega
theorem lat_set_ne (l : List Nat) (i j x : Nat) (h : i ≠ j) : lat (l.set i x) j = lat l j := by
  simp [lat, List.getD_eq_getElem?_getD, List.getElem?_set_ne h]
theorem Ok.set {l : List Nat} (h : Ok l) (j x : Nat) (hx : x < 65536) : Ok (l.set j x) := by
  intro y hy
  rcases List.mem_or_eq_of_mem_set hy with h' | h'
  · exact h y h'
  · rw [h']; exact hx
theorem bx_at {w : World} {b : Nat} {t : TypeId} {l : List Nat} (h : Bx w b (lmC l).toArray t) {j : Nat} (hj : j < l.length) : w.cell? ⟨b, j, none⟩ = some (.int .u16 (lat l j)) := by
  rw [h.cell, List.getElem?_toArray, lmC_get, List.getElem?_eq_getElem hj]
  simp [lat, List.getD_eq_getElem?_getD, List.getElem?_eq_getElem hj]
theorem mul_step (O O0 B : List Nat) (i k cy x s : Nat) (hj : i + k < O.length) (h : val O + 65536 ^ (i + k) * cy = val O0 + 65536 ^ i * (x * val (B.take k))) (hs : s = cy + lat O (i + k) + x * lat B k) :
    val (O.set (i + k) (s % 65536)) + 65536 ^ (i + (k + 1)) * (s / 65536) = val O0 + 65536 ^ i * (x * val (B.take (k + 1))) := by
  have h1 := val_set O (i + k) (s % 65536) hj
  rw [val_take' B k, ← Nat.add_assoc, Nat.pow_succ, Nat.mul_add, Nat.mul_add]
  have e3 : 65536 ^ i * (x * (65536 ^ k * lat B k)) = 65536 ^ (i + k) * (x * lat B k) := by
    rw [Nat.pow_add, Nat.mul_assoc, Nat.mul_left_comm x]
  rw [e3]
  generalize 65536 ^ (i + k) = P at *
  have e1 : P * (s % 65536) + P * 65536 * (s / 65536) = P * s := by rw [Nat.mul_assoc, ← Nat.mul_add, Nat.mod_add_div]
  have e2 : P * s = P * cy + P * lat O (i + k) + P * (x * lat B k) := by rw [hs, Nat.mul_add, Nat.mul_add]
  omega

set_option maxHeartbeats 4000000 in
theorem mul_any (l m : List Nat) (a b : Option Addr) (c d : Nat) (w : World) (hr : RD w a c l) (hs : RD w b d m) (hl : l.length ≤ lenS) (hm : m.length ≤ lenS) :
    Calls Try.prog 30 #[.slice a l.length c, .slice b m.length d] w (RetN w (lim (val l * val m))) := by
  have hl' : l.length ≤ 100000000000 := hl
  have hm' : m.length ≤ 100000000000 := hm
  have hn1 := nrm_len l
  have hn2 := nrm_len m
  refine calls_of_W (args := [.slice a l.length c, .slice b m.length d]) (rs := [.tmp 4]) (n := 79) Try.func30 rfl rfl rfl (by kernel_rfl) ?_
  refine W_rt (by kernel_rfl) (fun K hK => ?_)
  simp [go_sem]
  refine hK _ _ ?_; clear hK K
  refine W_rt (by kernel_rfl) (fun K hK => ?_)
  simp [go_sem]
  refine hv_call (by simp [go_sem]) rfl Try.call43 (fun R hR => ?_)
  simp [go_sem]
  refine (trim_any l a c _ hr (by unfold lenB; omega)).mono ?_
  rintro e w1 ⟨rfl, rfl⟩
  refine ⟨_, rfl, hR _ _ ?_⟩
  clear hR R
  simp [go_sem]
  refine hv_call (by simp [go_sem]) rfl Try.call43 (fun R hR => ?_)
  simp [go_sem]
  refine (trim_any m b d _ hs (by unfold lenB; omega)).mono ?_
  rintro e w1 ⟨rfl, rfl⟩
  refine ⟨_, rfl, hR _ _ ?_⟩
  clear hR R
  simp [go_sem]
  refine hK _ _ ?_; clear hK K
  have hvl := val_nrm l
  have hvm := val_nrm m
  replace hr := hr.nrm
  replace hs := hs.nrm
  rw [← hvl, ← hvm]
  generalize nrm l = A at *
  generalize nrm m = B at *
  clear hvl hvm
  refine W_seq (fun K1 hK1 => ?_)
  by_cases h0 : A = [] ∨ B = []
  · have hv : lim (val A * val B) = [] := by
      rcases h0 with rfl | rfl
      · simp [val, lim_zero]
      · simp [val, lim_zero]
    refine W_rtJ (fun g' w' => w' = w ∧ g' 22 = .bool true) (by kernel_rfl) ?_ ?_
    · by_cases hA : A = []
      · subst hA
        simp [go_sem]
      · have hB : B = [] := by rcases h0 with h | h; exact absurd h hA; exact h
        subst hB
        have hA' : ¬ A.length = 0 := fun e => hA (List.length_eq_zero_iff.1 e)
        have hA'' : ¬ (A.length : Int) = 0 := by omega
        simp [go_sem, hA, hA', hA'']
    · rintro g' w' ⟨rfl, g22⟩
      refine W_if g22 rfl ?_
      refine W_rt (by kernel_rfl) (fun K hK => ?_)
      simp [go_sem]
      refine hK _ _ ?_; clear hK K
      refine W_ret ?_
      repeat (first | refine thenG_ret ?_ | refine inBlock_ret ?_)
      rw [hv]
      refine ⟨trivial, none, 0, ?_, RD.nil _ _ _, Below.refl _ _⟩
      simp [go_sem, pack, resL]
  · simp only [not_or] at h0
    obtain ⟨hA, hB⟩ := h0
    have hA' : ¬ A.length = 0 := fun e => hA (List.length_eq_zero_iff.1 e)
    have hA'' : ¬ (A.length : Int) = 0 := by omega
    have hB' : ¬ B.length = 0 := fun e => hB (List.length_eq_zero_iff.1 e)
    have hB'' : ¬ (B.length : Int) = 0 := by omega
    refine W_rt (by kernel_rfl) (fun K hK => ?_)
    simp [go_sem, hA, hA', hA'', hB, hB', hB'']
    refine hK _ _ ?_; clear hK K
    refine W_if (by simp [go_sem, hA, hA', hA'', hB, hB', hB'']; rfl) rfl ?_
    refine W_skip ?_
    refine hK1 _ _ ?_; clear hK1 K1
    obtain ⟨N, hN⟩ : ∃ N, N = A.length + B.length := ⟨_, rfl⟩
    have hwN : IntKind.i64.wrap (↑A.length + ↑B.length) = (N : Int) := by rw [IntWalk.i64_in _ (by omega)]; omega
    have hbr := fun b (hb : w.heap.size ≤ b) => hr.below hb
    have hbs := fun b (hb : w.heap.size ≤ b) => hs.below hb
    refine W_rt (by kernel_rfl) (fun K hK => ?_)
    simp [go_sem, hwN]
    refine hv_make (kl := .i64) (kc := .i64) N N (by simp [go_sem, hwN]) rfl ty_slZ22 ty_bytes39 (by simp [go_sem, hwN]) (by simp [go_sem, hwN]) (by omega) (by omega) (by omega) (fun w2 b2 hE2 hle2 hB2 => ?_)
    rw [Nat.mul_one, madeCells_one, lm_zeros] at hB2
    replace hr := hr.ext hE2
    replace hs := hs.ext hE2
    have hne1 := hbr b2 hle2
    have hne2 := hbs b2 hle2
    clear hbr hbs
    simp [go_sem]
    refine hK _ _ ?_; clear hK K
    refine W_seq (fun K1 hK1 => ?_)
    refine W_rt (by kernel_rfl) (fun K hK => ?_)
    simp [go_sem]
    refine hK _ _ ?_; clear hK K
    refine W_block ?_
    refine W_loop (fun k g w' => Below w.heap.size w w' ∧ RD w' a c A ∧ RD w' b d B ∧ ∃ (i : Nat) (O : List Nat), i ≤ A.length ∧ k = A.length - i ∧ g 1 = .slice b B.length d ∧ g 5 = .slice (some ⟨b2, 0, none⟩) N N ∧
      g 29 = .slice a A.length c ∧ g 30 = .int .i64 A.length ∧ g 31 = .int .i64 i ∧ Bx w' b2 (lmC O).toArray 39 ∧ O.length = N ∧ Ok O ∧ (∀ j, i + B.length ≤ j → lat O j = 0) ∧ val O = val (A.take i) * val B) A.length ?_ ?_
    · refine ⟨hE2, hr, hs, 0, List.replicate N 0, by omega, rfl, by simp [go_sem], by simp [go_sem], by simp [go_sem], by simp [go_sem], by simp [go_sem], hB2, by simp, Ok.zeros N, ?_, by simp [val_zeros, val]⟩
      intro j _
      unfold lat; rw [List.getD_eq_getElem?_getD, List.getElem?_replicate]
      split <;> rfl
    · clear hr hs hE2 hB2
      rintro k g w' ⟨hE, hr, hs, i, O0, hi, rfl, g1, g5, g29, g30, g31, hBx, hOl, hOok, hOz, hval⟩
      refine W_rt (by kernel_rfl) (fun K hK => ?_)
      simp [go_sem, g30, g31]
      refine hK _ _ ?_; clear hK K
      refine W_seq (fun K2 hK2 => ?_)
      by_cases hlt : i < A.length
      · have hlt' : (i : Int) < A.length := by omega
        obtain ⟨c1, c2⟩ := hr.at hlt
        have hx := lat_lt hr.ok i
        have hw1 : IntKind.i64.wrap (↑i + 1) = (i : Int) + 1 := IntWalk.i64_in _ (by omega)
        have hvA := val_take A i hlt
        generalize hX : lat A i = x at *
        have ex : IntKind.u32.wrap (x : Int) = x := w32_in _ (by omega)
        refine W_if (by simp [go_sem, hlt, hlt']; rfl) rfl ?_
        refine W_skip ?_
        refine hK2 _ _ ?_; clear hK2 K2
        refine W_seq (fun K2 hK2 => ?_)
        refine W_block ?_
        refine W_rt (by kernel_rfl) (fun K hK => ?_)
        simp [go_sem, g29, g31, hlt, hlt', c1, c2]
        refine hK _ _ ?_; clear hK K
        refine W_rt (by kernel_rfl) (fun K hK => ?_)
        simp [go_sem]
        refine hK _ _ ?_; clear hK K
        refine W_seq (fun K3 hK3 => ?_)
        refine W_rt (by kernel_rfl) (fun K hK => ?_)
        simp [go_sem, g1]
        refine hK _ _ ?_; clear hK K
        refine W_block ?_
        refine W_loop (fun t g w' => Below w.heap.size w w' ∧ RD w' a c A ∧ RD w' b d B ∧ ∃ (k cy : Nat) (O : List Nat), k ≤ B.length ∧ t = B.length - k ∧ g 1 = .slice b B.length d ∧ g 5 = .slice (some ⟨b2, 0, none⟩) N N ∧ g 6 = .int .i64 i ∧ g 7 = .int .u16 x ∧ g 8 = .int .u32 cy ∧
          g 29 = .slice a A.length c ∧ g 30 = .int .i64 A.length ∧ g 31 = .int .i64 i ∧ g 36 = .slice b B.length d ∧ g 37 = .int .i64 B.length ∧ g 38 = .int .i64 k ∧ Bx w' b2 (lmC O).toArray 39 ∧ O.length = N ∧ Ok O ∧ (∀ j, i + B.length ≤ j → lat O j = 0) ∧ cy < 65536 ∧ val O + 65536 ^ (i + k) * cy = val O0 + 65536 ^ i * (x * val (B.take k))) B.length ?_ ?_
        · exact ⟨hE, hr, hs, 0, 0, O0, by omega, rfl, by simp [go_sem, g1], by simp [go_sem, g5], by simp [go_sem], by simp [go_sem], by simp [go_sem], by simp [go_sem, g29], by simp [go_sem, g30], by simp [go_sem, g31], by simp [go_sem], by simp [go_sem], by simp [go_sem], hBx, hOl, hOok, hOz, by omega, by simp [val]⟩
        · clear hr hs hE hBx hOok hOz hOl g1 g5 g29 g30 g31 c1 c2
          rintro t g w' ⟨hE, hr, hs, k, cy, O, hk, rfl, g1, g5, g6, g7, g8, g29, g30, g31, g36, g37, g38, hBx, hOl, hOok, hOz, hcy, hv⟩
          refine W_rt (by kernel_rfl) (fun K hK => ?_)
          simp [go_sem, g37, g38]
          refine hK _ _ ?_; clear hK K
          refine W_seq (fun K4 hK4 => ?_)
          by_cases hkl : k < B.length
          · have hkl' : (k : Int) < B.length := by omega
            obtain ⟨d1, d2⟩ := hs.at hkl
            have hy := lat_lt hs.ok k
            obtain ⟨j, hj⟩ : ∃ j, j = i + k := ⟨_, rfl⟩
            have hjl : j < O.length := by omega
            have hjN : j < N := by omega
            have hjN' : (j : Int) < N := by omega
            have d3 := bx_at hBx hjl
            have ho := lat_lt hOok j
            obtain ⟨XY, hXY⟩ : ∃ XY, XY = x * lat B k := ⟨_, rfl⟩
            have hXYb : XY ≤ 65535 * 65535 := by rw [hXY]; exact Nat.mul_le_mul (by omega) (by omega)
            obtain ⟨s, hsm⟩ : ∃ s, s = cy + lat O j + XY := ⟨_, rfl⟩
            have hstep := mul_step O O0 B i k cy x s (by omega) hv (by rw [hsm, hXY, hj])
            rw [← hj] at hstep
            have e0 : IntKind.i64.wrap (↑i + ↑k) = (j : Int) := by rw [IntWalk.i64_in _ (by omega)]; omega
            have e1 : IntKind.u32.wrap (lat O j : Int) = lat O j := w32_in _ (by omega)
            have e2 : IntKind.u32.wrap (lat B k : Int) = lat B k := w32_in _ (by omega)
            have eXY : (x : Int) * (lat B k : Int) = (XY : Int) := by rw [hXY]; simp
            have e3 : IntKind.u32.wrap (XY : Int) = XY := w32_in _ (by omega)
            have e4 : IntKind.u32.wrap ((lat O j : Int) + XY) = (lat O j : Int) + XY := w32_in _ (by omega)
            have e5 : IntKind.u32.wrap ((cy : Int) + ((lat O j : Int) + XY)) = (s : Int) := by rw [w32_in _ (by omega)]; omega
            have e6 : IntKind.u16.wrap (s : Int) = ((s % 65536 : Nat) : Int) := w16 s
            have e7 : shrI .u32 (s : Int) 16 = ((s / 65536 : Nat) : Int) := shr_nat .u32 s 16 (by decide)
            have hw2 : IntKind.i64.wrap (↑k + 1) = (k : Int) + 1 := IntWalk.i64_in _ (by omega)
            have hQ' : s % 65536 < 65536 := by omega
            have hC' : s / 65536 < 65536 := by omega
            generalize hQ : s % 65536 = Q at *
            generalize hC : s / 65536 = C at *
            refine W_if (by simp [go_sem, hkl, hkl']; rfl) rfl ?_
            refine W_skip ?_
            refine hK4 _ _ ?_; clear hK4 K4
            refine W_seq (fun K4 hK4 => ?_)
            refine W_block ?_
            refine W_rt (by kernel_rfl) (fun K hK => ?_)
            simp [go_sem, g36, g38, hkl, hkl', d1, d2]
            refine hK _ _ ?_; clear hK K
            refine W_rt (by kernel_rfl) (fun K hK => ?_)
            simp [go_sem, g5, g6, g7, g8, e0, hjN, hjN', add_mk, d3, e1, ex, e2, eXY, e3, e4, e5]
            refine hK _ _ ?_; clear hK K
            refine W_rt (by kernel_rfl) (fun K hK => ?_)
            simp [go_sem, g5, g6, e0, e6, hjN, hjN', add_mk]
            refine hv_store (b := b2) (off := j) [.int .u16 Q] (by simp [go_sem]) rfl (by simp [go_sem]) (by simp [go_sem, Value.cells]) ty_size39 hBx (by simp [lmC_len] <;> omega) (by simp [Value.oneCell']) (by decide) (fun w3 hS3 hB3 => ?_)
            rw [putC_lm] at hB3
            replace hr := hr.sto hS3 hne1
            replace hs := hs.sto hS3 hne2
            replace hE := hE.nextS hS3 hle2
            simp [go_sem]
            refine hK _ _ ?_; clear hK K
            refine W_text (by kernel_rfl) (fun K hK => ?_)
            simp [go_sem, e7]
            refine hK _ _ ?_; clear hK K
            refine hK4 _ _ ?_; clear hK4 K4
            refine W_text (by kernel_rfl) (fun K hK => ?_)
            simp [go_sem, g38, hw2]
            refine hK _ _ ⟨B.length - (k + 1), by omega, hE, hr, hs, k + 1, C, O.set j Q, by omega, rfl, by simp [go_sem, g1], by simp [go_sem, g5], by simp [go_sem, g6], by simp [go_sem, g7], by simp [go_sem], by simp [go_sem, g29], by simp [go_sem, g30], by simp [go_sem, g31], by simp [go_sem, g36], by simp [go_sem, g37], by simp [go_sem], hB3, by simp [hOl], hOok.set j Q hQ', ?_, hC', hstep⟩
            intro j' hj'
            rw [lat_set_ne O j j' Q (by omega)]; exact hOz j' hj'
          · have hkb : k = B.length := by omega
            subst hkb
            rw [List.take_length] at hv
            obtain ⟨j, hj⟩ : ∃ j, j = i + B.length := ⟨_, rfl⟩
            have hjl : j < O.length := by omega
            have hjN : j < N := by omega
            have hjN' : (j : Int) < N := by omega
            have e0 : IntKind.i64.wrap (↑i + ↑B.length) = (j : Int) := by rw [IntWalk.i64_in _ (by omega)]; omega
            have e6 : IntKind.u16.wrap (cy : Int) = cy := w16_in _ (by omega)
            refine W_if (by simp [go_sem, hkl]; rfl) rfl ?_
            refine W_exit ?_
            repeat (first | refine thenG_exit ?_ | refine inBlock_other rfl ?_ | refine inBlock_same ?_)
            refine hK3 _ _ ?_; clear hK3 K3 hK4 K4
            refine W_text (by kernel_rfl) (fun K hK => ?_)
            simp [go_sem, g1, g5, g6, g8, e0, e6, hjN, hjN', add_mk]
            refine hv_store (b := b2) (off := j) [.int .u16 cy] (by simp [go_sem]) rfl (by simp [go_sem]) (by simp [go_sem, Value.cells]) ty_size39 hBx (by simp [lmC_len] <;> omega) (by simp [Value.oneCell']) (by decide) (fun w3 hS3 hB3 => ?_)
            rw [putC_lm] at hB3
            replace hr := hr.sto hS3 hne1
            replace hs := hs.sto hS3 hne2
            replace hE := hE.nextS hS3 hle2
            have hset := val_set O j cy hjl
            have hz := hOz j (by omega)
            simp [go_sem]
            refine hK _ _ ?_; clear hK K
            refine hK2 _ _ ?_; clear hK2 K2
            refine W_text (by kernel_rfl) (fun K hK => ?_)
            simp [go_sem, g31, hw1]
            refine hK _ _ ⟨A.length - (i + 1), by omega, hE, hr, hs, i + 1, O.set j cy, by omega, rfl, by simp [go_sem, g1], by simp [go_sem, g5], by simp [go_sem, g29], by simp [go_sem, g30], by simp [go_sem], hB3, by simp [hOl], hOok.set j cy hcy, ?_, ?_⟩
            · intro j' hj'
              rw [lat_set_ne O j j' cy (by omega)]; exact hOz j' (by omega)
            · rw [hz] at hset
              rw [hvA, Nat.add_mul, ← hval, Nat.mul_assoc, ← hv, ← hj]; omega
      · have him : i = A.length := by omega
        subst him
        rw [List.take_length] at hval
        have hrw := RD.of_lm hBx hOok (c := N) (by omega)
        have hres : lim (val A * val B) = nrm O0 := by rw [← hval, lim_val O0 hOok]
        rw [← hOl] at g5 hrw
        refine W_if (by simp [go_sem, hlt]; rfl) rfl ?_
        refine W_exit ?_
        repeat (first | refine thenG_exit ?_ | refine inBlock_other rfl ?_ | refine inBlock_same ?_)
        refine hK1 _ _ ?_; clear hK1 K1 hK2 K2
        refine W_rt (by kernel_rfl) (fun K hK => ?_)
        simp [go_sem, g5]
        refine hv_call (by simp [go_sem, g5]) rfl Try.call43 (fun R hR => ?_)
        simp [go_sem, g5]
        refine (trim_any O0 _ _ _ hrw (by unfold lenB; omega)).mono ?_
        rintro e w4 ⟨rfl, rfl⟩
        refine ⟨_, rfl, hR _ _ ?_⟩
        clear hR R
        simp [go_sem]
        refine hK _ _ ?_; clear hK K
        refine W_ret ?_
        repeat (first | refine thenG_ret ?_ | refine inBlock_ret ?_)
        rw [hres]
        refine ⟨trivial, some ⟨b2, 0, none⟩, O0.length, ?_, hrw.nrm, hE⟩
        simp [go_sem, pack, resL]
end Go.Proofs.Ytomniiobaonloaa
