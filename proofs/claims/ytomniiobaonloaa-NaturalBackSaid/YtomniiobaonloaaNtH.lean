/- Natural numbers: the specification's Mul. -/
import Derived.Test.YtomniiobaonloaaNtG
namespace Go.Proofs.Ytomniiobaonloaa
open Go.RowKit Go.V
set_option linter.unusedSimpArgs false
set_option linter.unusedVariables false

set_option maxHeartbeats 4000000 in
theorem mulR_any (l m : List Nat) (a b : Option Addr) (c d : Nat) (w : World) (hr : RD w a c l) (hs : RD w b d m) (hl : l.length ≤ lenS) (hm : m.length ≤ lenS) :
    Calls Try.prog 34 #[.slice a l.length c, .slice b m.length d] w (RetN w (lim (val l * val m))) := by
  have hl' : l.length ≤ 100000000000 := hl
  have hm' : m.length ≤ 100000000000 := hm
  obtain ⟨N, hN⟩ : ∃ N, N = l.length + m.length + 1 := ⟨_, rfl⟩
  have hwN0 : IntKind.i64.wrap (↑l.length + ↑m.length) = (l.length : Int) + m.length := IntWalk.i64_in _ (by omega)
  have hwN : IntKind.i64.wrap ((l.length : Int) + m.length + 1) = (N : Int) := by rw [IntWalk.i64_in _ (by omega)]; omega
  have hbr := fun b (hb : w.heap.size ≤ b) => hr.below hb
  have hbs := fun b (hb : w.heap.size ≤ b) => hs.below hb
  refine calls_of_W (args := [.slice a l.length c, .slice b m.length d]) (rs := [.tmp 4]) (n := 65) Try.func34 rfl rfl rfl (by kernel_rfl) ?_
  refine W_rt (by kernel_rfl) (fun K hK => ?_)
  simp [go_sem]
  refine hK _ _ ?_; clear hK K
  refine W_rt (by kernel_rfl) (fun K hK => ?_)
  simp [go_sem, hwN0, hwN]
  refine hv_make (kl := .i64) (kc := .i64) N N (by simp [go_sem, hwN0, hwN]) rfl ty_slZ22 ty_bytes39 (by simp [go_sem, hwN0, hwN]) (by simp [go_sem, hwN0, hwN]) (by omega) (by omega) (by omega) (fun w2 b2 hE2 hle2 hB2 => ?_)
  rw [Nat.mul_one, madeCells_one, lm_zeros] at hB2
  replace hr := hr.ext hE2
  replace hs := hs.ext hE2
  have hne1 := hbr b2 hle2
  have hne2 := hbs b2 hle2
  clear hbr hbs
  simp [go_sem]
  refine hK _ _ ?_; clear hK K
  refine W_seq (fun K1 hK1 => ?_)
  refine W_rt (by kernel_rfl) (fun K hK => ?_)
  simp [go_sem]
  refine hK _ _ ?_; clear hK K
  refine W_block ?_
  refine W_loop (fun t g w' => Below w.heap.size w w' ∧ RD w' a c l ∧ RD w' b d m ∧ ∃ (i : Nat) (O : List Nat), i ≤ l.length ∧ t = l.length - i ∧ g 0 = .slice a l.length c ∧ g 1 = .slice b m.length d ∧ g 5 = .slice (some ⟨b2, 0, none⟩) N N ∧ g 6 = .int .i64 i ∧
    Bx w' b2 (lmC O).toArray 39 ∧ O.length = N ∧ Ok O ∧ (∀ j, i + m.length ≤ j → lat O j = 0) ∧ val O = val (l.take i) * val m) l.length ?_ ?_
  · refine ⟨hE2, hr, hs, 0, List.replicate N 0, by omega, rfl, by simp [go_sem], by simp [go_sem], by simp [go_sem], by simp [go_sem], hB2, by simp, Ok.zeros N, ?_, by simp [val_zeros, val]⟩
    intro j _
    unfold lat; rw [List.getD_eq_getElem?_getD, List.getElem?_replicate]
    split <;> rfl
  · clear hr hs hE2 hB2
    rintro t g w' ⟨hE, hr, hs, i, O0, hi, rfl, g0, g1, g5, g6, hBx, hOl, hOok, hOz, hval⟩
    refine W_seq (fun K2 hK2 => ?_)
    refine W_rt (by kernel_rfl) (fun K hK => ?_)
    simp [go_sem, g0, g6]
    refine hK _ _ ?_; clear hK K
    by_cases hlt : i < l.length
    · have hlt' : (i : Int) < l.length := by omega
      have hw1 : IntKind.i64.wrap (↑i + 1) = (i : Int) + 1 := IntWalk.i64_in _ (by omega)
      have hvA := val_take l i hlt
      have hx := lat_lt hr.ok i
      generalize hX : lat l i = x at *
      have ex : IntKind.u64.wrap (x : Int) = x := w64_in _ (by omega)
      refine W_if (by simp [go_sem, hlt, hlt']; rfl) rfl ?_
      refine W_skip ?_
      refine hK2 _ _ ?_; clear hK2 K2
      refine W_seq (fun K2 hK2 => ?_)
      refine W_block ?_
      refine W_rt (by kernel_rfl) (fun K hK => ?_)
      simp [go_sem]
      refine hK _ _ ?_; clear hK K
      refine W_rt (by kernel_rfl) (fun K hK => ?_)
      simp [go_sem]
      refine hK _ _ ?_; clear hK K
      refine W_block ?_
      refine W_loop (fun t g w' => Below w.heap.size w w' ∧ RD w' a c l ∧ RD w' b d m ∧ ∃ (k cy : Nat) (O : List Nat), k ≤ m.length + 1 ∧ t = m.length + 1 - k ∧ g 0 = .slice a l.length c ∧ g 1 = .slice b m.length d ∧ g 5 = .slice (some ⟨b2, 0, none⟩) N N ∧ g 6 = .int .i64 i ∧ g 7 = .int .u64 cy ∧ g 8 = .int .i64 k ∧
        Bx w' b2 (lmC O).toArray 39 ∧ O.length = N ∧ Ok O ∧ (∀ j, i + m.length ≤ j → i + k ≤ j → lat O j = 0) ∧ cy < 65536 ∧ (k = m.length + 1 → cy = 0) ∧ val O + 65536 ^ (i + k) * cy = val O0 + 65536 ^ i * (x * val (m.take k))) (m.length + 1) ?_ ?_
      · exact ⟨hE, hr, hs, 0, 0, O0, by omega, rfl, by simp [go_sem, g0], by simp [go_sem, g1], by simp [go_sem, g5], by simp [go_sem, g6], by simp [go_sem], by simp [go_sem], hBx, hOl, hOok, fun j h _ => hOz j h, by omega, by omega, by simp [val]⟩
      · clear hr hs hE hBx hOok hOz hOl g0 g1 g5 g6
        rintro t g w' ⟨hE, hr, hs, k, cy, O, hk, rfl, g0, g1, g5, g6, g7, g8, hBx, hOl, hOok, hOz, hcy, hlast, hv⟩
        refine W_seq (fun K3 hK3 => ?_)
        refine W_rtJ (fun g' w1 => w1 = w' ∧ g' 0 = .slice a l.length c ∧ g' 1 = .slice b m.length d ∧ g' 5 = .slice (some ⟨b2, 0, none⟩) N N ∧ g' 6 = .int .i64 i ∧ g' 7 = .int .u64 cy ∧ g' 8 = .int .i64 k ∧ g' 30 = .bool (decide (k < m.length) || decide (0 < cy))) (by kernel_rfl) ?_ ?_
        · by_cases h1 : k < m.length
          · have h1' : (k : Int) < m.length := by omega
            simp [go_sem, g0, g1, g5, g6, g7, g8, h1, h1']
          · have h1' : ¬ (k : Int) < m.length := by omega
            simp [go_sem, g0, g1, g5, g6, g7, g8, h1, h1']
        · clear g0 g1 g5 g6 g7 g8
          rintro g' w1 ⟨rfl, g0, g1, g5, g6, g7, g8, g30⟩
          refine W_if g30 rfl ?_
          by_cases hgo : k < m.length ∨ 0 < cy
          · have hgb : (decide (k < m.length) || decide (0 < cy)) = true := by simpa using hgo
            have hkm : k ≤ m.length := by
              by_cases e : k = m.length + 1
              · have := hlast e; omega
              · omega
            have hD : Below w1.heap.size w1 w1.drew := Below.drew1 _
            replace hE := hE.next hD
            replace hr := hr.ext hD
            replace hs := hs.ext hD
            replace hBx := hBx.keep hD
            obtain ⟨c1, c2⟩ := hr.at hlt
            rw [hX] at c1
            have hy := lat_lt hs.ok k
            obtain ⟨j, hj⟩ : ∃ j, j = i + k := ⟨_, rfl⟩
            have hjl : j < O.length := by omega
            have hjN : j < N := by omega
            have hjN' : (j : Int) < N := by omega
            have d3 := bx_at hBx hjl
            have ho := lat_lt hOok j
            obtain ⟨XY, hXY⟩ : ∃ XY, XY = x * lat m k := ⟨_, rfl⟩
            have hXYb : XY ≤ 65535 * 65535 := by rw [hXY]; exact Nat.mul_le_mul (by omega) (by omega)
            obtain ⟨s, hsm⟩ : ∃ s, s = cy + lat O j + XY := ⟨_, rfl⟩
            have hstep := mul_step O O0 m i k cy x s (by omega) hv (by rw [hsm, hXY, hj])
            rw [← hj] at hstep
            have hfin : k + 1 = m.length + 1 → s / 65536 = 0 := by
              intro e
              have z1 : lat m k = 0 := lat_out (by omega)
              have z2 : lat O j = 0 := hOz j (by omega) (by omega)
              rw [z1, Nat.mul_zero] at hXY
              omega
            have e0 : IntKind.i64.wrap (↑i + ↑k) = (j : Int) := by rw [IntWalk.i64_in _ (by omega)]; omega
            have e1 : IntKind.u64.wrap (lat O j : Int) = lat O j := w64_in _ (by omega)
            have e2 : IntKind.u64.wrap (lat m k : Int) = lat m k := w64_in _ (by omega)
            have eXY : (x : Int) * (lat m k : Int) = (XY : Int) := by rw [hXY]; simp
            have e3 : IntKind.u64.wrap (XY : Int) = XY := w64_in _ (by omega)
            have e4 : IntKind.u64.wrap ((lat O j : Int) + XY) = (lat O j : Int) + XY := w64_in _ (by omega)
            have e5 : IntKind.u64.wrap ((lat O j : Int) + XY + cy) = (s : Int) := by rw [w64_in _ (by omega)]; omega
            have e6 : (s : Int).tmod 65536 = ((s % 65536 : Nat) : Int) := rfl
            have e6' : IntKind.u16.wrap ((s % 65536 : Nat) : Int) = ((s % 65536 : Nat) : Int) := w16_in _ (by omega)
            have e7 : (s : Int).tdiv 65536 = ((s / 65536 : Nat) : Int) := rfl
            have e7' : IntKind.u64.wrap ((s / 65536 : Nat) : Int) = ((s / 65536 : Nat) : Int) := w64_in _ (by omega)
            have hw2 : IntKind.i64.wrap (↑k + 1) = (k : Int) + 1 := IntWalk.i64_in _ (by omega)
            have hQ' : s % 65536 < 65536 := by omega
            have hC' : s / 65536 < 65536 := by omega
            generalize hQ : s % 65536 = Q at *
            generalize hC : s / 65536 = C at *
            simp only [hgb]
            refine W_skip ?_
            refine hK3 _ _ ?_; clear hK3 K3
            refine W_seq (fun K3 hK3 => ?_)
            refine W_block ?_
            refine W_rd [(0, 0), (1, 0), (2, 0), (3, 0), (4, 0), (5, 0), (6, 0), (7, 0), (8, 0), (9, 0), (10, 0), (11, 0), (12, 0), (13, 0), (18, 0), (14, 1), (15, 0), (16, 0), (17, 0), (19, 0), (20, 0)] (by kernel_rfl) (by kernel_rfl) (fun K hK => ?_)
            simp [go_sem, g0, g1, g5, g6, g7, g8, e0, hjN, hjN', add_mk, d3, e1, hlt, hlt', c1, c2, ex]
            refine hv_call (by simp [go_sem, g0, g1, g5, g6, g7, g8, e0, hjN, hjN', add_mk, d3, e1, hlt, hlt', c1, c2, ex]) rfl Try.call46 (fun R hR => ?_)
            simp [go_sem, g0, g1, g5, g6, g7, g8, e0, hjN, hjN', add_mk, d3, e1, hlt, hlt', c1, c2, ex]
            refine (limb_any m b d k _ hs).mono ?_
            rintro e w2 ⟨rfl, rfl⟩
            refine ⟨_, rfl, Below.refl _ _, hR _ _ ?_⟩
            clear hR R
            simp [go_sem, g0, g1, g5, g6, g7, g8, e0, hjN, hjN', add_mk, d3, e1, ex, e2, eXY, e3, e4, e5]
            refine hK _ _ ?_; clear hK K
            refine W_rt (by kernel_rfl) (fun K hK => ?_)
            simp [go_sem, g5, g6, g8, e0, e6, e6', hjN, hjN', add_mk]
            refine hv_store (b := b2) (off := j) [.int .u16 Q] (by simp [go_sem]) rfl (by simp [go_sem]) (by simp [go_sem, Value.cells]) ty_size39 hBx (by simp [lmC_len] <;> omega) (by simp [Value.oneCell']) (by decide) (fun w3 hS3 hB3 => ?_)
            rw [putC_lm] at hB3
            replace hr := hr.sto hS3 hne1
            replace hs := hs.sto hS3 hne2
            replace hE := hE.nextS hS3 hle2
            simp [go_sem]
            refine hK _ _ ?_; clear hK K
            refine W_text (by kernel_rfl) (fun K hK => ?_)
            simp [go_sem, e7, e7']
            refine hK _ _ ?_; clear hK K
            refine hK3 _ _ ?_; clear hK3 K3
            refine W_text (by kernel_rfl) (fun K hK => ?_)
            simp [go_sem, g8, hw2]
            refine hK _ _ ⟨m.length + 1 - (k + 1), by omega, hE, hr, hs, k + 1, C, O.set j Q, by omega, rfl, by simp [go_sem, g0], by simp [go_sem, g1], by simp [go_sem, g5], by simp [go_sem, g6], by simp [go_sem], by simp [go_sem], hB3, by simp [hOl], hOok.set j Q hQ', ?_, hC', hfin, hstep⟩
            intro j' h1 h2
            rw [lat_set_ne O j j' Q (by omega)]; exact hOz j' h1 (by omega)
          · have hgb : (decide (k < m.length) || decide (0 < cy)) = false := by
              simp only [not_or] at hgo
              simp [hgo.1]; omega
            have hc0 : cy = 0 := by omega
            subst hc0
            rw [List.take_of_length_le (by omega), Nat.mul_zero, Nat.add_zero] at hv
            simp only [hgb]
            refine W_exit ?_
            repeat (first | refine thenG_exit ?_ | refine inBlock_other rfl ?_ | refine inBlock_same ?_)
            refine hK2 _ _ ?_; clear hK2 K2 hK3 K3
            refine W_text (by kernel_rfl) (fun K hK => ?_)
            simp [go_sem, g6, hw1]
            refine hK _ _ ⟨l.length - (i + 1), by omega, hE, hr, hs, i + 1, O, by omega, rfl, by simp [go_sem, g0], by simp [go_sem, g1], by simp [go_sem, g5], by simp [go_sem], hBx, hOl, hOok, fun j h => hOz j (by omega) (by omega), ?_⟩
            rw [hvA, Nat.add_mul, ← hval, Nat.mul_assoc, ← hv]
    · have him : i = l.length := by omega
      subst him
      rw [List.take_length] at hval
      have hrw := RD.of_lm hBx hOok (c := N) (by omega)
      have hres : lim (val l * val m) = nrm O0 := by rw [← hval, lim_val O0 hOok]
      rw [← hOl] at g5 hrw
      refine W_if (by simp [go_sem, hlt]; rfl) rfl ?_
      refine W_exit ?_
      repeat (first | refine thenG_exit ?_ | refine inBlock_other rfl ?_ | refine inBlock_same ?_)
      refine hK1 _ _ ?_; clear hK1 K1 hK2 K2
      rw [hres]
      refine W_rt (by kernel_rfl) (fun K hK => ?_)
      simp [go_sem, g5]
      refine hv_call (by simp [go_sem, g5]) rfl Try.call18 (fun R hR => ?_)
      simp [go_sem, g5]
      refine (normR_any O0 _ _ _ hrw (by unfold lenB; omega)).mono ?_
      rintro e w4 ⟨a4, c4, rfl, hr4, hE4⟩
      refine ⟨_, rfl, hR _ _ ?_⟩
      clear hR R
      simp [go_sem]
      refine hK _ _ ?_; clear hK K
      refine W_ret ?_
      repeat (first | refine thenG_ret ?_ | refine inBlock_ret ?_)
      refine ⟨trivial, a4, c4, ?_, hr4, hE.next hE4⟩
      simp [go_sem, pack, resL]
end Go.Proofs.Ytomniiobaonloaa
