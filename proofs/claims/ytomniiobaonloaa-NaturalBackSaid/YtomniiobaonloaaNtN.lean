/- Natural numbers: Shift. -/
import Derived.Test.YtomniiobaonloaaNtM
namespace Go.Proofs.Ytomniiobaonloaa
open Go.RowKit Go.V
set_option linter.unusedSimpArgs false
set_option linter.unusedVariables false

theorem shl_step (O : List Nat) (j lo hi h w : Nat) (hj : j + 1 < O.length) (h0 : lat O j = h) (h1 : lat O (j + 1) = 0) (hw : lo = w % 65536) (hh : hi = w / 65536) :
    val ((O.set j (h + lo)).set (j + 1) hi) = val O + 65536 ^ j * w := by
  have e1 := val_set O j (h + lo) (by omega)
  have e2 := val_set (O.set j (h + lo)) (j + 1) hi (by rw [List.length_set]; omega)
  rw [lat_set_ne _ _ _ _ (by omega), h1, Nat.mul_zero, Nat.add_zero] at e2
  rw [h0] at e1
  rw [e2, Nat.pow_succ]
  generalize 65536 ^ j = P at *
  have e3 : P * (w % 65536) + P * 65536 * (w / 65536) = P * w := by rw [Nat.mul_assoc, ← Nat.mul_add, Nat.mod_add_div]
  rw [Nat.mul_add] at e1
  rw [hw, hh] at *
  omega
theorem own_trim {w : World} {b base c : Nat} {O r : List Nat} (h : Bx w b (lmC (O ++ r)).toArray 39) (hb : base ≤ b) (hc : c = O.length + r.length) (hm : c ≤ maxLen) :
    w.ownsRow base 39 1 (.slice (some ⟨b, 0, none⟩) (nrm O).length c) (nrm O).length (lmC (nrm O)) := by
  have hl := nrm_len O
  refine ⟨by rw [lmC_len, Nat.mul_one], .inr ⟨b, _, _, rfl, hb, h.heap, by omega, hm, by simp [lmC_len, hc], ?_⟩⟩
  rw [Nat.mul_one]
  show (lmC (O ++ r)).take _ = _
  rw [← lmC_take]
  congr 1
  rw [List.take_append_of_le_length hl, ← nrm_pre]

set_option maxHeartbeats 4000000 in
theorem shl_any (l : List Nat) (a : Option Addr) (c n : Nat) (w : World) (hr : RD w a c l) (hl : l.length ≤ lenS) (hn : n ≤ 1048576) :
    Calls Try.prog 41 #[.slice a l.length c, .int .i64 n] w (RetO w (val l * 2 ^ n)) := by
  have hl' : l.length ≤ 100000000000 := hl
  have hn1 := nrm_len l
  have i1 : ¬ (n : Int) < -1048576 := by omega
  have i2 : ¬ (1048576 : Int) < n := by omega
  have i3 : ¬ (n : Int) < 0 := by omega
  have e1 : (n : Int).tdiv 16 = ((n / 16 : Nat) : Int) := rfl
  have e1' : IntKind.i64.wrap ((n / 16 : Nat) : Int) = ((n / 16 : Nat) : Int) := IntWalk.i64_in _ (by omega)
  have e2 : (n : Int).tmod 16 = ((n % 16 : Nat) : Int) := rfl
  have hks : n = 16 * (n / 16) + n % 16 := by omega
  have hs16 : n % 16 < 16 := by omega
  have hk : n / 16 ≤ 65536 := by omega
  generalize n / 16 = k at *
  generalize n % 16 = s at *
  refine calls_of_W (args := [.slice a l.length c, .int .i64 n]) (rs := [.tmp 4]) (n := 78) Try.func41 rfl rfl rfl (by kernel_rfl) ?_
  refine W_rt (by kernel_rfl) (fun K hK => ?_)
  simp [go_sem]
  refine hK _ _ ?_; clear hK K
  refine W_rt (by kernel_rfl) (fun K hK => ?_)
  simp [go_sem]
  refine hv_call (by simp [go_sem]) rfl Try.call43 (fun R hR => ?_)
  simp [go_sem]
  refine (trim_any l a c _ hr (by unfold lenB; omega)).mono ?_
  rintro e w1 ⟨rfl, rfl⟩
  refine ⟨_, rfl, hR _ _ ?_⟩
  clear hR R
  simp [go_sem]
  refine hK _ _ ?_; clear hK K
  have hvl := val_nrm l
  replace hr := hr.nrm
  rw [← hvl]
  generalize nrm l = L at *
  clear hvl
  have hbr := fun b (hb : w.heap.size ≤ b) => hr.below hb
  refine W_seq (fun K1 hK1 => ?_)
  by_cases h0 : L.length = 0
  · have e0 : L = [] := List.length_eq_zero_iff.1 h0
    subst e0
    refine W_rt (by kernel_rfl) (fun K hK => ?_)
    simp [go_sem, i1, i2]
    refine hK _ _ ?_; clear hK K
    refine W_if (by simp [go_sem, i1, i2]; rfl) rfl ?_
    refine W_rt (by kernel_rfl) (fun K hK => ?_)
    simp [go_sem]
    refine hK _ _ ?_; clear hK K
    refine W_ret ?_
    repeat (first | refine thenG_ret ?_ | refine inBlock_ret ?_)
    have hz : lim (val [] * 2 ^ n) = [] := by simp [val, lim_zero]
    refine ⟨trivial, .slice none 0 0, ?_, ?_, Below.refl _ _⟩
    · simp [go_sem, pack, resL]
    · rw [hz]; exact World.ownsRow_nil _ _ _ _
  · have h0' : ¬ (L.length : Int) = 0 := by omega
    have h0'' : ¬ L = [] := by intro e; subst e; exact h0 rfl
    refine W_rt (by kernel_rfl) (fun K hK => ?_)
    simp [go_sem, i1, i2, h0, h0', h0'']
    refine hK _ _ ?_; clear hK K
    refine W_if (by simp [go_sem, i1, i2, h0, h0', h0'']; rfl) rfl ?_
    refine W_skip ?_
    refine hK1 _ _ ?_; clear hK1 K1
    refine W_seq (fun K1 hK1 => ?_)
    refine W_rt (by kernel_rfl) (fun K hK => ?_)
    simp [go_sem, i3]
    refine hK _ _ ?_; clear hK K
    refine W_if (by simp [go_sem, i3]; rfl) rfl ?_
    refine W_skip ?_
    refine hK1 _ _ ?_; clear hK1 K1
    refine W_rt (by kernel_rfl) (fun K hK => ?_)
    simp [go_sem, e1, e1', e2]
    refine hK _ _ ?_; clear hK K
    obtain ⟨N, hN⟩ : ∃ N, N = L.length + k + 1 := ⟨_, rfl⟩
    have f1 : IntKind.i64.wrap (↑L.length + ↑k) = (L.length : Int) + k := IntWalk.i64_in _ (by omega)
    have f2 : IntKind.i64.wrap ((L.length : Int) + k + 1) = (N : Int) := by rw [IntWalk.i64_in _ (by omega)]; omega
    have f3 : IntKind.i64.wrap ((L.length : Int) + k + 3) = ((N + 2 : Nat) : Int) := by rw [IntWalk.i64_in _ (by omega)]; omega
    obtain ⟨M, hM⟩ : ∃ M, M = N + 2 := ⟨_, rfl⟩
    rw [← hM] at f3
    refine W_rt (by kernel_rfl) (fun K hK => ?_)
    simp [go_sem, f1, f2, f3]
    refine hv_make (kl := .i64) (kc := .i64) N M (by simp [go_sem, f1, f2, f3]) rfl ty_slZ22 ty_bytes39 (by simp [go_sem, f1, f2, f3]) (by simp [go_sem, f1, f2, f3]) (by omega) (by omega) (by omega) (fun w2 b2 hE2 hle2 hB2 => ?_)
    rw [Nat.mul_one, madeCells_one, lm_zeros, hM, ← List.replicate_append_replicate] at hB2
    replace hr := hr.ext hE2
    have hne1 := hbr b2 hle2
    clear hbr
    simp [go_sem]
    refine hK _ _ ?_; clear hK K
    refine W_seq (fun K1 hK1 => ?_)
    refine W_rt (by kernel_rfl) (fun K hK => ?_)
    simp [go_sem]
    refine hK _ _ ?_; clear hK K
    refine W_block ?_
    refine W_loop (fun t g w' => Below w.heap.size w w' ∧ RD w' a c L ∧ ∃ (i : Nat) (O : List Nat), i ≤ L.length ∧ t = L.length - i ∧ g 5 = .int .i64 k ∧ g 6 = .int .i64 s ∧ g 7 = .slice (some ⟨b2, 0, none⟩) N M ∧ g 45 = .slice a L.length c ∧ g 46 = .int .i64 L.length ∧ g 47 = .int .i64 i ∧
      Bx w' b2 (lmC (O ++ List.replicate 2 0)).toArray 39 ∧ O.length = N ∧ Ok O ∧ (∀ j, i + k < j → lat O j = 0) ∧ lat O (i + k) < 2 ^ s ∧ val O = val (L.take i) * 2 ^ n) L.length ?_ ?_
    · have hz : ∀ j, lat (List.replicate N 0) j = 0 := by
        intro j
        unfold lat; rw [List.getD_eq_getElem?_getD, List.getElem?_replicate]
        split <;> rfl
      exact ⟨hE2, hr, 0, List.replicate N 0, by omega, rfl, by simp [go_sem], by simp [go_sem], by simp [go_sem], by simp [go_sem], by simp [go_sem], by simp [go_sem], hB2, by simp, Ok.zeros N, fun j _ => hz j, by rw [hz]; exact Nat.pow_pos (by decide), by simp [val_zeros, val]⟩
    · clear hr hE2 hB2
      rintro t g w' ⟨hE, hr, i, O, hi, rfl, g5, g6, g7, g45, g46, g47, hB, hOl, hOok, hOz, hOh, hval⟩
      refine W_rt (by kernel_rfl) (fun K hK => ?_)
      simp [go_sem, g46, g47]
      refine hK _ _ ?_; clear hK K
      refine W_seq (fun K2 hK2 => ?_)
      by_cases hlt : i < L.length
      · have hlt' : (i : Int) < L.length := by omega
        obtain ⟨c1, c2⟩ := hr.at hlt
        have hx := lat_lt hr.ok i
        obtain ⟨j, hj⟩ : ∃ j, j = i + k := ⟨_, rfl⟩
        rw [← hj] at hOh
        have hjN : j < N := by omega
        have hjN' : (j : Int) < N := by omega
        obtain ⟨s1, s2, s3, s4⟩ := shl_parts (lat L i) (lat O j) s hx hs16 hOh
        have hstep := shl_step O j _ _ _ (lat L i * 2 ^ s) (by omega) rfl (hOz (j + 1) (by omega)) rfl rfl
        have hvt := val_take L i hlt
        have p1 : IntKind.i64.wrap (↑i + ↑k) = (j : Int) := by rw [IntWalk.i64_in _ (by omega)]; omega
        have p2 : IntKind.i64.wrap ((j : Int) + 1) = ((j + 1 : Nat) : Int) := by rw [IntWalk.i64_in _ (by omega)]; omega
        have p3 : IntKind.u32.wrap (lat L i : Int) = lat L i := w32_in _ (by omega)
        have p4 : shlI .u32 (lat L i : Int) (s : Int) = ((lat L i * 2 ^ s : Nat) : Int) := by
          rw [shl_nat .u32 _ _ (by show s ≤ 32; omega)]; exact w32_in _ (by omega)
        have hpow : 65536 ^ j * (lat L i * 2 ^ s) = 65536 ^ i * lat L i * 2 ^ n := by
          rw [hj, Nat.pow_add, hks, Nat.pow_add, pow_16 k]
          generalize 65536 ^ i = P1
          generalize 2 ^ (16 * k) = P2
          ac_rfl
        have p5 : IntKind.u16.wrap ((lat L i * 2 ^ s : Nat) : Int) = ((lat L i * 2 ^ s % 65536 : Nat) : Int) := w16 _
        have p6 : orI .u16 (lat O j : Int) ((lat L i * 2 ^ s % 65536 : Nat) : Int) = ((lat O j + lat L i * 2 ^ s % 65536 : Nat) : Int) := by
          rw [or_u16 _ _ (by omega) (Nat.mod_lt _ (by decide)), s1]
        have p7 : shrI .u32 ((lat L i * 2 ^ s : Nat) : Int) 16 = ((lat L i * 2 ^ s / 65536 : Nat) : Int) := shr_nat .u32 _ 16 (by decide)
        have p8 : IntKind.u16.wrap ((lat L i * 2 ^ s / 65536 : Nat) : Int) = ((lat L i * 2 ^ s / 65536 : Nat) : Int) := by
          have h15 : 2 ^ s ≤ 2 ^ 15 := Nat.pow_le_pow_right (by decide) (by omega)
          refine w16_in _ ⟨by omega, ?_⟩
          have : lat L i * 2 ^ s / 65536 < 65536 := by omega
          omega
        have hw1 : IntKind.i64.wrap (↑i + 1) = (i : Int) + 1 := IntWalk.i64_in _ (by omega)
        have hOk2 : Ok (O.set j (lat O j + lat L i * 2 ^ s % 65536)) := hOok.set j _ s2
        have h15 : 2 ^ s ≤ 2 ^ 15 := Nat.pow_le_pow_right (by decide) (by omega)
        have hhi : lat L i * 2 ^ s / 65536 < 65536 := by omega
        have p0 : (0 : Int) ≤ s := by omega
        have d1 : w'.cell? ⟨b2, j, none⟩ = some (.int .u16 (lat O j)) := by
          have := bx_at hB (j := j) (by simp; omega)
          rw [this]
          have e : lat (O ++ List.replicate 2 0) j = lat O j := by
            simp [lat, List.getD_eq_getElem?_getD, List.getElem?_append_left (show j < O.length by omega)]
          rw [e]
        rw [hpow] at hstep
        generalize hlo : lat O j + lat L i * 2 ^ s % 65536 = lo at *
        generalize lat L i * 2 ^ s % 65536 = q at *
        generalize hHI : lat L i * 2 ^ s / 65536 = hh at *
        generalize lat L i * 2 ^ s = W at *
        obtain ⟨j1, hj1⟩ : ∃ j1, j1 = j + 1 := ⟨_, rfl⟩
        rw [← hj1] at p2 hstep
        have hj1N : j1 < N := by omega
        have hj1N' : (j1 : Int) < N := by omega
        refine W_if (by simp [go_sem, hlt, hlt']; rfl) rfl ?_
        refine W_skip ?_
        refine hK2 _ _ ?_; clear hK2 K2
        refine W_seq (fun K2 hK2 => ?_)
        refine W_block ?_
        refine W_rt (by kernel_rfl) (fun K hK => ?_)
        simp [go_sem, g45, g47, hlt, hlt', c1, c2]
        refine hK _ _ ?_; clear hK K
        refine W_rt (by kernel_rfl) (fun K hK => ?_)
        simp [go_sem, g6, p3, p4, p0]
        refine hK _ _ ?_; clear hK K
        refine W_rt (by kernel_rfl) (fun K hK => ?_)
        simp [go_sem, g5, g7, p1, hjN, hjN', add_mk, d1, p5, p6]
        refine hv_store (b := b2) (off := j) [.int .u16 lo] (by simp [go_sem]) rfl (by simp [go_sem]) (by simp [go_sem, Value.cells]) ty_size39 hB (by simp [lmC_len] <;> omega) (by simp [Value.oneCell']) (by decide) (fun w4 hS4 hB4 => ?_)
        rw [putC_lm, List.set_append_left _ _ (by omega)] at hB4
        replace hr := hr.sto hS4 hne1
        replace hE := hE.nextS hS4 hle2
        clear hS4 hB
        simp [go_sem]
        refine hK _ _ ?_; clear hK K
        refine W_text (by kernel_rfl) (fun K hK => ?_)
        simp [go_sem, g5, g7, p1, p2, p7, p8, hj1N, hj1N', add_mk]
        refine hv_store (b := b2) (off := j1) [.int .u16 hh] (by simp [go_sem]) rfl (by simp [go_sem]) (by simp [go_sem, Value.cells]) ty_size39 hB4 (by simp [lmC_len] <;> omega) (by simp [Value.oneCell']) (by decide) (fun w5 hS5 hB5 => ?_)
        rw [putC_lm, List.set_append_left _ _ (by rw [List.length_set]; omega)] at hB5
        replace hr := hr.sto hS5 hne1
        replace hE := hE.nextS hS5 hle2
        simp [go_sem]
        refine hK _ _ ?_; clear hK K
        refine hK2 _ _ ?_; clear hK2 K2
        refine W_text (by kernel_rfl) (fun K hK => ?_)
        simp [go_sem, g47, hw1]
        refine hK _ _ ⟨L.length - (i + 1), by omega, hE, hr, i + 1, (O.set j lo).set j1 hh, by omega, rfl, by simp [go_sem, g5], by simp [go_sem, g6], by simp [go_sem, g7], by simp [go_sem, g45], by simp [go_sem, g46], by simp [go_sem], hB5, by simp [hOl], hOk2.set j1 hh hhi, ?_, ?_, ?_⟩
        · intro j' hj'
          rw [lat_set_ne _ _ _ _ (by omega), lat_set_ne _ _ _ _ (by omega)]
          exact hOz j' (by omega)
        · have e : i + 1 + k = j1 := by omega
          rw [e]
          have : lat ((O.set j lo).set j1 hh) j1 = hh := by
            simp [lat, List.getD_eq_getElem?_getD, List.getElem?_set, show j1 < O.length by omega]
          rw [this]; exact s3
        · rw [hstep, hval, hvt, Nat.add_mul]
      · have him : i = L.length := by omega
        subst him
        rw [List.take_length] at hval
        have hown := own_trim (base := w.heap.size) hB hle2 (c := M) (by simp; omega) (by unfold maxLen; omega)
        have hres : lim (val L * 2 ^ n) = nrm O := by rw [← hval, lim_val O hOok]
        have hrw : RD w' (some ⟨b2, 0, none⟩) M O := by
          rw [lmC_app] at hB
          exact RD.of_bx hB hOok (by omega)
        rw [← hOl] at g7
        refine W_if (by simp [go_sem, hlt]; rfl) rfl ?_
        refine W_exit ?_
        repeat (first | refine thenG_exit ?_ | refine inBlock_other rfl ?_ | refine inBlock_same ?_)
        refine hK1 _ _ ?_; clear hK1 K1 hK2 K2
        refine W_rt (by kernel_rfl) (fun K hK => ?_)
        simp [go_sem, g7]
        refine hv_call (by simp [go_sem, g7]) rfl Try.call43 (fun R hR => ?_)
        simp [go_sem, g7]
        refine (trim_any O _ _ _ hrw (by unfold lenB; omega)).mono ?_
        rintro e w4 ⟨rfl, rfl⟩
        refine ⟨_, rfl, hR _ _ ?_⟩
        clear hR R
        simp [go_sem]
        refine hK _ _ ?_; clear hK K
        refine W_ret ?_
        repeat (first | refine thenG_ret ?_ | refine inBlock_ret ?_)
        refine ⟨trivial, .slice (some ⟨b2, 0, none⟩) (nrm O).length M, ?_, ?_, hE⟩
        · simp [go_sem, pack, resL]
        · rw [hres]; exact hown
end Go.Proofs.Ytomniiobaonloaa
