/- Natural numbers: long, the long division: the walk. -/
import Derived.Test.YtomniiobaonloaaNtQ
import Derived.Test.YtomniiobaonloaaVD
namespace Go.Proofs.Ytomniiobaonloaa
open Go.RowKit Go.V
set_option linter.unusedSimpArgs false
set_option linter.unusedVariables false

theorem drop_len_lt (L : List Nat) (t V : Nat) (h : t = L.length) (hV : 0 < V) : val (L.drop t) < V := by
  rw [List.drop_eq_nil_of_le (by omega)]; exact hV
theorem long_end (L out : List Nat) (V L0 : Nat) (h : val L + 65536 ^ 0 * (val (out.drop 0) * V) = L0) (hlt : val (L.drop 0) < V) : val out = L0 / V ∧ val L = L0 % V := by
  simp only [List.drop_zero, Nat.pow_zero, Nat.one_mul] at h hlt
  have hV : 0 < V := by omega
  have e : L0 = val L + V * val out := by rw [← h, Nat.mul_comm V]
  subst e
  constructor
  · rw [Nat.add_mul_div_left _ _ hV, Nat.div_eq_of_lt hlt, Nat.zero_add]
  · rw [Nat.add_mul_mod_self_left, Nat.mod_eq_of_lt hlt]

set_option maxHeartbeats 16000000 in
theorem long_any (Z : List Value) (L V : List Nat) (b cu bv n k : Nat) (a : Option Addr) (c : Nat) (w : World) (hB : Bx w b (lmC L ++ Z).toArray 39) (hok : Ok L) (hs : RB w bv a c V) (hneV : bv ≠ b) (hbv : bv < w.heap.size)
    (hn : V.length = n) (hk : n = k + 2) (htop : lat V (k + 1) ≠ 0) (hL : n < L.length) (hlt0 : val (L.drop (L.length - n)) < val V) (hl : L.length ≤ lenS) (hcu : L.length ≤ cu) :
    Calls Try.prog 49 #[.slice (some ⟨b, 0, none⟩) L.length cu, .slice a V.length c] w fun e w' => ∃ a' c' L', e = .returned (.slice a' (lim (val L / val V)).length c') ∧ RD w' a' c' (lim (val L / val V)) ∧ L'.length = L.length ∧ Ok L' ∧ val L' = val L % val V ∧
      Bx w' b (lmC L' ++ Z).toArray 39 ∧ Wr w w' b := by
  have hl' : L.length ≤ 100000000000 := hl
  have hbl := hB.lt
  obtain ⟨M, hM⟩ : ∃ M, M = L.length - n := ⟨_, rfl⟩
  have hVT : val V < 65536 ^ n := by rw [← hn]; exact val_lt _ hs.rd.ok
  have hV0 : 0 < val V := by omega
  obtain ⟨dt1, dt2, dt3⟩ := div_top V k (by omega)
  have hvl := val_take_lt V hs.rd.ok k
  have hvx := lat_lt hs.rd.ok (k + 1)
  have hvy := lat_lt hs.rd.ok k
  have hvlen : V.length ≤ lenS := by omega
  obtain ⟨hc1, hc2⟩ := hs.rd.at (i := k + 1) (by omega)
  refine calls_of_W (args := [.slice (some ⟨b, 0, none⟩) L.length cu, .slice a V.length c]) (rs := [.tmp 4]) (n := 108) Try.func49 rfl rfl rfl (by kernel_rfl) ?_
  first | refine W_rt (by kernel_rfl) (fun K hK => ?_) | refine W_text (by kernel_rfl) (fun K hK => ?_)
  simp [go_sem]
  refine hv_box #[.slice (some ⟨b, 0, none⟩) L.length cu] (by simp [go_sem]) rfl (by simp [go_sem, Value.cells]) (fun w2 b2 hE2 hle2 hB2 => ?_)
  replace hB := hB.keep hE2
  replace hs := hs.keep hE2
  have hW : Wr w w2 b := .of_below b hE2
  simp [go_sem]
  refine hv_box #[.slice a V.length c] (by simp [go_sem]) rfl (by simp [go_sem, Value.cells]) (fun w3 b3 hE3 hle3 hB3 => ?_)
  have hb3 := hB2.lt
  replace hB := hB.keep hE3
  replace hs := hs.keep hE3
  replace hB2 := hB2.keep hE3
  replace hW := hW.keep hE3
  simp [go_sem]
  refine hK _ _ ?_; clear hK K
  have k3 := hB3.get0
  first | refine W_rt (by kernel_rfl) (fun K hK => ?_) | refine W_text (by kernel_rfl) (fun K hK => ?_)
  simp [go_sem, k3]
  refine hv_alloc (by simp [go_sem, k3]) rfl ty_zeroC3 (fun w5 b5 hE5 hle5 hB5 => ?_)
  have hb5 := hB3.lt
  replace hB := hB.keep hE5
  replace hs := hs.keep hE5
  replace hB2 := hB2.keep hE5
  replace hB3 := hB3.keep hE5
  replace hW := hW.keep hE5
  simp [go_sem]
  refine hv_store (b := b5) (off := 0) [.int .i64 V.length] (by simp [go_sem, k3]) rfl (by simp [go_sem, k3]) (by simp [go_sem, Value.cells, k3]) ty_size3 hB5 (by simp) (by simp [Value.oneCell']) (by decide) (fun w5 hS5 hB5 => ?_)
  simp [putC] at hB5
  replace hB := hB.sto hS5 (by omega)
  replace hs := hs.sto hS5 (by omega)
  replace hB2 := hB2.sto hS5 (by omega)
  replace hB3 := hB3.sto hS5 (by omega)
  replace hW := hW.sto2 hS5 (by omega)
  rw [hn] at hB5
  simp [go_sem]
  refine hK _ _ ?_; clear hK K
  have k2 := hB2.get0
  have k5 := hB5.get0
  have fM : IntKind.i64.wrap ((L.length : Int) - n) = (M : Int) := by rw [IntWalk.i64_in _ (by omega)]; omega
  first | refine W_rt (by kernel_rfl) (fun K hK => ?_) | refine W_text (by kernel_rfl) (fun K hK => ?_)
  simp [go_sem, k2, k5, fM]
  refine hv_make (kl := .i64) (kc := .i64) M M (by simp [go_sem, fM]) rfl ty_slZ22 ty_bytes39 (by simp [go_sem, fM]) (by simp [go_sem, fM]) (by omega) (by omega) (by omega) (fun w6 b6 hE6 hle6 hB6 => ?_)
  rw [Nat.mul_one, madeCells_one, lm_zeros] at hB6
  have hb6 := hB5.lt
  replace hB := hB.keep hE6
  replace hs := hs.keep hE6
  replace hB2 := hB2.keep hE6
  replace hB3 := hB3.keep hE6
  replace hB5 := hB5.keep hE6
  replace hW := hW.keep hE6
  replace k2 := hB2.get0
  replace k5 := hB5.get0
  simp [go_sem]
  refine hK _ _ ?_; clear hK K
  refine W_seq (fun K1 hK1 => ?_)
  have fM1 : IntKind.i64.wrap ((M : Int) - 1) = (M : Int) - 1 := IntWalk.i64_in _ (by omega)
  first | refine W_rt (by kernel_rfl) (fun K hK => ?_) | refine W_text (by kernel_rfl) (fun K hK => ?_)
  simp [go_sem, k2, k5, fM, fM1]
  refine hv_alloc (by simp [go_sem, k2, k5, fM, fM1]) rfl ty_zeroC3 (fun w7 b7 hE7 hle7 hB7 => ?_)
  have hb7 := hB6.lt
  replace hB := hB.keep hE7
  replace hs := hs.keep hE7
  replace hB2 := hB2.keep hE7
  replace hB3 := hB3.keep hE7
  replace hB5 := hB5.keep hE7
  replace hB6 := hB6.keep hE7
  replace hW := hW.keep hE7
  replace k2 := hB2.get0
  replace k5 := hB5.get0
  simp [go_sem, k2, k5, fM, fM1]
  refine hv_store (b := b7) (off := 0) [.int .i64 (M - 1)] (by simp [go_sem, k2, k5, fM, fM1]) rfl (by simp [go_sem, k2, k5, fM, fM1]) (by simp [go_sem, Value.cells, k2, k5, fM, fM1]) ty_size3 hB7 (by simp) (by simp [Value.oneCell']) (by decide) (fun w7 hS7 hB7 => ?_)
  simp [putC] at hB7
  replace hB := hB.sto hS7 (by omega)
  replace hs := hs.sto hS7 (by omega)
  replace hB2 := hB2.sto hS7 (by omega)
  replace hB3 := hB3.sto hS7 (by omega)
  replace hB5 := hB5.sto hS7 (by omega)
  replace hB6 := hB6.sto hS7 (by omega)
  replace hW := hW.sto2 hS7 (by omega)
  simp [go_sem]
  refine hK _ _ ?_; clear hK K
  refine W_block ?_
  refine W_loop (fun t g w' => ∃ (b7 : Nat) (L' out : List Nat), t ≤ M ∧ b6 < b7 ∧ g 2 = .pointer (some ⟨b2, 0, none⟩) ∧ g 3 = .pointer (some ⟨b3, 0, none⟩) ∧ g 5 = .pointer (some ⟨b5, 0, none⟩) ∧ g 6 = .slice (some ⟨b6, 0, none⟩) M M ∧ g 7 = .pointer (some ⟨b7, 0, none⟩) ∧
    Wr w w' b ∧ Bx w' b (lmC L' ++ Z).toArray 39 ∧ RB w' bv a c V ∧ Bx w' b2 #[.slice (some ⟨b, 0, none⟩) L.length cu] 23 ∧ Bx w' b3 #[.slice a V.length c] 23 ∧ Bx w' b5 #[.int .i64 n] 3 ∧ Bx w' b6 (lmC out).toArray 39 ∧ Bx w' b7 #[.int .i64 ((t : Int) - 1)] 3 ∧
    L'.length = L.length ∧ Ok L' ∧ out.length = M ∧ Ok out ∧ val L' + 65536 ^ t * (val (out.drop t) * val V) = val L ∧ val (L'.drop t) < val V) M ?_ ?_
  · exact ⟨b7, L, List.replicate M 0, by omega, by omega, by simp [go_sem], by simp [go_sem], by simp [go_sem], by simp [go_sem], by simp [go_sem], hW, hB, hs, hB2, hB3, hB5, hB6, hB7, rfl, hok, by simp, Ok.zeros M, by rw [List.drop_eq_nil_of_le (by simp)]; simp [val], by rw [hM]; exact hlt0⟩
  · clear hW hB hs hB2 hB3 hB5 hB6 hB7 k2 k3 k5 hE2 hE3 hE5 hE6 hE7 hS5 hS7
    rintro t g w' ⟨b7, L', out, htM, h67, g2, g3, g5, g6, g7, hW, hB, hs, hB2, hB3, hB5, hB6, hB7, hLl, hLok, hol, hook, hval, hlt⟩
    have k7 := hB7.get0
    refine W_seq (fun K2 hK2 => ?_)
    rcases t with _ | j
    · obtain ⟨r1, r2⟩ := long_end L' out (val V) (val L) hval hlt
      have hrw := RD.of_lm hB6 hook (c := M) (by omega)
      have hres : lim (val L / val V) = nrm out := by rw [← r1, lim_val out hook]
      have hi2 : out.length ≤ lenB := by unfold lenB; omega
      rw [← hol] at g6 hrw
      first | refine W_rt (by kernel_rfl) (fun K hK => ?_) | refine W_text (by kernel_rfl) (fun K hK => ?_)
      simp [go_sem, g7, k7]
      refine hK _ _ ?_; clear hK K
      refine W_if (by simp [go_sem]; rfl) rfl ?_
      refine W_exit ?_
      repeat (first | refine thenG_exit ?_ | refine inBlock_other rfl ?_ | refine inBlock_same ?_)
      refine hK1 _ _ ?_; clear hK1 K1 hK2 K2
      first | refine W_rt (by kernel_rfl) (fun K hK => ?_) | refine W_text (by kernel_rfl) (fun K hK => ?_)
      simp [go_sem, g6]
      refine hv_call (by simp [go_sem, g6]) rfl Try.call43 (fun R hR => ?_)
      simp [go_sem, g6]
      refine (trim_any out _ _ _ hrw hi2).mono ?_
      rintro e w8 ⟨rfl, rfl⟩
      refine ⟨_, rfl, hR _ _ ?_⟩
      clear hR R
      simp [go_sem]
      refine hK _ _ ?_; clear hK K
      refine W_ret ?_
      repeat (first | refine thenG_ret ?_ | refine inBlock_ret ?_)
      rw [hres]
      refine ⟨trivial, some ⟨b6, 0, none⟩, out.length, L', ?_, hrw.nrm, hLl, hLok, r2, hB, hW⟩
      simp [go_sem, pack, resL]
    · have ej : ((j + 1 : Nat) : Int) - 1 = (j : Int) := by omega
      rw [ej] at hB7 k7
      have p0 : (0 : Int) ≤ j := by omega
      first | refine W_rt (by kernel_rfl) (fun K hK => ?_) | refine W_text (by kernel_rfl) (fun K hK => ?_)
      simp [go_sem, g7, k7, p0]
      refine hK _ _ ?_; clear hK K
      refine W_if (by simp [go_sem, p0]; rfl) rfl ?_
      refine W_skip ?_
      refine hK2 _ _ ?_; clear hK2 K2
      -- the window
      obtain ⟨hz, hub, hsplit⟩ := win_zero L' j n (val V) hLok (by omega) hlt hVT
      have hul : ((L'.drop j).take (n + 1)).length = n + 1 := by rw [List.length_take, List.length_drop]; omega
      have huok : Ok ((L'.drop j).take (n + 1)) := (hLok.drop j).take _
      have hplen : (L'.take j).length = j := by rw [List.length_take]; omega
      have wt := win_top _ k (by rw [hul, hk])
      obtain ⟨low, wt2, hlow⟩ := win_top2 _ k (by rw [hul, hk]) huok
      have hlowk := val_take_lt _ huok k
      rw [lat_td L' j (n + 1) k (by omega), lat_td L' j (n + 1) (k + 1) (by omega), lat_td L' j (n + 1) (k + 2) (by omega)] at wt
      rw [lat_td L' j (n + 1) (k + 1) (by omega), lat_td L' j (n + 1) (k + 2) (by omega)] at wt2
      obtain ⟨u, hu⟩ : ∃ u, u = (L'.drop j).take (n + 1) := ⟨_, rfl⟩
      obtain ⟨post, hpost⟩ : ∃ post, post = L'.drop (j + n + 1) := ⟨_, rfl⟩
      obtain ⟨pre, hpre⟩ : ∃ pre, pre = L'.take j := ⟨_, rfl⟩
      rw [← hu] at hub hsplit hul huok wt wt2 hlowk
      rw [← hpost] at hz hsplit
      rw [← hpre] at hsplit hplen
      have hx0 := lat_lt hLok (j + (k + 2))
      have hx1 := lat_lt hLok (j + (k + 1))
      have hx2 := lat_lt hLok (j + k)
      -- what is read
      have rd : ∀ (w1 : World), Bx w1 b (lmC L' ++ Z).toArray 39 → ∀ i, i < L'.length → w1.cell? ⟨b, i, none⟩ = some (.int .u16 (lat L' i)) := by
        intro w1 hB1 i hi
        exact bx_atZ hB1 hi
      obtain ⟨H, hH⟩ : ∃ H, H = lat L' (j + (k + 2)) * 65536 + lat L' (j + (k + 1)) := ⟨_, rfl⟩
      rw [← hH] at wt wt2
      have hHb : H < 4294967296 := by omega
      obtain ⟨v1, hv1⟩ : ∃ v1, v1 = lat V (k + 1) := ⟨_, rfl⟩
      rw [← hv1] at htop dt1 dt2 dt3 hvx hc1
      have hv1p : 0 < v1 := by omega
      obtain ⟨d0, hd0⟩ : ∃ d0, d0 = H / v1 := ⟨_, rfl⟩
      obtain ⟨r0, hr0⟩ : ∃ r0, r0 = H % v1 := ⟨_, rfl⟩
      have est0 := est_first (val u) (val V) (65536 ^ (k + 1)) H v1 low d0 wt2 hlow dt2 hv1p hd0
      have hdm : d0 * v1 + r0 = H := by rw [hd0, hr0, Nat.mul_comm]; exact Nat.div_add_mod H v1
      have hdb : d0 ≤ H := by rw [hd0]; exact Nat.div_le_self _ _
      have hrb : r0 < v1 := by rw [hr0]; exact Nat.mod_lt _ hv1p
      have s5 : (H : Int).tdiv v1 = (d0 : Int) := by rw [hd0]; rfl
      have s6 : (H : Int).tmod v1 = (r0 : Int) := by rw [hr0]; rfl
      clear hd0 hr0
      refine W_seq (fun K2 hK2 => ?_)
      refine W_block ?_
      -- high
      have hD : Below w'.heap.size w' w'.drew := Below.drew1 _
      replace hB := hB.keep hD
      replace hs := hs.keep hD
      replace hB2 := hB2.keep hD
      replace hB3 := hB3.keep hD
      replace hB5 := hB5.keep hD
      replace hB6 := hB6.keep hD
      replace hB7 := hB7.keep hD
      replace hW := hW.keep hD
      replace k7 := hB7.get0
      have k2 := hB2.get0
      have k3 := hB3.get0
      have k5 := hB5.get0
      obtain ⟨P0, hP0⟩ : ∃ P0, P0 = j + (k + 2) := ⟨_, rfl⟩
      obtain ⟨P1, hP1⟩ : ∃ P1, P1 = j + (k + 1) := ⟨_, rfl⟩
      rw [← hP0, ← hP1] at hH
      rw [← hP0] at hx0
      rw [← hP1] at hx1
      have c0 := rd _ hB P0 (by omega)
      have c1 := rd _ hB P1 (by omega)
      have f0 : IntKind.i64.wrap ((j : Int) + n) = (P0 : Int) := by rw [IntWalk.i64_in _ (by omega)]; omega
      have f1 : IntKind.i64.wrap ((P0 : Int) - 1) = (P1 : Int) := by rw [IntWalk.i64_in _ (by omega)]; omega
      have q0 : P0 < L.length := by omega
      have q0' : (P0 : Int) < L.length := by omega
      have q1 : P1 < L.length := by omega
      have q1' : (P1 : Int) < L.length := by omega
      generalize lat L' P0 = u0 at *
      generalize lat L' P1 = u1 at *
      have s0 : IntKind.u64.wrap (u0 : Int) = u0 := w64_in _ (by omega)
      have s1 : IntKind.u64.wrap (u1 : Int) = u1 := w64_in _ (by omega)
      obtain ⟨u06, hu06⟩ : ∃ x, x = u0 * 65536 := ⟨_, rfl⟩
      have s2 : shlI .u64 (u0 : Int) 16 = (u06 : Int) := by
        have := shl_nat .u64 u0 16 (by decide)
        have e : IntKind.u64.wrap ((u0 * 2 ^ 16 : Nat) : Int) = ((u0 * 65536 : Nat) : Int) := w64_in _ (by omega)
        rw [e] at this; rw [hu06]; exact this
      have s3 : orI .u64 (u06 : Int) (u1 : Int) = (H : Int) := by
        rw [or_u64 _ _ (by omega) (by omega), Nat.or_comm, hu06]
        have := or_add u1 u0 16 (by omega)
        simp at this
        rw [this]; omega
      first | refine W_rd [(0, 0), (1, 0), (2, 0), (3, 0), (4, 0), (5, 0), (6, 0), (7, 0), (8, 0), (9, 0), (10, 0), (11, 0), (12, 0), (13, 0), (14, 0), (15, 0), (16, 0), (17, 0)] (by kernel_rfl) (by kernel_rfl) (fun K hK => ?_) | refine W_draw [(0, 0), (1, 0), (2, 0), (3, 0), (4, 0), (5, 0), (6, 0), (7, 0), (8, 0), (9, 0), (10, 0), (11, 0), (12, 0), (13, 0), (14, 0), (15, 0), (16, 0), (17, 0)] (by kernel_rfl) (by kernel_rfl) (fun K hK => ?_)
      simp [go_sem, g2, g5, g7, k2, k5, k7, f0, f1, q0, q0', q1, q1', c0, c1, s0, s1, s2, s3, add_mk]
      refine hK _ _ ?_; clear hK K
      -- digit and rest
      have hD2 : Below w'.drew.heap.size w'.drew w'.drew.drew := Below.drew1 _
      replace hB := hB.keep hD2
      replace hs := hs.keep hD2
      replace hB2 := hB2.keep hD2
      replace hB3 := hB3.keep hD2
      replace hB5 := hB5.keep hD2
      replace hB6 := hB6.keep hD2
      replace hB7 := hB7.keep hD2
      replace hW := hW.keep hD2
      replace k3 := hB3.get0
      replace k5 := hB5.get0
      obtain ⟨hc1, hc2⟩ := hs.rd.at (i := k + 1) (by omega)
      rw [← hv1] at hc1
      have f2 : IntKind.i64.wrap ((n : Int) - 1) = ((k + 1 : Nat) : Int) := by rw [IntWalk.i64_in _ (by omega)]; omega
      obtain ⟨k1, hk1⟩ : ∃ k1, k1 = k + 1 := ⟨_, rfl⟩
      rw [← hk1] at hc1 f2
      have q2 : k1 < V.length := by omega
      have q2' : (k1 : Int) < V.length := by omega
      have s4 : IntKind.u64.wrap (v1 : Int) = v1 := w64_in _ (by omega)
      have s5' : IntKind.u64.wrap (d0 : Int) = (d0 : Int) := w64_in _ (by omega)
      have hv1' : ¬ v1 = 0 := by omega
      have hB7l := hB7.lt
      obtain ⟨w1, hw1⟩ : ∃ w1, w1 = w'.drew.drew := ⟨_, rfl⟩
      refine W_rdTJ (fun g' w2 => ∃ b9 b10, b7 < b9 ∧ b7 < b10 ∧ b9 ≠ b10 ∧ g' 2 = .pointer (some ⟨b2, 0, none⟩) ∧ g' 3 = .pointer (some ⟨b3, 0, none⟩) ∧ g' 5 = .pointer (some ⟨b5, 0, none⟩) ∧ g' 6 = .slice (some ⟨b6, 0, none⟩) M M ∧ g' 7 = .pointer (some ⟨b7, 0, none⟩) ∧ g' 9 = .pointer (some ⟨b9, 0, none⟩) ∧ g' 10 = .pointer (some ⟨b10, 0, none⟩) ∧ Below w1.heap.size w1 w2 ∧ Bx w2 b9 #[.int .u64 d0] 24 ∧ Bx w2 b10 #[.int .u64 r0] 24) (.li 0 (.li 1 (.li 2 (.li 3 (.li 4 (.li 5 (.li 6 (.li 7 (.li 8 (.li 9 (.li 10 (.li 11 (.li 12 (.li 13 (.li 14 (.li 15 (.fork 16 (.hv 17 (.hv 18 (.hv 19 .done))) (.hv 17 (.hv 16 (.hv 18 (.hv 19 .done))))))))))))))))))))) (by kernel_rfl) (by kernel_rfl) ?_ ?_
      · intro w0 hw0
        rw [← hw0] at hw1
        subst hw1
        rw [← hw0] at k3 k5 hc1 hB7l
        clear hw0
        simp [go_sem, g3, g5, k3, k5, f2, q2, q2', hc1, hc2, s4, s5, s5', s6, hv1']
        refine ⟨?_, ?_⟩
        · refine hv_alloc (by simp [go_sem, g3]) rfl ty_zeroC24 (fun w9 b9 hE9 hle9 hB9 => ?_)
          refine nxT_intro hE9 ?_
          simp [go_sem]
          refine hv_alloc (by simp [go_sem, g3]) rfl ty_zeroC24 (fun w10 b10 hE10 hle10 hB10 => ?_)
          have hb10 := hB9.lt
          replace hB9 := hB9.keep hE10
          refine nxT_intro (hE10.mono hE9.size) ?_
          simp [go_sem]
          refine hv_store (b := b9) (off := 0) [.int .u64 d0] (by simp [go_sem]) rfl (by simp [go_sem]) (by simp [go_sem, Value.cells]) ty_size24 hB9 (by simp) (by simp [Value.oneCell']) (by decide) (fun w11 hS11 hB11 => ?_)
          simp [putC] at hB11
          refine nxT_intro (hS11.below hle9) ?_
          replace hB10 := hB10.sto hS11 (by omega)
          simp [go_sem]
          refine hv_store (b := b10) (off := 0) [.int .u64 r0] (by simp [go_sem]) rfl (by simp [go_sem]) (by simp [go_sem, Value.cells]) ty_size24 hB10 (by simp) (by simp [Value.oneCell']) (by decide) (fun w12 hS12 hB12 => ?_)
          simp [putC] at hB12
          refine nxT_intro (hS12.below (by omega)) ?_
          replace hB11 := hB11.sto hS12 (by omega)
          simp [go_sem, g2, g3, g5, g6, g7]
          exact ⟨b9, by omega, b10, by omega, by omega, rfl, rfl, ((hE9.next hE10).nextS hS11 hle9).nextS hS12 (by omega), hB11, hB12⟩
        · refine hv_alloc (by simp [go_sem, g3]) rfl ty_zeroC24 (fun w10 b10 hE10 hle10 hB10 => ?_)
          refine nxT_intro hE10 ?_
          simp [go_sem]
          refine hv_alloc (by simp [go_sem, g3]) rfl ty_zeroC24 (fun w9 b9 hE9 hle9 hB9 => ?_)
          have hb10 := hB10.lt
          replace hB10 := hB10.keep hE9
          refine nxT_intro (hE9.mono hE10.size) ?_
          simp [go_sem]
          refine hv_store (b := b9) (off := 0) [.int .u64 d0] (by simp [go_sem]) rfl (by simp [go_sem]) (by simp [go_sem, Value.cells]) ty_size24 hB9 (by simp) (by simp [Value.oneCell']) (by decide) (fun w11 hS11 hB11 => ?_)
          simp [putC] at hB11
          refine nxT_intro (hS11.below (by omega)) ?_
          replace hB10 := hB10.sto hS11 (by omega)
          simp [go_sem]
          refine hv_store (b := b10) (off := 0) [.int .u64 r0] (by simp [go_sem]) rfl (by simp [go_sem]) (by simp [go_sem, Value.cells]) ty_size24 hB10 (by simp) (by simp [Value.oneCell']) (by decide) (fun w12 hS12 hB12 => ?_)
          simp [putC] at hB12
          refine nxT_intro (hS12.below (by omega)) ?_
          replace hB11 := hB11.sto hS12 (by omega)
          simp [go_sem, g2, g3, g5, g6, g7]
          exact ⟨b9, by omega, b10, by omega, by omega, rfl, rfl, ((hE10.next hE9).nextS hS11 (by omega)).nextS hS12 (by omega), hB11, hB12⟩
      rw [← hw1] at hB hs hB2 hB3 hB5 hB6 hB7 hW
      clear g2 g3 g5 g6 g7
      rintro g w2 ⟨b9, b10, hb79, hb710, hb910, g2, g3, g5, g6, g7, g9, g10, hE2, hB9, hB10⟩
      replace hB := hB.keep hE2
      replace hs := hs.keep hE2
      replace hB2 := hB2.keep hE2
      replace hB3 := hB3.keep hE2
      replace hB5 := hB5.keep hE2
      replace hB6 := hB6.keep hE2
      replace hB7 := hB7.keep hE2
      replace hW := hW.keep hE2
      first | refine W_rt (by kernel_rfl) (fun K hK => ?_) | refine W_text (by kernel_rfl) (fun K hK => ?_)
      simp [go_sem, g2, g3, g5, g7, g9, g10]
      refine hK _ _ ?_; clear hK K
      refine W_seq (fun K3 hK3 => ?_)
      refine W_block ?_
      clear hc1 hc2 k2 k3 k5 k7 c0 c1 hD2 hE2
      refine W_loop (fun m g w' => ∃ (d r : Nat), m = 65536 - r ∧ g 2 = .pointer (some ⟨b2, 0, none⟩) ∧ g 3 = .pointer (some ⟨b3, 0, none⟩) ∧ g 5 = .pointer (some ⟨b5, 0, none⟩) ∧ g 6 = .slice (some ⟨b6, 0, none⟩) M M ∧ g 7 = .pointer (some ⟨b7, 0, none⟩) ∧
        g 9 = .pointer (some ⟨b9, 0, none⟩) ∧ g 10 = .pointer (some ⟨b10, 0, none⟩) ∧ g 11 = .func (.func 55) #[] #[.pointer (some ⟨b9, 0, none⟩), .pointer (some ⟨b3, 0, none⟩), .pointer (some ⟨b5, 0, none⟩), .pointer (some ⟨b10, 0, none⟩), .pointer (some ⟨b2, 0, none⟩), .pointer (some ⟨b7, 0, none⟩)] ∧
        Wr w w' b ∧ Bx w' b (lmC L' ++ Z).toArray 39 ∧ RB w' bv a c V ∧ Bx w' b2 #[.slice (some ⟨b, 0, none⟩) L.length cu] 23 ∧ Bx w' b3 #[.slice a V.length c] 23 ∧ Bx w' b5 #[.int .i64 n] 3 ∧ Bx w' b6 (lmC out).toArray 39 ∧ Bx w' b7 #[.int .i64 j] 3 ∧
        Bx w' b9 #[.int .u64 d] 24 ∧ Bx w' b10 #[.int .u64 r] 24 ∧ d * v1 + r = H ∧ val u < (d + 1) * val V ∧ r < 65536 + 65536) (65536 - r0) ?_ ?_
      · exact ⟨d0, r0, rfl, by simp [go_sem, g2], by simp [go_sem, g3], by simp [go_sem, g5], by simp [go_sem, g6], by simp [go_sem, g7], by simp [go_sem, g9], by simp [go_sem, g10], by simp [go_sem, g2, g3, g5, g7, g9, g10], hW, hB, hs, hB2, hB3, hB5, hB6, hB7, hB9, hB10, hdm, est0, by omega⟩
      · clear g2 g3 g5 g6 g7 g9 g10 hW hB hs hB2 hB3 hB5 hB6 hB7 hB9 hB10
        clear g
        rintro m g w1 ⟨d, r, rfl, g2, g3, g5, g6, g7, g9, g10, g11, hW, hB, hs, hB2, hB3, hB5, hB6, hB7, hB9, hB10, hdr, hest, hr2⟩
        refine W_seq (fun K4 hK4 => ?_)
        have k9 := hB9.get0
        have k10 := hB10.get0
        have k2 := hB2.get0
        have k3 := hB3.get0
        have k5 := hB5.get0
        have k7 := hB7.get0
        have hdH : d ≤ H := Nat.le_trans (Nat.le_mul_of_pos_right d hv1p) (Nat.le.intro hdr)
        obtain ⟨D, hDe⟩ : ∃ D : Prop, D = (65536 ≤ d ∨ r * 65536 + lat L' (j + k) < d * lat V k) := ⟨_, rfl⟩
        -- what the round's test says
        refine W_rtJ (fun g' w2 => Below w1.heap.size w1 w2 ∧ g' 2 = .pointer (some ⟨b2, 0, none⟩) ∧ g' 3 = .pointer (some ⟨b3, 0, none⟩) ∧ g' 5 = .pointer (some ⟨b5, 0, none⟩) ∧ g' 6 = .slice (some ⟨b6, 0, none⟩) M M ∧ g' 7 = .pointer (some ⟨b7, 0, none⟩) ∧ g' 9 = .pointer (some ⟨b9, 0, none⟩) ∧ g' 10 = .pointer (some ⟨b10, 0, none⟩) ∧ g' 11 = g 11 ∧ g' 67 = .bool (decide (r < 65536) && decide (65536 ≤ d ∨ r * 65536 + lat L' (j + k) < d * lat V k))) (by kernel_rfl) ?_ ?_
        · by_cases hr : r < 65536
          · have hr' : (r : Int) < 65536 := by omega
            simp [go_sem, g10, g11, k10, hr, hr']
            refine hv_callc (by simp [go_sem]) rfl (by simp [go_sem, g11]; rfl) Try.call55 (fun R1 hR => ?_)
            simp [go_sem, g11]
            rw [← hLl] at k2
            refine (tooGreat_any b9 b3 b5 b10 b2 b7 d r n j k L' V b 39 Z cu a c _ k9 k3 k5 k10 k2 k7 hB hLok hs.rd hn hk (by omega) (by omega) hr).mono ?_
            rintro e w3 ⟨rfl, hE⟩
            refine ⟨_, rfl, hR _ _ ?_⟩
            clear hR R1
            simp [go_sem, g2, g3, g5, g6, g7, g9, g10, g11]
            exact hE
          · have hr' : ¬ (r : Int) < 65536 := by omega
            simp [go_sem, g2, g3, g5, g6, g7, g9, g10, g11, k10, hr, hr']
            exact Below.refl _ _
        · clear g2 g3 g5 g6 g7 g9 g10 k2 k3 k5 k7 k9 k10
          rintro g' w2 ⟨hE, g2, g3, g5, g6, g7, g9, g10, g11', g67⟩
          rw [g11] at g11'
          clear g11
          replace hB := hB.keep hE
          replace hs := hs.keep hE
          replace hB2 := hB2.keep hE
          replace hB3 := hB3.keep hE
          replace hB5 := hB5.keep hE
          replace hB6 := hB6.keep hE
          replace hB7 := hB7.keep hE
          replace hB9 := hB9.keep hE
          replace hB10 := hB10.keep hE
          replace hW := hW.keep hE
          have k9 := hB9.get0
          have k10 := hB10.get0
          refine W_if g67 rfl ?_
          by_cases hgo : r < 65536 ∧ (65536 ≤ d ∨ r * 65536 + lat L' (j + k) < d * lat V k)
          · obtain ⟨hrs, htoo⟩ := hgo
            obtain ⟨hd0, hest2⟩ := est_next (val u) (val V) (65536 ^ k) H v1 (lat V k) (lat L' (j + k)) _ d r wt hlowk dt3 hdr hub hest htoo
            obtain ⟨d', rfl⟩ : ∃ d', d = d' + 1 := ⟨d - 1, by omega⟩
            obtain ⟨r', hr'⟩ : ∃ r', r' = r + v1 := ⟨_, rfl⟩
            have hdr' : d' * v1 + r' = H := by rw [Nat.add_mul, Nat.one_mul] at hdr; omega
            have f3 : IntKind.u64.wrap (((d' + 1 : Nat) : Int) - 1) = (d' : Int) := by rw [w64_in _ (by omega)]; omega
            have f4 : IntKind.u64.wrap ((r : Int) + v1) = (r' : Int) := by rw [w64_in _ (by omega)]; omega
            generalize hD1 : ((d' + 1 : Nat) : Int) = D1 at *
            simp only [hrs, htoo, decide_true, Bool.and_self, cond_true]
            refine W_skip ?_
            refine hK4 _ _ ?_; clear hK4 K4
            refine W_block ?_
            first | refine W_rt (by kernel_rfl) (fun K hK => ?_) | refine W_text (by kernel_rfl) (fun K hK => ?_)
            simp [go_sem, g9, k9, f3]
            refine hv_store (b := b9) (off := 0) [.int .u64 d'] (by simp [go_sem, g9, k9, f3]) rfl (by simp [go_sem, g9, k9, f3]) (by simp [go_sem, Value.cells, g9, k9, f3]) ty_size24 hB9 (by simp) (by simp [Value.oneCell']) (by decide) (fun w11 hS11 hB11 => ?_)
            simp [putC] at hB11
            replace hB := hB.sto hS11 (by omega)
            replace hs := hs.sto hS11 (by omega)
            replace hB2 := hB2.sto hS11 (by omega)
            replace hB3 := hB3.sto hS11 (by omega)
            replace hB5 := hB5.sto hS11 (by omega)
            replace hB6 := hB6.sto hS11 (by omega)
            replace hB7 := hB7.sto hS11 (by omega)
            replace hB10 := hB10.sto hS11 (by omega)
            replace hW := hW.sto2 hS11 (by omega)
            clear hS11 hB9
            have hB9 := hB11
            clear hB11
            simp [go_sem]
            refine hK _ _ ?_; clear hK K
            have hD : Below w11.heap.size w11 w11.drew := Below.drew1 _
            replace hB := hB.keep hD
            replace hs := hs.keep hD
            replace hB2 := hB2.keep hD
            replace hB3 := hB3.keep hD
            replace hB5 := hB5.keep hD
            replace hB6 := hB6.keep hD
            replace hB7 := hB7.keep hD
            replace hB9 := hB9.keep hD
            replace hB10 := hB10.keep hD
            replace hW := hW.keep hD
            have k3 := hB3.get0
            have k5 := hB5.get0
            replace k10 := hB10.get0
            obtain ⟨hc1, hc2⟩ := hs.rd.at (i := k + 1) (by omega)
            rw [← hv1, ← hk1] at hc1
            first | refine W_rd [(0, 0), (1, 0), (2, 0), (3, 0), (4, 0), (5, 0), (6, 0), (7, 0), (8, 2)] (by kernel_rfl) (by kernel_rfl) (fun K hK => ?_) | refine W_draw [(0, 0), (1, 0), (2, 0), (3, 0), (4, 0), (5, 0), (6, 0), (7, 0), (8, 2)] (by kernel_rfl) (by kernel_rfl) (fun K hK => ?_)
            simp [go_sem, g3, g5, g10, k3, k5, k10, f2, q2, q2', hc1, hc2, s4, f4]
            refine hv_store (b := b10) (off := 0) [.int .u64 r'] (by simp [go_sem, g10, f4]) rfl (by simp [go_sem, g10, f4]) (by simp [go_sem, Value.cells, g10, f4]) ty_size24 hB10 (by simp) (by simp [Value.oneCell']) (by decide) (fun w12 hS12 hB12 => ?_)
            simp [putC] at hB12
            replace hB := hB.sto hS12 (by omega)
            replace hs := hs.sto hS12 (by omega)
            replace hB2 := hB2.sto hS12 (by omega)
            replace hB3 := hB3.sto hS12 (by omega)
            replace hB5 := hB5.sto hS12 (by omega)
            replace hB6 := hB6.sto hS12 (by omega)
            replace hB7 := hB7.sto hS12 (by omega)
            replace hB9 := hB9.sto hS12 (by omega)
            replace hW := hW.sto2 hS12 (by omega)
            clear hS12 hB10
            have hB10 := hB12
            clear hB12
            simp [go_sem]
            exact hK _ _ ⟨65536 - r', by omega, d', r', rfl, by simp [go_sem, g2], by simp [go_sem, g3], by simp [go_sem, g5], by simp [go_sem, g6], by simp [go_sem, g7], by simp [go_sem, g9], by simp [go_sem, g10], by simp [go_sem, g11'], hW, hB, hs, hB2, hB3, hB5, hB6, hB7, hB9, hB10, hdr', hest2, by omega⟩
          · have hdone : 65536 ≤ r ∨ (d < 65536 ∧ d * lat V k ≤ r * 65536 + lat L' (j + k)) := by
              by_cases hr : r < 65536
              · right
                have : ¬ (65536 ≤ d ∨ r * 65536 + lat L' (j + k) < d * lat V k) := fun h => hgo ⟨hr, h⟩
                simp only [not_or, Nat.not_le, Nat.not_lt] at this
                exact this
              · left; omega
            have hb0 : (decide (r < 65536) && decide (65536 ≤ d ∨ r * 65536 + lat L' (j + k) < d * lat V k)) = false := by
              rw [Bool.and_eq_false_iff]
              by_cases hr : r < 65536
              · right
                have : ¬ (65536 ≤ d ∨ r * 65536 + lat L' (j + k) < d * lat V k) := fun h => hgo ⟨hr, h⟩
                exact decide_eq_false this
              · left; exact decide_eq_false hr
            simp only [hb0, cond_false]
            obtain ⟨hd16, hlast⟩ := est_last (val u) (val V) (65536 ^ k) H v1 (lat V k) 0 (lat L' (j + k)) _ _ d r wt hlowk dt1 hvl hv1p hvx hvy hx2 hdr hub hdone
            refine W_exit ?_
            repeat (first | refine thenG_exit ?_ | refine inBlock_other rfl ?_ | refine inBlock_same ?_)
            refine hK3 _ _ ?_; clear hK3 K3 hK4 K4
            clear k9 k10 g67 hb0 hdone hgo hlow est0 hdm hdb hrb hr2
            have f6 : IntKind.i64.wrap ((P0 : Int) + 1) = ((P0 + 1 : Nat) : Int) := by rw [IntWalk.i64_in _ (by omega)]; omega
            have f7 : IntKind.u32.wrap (d : Int) = d := w32_in _ (by omega)
            obtain ⟨E, hE1⟩ : ∃ E, E = P0 + 1 := ⟨_, rfl⟩
            rw [← hE1] at f6
            have hEj : E - j = u.length := by omega
            have hcj : ¬ cu = j := by omega
            have q3 : E ≤ cu := by omega
            have q3' : (E : Int) ≤ cu := by omega
            have q4 : j ≤ E := by omega
            have q4' : (j : Int) ≤ E := by omega
            have hpok : Ok pre := by rw [hpre]; exact hLok.take _
            have hqok : Ok post := by rw [hpost]; exact hLok.drop _
            have hB' : Bx w2 b (lmC (pre ++ u ++ post) ++ Z).toArray 39 := by rw [← hsplit]; exact hB
            clear hB
            have hB := hB'
            clear hB'
            have hulB : u.length ≤ lenB := by unfold lenB; omega
            refine W_seq (fun K3 hK3 => ?_)
            -- behind the digit
            have fin : ∀ (g : G) (w2 : World) (us : List Nat) (d : Nat), g 2 = .pointer (some ⟨b2, 0, none⟩) → g 3 = .pointer (some ⟨b3, 0, none⟩) → g 5 = .pointer (some ⟨b5, 0, none⟩) → g 6 = .slice (some ⟨b6, 0, none⟩) M M → g 7 = .pointer (some ⟨b7, 0, none⟩) → g 9 = .pointer (some ⟨b9, 0, none⟩) →
                Wr w w2 b → Bx w2 b (lmC (pre ++ us ++ post) ++ Z).toArray 39 → RB w2 bv a c V → Bx w2 b2 #[.slice (some ⟨b, 0, none⟩) L.length cu] 23 → Bx w2 b3 #[.slice a V.length c] 23 → Bx w2 b5 #[.int .i64 n] 3 → Bx w2 b6 (lmC out).toArray 39 → Bx w2 b7 #[.int .i64 j] 3 →
                Bx w2 b9 #[.int .u64 d] 24 → us.length = u.length → Ok us → d < 65536 → val us + d * val V = val u → val us < val V → K3 g w2 := by
              clear g2 g3 g5 g6 g7 g9 g10 g11' hW hB hs hB2 hB3 hB5 hB6 hB7 hB9 hB10 hE
              clear g
              intro g w2 us d g2 g3 g5 g6 g7 g9 hW hB hs hB2 hB3 hB5 hB6 hB7 hB9 hul2 husok hd16 hdig hless
              refine hK3 _ _ ?_; clear hK3 K3
              have k7 := hB7.get0
              have k9 := hB9.get0
              have q5 : j < M := by omega
              have q5' : (j : Int) < M := by omega
              have f8 : IntKind.u16.wrap (d : Int) = d := w16_in _ (by omega)
              have f9 : IntKind.i64.wrap ((j : Int) - 1) = (j : Int) - 1 := IntWalk.i64_in _ (by omega)
              obtain ⟨ls1, ls2⟩ := long_step pre us u post out j d n (val V) (val L) hplen hul (by omega) hz (by omega) (by rw [← hsplit]; exact hval) hdig
              first | refine W_rt (by kernel_rfl) (fun K hK => ?_) | refine W_text (by kernel_rfl) (fun K hK => ?_)
              simp [go_sem, g6, g7, g9, k7, k9, q5, q5', f8, add_mk]
              refine hv_store (b := b6) (off := j) [.int .u16 d] (by simp [go_sem]) rfl (by simp [go_sem]) (by simp [go_sem, Value.cells]) ty_size39 hB6 (by simp [lmC_len] <;> omega) (by simp [Value.oneCell']) (by decide) (fun w13 hS13 hB13 => ?_)
              rw [putC_lm] at hB13
              replace hB := hB.sto hS13 (by omega)
              replace hs := hs.sto hS13 (by omega)
              replace hB2 := hB2.sto hS13 (by omega)
              replace hB3 := hB3.sto hS13 (by omega)
              replace hB5 := hB5.sto hS13 (by omega)
              replace hB7 := hB7.sto hS13 (by omega)
              replace hW := hW.sto2 hS13 (by omega)
              replace k7 := hB7.get0
              simp [go_sem]
              refine hK _ _ ?_; clear hK K
              refine hK2 _ _ ?_; clear hK2 K2
              refine W_seq (fun K2 hK2 => ?_)
              first | refine W_rt (by kernel_rfl) (fun K hK => ?_) | refine W_text (by kernel_rfl) (fun K hK => ?_)
              simp [go_sem, g7, k7]
              refine hK _ _ ?_; clear hK K
              first | refine W_rt (by kernel_rfl) (fun K hK => ?_) | refine W_text (by kernel_rfl) (fun K hK => ?_)
              simp [go_sem]
              refine hv_alloc (by simp [go_sem]) rfl ty_zeroC3 (fun w14 b14 hE14 hle14 hB14 => ?_)
              have hb14 := hB7.lt
              replace hB := hB.keep hE14
              replace hs := hs.keep hE14
              replace hB2 := hB2.keep hE14
              replace hB3 := hB3.keep hE14
              replace hB5 := hB5.keep hE14
              replace hB13 := hB13.keep hE14
              replace hW := hW.keep hE14
              simp [go_sem]
              refine hv_store (b := b14) (off := 0) [.int .i64 j] (by simp [go_sem]) rfl (by simp [go_sem]) (by simp [go_sem, Value.cells]) ty_size3 hB14 (by simp) (by simp [Value.oneCell']) (by decide) (fun w15 hS15 hB15 => ?_)
              simp [putC] at hB15
              replace hB := hB.sto hS15 (by omega)
              replace hs := hs.sto hS15 (by omega)
              replace hB2 := hB2.sto hS15 (by omega)
              replace hB3 := hB3.sto hS15 (by omega)
              replace hB5 := hB5.sto hS15 (by omega)
              replace hB13 := hB13.sto hS15 (by omega)
              replace hW := hW.sto2 hS15 (by omega)
              replace k7 := hB15.get0
              simp [go_sem]
              refine hK _ _ ?_; clear hK K
              refine hK2 _ _ ?_; clear hK2 K2
              first | refine W_rt (by kernel_rfl) (fun K hK => ?_) | refine W_text (by kernel_rfl) (fun K hK => ?_)
              simp [go_sem, k7, f9]
              refine hv_store (b := b14) (off := 0) [.int .i64 ((j : Int) - 1)] (by simp [go_sem, k7, f9]) rfl (by simp [go_sem, k7, f9]) (by simp [go_sem, Value.cells, k7, f9]) ty_size3 hB15 (by simp) (by simp [Value.oneCell']) (by decide) (fun w16 hS16 hB16 => ?_)
              simp [putC] at hB16
              replace hB := hB.sto hS16 (by omega)
              replace hs := hs.sto hS16 (by omega)
              replace hB2 := hB2.sto hS16 (by omega)
              replace hB3 := hB3.sto hS16 (by omega)
              replace hB5 := hB5.sto hS16 (by omega)
              replace hB13 := hB13.sto hS16 (by omega)
              replace hW := hW.sto2 hS16 (by omega)
              simp [go_sem]
              refine hK _ _ ⟨j, by omega, b14, pre ++ us ++ post, out.set j d, by omega, by omega, by simp [go_sem, g2], by simp [go_sem, g3], by simp [go_sem, g5], by simp [go_sem, g6], by simp [go_sem], hW, hB, hs, hB2, hB3, hB5, hB13, hB16, ?_, (hpok.app husok).app hqok, by simp [hol], hook.set j d hd16, ls1, by rw [ls2]; exact hless⟩
              have := congrArg List.length hsplit
              simp only [List.length_append] at this ⊢
              omega
            have hD : Below w2.heap.size w2 w2.drew := Below.drew1 _
            replace hB := hB.keep hD
            replace hs := hs.keep hD
            replace hB2 := hB2.keep hD
            replace hB3 := hB3.keep hD
            replace hB5 := hB5.keep hD
            replace hB6 := hB6.keep hD
            replace hB7 := hB7.keep hD
            replace hB9 := hB9.keep hD
            replace hW := hW.keep hD
            have k2 := hB2.get0
            have k3 := hB3.get0
            have k5 := hB5.get0
            have k7 := hB7.get0
            have k9 := hB9.get0
            clear hD hB10
            first | refine W_rd [(0, 0), (1, 0), (2, 0), (3, 0), (4, 0), (5, 0), (6, 0), (7, 0), (8, 0), (9, 0), (10, 2)] (by kernel_rfl) (by kernel_rfl) (fun K hK => ?_) | refine W_draw [(0, 0), (1, 0), (2, 0), (3, 0), (4, 0), (5, 0), (6, 0), (7, 0), (8, 0), (9, 0), (10, 2)] (by kernel_rfl) (by kernel_rfl) (fun K hK => ?_)
            simp [go_sem, g2, g3, g5, g7, g9, k2, k3, k5, k7, k9, f0, f6, f7, hEj, hcj, q3, q3', q4, q4', add_mk]
            refine hv_call (by simp [go_sem, g2, g3, g5, g7, g9, k2, k3, k5, k7, k9, f0, f6, f7, hEj, hcj, q3, q3', q4, q4', add_mk]) rfl Try.call56 (fun R hR => ?_)
            simp [go_sem, g2, g3, g5, g7, g9, k2, k3, k5, k7, k9, f0, f6, f7, hEj, hcj, q3, q3', q4, q4', add_mk]
            refine (subtract_any Z pre u post V b j (cu - j) a c d _ hB huok hs.rd (hs.ne hneV) hplen (by omega) hulB hd16).mono ?_
            rintro e w3 ⟨us, bo, rfl, husl, husok, hbo, hsub, hB3', hW3⟩
            refine ⟨_, rfl, hR _ _ ?_⟩
            clear hR R
            clear hB
            have hB := hB3'
            clear hB3'
            replace hs := hs.wr hW3 (by omega)
            replace hB2 := hB2.wr hW3 (by omega)
            replace hB3 := hB3.wr hW3 (by omega)
            replace hB5 := hB5.wr hW3 (by omega)
            replace hB6 := hB6.wr hW3 (by omega)
            replace hB7 := hB7.wr hW3 (by omega)
            replace hB9 := hB9.wr hW3 (by omega)
            replace hW := hW.trans hW3
            clear hW3
            simp [go_sem]
            refine hK _ _ ?_; clear hK K
            have hTe : 65536 ^ u.length = 65536 ^ (n + 1) := by rw [hul]
            by_cases hb0 : bo = 0
            · subst hb0
              rw [Nat.mul_zero, Nat.add_zero] at hsub
              refine W_if (by simp [go_sem]; rfl) rfl ?_
              refine W_skip ?_
              exact fin _ _ us d (by simp [go_sem, g2]) (by simp [go_sem, g3]) (by simp [go_sem, g5]) (by simp [go_sem, g6]) (by simp [go_sem, g7]) (by simp [go_sem, g9]) hW hB hs hB2 hB3 hB5 hB6 hB7 hB9 husl husok hd16 hsub (dig_right _ _ _ _ hsub hest)
            · have hb1 : bo = 1 := by omega
              subst hb1
              rw [Nat.mul_one, hTe] at hsub
              have husT : val us < 65536 ^ (n + 1) := by rw [← hul, ← husl]; exact val_lt _ husok
              have hVT2 : val V < 65536 ^ (n + 1) := Nat.lt_of_lt_of_le hVT (Nat.pow_le_pow_right (by decide) (by omega))
              have hd0 : 0 < d := by
                rcases d with _ | d
                · omega
                · omega
              obtain ⟨d', rfl⟩ : ∃ d', d = d' + 1 := ⟨d - 1, by omega⟩
              replace k9 := hB9.get0
              have f3 : IntKind.u64.wrap (((d' + 1 : Nat) : Int) - 1) = (d' : Int) := by rw [w64_in _ (by omega)]; omega
              generalize hD1 : ((d' + 1 : Nat) : Int) = D1 at *
              refine W_if (by simp [go_sem]; rfl) rfl ?_
              first | refine W_rt (by kernel_rfl) (fun K hK => ?_) | refine W_text (by kernel_rfl) (fun K hK => ?_)
              simp [go_sem, g9, k9, f3]
              refine hv_store (b := b9) (off := 0) [.int .u64 d'] (by simp [go_sem, g9, k9, f3]) rfl (by simp [go_sem, g9, k9, f3]) (by simp [go_sem, Value.cells, g9, k9, f3]) ty_size24 hB9 (by simp) (by simp [Value.oneCell']) (by decide) (fun w17 hS17 hB17 => ?_)
              simp [putC] at hB17
              replace hB := hB.sto hS17 (by omega)
              replace hs := hs.sto hS17 (by omega)
              replace hB2 := hB2.sto hS17 (by omega)
              replace hB3 := hB3.sto hS17 (by omega)
              replace hB5 := hB5.sto hS17 (by omega)
              replace hB6 := hB6.sto hS17 (by omega)
              replace hB7 := hB7.sto hS17 (by omega)
              replace hW := hW.sto2 hS17 (by omega)
              simp [go_sem]
              refine hK _ _ ?_; clear hK K
              have hD : Below w17.heap.size w17 w17.drew := Below.drew1 _
              replace hB := hB.keep hD
              replace hs := hs.keep hD
              replace hB2 := hB2.keep hD
              replace hB3 := hB3.keep hD
              replace hB5 := hB5.keep hD
              replace hB6 := hB6.keep hD
              replace hB7 := hB7.keep hD
              replace hB17 := hB17.keep hD
              replace hW := hW.keep hD
              replace k2 := hB2.get0
              replace k3 := hB3.get0
              replace k5 := hB5.get0
              replace k7 := hB7.get0
              have hEj2 : E - j = us.length := by omega
              first | refine W_rd [(0, 0), (1, 0), (2, 0), (3, 0), (4, 0), (5, 0), (6, 0), (7, 0), (8, 2)] (by kernel_rfl) (by kernel_rfl) (fun K hK => ?_) | refine W_draw [(0, 0), (1, 0), (2, 0), (3, 0), (4, 0), (5, 0), (6, 0), (7, 0), (8, 2)] (by kernel_rfl) (by kernel_rfl) (fun K hK => ?_)
              simp [go_sem, g2, g3, g5, g7, k2, k3, k5, k7, f0, f6, hEj2, hcj, q3, q3', q4, q4', add_mk]
              refine hv_call (by simp [go_sem, g2, g3, g5, g7, k2, k3, k5, k7, f0, f6, hEj2, hcj, q3, q3', q4, q4', add_mk]) rfl Try.call57 (fun R hR => ?_)
              simp [go_sem, g2, g3, g5, g7, k2, k3, k5, k7, f0, f6, hEj2, hcj, q3, q3', q4, q4', add_mk]
              refine (restore_any Z pre us post V b j (cu - j) a c _ hB husok hs.rd (hs.ne hneV) hplen (by omega) (by omega)).mono ?_
              rintro e w18 ⟨us2, cy, rfl, hus2l, hus2ok, hrest, hB18, hW18⟩
              refine ⟨_, rfl, hR _ _ ?_⟩
              clear hR R
              replace hs := hs.wr hW18 (by omega)
              replace hB2 := hB2.wr hW18 (by omega)
              replace hB3 := hB3.wr hW18 (by omega)
              replace hB5 := hB5.wr hW18 (by omega)
              replace hB6 := hB6.wr hW18 (by omega)
              replace hB7 := hB7.wr hW18 (by omega)
              replace hB17 := hB17.wr hW18 (by omega)
              replace hW := hW.trans hW18
              simp [go_sem]
              have hus2T : val us2 < 65536 ^ (n + 1) := by rw [← hul, ← husl, ← hus2l]; exact val_lt _ hus2ok
              rw [husl, hTe] at hrest
              obtain ⟨_, z1, z2⟩ := dig_back _ _ _ _ _ _ _ hsub husT hlast hrest hus2T hVT2
              rw [Nat.add_sub_cancel] at z1
              refine hK _ _ ?_
              exact fin _ _ us2 d' (by simp [go_sem, g2]) (by simp [go_sem, g3]) (by simp [go_sem, g5]) (by simp [go_sem, g6]) (by simp [go_sem, g7]) (by simp [go_sem, g9]) hW hB18 hs hB2 hB3 hB5 hB6 hB7 hB17 (by omega) hus2ok (by omega) z1 z2
end Go.Proofs.Ytomniiobaonloaa
