/- Natural numbers, ninth part: byLimb. -/
import Derived.Test.YtomniiobaonloaaNt8
namespace Go.Proofs.Ytomniiobaonloaa
open Go.RowKit Go.V
set_option linter.unusedSimpArgs false
set_option linter.unusedVariables false

theorem or_u32 (a b : Nat) (ha : a < 4294967296) (hb : b < 4294967296) : orI .u32 a b = ((a ||| b : Nat) : Int) := by
  unfold orI
  have e : IntKind.u32.bits = 32 := rfl
  have e1 : (BitVec.ofInt IntKind.u32.bits (a : Int) ||| BitVec.ofInt IntKind.u32.bits (b : Int)).toNat = a ||| b := by
    rw [e, BitVec.toNat_or, BitVec.ofInt_natCast, BitVec.ofInt_natCast, BitVec.toNat_ofNat, BitVec.toNat_ofNat, Nat.mod_eq_of_lt (by omega), Nat.mod_eq_of_lt (by omega)]
  rw [e1]
  have : a ||| b < 2 ^ 32 := Nat.or_lt_two_pow (by omega) (by omega)
  exact w32_in _ ⟨by omega, by omega⟩
theorem div_step (x V d : Nat) (hd : 0 < d) : (x + 65536 * V) / d = (V % d * 65536 + x) / d + 65536 * (V / d) ∧ (x + 65536 * V) % d = (V % d * 65536 + x) % d := by
  have e : x + 65536 * V = (V % d * 65536 + x) + d * (65536 * (V / d)) := by
    have h1 := Nat.div_add_mod V d
    have h2 : 65536 * V = 65536 * (d * (V / d) + V % d) := by rw [h1]
    rw [Nat.mul_add, Nat.mul_left_comm] at h2
    omega
  rw [e, Nat.add_mul_div_left _ _ hd, Nat.add_mul_mod_self_left]
  exact ⟨rfl, rfl⟩
theorem putC_lm (l : List Nat) (i x : Nat) : putC (lmC l).toArray i [.int .u16 x] = (lmC (l.set i x)).toArray := by
  simp [putC, lmC, List.map_set]
theorem RD.of_lm {w : World} {b : Nat} {t : TypeId} {l : List Nat} {c : Nat} (h : Bx w b (lmC l).toArray t) (hok : Ok l) (hc : l.length ≤ c) : RD w (some ⟨b, 0, none⟩) c l :=
  RD.of_bx (r := []) (by rw [List.append_nil]; exact h) hok hc
theorem lm_zeros (n : Nat) : (List.replicate n (Value.int .u16 0)).toArray = (lmC (List.replicate n 0)).toArray := by
  simp [lmC]

set_option maxHeartbeats 1000000 in
theorem byLimb_fresh (l : List Nat) (a : Option Addr) (c d : Nat) (w : World) (hr : RD w a c l) (hl : l.length ≤ lenB) (hd : 0 < d) (hd2 : d < 65536) :
    Calls Try.prog 47 #[.slice a l.length c, .int .u16 d] w fun e w' => ∃ a' c', e = .returned (.tuple #[.slice a' (lim (val l / d)).length c', .int .u16 (val l % d : Nat)]) ∧ RD w' a' c' (lim (val l / d)) ∧ Below w.heap.size w w' ∧ (∀ ad, a' = some ad → w.heap.size ≤ ad.block) := by
  have hl' : l.length ≤ 1000000000000 := hl
  have hd' : ¬ (d : Int) = 0 := by omega
  have hd'' : ¬ d = 0 := by omega
  have hwd : IntKind.u32.wrap (d : Int) = d := w32_in _ (by omega)
  have hw0 : IntKind.i64.wrap (↑l.length - 1) = (l.length : Int) - 1 := IntWalk.i64_in _ (by omega)
  have hbel := fun b (hb : w.heap.size ≤ b) => hr.below hb
  refine calls_of_W (args := [.slice a l.length c, .int .u16 d]) (rs := [.tmp 4, .tmp 5]) (n := 43) Try.func47 rfl rfl rfl (by kernel_rfl) ?_
  first | refine W_rt (by kernel_rfl) (fun K hK => ?_) | refine W_text (by kernel_rfl) (fun K hK => ?_)
  simp [go_sem]
  refine hK _ _ ?_; clear hK K
  first | refine W_rt (by kernel_rfl) (fun K hK => ?_) | refine W_text (by kernel_rfl) (fun K hK => ?_)
  simp [go_sem]
  refine hv_make (kl := .i64) (kc := .i64) l.length l.length (by simp [go_sem]) rfl ty_slZ22 ty_bytes39 (by simp [go_sem]) (by simp [go_sem]) (Nat.le_refl _) (by omega) (by omega) (fun w2 b2 hE2 hle2 hB2 => ?_)
  rw [Nat.mul_one, madeCells_one, lm_zeros] at hB2
  replace hr := hr.ext hE2
  have hne := hbel b2 hle2
  clear hbel
  simp [go_sem]
  refine hK _ _ ?_; clear hK K
  first | refine W_rt (by kernel_rfl) (fun K hK => ?_) | refine W_text (by kernel_rfl) (fun K hK => ?_)
  simp [go_sem]
  refine hK _ _ ?_; clear hK K
  refine W_seq (fun K1 hK1 => ?_)
  first | refine W_rt (by kernel_rfl) (fun K hK => ?_) | refine W_text (by kernel_rfl) (fun K hK => ?_)
  simp [go_sem, hw0]
  refine hK _ _ ?_; clear hK K
  refine W_block ?_
  refine W_loop (fun k g w' => Below w.heap.size w w' ∧ RD w' a c l ∧ k ≤ l.length ∧ g 0 = .slice a l.length c ∧ g 1 = .int .u16 d ∧ g 6 = .slice (some ⟨b2, 0, none⟩) l.length l.length ∧ g 7 = .int .u32 (val (l.drop k) % d : Nat) ∧ g 8 = .int .i64 ((k : Int) - 1) ∧
    ∃ qs : List Nat, Bx w' b2 (lmC (List.replicate k 0 ++ qs)).toArray 39 ∧ k + qs.length = l.length ∧ Ok qs ∧ val qs = val (l.drop k) / d) l.length ?_ ?_
  · refine ⟨hE2, hr, Nat.le_refl _, by simp [go_sem], by simp [go_sem], by simp [go_sem], by simp [go_sem, val], by simp [go_sem], [], by rw [List.append_nil]; exact hB2, rfl, Ok.nil, ?_⟩
    rw [List.drop_length]; simp [val]
  · clear hr hE2 hB2
    rintro k g w' ⟨hE, hr, hk, g0, g1, g6, g7, g8, qs, hB, hql, hqok, hqv⟩
    refine W_seq (fun K2 hK2 => ?_)
    rcases k with _ | i
    · have g8' : g 8 = .int .i64 (-1) := g8
      first | refine W_rt (by kernel_rfl) (fun K hK => ?_) | refine W_text (by kernel_rfl) (fun K hK => ?_)
      simp [go_sem, g8']
      refine hK _ _ ?_; clear hK K
      refine W_if (by simp [go_sem]; rfl) rfl ?_
      refine W_exit ?_
      repeat (first | refine thenG_exit ?_ | refine inBlock_other rfl ?_ | refine inBlock_same ?_)
      refine hK1 _ _ ?_; clear hK1 K1 hK2 K2
      rw [List.drop_zero] at hqv g7
      rw [List.replicate_zero, List.nil_append] at hB
      have hrq : RD w' (some ⟨b2, 0, none⟩) l.length qs := RD.of_lm hB hqok (by omega)
      have hlen : l.length = qs.length := by omega
      have hmod : IntKind.u16.wrap ((val l % d : Nat) : Int) = ((val l % d : Nat) : Int) := w16_in _ (by have := Nat.mod_lt (val l) hd; omega)
      rw [← hqv, lim_val qs hqok]
      generalize val l % d = r at *
      rw [hlen] at g6 hrq
      first | refine W_rt (by kernel_rfl) (fun K hK => ?_) | refine W_text (by kernel_rfl) (fun K hK => ?_)
      simp [go_sem, g6]
      refine hv_call (by simp [go_sem, g6]) rfl Try.call43 (fun R hR => ?_)
      simp [go_sem, g6]
      refine (trim_any qs _ qs.length _ hrq (by omega)).mono ?_
      rintro e w3 ⟨rfl, rfl⟩
      refine ⟨_, rfl, hR _ _ ?_⟩
      clear hR R
      simp [go_sem, g7, hmod]
      refine hK _ _ ?_; clear hK K
      refine W_ret ?_
      repeat (first | refine thenG_ret ?_ | refine inBlock_ret ?_)
      refine ⟨trivial, some ⟨b2, 0, none⟩, qs.length, ?_, hrq.nrm, hE, fun ad ha => by injection ha with ha; subst ha; exact hle2⟩
      simp [go_sem, pack, resL]
    · have g8' : g 8 = .int .i64 (i : Int) := by rw [g8]; congr 1; omega
      have hi0 : (0 : Int) ≤ i := by omega
      have hi : i < l.length := by omega
      have hi' : (i : Int) < l.length := by omega
      have h4 : IntKind.i64.wrap (↑i - 1) = (i : Int) - 1 := IntWalk.i64_in _ (by omega)
      obtain ⟨c1, c2⟩ := hr.at hi
      have hx := lat_lt hr.ok i
      have hv := val_drop l i hi
      obtain ⟨s1, s2⟩ := div_step (lat l i) (val (l.drop (i + 1))) d hd
      rw [← hv] at s1 s2
      have hrd := Nat.mod_lt (val (l.drop (i + 1))) hd
      rw [← hqv] at s1
      generalize val (l.drop (i + 1)) % d = r at *
      generalize lat l i = x at *
      have e1 : shlI .u32 (r : Int) 16 = ((r * 65536 : Nat) : Int) := by
        have := shl_nat .u32 r 16 (by decide)
        rw [show ((16 : Nat) : Int) = 16 from rfl] at this
        rw [this]; exact w32_in _ (by omega)
      have e2 : IntKind.u32.wrap (x : Int) = x := w32_in _ (by omega)
      have e3 : orI .u32 ((r * 65536 : Nat) : Int) (x : Int) = ((r * 65536 + x : Nat) : Int) := by
        rw [or_u32 _ _ (by omega) (by omega), Nat.or_comm, or_add x r 16 (by omega)]
        congr 1; omega
      have hq : (r * 65536 + x) / d < 65536 := by
        rw [Nat.div_lt_iff_lt_mul hd]
        have : (r + 1) * 65536 ≤ d * 65536 := Nat.mul_le_mul_right _ hrd
        omega
      generalize hN : r * 65536 + x = N at *
      generalize hM : r * 65536 = M at *
      have hN32 : N < 4294967296 := by omega
      have hND : N / d ≤ N := Nat.div_le_self _ _
      have e4 : (N : Int).tdiv (d : Int) = ((N / d : Nat) : Int) := rfl
      have e7 : (N : Int).tmod (d : Int) = ((N % d : Nat) : Int) := rfl
      generalize hQ : N / d = Q at *
      generalize hR : N % d = R at *
      have e5 : IntKind.u32.wrap (Q : Int) = (Q : Int) := w32_in _ (by omega)
      have e6 : IntKind.u16.wrap (Q : Int) = (Q : Int) := w16_in _ (by omega)
      first | refine W_rt (by kernel_rfl) (fun K hK => ?_) | refine W_text (by kernel_rfl) (fun K hK => ?_)
      simp [go_sem, g8', hi0]
      refine hK _ _ ?_; clear hK K
      refine W_if (by simp [go_sem, hi0]; rfl) rfl ?_
      refine W_skip ?_
      refine hK2 _ _ ?_; clear hK2 K2
      refine W_seq (fun K2 hK2 => ?_)
      refine W_block ?_
      first | refine W_rt (by kernel_rfl) (fun K hK => ?_) | refine W_text (by kernel_rfl) (fun K hK => ?_)
      simp [go_sem, g0, g7, g8', hi, hi', hi0, c1, c2, e1, e2, e3]
      refine hK _ _ ?_; clear hK K
      first | refine W_rt (by kernel_rfl) (fun K hK => ?_) | refine W_text (by kernel_rfl) (fun K hK => ?_)
      simp [go_sem, g1, g6, g8', hi, hi', hi0, hwd, e4, e5, e6, hd', hd'', add_mk]
      refine hv_store (b := b2) (off := i) [.int .u16 Q] (by simp [go_sem]) rfl (by simp [go_sem]) (by simp [go_sem, Value.cells]) ty_size39 hB (by simp [lmC_len] <;> omega) (by simp [Value.oneCell']) (by decide) (fun w3 hS3 hB3 => ?_)
      rw [putC_lm] at hB3
      have hset : (List.replicate (i + 1) 0 ++ qs).set i Q = List.replicate i 0 ++ (Q :: qs) := by
        rw [List.replicate_succ', List.append_assoc, List.set_append_right _ _ (by simp)]
        simp
      rw [hset] at hB3
      replace hr := hr.sto hS3 hne
      replace hE := hE.nextS hS3 hle2
      clear hB hS3
      simp [go_sem]
      refine hK _ _ ?_; clear hK K
      refine W_text (by kernel_rfl) (fun K hK => ?_)
      simp [go_sem, g1, hwd, e7, hd', hd'']
      refine hK _ _ ?_; clear hK K
      refine hK2 _ _ ?_; clear hK2 K2
      refine W_text (by kernel_rfl) (fun K hK => ?_)
      simp [go_sem, g8', h4]
      refine hK _ _ ⟨i, by omega, hE, hr, by omega, by simp [go_sem, g0], by simp [go_sem, g1], by simp [go_sem, g6], by simp [go_sem, s2], by simp [go_sem], Q :: qs, hB3, by simp; omega, Ok.cons (by omega) hqok, ?_⟩
      rw [val, s1]
theorem byLimb_any (l : List Nat) (a : Option Addr) (c d : Nat) (w : World) (hr : RD w a c l) (hl : l.length ≤ lenB) (hd : 0 < d) (hd2 : d < 65536) :
    Calls Try.prog 47 #[.slice a l.length c, .int .u16 d] w fun e w' => ∃ a' c', e = .returned (.tuple #[.slice a' (lim (val l / d)).length c', .int .u16 (val l % d : Nat)]) ∧ RD w' a' c' (lim (val l / d)) ∧ Below w.heap.size w w' :=
  (byLimb_fresh l a c d w hr hl hd hd2).mono (fun _ _ ⟨a', c', h1, h2, h3, _⟩ => ⟨a', c', h1, h2, h3⟩)
end Go.Proofs.Ytomniiobaonloaa
