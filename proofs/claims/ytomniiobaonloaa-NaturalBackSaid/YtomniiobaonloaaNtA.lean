/- Natural numbers: DivMod by one limb; alive. -/
import Derived.Test.YtomniiobaonloaaNt9
namespace Go.Proofs.Ytomniiobaonloaa
open Go.RowKit Go.V
set_option linter.unusedSimpArgs false
set_option linter.unusedVariables false

/-- what DivMod returns -/
def DivPost (w : World) (A B : Nat) (e : Ending) (w' : World) : Prop :=
  (B = 0 ∧ e = .returned (.tuple #[.slice none 0 0, .slice none 0 0, .int .i64 3]) ∧ Below w.heap.size w w') ∨
  (B ≠ 0 ∧ ∃ a c a' c', e = .returned (.tuple #[.slice a (lim (A / B)).length c, .slice a' (lim (A % B)).length c', .int .i64 0]) ∧ RD w' a c (lim (A / B)) ∧ RD w' a' c' (lim (A % B)) ∧ Below w.heap.size w w')
theorem byLimb_gen (l : List Nat) (a : Option Addr) (c d rr : Nat) (w : World) (hr : RD w a c l) (hl : l.length ≤ lenB) (hd : 0 < d) (hd2 : d < 65536) (hR : val l % d = rr) :
    Calls Try.prog 47 #[.slice a l.length c, .int .u16 d] w fun e w' => ∃ a' c', e = .returned (.tuple #[.slice a' (lim (val l / d)).length c', .int .u16 rr]) ∧ RD w' a' c' (lim (val l / d)) ∧ Below w.heap.size w w' := by
  subst hR; exact byLimb_any l a c d w hr hl hd hd2
theorem val_one (m : List Nat) (h : m.length = 1) : val m = lat m 0 := by
  match m, h with
  | [x], _ => simp [val, lat]
theorem nrm_idem (l : List Nat) : nrm (nrm l) = nrm l := by
  induction l with
  | nil => rfl
  | cons x l ih =>
    rw [nrm]
    split
    · rfl
    · rename_i h
      rw [nrm, ih, if_neg h]

set_option maxHeartbeats 1000000 in
theorem divmod1_any (l m : List Nat) (a b : Option Addr) (c d : Nat) (w : World) (hr : RD w a c l) (hs : RD w b d m) (hl : l.length ≤ lenB) (hm : m.length ≤ lenB) (h1 : (nrm m).length ≤ 1) :
    Calls Try.prog 25 #[.slice a l.length c, .slice b m.length d] w (DivPost w (val l) (val m)) := by
  have hl' : l.length ≤ 1000000000000 := hl
  have hm' : m.length ≤ 1000000000000 := hm
  have hn1 := nrm_len l
  have hn2 := nrm_len m
  refine calls_of_W (args := [.slice a l.length c, .slice b m.length d]) (rs := [.tmp 4, .tmp 5, .tmp 6]) (n := 71) Try.func25 rfl rfl rfl (by kernel_rfl) ?_
  refine W_rt (by kernel_rfl) (fun K hK => ?_)
  simp [go_sem]
  refine hK _ _ ?_; clear hK K
  refine W_rt (by kernel_rfl) (fun K hK => ?_)
  simp [go_sem]
  refine hv_call (by simp [go_sem]) rfl Try.call43 (fun R hR => ?_)
  simp [go_sem]
  refine (trim_any l a c _ hr hl).mono ?_
  rintro e w1 ⟨rfl, rfl⟩
  refine ⟨_, rfl, hR _ _ ?_⟩
  clear hR R
  simp [go_sem]
  refine hv_call (by simp [go_sem]) rfl Try.call43 (fun R hR => ?_)
  simp [go_sem]
  refine (trim_any m b d _ hs hm).mono ?_
  rintro e w1 ⟨rfl, rfl⟩
  refine ⟨_, rfl, hR _ _ ?_⟩
  clear hR R
  simp [go_sem]
  refine hK _ _ ?_; clear hK K
  replace hr := hr.nrm
  replace hs := hs.nrm
  have hvl := val_nrm l
  have hvm := val_nrm m
  have hz := nrm_nil_iff m
  have hll := nrm_idem l
  rw [← hvm] at hz
  rw [← hvl, ← hvm]
  generalize nrm l = L at *
  generalize nrm m = M at *
  refine W_seq (fun K1 hK1 => ?_)
  refine W_block ?_
  refine W_rt (by kernel_rfl) (fun K hK => ?_)
  simp [go_sem]
  refine hK _ _ ?_; clear hK K
  by_cases h0 : M.length = 0
  · have e0 : M = [] := List.length_eq_zero_iff.1 h0
    have hv : val M = 0 := hz.1 e0
    subst e0
    refine W_if (by simp [go_sem]; rfl) rfl ?_
    refine W_rt (by kernel_rfl) (fun K hK => ?_)
    simp [go_sem]
    refine hK _ _ ?_; clear hK K
    refine W_ret ?_
    repeat (first | refine thenG_ret ?_ | refine inBlock_ret ?_)
    refine ⟨trivial, .inl ⟨hv, ?_, Below.refl _ _⟩⟩
    simp [go_sem, pack, resL]
  · have h0' : ¬ (M.length : Int) = 0 := by omega
    have h0'' : ¬ M = [] := by intro e; subst e; exact h0 rfl
    have hv0 : val M ≠ 0 := fun e => h0'' (hz.2 e)
    have hM1 : M.length = 1 := by omega
    refine W_if (by simp [go_sem, h0, h0', h0'']; rfl) rfl ?_
    refine W_rt (by kernel_rfl) (fun K hK => ?_)
    simp [go_sem]
    refine hv_call (by simp [go_sem]) rfl Try.call21 (fun R hR => ?_)
    simp [go_sem]
    refine (cmp_any L M a b c d _ hr hs (by omega) (by omega)).mono ?_
    rintro e w2 ⟨rfl, hE2⟩
    refine ⟨_, rfl, hR _ _ ?_⟩
    clear hR R
    replace hr := hr.ext hE2
    replace hs := hs.ext hE2
    simp [go_sem]
    refine hK _ _ ?_; clear hK K
    by_cases hlt : val L < val M
    · have hc := cmpV_lt hlt
      refine W_if (by simp [go_sem, hc]; rfl) rfl ?_
      refine W_rt (by kernel_rfl) (fun K hK => ?_)
      simp [go_sem]
      refine hv_call (by simp [go_sem]) rfl Try.call17 (fun R hR => ?_)
      simp [go_sem]
      refine (norm_any L a c _ hr (by omega)).mono ?_
      rintro e w3 ⟨a3, c3, rfl, hr3, hE3⟩
      refine ⟨_, rfl, hR _ _ ?_⟩
      clear hR R
      simp [go_sem]
      refine hK _ _ ?_; clear hK K
      refine W_ret ?_
      repeat (first | refine thenG_ret ?_ | refine inBlock_ret ?_)
      refine ⟨trivial, .inr ⟨hv0, none, 0, a3, c3, ?_, ?_, ?_, hE2.next hE3⟩⟩
      · rw [Nat.div_eq_of_lt hlt, Nat.mod_eq_of_lt hlt, lim_zero, lim_val L hr.ok]
        simp [go_sem, pack, resL]
      · rw [Nat.div_eq_of_lt hlt, lim_zero]; exact RD.nil _ _ _
      · rw [Nat.mod_eq_of_lt hlt, lim_val L hr.ok]; exact hr3
    · have hc : ¬ cmpV (val L) (val M) < 0 := by unfold cmpV; rw [if_neg hlt]; split <;> omega
      refine W_if (by simp [go_sem, hc]; rfl) rfl ?_
      refine W_rt (by kernel_rfl) (fun K hK => ?_)
      simp [go_sem]
      refine hK _ _ ?_; clear hK K
      have hM1' : (M.length : Int) = 1 := by omega
      have hval := val_one M hM1
      obtain ⟨c1, c2⟩ := hs.at (i := 0) (by omega)
      rw [Addr.add_zero'] at c1
      have hx := lat_lt hs.ok 0
      rw [hval] at hv0 ⊢
      generalize lat M 0 = x at *
      have p1 : (0 : Int) < M.length := by omega
      have p2 : 0 < M.length := by omega
      refine W_if (by simp [go_sem, hM1, hM1']; rfl) rfl ?_
      have hmod := Nat.mod_lt (val L) (show 0 < x by omega)
      generalize hRm : val L % x = rr at hmod ⊢
      have hw : IntKind.u64.wrap (rr : Int) = rr := w64_in _ (by omega)
      refine W_rt (by kernel_rfl) (fun K hK => ?_)
      simp [go_sem, c1, c2, p1, p2]
      refine hv_call (by simp [go_sem, c1, c2, p1, p2]) rfl Try.call47 (fun R hR => ?_)
      simp [go_sem, c1, c2, p1, p2]
      refine (byLimb_gen L a c x rr _ hr (by omega) (by omega) hx hRm).mono ?_
      rintro e w3 ⟨a3, c3, rfl, hr3, hE3⟩
      refine ⟨_, rfl, hR _ _ ?_⟩
      clear hR R
      simp [go_sem]
      refine hK _ _ ?_; clear hK K
      refine W_rt (by kernel_rfl) (fun K hK => ?_)
      simp [go_sem, hw]
      refine hv_call (by simp [go_sem, hw]) rfl Try.call23 (fun R hR => ?_)
      simp [go_sem, hw]
      refine (of_any rr _ (by omega)).mono ?_
      rintro e w4 ⟨a4, c4, rfl, hr4, hE4⟩
      refine ⟨_, rfl, hR _ _ ?_⟩
      clear hR R
      simp [go_sem]
      refine hK _ _ ?_; clear hK K
      refine W_ret ?_
      repeat (first | refine thenG_ret ?_ | refine inBlock_ret ?_)
      refine ⟨trivial, .inr ⟨hv0, a3, c3, a4, c4, ?_, hr3.ext hE4, ?_, (hE2.next hE3).next hE4⟩⟩
      · rw [hRm]; simp [go_sem, pack, resL]
      · rw [hRm]; exact hr4

theorem lim_2 (x y : Nat) (hx : x < 65536) (hy : y < 65536) (h : y ≠ 0) : lim (x + 65536 * y) = [x, y] := by
  rw [lim_pos _ (by omega), lim_pos ((x + 65536 * y) / 65536) (by omega)]
  have e1 : (x + 65536 * y) % 65536 = x := by omega
  have e2 : (x + 65536 * y) / 65536 = y := by omega
  rw [e1, e2]
  have e3 : y % 65536 = y := by omega
  have e4 : y / 65536 = 0 := by omega
  rw [e3, e4, lim_zero]
theorem lim_1 (x : Nat) (hx : x < 65536) (h : x ≠ 0) : lim x = [x] := by
  rw [lim_pos _ h]
  have e3 : x % 65536 = x := by omega
  have e4 : x / 65536 = 0 := by omega
  rw [e3, e4, lim_zero]

theorem div_aw (a b : Option Addr) (c d : Nat) (w : World) (hr : RD w a c [100]) (hs : RD w b d [7]) :
    Calls Try.prog 25 #[.slice a 1 c, .slice b 1 d] w fun e w' => ∃ a c a' c', e = .returned (.tuple #[.slice a 1 c, .slice a' 1 c', .int .i64 0]) ∧ RD w' a c [14] ∧ RD w' a' c' [2] ∧ Below w.heap.size w w' := by
  have l14 : lim (val [100] / val [7]) = [14] := lim_1 14 (by decide) (by decide)
  have l2 : lim (val [100] % val [7]) = [2] := lim_1 2 (by decide) (by decide)
  refine (divmod1_any [100] [7] a b c d w hr hs (by decide) (by decide) (by decide)).mono ?_
  rintro e w' (⟨h, _⟩ | ⟨_, a, c, a', c', he, h1, h2, hE⟩)
  · exact absurd h (by decide)
  · rw [l14] at h1
    rw [l2] at h2
    exact ⟨a, c, a', c', by rw [he, l14, l2]; rfl, h1, h2, hE⟩

set_option maxHeartbeats 2000000 in
theorem alive_any (w : World) : Calls Try.prog 13 #[] w fun e w' => e = .returned (.bool true) ∧ Below w.heap.size w w' := by
  have l11 : lim 65537 = [1, 1] := lim_2 1 1 (by decide) (by decide) (by decide)
  have ok1 : ∀ x, x < 65536 → Ok [x] := fun x h => Ok.cons h Ok.nil
  refine calls_of_W (args := []) (rs := [.tmp 0]) (n := 28) Try.func13 rfl rfl rfl (by kernel_rfl) ?_
  refine W_rt (by kernel_rfl) (fun K hK => ?_)
  simp [go_sem]
  refine hK _ _ ?_; clear hK K
  refine W_rt (by kernel_rfl) (fun K hK => ?_)
  simp [go_sem]
  refine hv_buildSlice #[.int .u16 100] (by simp [go_sem]) rfl ty_slZ22 (by decide) [(0, .int .u16 100)] (by simp [go_sem]) (by kernel_rfl) (fun w1 b1 hE1 hle1 hB1 => ?_)
  simp [go_sem]
  refine hv_buildSlice #[.int .u16 7] (by simp [go_sem]) rfl ty_slZ22 (by decide) [(0, .int .u16 7)] (by simp [go_sem]) (by kernel_rfl) (fun w2 b2 hE2 hle2 hB2 => ?_)
  have hr1 : RD w2 (some ⟨b1, 0, none⟩) 1 [100] := RD.of_lm (hB1.keep hE2) (ok1 _ (by decide)) (by decide)
  have hr2 : RD w2 (some ⟨b2, 0, none⟩) 1 [7] := RD.of_lm hB2 (ok1 _ (by decide)) (by decide)
  have hE := hE1.next hE2
  clear hE1 hE2 hB1 hB2
  simp [go_sem]
  refine hv_call (by simp [go_sem]) rfl Try.call25 (fun R hR => ?_)
  simp [go_sem]
  refine (div_aw _ _ _ _ _ hr1 hr2).mono ?_
  rintro e w3 ⟨a3, c3, a4, c4, rfl, hr3, hr4, hE3⟩
  refine ⟨_, rfl, hR _ _ ?_⟩
  clear hR R
  replace hE := hE.next hE3
  clear hr1 hr2 hE3
  simp [go_sem]
  refine hK _ _ ?_; clear hK K
  refine W_rt (by kernel_rfl) (fun K hK => ?_)
  simp [go_sem]
  refine hv_buildSlice #[.int .u16 14] (by simp [go_sem]) rfl ty_slZ22 (by decide) [(0, .int .u16 14)] (by simp [go_sem]) (by kernel_rfl) (fun w5 b5 hE5 hle5 hB5 => ?_)
  have hr5 : RD w5 (some ⟨b5, 0, none⟩) 1 [14] := RD.of_lm hB5 (ok1 _ (by decide)) (by decide)
  replace hr3 := hr3.ext hE5
  replace hr4 := hr4.ext hE5
  replace hE := hE.next hE5
  clear hE5 hB5
  simp [go_sem]
  refine hv_call (by simp [go_sem]) rfl Try.call16 (fun R hR => ?_)
  simp [go_sem]
  refine (same_any [14] _ _ _ _ _ hr3 hr5 (by decide)).mono ?_
  rintro e w6 ⟨rfl, hE6⟩
  refine ⟨_, rfl, hR _ _ ?_⟩
  clear hR R
  replace hr4 := hr4.ext hE6
  replace hE := hE.next hE6
  clear hr3 hr5 hE6
  simp [go_sem]
  refine hv_buildSlice #[.int .u16 2] (by simp [go_sem]) rfl ty_slZ22 (by decide) [(0, .int .u16 2)] (by simp [go_sem]) (by kernel_rfl) (fun w7 b7 hE7 hle7 hB7 => ?_)
  have hr7 : RD w7 (some ⟨b7, 0, none⟩) 1 [2] := RD.of_lm hB7 (ok1 _ (by decide)) (by decide)
  replace hr4 := hr4.ext hE7
  replace hE := hE.next hE7
  clear hE7 hB7
  simp [go_sem]
  refine hv_call (by simp [go_sem]) rfl Try.call16 (fun R hR => ?_)
  simp [go_sem]
  refine (same_any [2] _ _ _ _ _ hr4 hr7 (by decide)).mono ?_
  rintro e w8 ⟨rfl, hE8⟩
  refine ⟨_, rfl, hR _ _ ?_⟩
  clear hR R
  replace hE := hE.next hE8
  clear hr4 hr7 hE8
  simp [go_sem]
  refine hv_call (by simp [go_sem]) rfl Try.call23 (fun R hR => ?_)
  simp [go_sem]
  refine (of_any 65537 _ (by decide)).mono ?_
  rintro e w9 ⟨a9, c9, rfl, hr9, hE9⟩
  refine ⟨_, rfl, hR _ _ ?_⟩
  clear hR R
  replace hE := hE.next hE9
  rw [l11] at hr9
  simp only [l11]
  simp [go_sem]
  refine hv_buildSlice #[.int .u16 1, .int .u16 1] (by simp [go_sem]) rfl ty_slZ22 (by decide) [(0, .int .u16 1), (1, .int .u16 1)] (by simp [go_sem]) (by kernel_rfl) (fun w10 b10 hE10 hle10 hB10 => ?_)
  have hr10 : RD w10 (some ⟨b10, 0, none⟩) 2 [1, 1] := RD.of_lm hB10 (Ok.cons (by decide) (ok1 _ (by decide))) (by decide)
  replace hr9 := hr9.ext hE10
  replace hE := hE.next hE10
  simp [go_sem]
  refine hv_call (by simp [go_sem]) rfl Try.call16 (fun R hR => ?_)
  simp [go_sem]
  refine (same_any [1, 1] _ _ _ _ _ hr9 hr10 (by decide)).mono ?_
  rintro e w11 ⟨rfl, hE11⟩
  refine ⟨_, rfl, hR _ _ ?_⟩
  clear hR R
  replace hE := hE.next hE11
  simp [go_sem]
  refine hK _ _ ?_; clear hK K
  refine W_ret ?_
  repeat (first | refine thenG_ret ?_ | refine inBlock_ret ?_)
  refine ⟨trivial, ?_, hE⟩
  simp [go_sem, pack, resL]
end Go.Proofs.Ytomniiobaonloaa
