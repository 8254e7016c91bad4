/- Natural numbers: DivMod of any numbers: the walk. -/
import Derived.Test.YtomniiobaonloaaNtS
namespace Go.Proofs.Ytomniiobaonloaa
open Go.RowKit Go.V
set_option linter.unusedSimpArgs false
set_option linter.unusedVariables false

theorem own_block {w : World} {base n : Nat} {e : TypeId} {v : Value} {xs : List Value} (h : w.ownsRow base e 1 v n xs) (hn : 0 < n) : ∃ g cap Z, v = .slice (some ⟨g, 0, none⟩) n cap ∧ base ≤ g ∧ Bx w g (xs ++ Z).toArray e ∧ n ≤ cap := by
  rcases h.2 with ⟨_, h2⟩ | ⟨g, cap, cur, hv, hb, hg, hle, _, _, ht⟩
  · omega
  · refine ⟨g, cap, cur.toList.drop n, hv, hb, ⟨?_⟩, hle⟩
    rw [Nat.mul_one] at ht
    rw [hg, ← ht, List.take_append_drop]
theorem shiftV_neg (x s : Nat) (hs : s ≤ 16) : shiftV (x * 2 ^ s) (-(s : Int)) = x := by
  unfold shiftV
  rw [if_neg (by omega)]
  by_cases h : (-(s : Int)) < 0
  · rw [if_pos h]
    have e : (- -(s : Int)).toNat = s := by omega
    rw [e, Nat.mul_div_cancel _ (Nat.pow_pos (by decide))]
  · rw [if_neg h]
    have e : s = 0 := by omega
    subst e
    simp

set_option maxHeartbeats 4000000 in
theorem divmod2_any (l m : List Nat) (a b : Option Addr) (c d : Nat) (w : World) (hr : RD w a c l) (hs : RD w b d m) (hl : l.length + 1 ≤ lenS) (hm : m.length ≤ lenS) (h2 : 2 ≤ (nrm m).length) :
    Calls Try.prog 25 #[.slice a l.length c, .slice b m.length d] w (DivPost w (val l) (val m)) := by
  have hl' : l.length + 1 ≤ 100000000000 := hl
  have hm' : m.length ≤ 100000000000 := hm
  have hn1 := nrm_len l
  have hn2 := nrm_len m
  have hlB : l.length ≤ lenB := by unfold lenB; omega
  have hmB : m.length ≤ lenB := by unfold lenB; omega
  refine calls_of_W (args := [.slice a l.length c, .slice b m.length d]) (rs := [.tmp 4, .tmp 5, .tmp 6]) (n := 71) Try.func25 rfl rfl rfl (by kernel_rfl) ?_
  first | refine W_rt (by kernel_rfl) (fun K hK => ?_) | refine W_text (by kernel_rfl) (fun K hK => ?_)
  simp [go_sem]
  refine hK _ _ ?_; clear hK K
  first | refine W_rt (by kernel_rfl) (fun K hK => ?_) | refine W_text (by kernel_rfl) (fun K hK => ?_)
  simp [go_sem]
  refine hv_call (by simp [go_sem]) rfl Try.call43 (fun R hR => ?_)
  simp [go_sem]
  refine (trim_any l a c _ hr hlB).mono ?_
  rintro e w1 ⟨rfl, rfl⟩
  refine ⟨_, rfl, hR _ _ ?_⟩
  clear hR R
  simp [go_sem]
  refine hv_call (by simp [go_sem]) rfl Try.call43 (fun R hR => ?_)
  simp [go_sem]
  refine (trim_any m b d _ hs hmB).mono ?_
  rintro e w1 ⟨rfl, rfl⟩
  refine ⟨_, rfl, hR _ _ ?_⟩
  clear hR R
  simp [go_sem]
  refine hK _ _ ?_; clear hK K
  replace hr := hr.nrm
  replace hs := hs.nrm
  have hvl := val_nrm l
  have hvm := val_nrm m
  have hll := nrm_idem l
  have hmm := nrm_idem m
  rw [← hvl, ← hvm]
  generalize nrm l = L at *
  generalize nrm m = M at *
  have hLB : L.length ≤ lenB := by unfold lenB; omega
  have hMB : M.length ≤ lenB := by unfold lenB; omega
  refine W_seq (fun K1 hK1 => ?_)
  refine W_block ?_
  first | refine W_rt (by kernel_rfl) (fun K hK => ?_) | refine W_text (by kernel_rfl) (fun K hK => ?_)
  simp [go_sem]
  refine hK _ _ ?_; clear hK K
  have h0 : ¬ M.length = 0 := by omega
  have h0' : ¬ (M.length : Int) = 0 := by omega
  have h0'' : ¬ M = [] := by intro e; subst e; exact h0 rfl
  obtain ⟨k, hk⟩ : ∃ k, M.length = k + 2 := ⟨M.length - 2, by omega⟩
  have hBk := val_len M hs.ok (k + 1) (by rw [hmm]; exact hk)
  have hv0 : val M ≠ 0 := by
    have : 0 < 65536 ^ (k + 1) := Nat.pow_pos (by decide)
    omega
  refine W_if (by simp [go_sem, h0, h0', h0'']; rfl) rfl ?_
  first | refine W_rt (by kernel_rfl) (fun K hK => ?_) | refine W_text (by kernel_rfl) (fun K hK => ?_)
  simp [go_sem]
  refine hv_call (by simp [go_sem]) rfl Try.call21 (fun R hR => ?_)
  simp [go_sem]
  refine (cmp_any L M a b c d _ hr hs hLB hMB).mono ?_
  rintro e w2 ⟨rfl, hE2⟩
  refine ⟨_, rfl, hR _ _ ?_⟩
  clear hR R
  replace hr := hr.ext hE2
  replace hs := hs.ext hE2
  simp [go_sem]
  refine hK _ _ ?_; clear hK K
  by_cases hlt : val L < val M
  · have hc := cmpV_lt hlt
    refine W_if (by simp [go_sem, hc]; rfl) rfl ?_
    first | refine W_rt (by kernel_rfl) (fun K hK => ?_) | refine W_text (by kernel_rfl) (fun K hK => ?_)
    simp [go_sem]
    refine hv_call (by simp [go_sem]) rfl Try.call17 (fun R hR => ?_)
    simp [go_sem]
    refine (norm_any L a c _ hr hLB).mono ?_
    rintro e w3 ⟨a3, c3, rfl, hr3, hE3⟩
    refine ⟨_, rfl, hR _ _ ?_⟩
    clear hR R
    simp [go_sem]
    refine hK _ _ ?_; clear hK K
    refine W_ret ?_
    repeat (first | refine thenG_ret ?_ | refine inBlock_ret ?_)
    refine ⟨trivial, .inr ⟨hv0, none, 0, a3, c3, ?_, ?_, ?_, hE2.next hE3⟩⟩
    · rw [Nat.div_eq_of_lt hlt, Nat.mod_eq_of_lt hlt, lim_zero, lim_val L hr.ok]
      simp [go_sem, pack, resL]
    · rw [Nat.div_eq_of_lt hlt, lim_zero]; exact RD.nil _ _ _
    · rw [Nat.mod_eq_of_lt hlt, lim_val L hr.ok]; exact hr3
  · have hc : ¬ cmpV (val L) (val M) < 0 := by unfold cmpV; rw [if_neg hlt]; split <;> omega
    have hML : M.length ≤ L.length := by
      rcases Nat.lt_or_ge L.length M.length with h | h
      · exact absurd (len_lt_val L M hr.ok hs.ok (by rw [hll, hmm]; exact h)) hlt
      · exact h
    have hM1 : ¬ M.length = 1 := by omega
    have hM1' : ¬ (M.length : Int) = 1 := by omega
    refine W_if (by simp [go_sem, hc]; rfl) rfl ?_
    first | refine W_rt (by kernel_rfl) (fun K hK => ?_) | refine W_text (by kernel_rfl) (fun K hK => ?_)
    simp [go_sem]
    refine hK _ _ ?_; clear hK K
    refine W_if (by simp [go_sem, hM1, hM1']; rfl) rfl ?_
    refine W_skip ?_
    refine hK1 _ _ ?_; clear hK1 K1
    -- the distance
    have htop : lat M (k + 1) ≠ 0 := by
      have := nrm_top M (k + 1) (by rw [hmm]; exact hk)
      rw [hmm] at this; exact this
    have htx := lat_lt hs.ok (k + 1)
    have hb16 := blen_le 16 (lat M (k + 1)) (by omega)
    have hb1 : 1 ≤ blen (lat M (k + 1)) := by rw [blen_s _ htop]; omega
    obtain ⟨s, hse⟩ : ∃ s, s = 16 - blen (lat M (k + 1)) := ⟨_, rfl⟩
    obtain ⟨nd1, nd2, nd3⟩ := norm_div M (k + 1) s hs.ok hmm hk (by omega)
    obtain ⟨c1, c2⟩ := hs.at (i := k + 1) (by omega)
    have p1 : IntKind.i64.wrap ((M.length : Int) - 1) = ((k + 1 : Nat) : Int) := by rw [IntWalk.i64_in _ (by omega)]; omega
    obtain ⟨k1, hk1⟩ : ∃ k1, k1 = k + 1 := ⟨_, rfl⟩
    rw [← hk1] at c1 p1 htop htx hb16 hb1 hse nd1 nd2 nd3 hBk
    have p2 : k1 < M.length := by omega
    have p2' : (k1 : Int) < M.length := by omega
    generalize lat M k1 = top at *
    first | refine W_rt (by kernel_rfl) (fun K hK => ?_) | refine W_text (by kernel_rfl) (fun K hK => ?_)
    simp [go_sem, c1, c2, p1, p2, p2']
    refine hv_call (by simp [go_sem, c1, c2, p1, p2, p2']) rfl Try.call48 (fun R hR => ?_)
    simp [go_sem, c1, c2, p1, p2, p2']
    refine (lz16_any top _ htx).mono ?_
    rintro e w3 ⟨rfl, rfl⟩
    refine ⟨_, rfl, hR _ _ ?_⟩
    clear hR R
    rw [← hse]
    simp [go_sem]
    refine hK _ _ ?_; clear hK K
    have hsl : s < 16 := by omega
    have hLS : L.length ≤ lenS := by omega
    have hMS : M.length ≤ lenS := by omega
    -- the number behind its shift
    have hAl := val_lt L hr.ok
    obtain ⟨Lu, r, hLu1, hLu2, hLu3, hLu4⟩ := norm_num (val L) L.length s hAl (by
      rcases hl0 : L.length with _ | la
      · omega
      · have := val_len L hr.ok la (by rw [hll]; exact hl0)
        rw [Nat.pow_succ]; omega) hsl
    have hlen2 : (lim (val L * 2 ^ s)).length + 2 = Lu.length + r.length := by
      have := congrArg List.length hLu1
      simpa using this
    have hlX : (lim (val L * 2 ^ s)).length ≤ L.length + 1 := by
      refine lim_len _ _ ?_
      have h1 : val L * 2 ^ s ≤ val L * 65536 := Nat.mul_le_mul_left _ (by
        have : 2 ^ s ≤ 2 ^ 16 := Nat.pow_le_pow_right (by decide) (by omega)
        omega)
      rw [Nat.pow_succ]; omega
    first | refine W_rt (by kernel_rfl) (fun K hK => ?_) | refine W_text (by kernel_rfl) (fun K hK => ?_)
    simp [go_sem]
    refine hv_call (by simp [go_sem]) rfl Try.call41 (fun R hR => ?_)
    simp [go_sem]
    refine (shl_any L a c s _ hr hLS (by omega)).mono ?_
    rintro e w4 ⟨v4, rfl, hown4, hE4⟩
    refine ⟨_, rfl, hR _ _ ?_⟩
    clear hR R
    simp [go_sem]
    refine hv_buildSlice #[.int .u16 0, .int .u16 0] (by simp [go_sem]) rfl ty_slZ23 (by decide) [(0, .int .u16 0), (1, .int .u16 0)] (by simp [go_sem]) (by kernel_rfl) (fun w5 b5 hE5 hle5 hB5 => ?_)
    have hown5 := own_keep hown4 hE5
    have hE := hE4.next hE5
    simp [go_sem]
    refine hv_appendB (v := v4) (b := b5) (len := 2) (c := 2) hB5 (by simp [go_sem]) rfl ty_slZ22 ty_bytes39 rfl (by decide) (by simp [go_sem]) (by simp [go_sem]) hown5 rfl (by simp [Value.oneCell']) (by unfold maxLen; omega) (by omega) (Nat.le_trans hE4.size hE5.size) (by decide) (fun v6 w6 hown6 hg6 _ => ?_)
    replace hE := hE.nextG hg6 (fun k e => (hown5.lt k e).1)
    clear hown4 hown5 hE4 hE5 hB5 hg6
    obtain ⟨g6, cap, Z, rfl, hg6b, hB6, hcap⟩ := own_block hown6 (by omega)
    clear hown6
    have e1 : lmC (lim (val L * 2 ^ s)) ++ (#[Value.int .u16 0, Value.int .u16 0] : Array Value).toList = lmC Lu ++ lmC r := by
      rw [← lmC_app, ← hLu1, lmC_app]; rfl
    rw [e1, List.append_assoc] at hB6
    clear e1
    generalize lmC r ++ Z = Z' at *
    replace hr := hr.ext hE
    replace hs := hs.ext hE
    have p3 : IntKind.i64.wrap ((L.length : Int) + 1) = (Lu.length : Int) := by rw [IntWalk.i64_in _ (by omega)]; omega
    have p4 : Lu.length ≤ cap := by omega
    have p4' : (Lu.length : Int) ≤ cap := by omega
    simp [go_sem, p3, p4, p4', add_mk]
    refine hK _ _ ?_; clear hK K
    -- the divisor behind its shift
    first | refine W_rt (by kernel_rfl) (fun K hK => ?_) | refine W_text (by kernel_rfl) (fun K hK => ?_)
    simp [go_sem]
    refine hv_call (by simp [go_sem]) rfl Try.call41 (fun R hR => ?_)
    simp [go_sem]
    refine (shl_any M b d s _ hs hMS (by omega)).mono ?_
    rintro e w7 ⟨v7, rfl, hown7, hE7⟩
    refine ⟨_, rfl, hR _ _ ?_⟩
    clear hR R
    have hVl : (lim (val M * 2 ^ s)).length = k + 2 := by rw [lim_length _ k1 nd1 nd2, hk1]
    have hVt : lat (lim (val M * 2 ^ s)) (k + 1) ≠ 0 := lim_top _ _ hVl
    have hVv := val_lim (val M * 2 ^ s)
    have hVok := lim_ok (val M * 2 ^ s)
    obtain ⟨g7, cap7, Z7, rfl, hg7b, hB7, hcap7⟩ := own_block hown7 (by omega)
    have hg6l := hB6.lt
    replace hB6 := hB6.keep hE7
    replace hE := hE.next hE7
    have hV : RB w7 g7 (some ⟨g7, 0, none⟩) cap7 (lim (val M * 2 ^ s)) := ⟨RD.of_bx hB7 hVok hcap7, fun ad ha _ => by injection ha with ha; subst ha; rfl⟩
    have hg7l := hB7.lt
    clear hown7 hE7 hB7
    simp [go_sem]
    refine hK _ _ ?_; clear hK K
    generalize lim (val M * 2 ^ s) = V at *
    have htopz : val (Lu.drop (Lu.length - (k + 2))) < val V := by
      rw [val_drop_div _ _ hLu4, hLu3, hVv]
      have e : Lu.length - (k + 2) = L.length - k1 := by omega
      rw [e]
      exact top_small _ _ _ _ _ hAl nd3 (by omega)
    first | refine W_rt (by kernel_rfl) (fun K hK => ?_) | refine W_text (by kernel_rfl) (fun K hK => ?_)
    simp [go_sem]
    rw [show V.length = V.length from rfl]
    refine hv_call (by simp [go_sem]) rfl Try.call49 (fun R hR => ?_)
    simp [go_sem]
    refine (long_any Z' Lu V g6 cap g7 (k + 2) k _ cap7 _ hB6 hLu4 hV (by omega) hg7l hVl rfl hVt (by omega) htopz (by unfold lenS; omega) p4).mono ?_
    rintro e w8 ⟨a8, c8, L', rfl, hr8, hL'l, hL'ok, hL'v, hB8, hW8⟩
    refine ⟨_, rfl, hR _ _ ?_⟩
    clear hR R
    replace hE := hE.wr hW8 hg6b
    have hdiv : val Lu / val V = val L / val M := by rw [hLu3, hVv, Nat.mul_div_mul_right _ _ (Nat.pow_pos (by decide))]
    have hmod : val L' = val L % val M * 2 ^ s := by rw [hL'v, hLu3, hVv, Nat.mul_mod_mul_right]
    rw [hdiv] at hr8
    rw [hdiv]
    simp [go_sem]
    refine hK _ _ ?_; clear hK K
    have hr9 : RD w8 (some ⟨g6, 0, none⟩) cap L' := RD.of_bx hB8 hL'ok (by omega)
    have hshift : val (nrm L') = val L % val M * 2 ^ s := by rw [val_nrm, hmod]
    have hn9 := nrm_len L'
    have hlB9 : L'.length ≤ lenB := by unfold lenB; omega
    have hlS9 : (nrm L').length ≤ lenS := by unfold lenS; omega
    rw [← hL'l]
    first | refine W_rt (by kernel_rfl) (fun K hK => ?_) | refine W_text (by kernel_rfl) (fun K hK => ?_)
    simp [go_sem]
    refine hv_call (by simp [go_sem]) rfl Try.call43 (fun R hR => ?_)
    simp [go_sem]
    refine (trim_any L' _ _ _ hr9 hlB9).mono ?_
    rintro e w9 ⟨rfl, rfl⟩
    refine ⟨_, rfl, hR _ _ ?_⟩
    clear hR R
    replace hr9 := hr9.nrm
    simp [go_sem]
    have hsv := shiftV_neg (val L % val M) s (by omega)
    have p5 : IntKind.i64.wrap (-(s : Int)) = -(s : Int) := IntWalk.i64_in _ (by omega)
    rw [← hshift] at hsv
    have hcall := shift_any (nrm L') _ _ (-(s : Int)) _ hr9 hlS9
    rw [hsv] at hcall
    generalize -(s : Int) = ns at *
    simp [go_sem, p5]
    refine hv_call (by simp [go_sem, p5]) rfl Try.call41 (fun R hR => ?_)
    simp [go_sem, p5]
    refine (hcall).mono ?_
    rintro e w10 ⟨a10, c10, rfl, hr10, hE10⟩
    refine ⟨_, rfl, hR _ _ ?_⟩
    clear hR R
    replace hr8 := hr8.ext hE10
    replace hE := hE.next hE10
    simp [go_sem]
    refine hK _ _ ?_; clear hK K
    refine W_ret ?_
    repeat (first | refine thenG_ret ?_ | refine inBlock_ret ?_)
    refine ⟨trivial, .inr ⟨hv0, a8, c8, a10, c10, ?_, hr8, hr10, hE2.next hE⟩⟩
    simp [go_sem, pack, resL]
theorem divmod_any (l m : List Nat) (a b : Option Addr) (c d : Nat) (w : World) (hr : RD w a c l) (hs : RD w b d m) (hl : l.length + 1 ≤ lenS) (hm : m.length ≤ lenS) :
    Calls Try.prog 25 #[.slice a l.length c, .slice b m.length d] w (DivPost w (val l) (val m)) := by
  have hl' : l.length + 1 ≤ 100000000000 := hl
  have hm' : m.length ≤ 100000000000 := hm
  by_cases h : (nrm m).length ≤ 1
  · exact divmod1_any l m a b c d w hr hs (by unfold lenB; omega) (by unfold lenB; omega) h
  · exact divmod2_any l m a b c d w hr hs hl hm (by omega)
end Go.Proofs.Ytomniiobaonloaa
