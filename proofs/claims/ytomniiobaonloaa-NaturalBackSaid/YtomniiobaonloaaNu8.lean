/- Natural numbers: the specification's Read. -/
import Derived.Test.YtomniiobaonloaaNu7
import Derived.Test.YtomniiobaonloaaNu2
namespace Go.Proofs.Ytomniiobaonloaa
open Go.RowKit Go.V
set_option linter.unusedSimpArgs false
set_option linter.unusedVariables false

set_option maxHeartbeats 1000000 in
theorem readR_any (s : ByteArray) (w : World) : Calls Try.prog 36 #[.string s] w (ReadPost w (bs s)) := by
  have hsz := bs_len s
  have hbe : bs ⟨#[]⟩ = [] := rfl
  obtain ⟨l, hl⟩ : ∃ l, l = bs s := ⟨_, rfl⟩
  rw [← hl] at hsz ⊢
  have hba : ∀ k, byteAt s k = ch l k := fun k => by rw [hl]; rfl
  refine calls_of_W (args := [.string s]) (rs := [.tmp 2, .tmp 3]) (n := 47) Try.func36 rfl rfl rfl (by kernel_rfl) ?_
  first | refine W_rt (by kernel_rfl) (fun K hK => ?_) | refine W_text (by kernel_rfl) (fun K hK => ?_)
  simp [go_sem]
  refine hK _ _ ?_; clear hK K
  refine W_seq (fun K1 hK1 => ?_)
  by_cases h0 : l = []
  · first | refine W_rt (by kernel_rfl) (fun K hK => ?_) | refine W_text (by kernel_rfl) (fun K hK => ?_)
    simp [go_sem, ← hl, hbe, h0]
    refine hK _ _ ?_; clear hK K
    refine W_if (by simp [go_sem, h0]; rfl) rfl ?_
    first | refine W_rt (by kernel_rfl) (fun K hK => ?_) | refine W_text (by kernel_rfl) (fun K hK => ?_)
    simp [go_sem]
    refine hK _ _ ?_; clear hK K
    refine W_ret ?_
    repeat (first | refine thenG_ret ?_ | refine inBlock_ret ?_)
    refine ⟨trivial, readErr (n := 10) (by unfold rdE; rw [if_pos h0]) (by decide) ?_ (Below.refl _ _)⟩
    simp [go_sem, pack, resL]
  · first | refine W_rt (by kernel_rfl) (fun K hK => ?_) | refine W_text (by kernel_rfl) (fun K hK => ?_)
    simp [go_sem, ← hl, hbe, h0]
    refine hK _ _ ?_; clear hK K
    refine W_if (by simp [go_sem, h0]; rfl) rfl ?_
    refine W_skip ?_
    refine hK1 _ _ ?_; clear hK1 K1
    refine W_seq (fun K1 hK1 => ?_)
    by_cases h1 : 1000 < l.length
    · have h1' : (1000 : Int) < l.length := by omega
      first | refine W_rt (by kernel_rfl) (fun K hK => ?_) | refine W_text (by kernel_rfl) (fun K hK => ?_)
      simp [go_sem, ← hsz, h1, h1']
      refine hK _ _ ?_; clear hK K
      refine W_if (by simp [go_sem, h1, h1']; rfl) rfl ?_
      first | refine W_rt (by kernel_rfl) (fun K hK => ?_) | refine W_text (by kernel_rfl) (fun K hK => ?_)
      simp [go_sem]
      refine hK _ _ ?_; clear hK K
      refine W_ret ?_
      repeat (first | refine thenG_ret ?_ | refine inBlock_ret ?_)
      refine ⟨trivial, readErr (n := 4) (by unfold rdE; rw [if_neg h0, if_pos h1]) (by decide) ?_ (Below.refl _ _)⟩
      simp [go_sem, pack, resL]
    · have h1' : ¬ (1000 : Int) < l.length := by omega
      have hE9 : rdBad l = true → rdE l = 9 := fun hb => by unfold rdE; rw [if_neg h0, if_neg h1, if_pos hb]
      first | refine W_rt (by kernel_rfl) (fun K hK => ?_) | refine W_text (by kernel_rfl) (fun K hK => ?_)
      simp [go_sem, ← hsz, h1, h1']
      refine hK _ _ ?_; clear hK K
      refine W_if (by simp [go_sem, h1, h1']; rfl) rfl ?_
      refine W_skip ?_
      refine hK1 _ _ ?_; clear hK1 K1
      first | refine W_rt (by kernel_rfl) (fun K hK => ?_) | refine W_text (by kernel_rfl) (fun K hK => ?_)
      simp [go_sem]
      refine hK _ _ ?_; clear hK K
      refine W_seq (fun K1 hK1 => ?_)
      first | refine W_rt (by kernel_rfl) (fun K hK => ?_) | refine W_text (by kernel_rfl) (fun K hK => ?_)
      simp [go_sem]
      refine hK _ _ ?_; clear hK K
      refine W_block ?_
      refine W_loop (fun t g w' => Below w.heap.size w w' ∧ ∃ (i : Nat) (a : Option Addr) (c : Nat), i ≤ l.length ∧ t = l.length - i ∧ g 0 = .string s ∧ g 5 = .int .i64 i ∧ g 4 = .slice a (lim (dv (l.take i))).length c ∧
        RD w' a c (lim (dv (l.take i))) ∧ (∀ k, k < i → isD (ch l k) = true) ∧ (2 ≤ i → ch l 0 ≠ 48)) l.length ?_ ?_
      · have e : lim (dv (l.take 0)) = [] := by simp [dv, lim_zero]
        refine ⟨Below.refl _ _, 0, none, 0, by omega, rfl, by simp [go_sem], by simp [go_sem], ?_, ?_, fun k hk => by omega, by omega⟩
        · rw [e]; simp [go_sem]
        · rw [e]; exact RD.nil _ _ _
      · rintro t g w' ⟨hE, i, a, c, hi, rfl, g0, g5, g4, hr, hdig, hz⟩
        have hNl := dv_len l i hi hdig
        obtain ⟨N, hN⟩ : ∃ N, N = dv (l.take i) := ⟨_, rfl⟩
        rw [← hN] at g4 hr hNl
        refine W_seq (fun K2 hK2 => ?_)
        by_cases hlt : i < l.length
        · have hlt' : (i : Int) < l.length := by omega
          have hdvt := dv_take l i hlt
          rw [← hN] at hdvt
          have hbi := hba i
          have hbad := bad_at hlt
          have hdgn : isD (ch l i) = true ↔ 48 ≤ (ch l i).toNat ∧ (ch l i).toNat ≤ 57 := by unfold isD; simp
          have hdvt' : dv (l.take (i + 1)) = N * 10 + ((ch l i).toNat - 48) := hdvt
          have hbad' : isD (ch l i) = false → rdBad l = true := hbad
          obtain ⟨cn, hcn⟩ : ∃ cn, cn = (ch l i).toNat := ⟨_, rfl⟩
          have hcc : (byteAt s i).toNat = cn := by rw [hbi, hcn]
          rw [← hcn] at hdgn hdvt'
          have hb0 := hba 0
          obtain ⟨cz, hcz⟩ : ∃ cz, cz = (ch l 0).toNat := ⟨_, rfl⟩
          have hcc0 : (byteAt s 0).toNat = cz := by rw [hb0, hcz]
          have hw1 : IntKind.i64.wrap (↑i + 1) = (i : Int) + 1 := IntWalk.i64_in _ (by omega)
          have hp0 : 0 < l.length := by omega
          have hp0' : (0 : Int) < l.length := by omega
          have hfin : rdE l = 9 → ∀ e : Ending, e = .returned (.tuple #[.slice none 0 0, .int .i64 9]) → ReadPost w l e w' := fun hrb e he => readErr hrb (by decide) he hE
          first | refine W_rt (by kernel_rfl) (fun K hK => ?_) | refine W_text (by kernel_rfl) (fun K hK => ?_)
          simp [go_sem, g0, g5, ← hsz, hlt, hlt']
          refine hK _ _ ?_; clear hK K
          refine W_if (by simp [go_sem, hlt, hlt']; rfl) rfl ?_
          refine W_skip ?_
          refine hK2 _ _ ?_; clear hK2 K2
          refine W_seq (fun K2 hK2 => ?_)
          refine W_block ?_
          refine W_seq (fun K3 hK3 => ?_)
          by_cases hd : isD (ch l i) = true
          · obtain ⟨d1, d2⟩ := hdgn.1 hd
            have d1' : ¬ (cn : Int) < 48 := by omega
            have d2' : ¬ (57 : Int) < cn := by omega
            have d1'' : ¬ cn < 48 := by omega
            have d2'' : ¬ 57 < cn := by omega
            have go : (i = 1 → ch l 0 ≠ 48) → ∀ g : G, g 0 = .string s → g 5 = .int .i64 i → g 4 = .slice a (lim N).length c → K3 g w' := by
              clear g0 g5 g4
              clear g
              intro hz1 g g0 g5 g4
              refine hK3 _ _ ?_; clear hK3 K3
              obtain ⟨dg, hdg⟩ : ∃ dg, dg = cn - 48 := ⟨_, rfl⟩
              rw [← hdg] at hdvt'
              have f1 : IntKind.u8.wrap ((cn : Int) - 48) = (dg : Int) := by rw [w8_in _ (by omega)]; omega
              have f2 : IntKind.u64.wrap (dg : Int) = dg := w64_in _ (by omega)
              have hD : Below w'.heap.size w' w'.drew := Below.drew1 _
              have hr' := hr.ext hD
              have h10 : (lim 10).length ≤ lenS := Nat.le_trans (lim_len 4 10 (by decide)) (by decide)
              have hdl : (lim dg).length ≤ 4 := lim_len 4 _ (by omega)
              first | refine W_rd [(0, 0), (3, 0), (4, 0), (5, 0), (6, 0), (7, 0), (1, 1), (2, 1), (8, 1), (9, 1), (10, 0)] (by kernel_rfl) (by kernel_rfl) (fun K hK => ?_) | refine W_draw [(0, 0), (3, 0), (4, 0), (5, 0), (6, 0), (7, 0), (1, 1), (2, 1), (8, 1), (9, 1), (10, 0)] (by kernel_rfl) (by kernel_rfl) (fun K hK => ?_)
              simp [go_sem, g0, g4, g5, ← hsz, hlt, hlt', hcc, f1, f2]
              refine hv_call (by simp [go_sem, g0, g4, g5, ← hsz, hlt, hlt', hcc, f1, f2]) rfl Try.call24 (fun R hR => ?_)
              simp [go_sem, g0, g4, g5, ← hsz, hlt, hlt', hcc, f1, f2]
              refine (ofR_any 10 _ (by decide)).mono ?_
              rintro e w2 ⟨a2, c2, rfl, hr2, hE2⟩
              refine ⟨_, rfl, hE2, hR _ _ ?_⟩
              clear hR R
              replace hr' := hr'.ext hE2
              have hE' := hD.next hE2
              have hmu := mulR_any (lim N) (lim 10) a a2 c c2 _ hr' hr2 (by unfold lenS; omega) h10
              rw [val_lim, val_lim] at hmu
              simp [go_sem, g0, g4, g5, ← hsz, hlt, hlt', hcc, f1, f2]
              refine hv_call (by simp [go_sem, g0, g4, g5, ← hsz, hlt, hlt', hcc, f1, f2]) rfl Try.call34 (fun R hR => ?_)
              simp [go_sem, g0, g4, g5, ← hsz, hlt, hlt', hcc, f1, f2]
              refine (hmu).mono ?_
              rintro e w3 ⟨a3, c3, rfl, hr3, hE3⟩
              refine ⟨_, rfl, hE3, hR _ _ ?_⟩
              clear hR R
              replace hE' := hE'.next hE3
              have hml : (lim (N * 10)).length ≤ 1001 + 4 := lim_mul_len (by omega) (lim_len 4 10 (by decide))
              simp [go_sem, g0, g4, g5, ← hsz, hlt, hlt', hcc, f1, f2]
              refine hv_call (by simp [go_sem, g0, g4, g5, ← hsz, hlt, hlt', hcc, f1, f2]) rfl Try.call24 (fun R hR => ?_)
              simp [go_sem, g0, g4, g5, ← hsz, hlt, hlt', hcc, f1, f2]
              refine (ofR_any dg _ (by omega)).mono ?_
              rintro e w4 ⟨a4, c4, rfl, hr4, hE4⟩
              refine ⟨_, rfl, hE4, hR _ _ ?_⟩
              clear hR R
              replace hr3 := hr3.ext hE4
              replace hE' := hE'.next hE4
              have had := addR_any (lim (N * 10)) (lim dg) a3 a4 c3 c4 _ hr3 hr4 (by unfold lenS; omega) (by unfold lenS; omega)
              rw [val_lim, val_lim, ← hdvt'] at had
              simp [go_sem, g0, g4, g5, ← hsz, hlt, hlt', hcc, f1, f2]
              refine hv_call (by simp [go_sem, g0, g4, g5, ← hsz, hlt, hlt', hcc, f1, f2]) rfl Try.call33 (fun R hR => ?_)
              simp [go_sem, g0, g4, g5, ← hsz, hlt, hlt', hcc, f1, f2]
              refine (had).mono ?_
              rintro e w5 ⟨a5, c5, rfl, hr5, hE5⟩
              refine ⟨_, rfl, hE5, hR _ _ ?_⟩
              clear hR R
              replace hE' := hE'.next hE5
              have hdig2 : ∀ k, k < i + 1 → isD (ch l k) = true := by
                intro k hk
                by_cases h : k < i
                · exact hdig k h
                · have : k = i := by omega
                  subst this; exact hd
              simp [go_sem]
              refine hK _ _ ?_; clear hK K
              refine hK2 _ _ ?_; clear hK2 K2
              first | refine W_rt (by kernel_rfl) (fun K hK => ?_) | refine W_text (by kernel_rfl) (fun K hK => ?_)
              simp [go_sem, g5, hw1]
              exact hK _ _ ⟨l.length - (i + 1), by omega, hE.next hE', i + 1, a5, c5, by omega, rfl, by simp [go_sem, g0], by simp [go_sem], by simp [go_sem], hr5, hdig2, fun h2 => by
                by_cases h : i = 1
                · exact hz1 h
                · exact hz (by omega)⟩
            by_cases hi1 : i = 1
            · subst hi1
              have hl1 : (1 : Int) < l.length := by omega
              have go1 : ((1 : Nat) : Int) = 1 := rfl
              rw [go1] at g5
              by_cases hz0 : cz = 48
              · have h3 : ch l 0 = 48 := by apply UInt8.toNat_inj.1; rw [← hcz, hz0]; rfl
                have hrb : rdE l = 9 := hE9 (by
                  unfold rdBad
                  simp [hlt]; left; exact h3)
                subst hz0
                first | refine W_rt (by kernel_rfl) (fun K hK => ?_) | refine W_text (by kernel_rfl) (fun K hK => ?_)
                simp [go_sem, g0, g5, ← hsz, hlt, hl1, hcc, hcc0, d1', d2', d1'', d2'', hp0, hp0']
                refine hK _ _ ?_; clear hK K
                refine W_if (by simp [go_sem, d1', d2', d1'', d2'']; rfl) rfl ?_
                first | refine W_rt (by kernel_rfl) (fun K hK => ?_) | refine W_text (by kernel_rfl) (fun K hK => ?_)
                simp [go_sem]
                refine hK _ _ ?_; clear hK K
                refine W_ret ?_
                repeat (first | refine thenG_ret ?_ | refine inBlock_ret ?_)
                refine ⟨trivial, hfin hrb _ ?_⟩
                simp [go_sem, pack, resL]
              · have hz0' : ¬ (cz : Int) = 48 := by omega
                have h3 : ch l 0 ≠ 48 := fun e => hz0 (by rw [hcz, e]; rfl)
                first | refine W_rt (by kernel_rfl) (fun K hK => ?_) | refine W_text (by kernel_rfl) (fun K hK => ?_)
                simp [go_sem, g0, g5, ← hsz, hlt, hl1, hcc, hcc0, d1', d2', d1'', d2'', hz0, hz0', hp0, hp0']
                refine hK _ _ ?_; clear hK K
                refine W_if (by simp [go_sem, d1', d2', d1'', d2'', hz0, hz0']; rfl) rfl ?_
                refine W_skip ?_
                exact go (fun _ => h3) _ (by simp [go_sem, g0]) (by simp [go_sem, g5]) (by simp [go_sem, g4])
            · have hi1' : ¬ (i : Int) = 1 := by omega
              first | refine W_rt (by kernel_rfl) (fun K hK => ?_) | refine W_text (by kernel_rfl) (fun K hK => ?_)
              simp [go_sem, g0, g5, ← hsz, hlt, hlt', hcc, d1', d2', d1'', d2'', hi1, hi1']
              refine hK _ _ ?_; clear hK K
              refine W_if (by simp [go_sem, d1', d2', d1'', d2'', hi1, hi1']; rfl) rfl ?_
              refine W_skip ?_
              exact go (fun h => absurd h hi1) _ (by simp [go_sem, g0]) (by simp [go_sem, g5]) (by simp [go_sem, g4])
          · have hd0 : isD (ch l i) = false := by simpa using hd
            have hrb := hE9 (hbad' hd0)
            by_cases d1 : cn < 48
            · have d1' : (cn : Int) < 48 := by omega
              first | refine W_rt (by kernel_rfl) (fun K hK => ?_) | refine W_text (by kernel_rfl) (fun K hK => ?_)
              simp [go_sem, g0, g5, ← hsz, hlt, hlt', hcc, d1, d1']
              refine hK _ _ ?_; clear hK K
              refine W_if (by simp [go_sem, d1, d1']; rfl) rfl ?_
              first | refine W_rt (by kernel_rfl) (fun K hK => ?_) | refine W_text (by kernel_rfl) (fun K hK => ?_)
              simp [go_sem]
              refine hK _ _ ?_; clear hK K
              refine W_ret ?_
              repeat (first | refine thenG_ret ?_ | refine inBlock_ret ?_)
              refine ⟨trivial, hfin hrb _ ?_⟩
              simp [go_sem, pack, resL]
            · have d2 : 57 < cn := by
                rcases Nat.lt_or_ge 57 cn with h | h
                · exact h
                · exact absurd (hdgn.2 ⟨by omega, h⟩) hd
              have d1' : ¬ (cn : Int) < 48 := by omega
              have d2' : (57 : Int) < cn := by omega
              first | refine W_rt (by kernel_rfl) (fun K hK => ?_) | refine W_text (by kernel_rfl) (fun K hK => ?_)
              simp [go_sem, g0, g5, ← hsz, hlt, hlt', hcc, d1, d1', d2, d2']
              refine hK _ _ ?_; clear hK K
              refine W_if (by simp [go_sem, d1, d1', d2, d2']; rfl) rfl ?_
              first | refine W_rt (by kernel_rfl) (fun K hK => ?_) | refine W_text (by kernel_rfl) (fun K hK => ?_)
              simp [go_sem]
              refine hK _ _ ?_; clear hK K
              refine W_ret ?_
              repeat (first | refine thenG_ret ?_ | refine inBlock_ret ?_)
              refine ⟨trivial, hfin hrb _ ?_⟩
              simp [go_sem, pack, resL]
        · have hlt' : ¬ (i : Int) < l.length := by omega
          have him : i = l.length := by omega
          have hE0 : rdE l = 0 := by
            unfold rdE
            rw [if_neg h0, if_neg h1, if_neg]
            rw [bad_none (fun h => hz (by omega) h.2) (by rw [← him]; exact hdig)]; decide
          have hL : rdL l = lim N := by unfold rdL; rw [if_pos hE0, hN, him, List.take_length]
          first | refine W_rt (by kernel_rfl) (fun K hK => ?_) | refine W_text (by kernel_rfl) (fun K hK => ?_)
          simp [go_sem, g0, g5, ← hsz, hlt, hlt']
          refine hK _ _ ?_; clear hK K
          refine W_if (by simp [go_sem, hlt, hlt']; rfl) rfl ?_
          refine W_exit ?_
          repeat (first | refine thenG_exit ?_ | refine inBlock_other rfl ?_ | refine inBlock_same ?_)
          refine hK1 _ _ ?_; clear hK1 K1 hK2 K2
          first | refine W_rt (by kernel_rfl) (fun K hK => ?_) | refine W_text (by kernel_rfl) (fun K hK => ?_)
          simp [go_sem, g4]
          refine hK _ _ ?_; clear hK K
          refine W_ret ?_
          repeat (first | refine thenG_ret ?_ | refine inBlock_ret ?_)
          refine ⟨trivial, a, c, ?_, by rw [hL]; exact hr, hE⟩
          rw [hL, hE0]
          simp [go_sem, pack, resL, g4]
end Go.Proofs.Ytomniiobaonloaa
