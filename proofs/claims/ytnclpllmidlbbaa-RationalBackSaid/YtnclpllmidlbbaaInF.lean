/- Integers: Read. -/
import Derived.Test.YtnclpllmidlbbaaIn5
import Derived.Test.YtnclpllmidlbbaaIn9
import Derived.Test.YtnclpllmidlbbaaNu8
namespace Go.Proofs.Ytnclpllmidlbbaa
open Go.RowKit Go.V
set_option linter.unusedSimpArgs false
set_option linter.unusedVariables false
set_option maxRecDepth 20000
theorem bs_extI (s : ByteArray) : bs (s.extract 1 s.size) = (bs s).drop 1 := by
  unfold bs
  rw [ByteArray.data_extract, Array.toList_extract]
  have : s.size = s.data.toList.length := by rw [Array.length_toList]; rfl
  rw [List.extract_eq_take_drop, this, List.take_of_length_le (by simp)]
theorem rdL_lenI (l : List UInt8) : (rdL l).length ≤ 1000 := by
  unfold rdL
  split
  · rename_i h
    unfold rdE at h
    split at h
    · cases h
    · split at h
      · cases h
      · rename_i h1
        split at h
        · cases h
        · rename_i hb
          have hd : ∀ k, k < l.length → isD (ch l k) = true := by
            intro k hk
            cases hc : isD (ch l k) with
            | true => rfl
            | false => exact absurd (bad_at hk hc) hb
          have := dv_len l l.length (Nat.le_refl _) hd
          rw [List.take_length] at this
          omega
  · simp
/-- does a minus come first? -/
def izn (l : List UInt8) : Bool := decide (0 < l.length ∧ ((ch l 0).toNat : Int) = 45)
/-- what is behind it -/
def izd (l : List UInt8) : List UInt8 := if izn l = true then l.drop 1 else l
def izE (l : List UInt8) : Int := if ¬ rdE (izd l) = 0 then rdE (izd l) else if izn l = true ∧ (rdL (izd l)).length = 0 then 9 else 0
def izV (l : List UInt8) : Int := if izE l = 0 then iv (izn l) (dv (izd l)) else 0
def IReadPost (w : World) (l : List UInt8) (e : Ending) (w' : World) : Prop := ∃ a c, e = .returned (.tuple #[iR (izV l) a c, .int .i64 (izE l)]) ∧ RD w' a c (lim (izV l).natAbs) ∧ Below w.heap.size w w'
theorem iR0 : iR 0 none 0 = .agg #[.bool false, .slice none 0 0] := by unfold iR; rw [show ((0 : Int).natAbs) = 0 from rfl, lim_zero]; rfl
theorem ireadErr {w w' : World} {l : List UInt8} {e : Ending} (h0 : izE l ≠ 0) (he : e = .returned (.tuple #[.agg #[.bool false, .slice none 0 0], .int .i64 (izE l)])) (hE : Below w.heap.size w w') : IReadPost w l e w' := by
  have hv : izV l = 0 := by unfold izV; rw [if_neg h0]
  refine ⟨none, 0, ?_, ?_, hE⟩
  · rw [hv, iR0, he]
  · rw [hv, show ((0 : Int).natAbs) = 0 from rfl, lim_zero]; exact RD.nil _ _ _
set_option maxHeartbeats 1000000 in
theorem iRead_any (s : ByteArray) (w : World) : Calls Try.prog 80 #[.string s] w (IReadPost w (bs s)) := by
  have hsz := bs_len s
  have hbe : bs ⟨#[]⟩ = [] := rfl
  obtain ⟨l, hl⟩ : ∃ l, l = bs s := ⟨_, rfl⟩
  have hex := bs_extI s
  rw [← hl] at hsz hex ⊢
  have hba : byteAt s 0 = ch l 0 := by rw [hl]; rfl
  obtain ⟨n, hn⟩ : ∃ n, n = izn l := ⟨_, rfl⟩
  refine calls_of_W (args := [.string s]) (rs := [.cell 2 25, .tmp 3]) (n := 38) Try.func80 rfl rfl rfl (by kernel_rfl) ?_
  first | refine W_rt (by kernel_rfl) (fun K hK => ?_) | refine W_text (by kernel_rfl) (fun K hK => ?_)
  simp [go_sem]
  refine hv_alloc (by simp [go_sem]) rfl ty_zeroC25 (fun w2 b2 hE2 hle2 hB2 => ?_)
  have hE := hE2
  simp [go_sem]
  refine hK _ _ ?_; clear hK K
  refine W_rtJ (fun g w' => w' = w2 ∧ g 0 = .string s ∧ g 2 = .pointer (some ⟨b2, 0, none⟩) ∧ g 4 = .bool n) (by kernel_rfl) ?_ ?_
  · by_cases h0 : l = []
    · have hn0 : n = false := by rw [hn, h0]; rfl
      simp [go_sem, ← hl, hbe, h0, hn0]
    · have hl0 : 0 < s.size := by rw [← hsz]; exact List.length_pos_iff.2 h0
      have hl1 : 0 < l.length := List.length_pos_iff.2 h0
      by_cases h1 : ((ch l 0).toNat : Int) = 45
      · have hn1 : n = true := by rw [hn]; unfold izn; exact decide_eq_true ⟨hl1, h1⟩
        simp [go_sem, ← hl, hbe, h0, hba, h1, hl0, hn1]
      · have hn1 : n = false := by rw [hn]; unfold izn; exact decide_eq_false (fun h => h1 h.2)
        simp [go_sem, ← hl, hbe, h0, hba, h1, hl0, hn1]
  · rintro g w2 ⟨rfl, g0, g2, g4⟩
    first | refine W_rt (by kernel_rfl) (fun K hK => ?_) | refine W_text (by kernel_rfl) (fun K hK => ?_)
    simp [go_sem, g0]
    refine hK _ _ ?_; clear hK K
    refine W_seq (fun K1 hK1 => ?_)
    have main : ∀ (g' : G) (d : ByteArray), g' 2 = .pointer (some ⟨b2, 0, none⟩) → g' 4 = .bool n → g' 5 = .string d → bs d = izd l → K1 g' w2 := by
      intro g' d g2 g4 g5 hd
      refine hK1 _ _ ?_; clear hK1 K1
      have hrd := read_any d w2
      unfold ReadPost at hrd
      rw [hd] at hrd
      have hEl : izE l = if ¬ rdE (izd l) = 0 then rdE (izd l) else if n = true ∧ (rdL (izd l)).length = 0 then 9 else 0 := by rw [hn]; rfl
      have hVl : izE l = 0 → izV l = iv n (dv (izd l)) := fun h => by unfold izV; rw [if_pos h, hn]
      have hLl : rdE (izd l) = 0 → rdL (izd l) = lim (dv (izd l)) := fun h => by unfold rdL; rw [if_pos h]
      generalize izd l = D at *
      generalize hEE : rdE D = E at *
      generalize hLL : rdL D = L at *
      first | refine W_rt (by kernel_rfl) (fun K hK => ?_) | refine W_text (by kernel_rfl) (fun K hK => ?_)
      simp [go_sem, g5]
      refine hv_call (by simp [go_sem, g5]) rfl Try.call81 (fun R hR => ?_)
      simp [go_sem, g5]
      refine hrd.mono ?_
      rintro e w4 ⟨a4, c4, rfl, hr4, hE4⟩
      refine ⟨_, rfl, hR _ _ ?_⟩
      clear hR R
      replace hB2 := hB2.keep hE4
      replace hE := hE.next hE4
      obtain ⟨k0, k1⟩ := ibx hB2
      simp [go_sem, g5]
      refine hK _ _ ?_; clear hK K
      refine W_seq (fun K2 hK2 => ?_)
      by_cases he : E = 0
      · have hL := hLl he
        subst hL
        rw [if_neg (by rw [he]; simp)] at hEl
        first | refine W_rt (by kernel_rfl) (fun K hK => ?_) | refine W_text (by kernel_rfl) (fun K hK => ?_)
        simp [go_sem, g5, he]
        refine hK _ _ ?_; clear hK K
        refine W_if (by simp [go_sem]; rfl) rfl ?_
        refine W_skip ?_
        refine hK2 _ _ ?_; clear hK2 K2
        refine W_seq (fun K3 hK3 => ?_)
        refine W_rtJ (fun g w' => w' = w4 ∧ g 2 = .pointer (some ⟨b2, 0, none⟩) ∧ g 4 = .bool n ∧ g 6 = .slice a4 (lim (dv D)).length c4 ∧ g 33 = .bool (n && decide (((lim (dv D)).length : Int) = 0))) (by kernel_rfl) ?_ ?_
        · cases n
          · simp [go_sem, g2, g4]
          · simp [go_sem, g2, g4]
        · clear g2 g4 g5
          rintro g w5 ⟨rfl, g2, g4, g6, g33⟩
          refine W_if g33 rfl ?_
          by_cases hz : n = true ∧ (lim (dv D)).length = 0
          · rw [if_pos hz] at hEl
            obtain ⟨hz1, hz2⟩ := hz
            have hz3 : ((lim (dv D)).length : Int) = 0 := by omega
            rw [hz1, decide_eq_true hz3, Bool.and_self]
            first | refine W_rt (by kernel_rfl) (fun K hK => ?_) | refine W_text (by kernel_rfl) (fun K hK => ?_)
            simp [go_sem, g2, k0, k1]
            refine hv_build #[.bool false, .slice none 0 0] (by simp [go_sem, g2]) rfl ty_stZ25 [] (by simp [go_sem, g2]) rfl ?_
            simp [go_sem, g2]
            refine hv_store (b := b2) (off := 0) [.bool false, .slice none 0 0] (by simp [go_sem, g2]) rfl (by simp [go_sem, g2]) (by simp [go_sem, Value.cells, g2]) ty_size25 hB2 (by simp) (by simp [Value.oneCell']) (by decide) (fun w9 hS9 hB9 => ?_)
            simp [putC] at hB9
            replace hE := hE.nextS hS9 hle2
            obtain ⟨k0, k1⟩ := ibx hB9
            simp [go_sem, g2]
            refine hK _ _ ?_; clear hK K
            refine W_ret ?_
            repeat (first | refine thenG_ret ?_ | refine inBlock_ret ?_)
            refine ⟨by simp [resOk, go_sem, rowOk, g2, k0, k1, add_mk], ireadErr (by rw [hEl]; decide) ?_ hE⟩
            simp [go_sem, pack, resL, rowV, g2, k0, k1, add_mk, hEl]
          · rw [if_neg hz] at hEl
            have hbb : (n && decide (((lim (dv D)).length : Int) = 0)) = false := by
              cases n
              · rfl
              · have : ¬ ((lim (dv D)).length : Int) = 0 := fun h => hz ⟨rfl, by omega⟩
                rw [decide_eq_false this]; rfl
            rw [hbb]
            have hV := hVl hEl
            refine W_skip ?_
            refine hK3 _ _ ?_; clear hK3 K3
            first | refine W_rt (by kernel_rfl) (fun K hK => ?_) | refine W_text (by kernel_rfl) (fun K hK => ?_)
            simp [go_sem, g2, g4, g6]
            refine hv_call (by simp [go_sem, g2, g4, g6]) rfl Try.call96 (fun R hR => ?_)
            simp [go_sem, g2, g4, g6]
            refine (made_any n (dv D) a4 c4 _ hr4).mono ?_
            rintro e w6 ⟨a6, c6, rfl, hr6, hE6⟩
            refine ⟨_, rfl, hR _ _ ?_⟩
            clear hR R
            replace hB2 := hB2.keep hE6
            replace hE := hE.next hE6
            simp [go_sem, g2]
            refine hv_store (b := b2) (off := 0) [.bool (decide (iv n (dv D) < 0)), .slice a6 (lim (iv n (dv D)).natAbs).length c6] (by simp [go_sem, g2, iR]) rfl (by simp [go_sem, g2, iR]) (by simp [go_sem, Value.cells, g2, iR]) ty_size25 hB2 (by simp) (by simp [Value.oneCell']) (by decide) (fun w9 hS9 hB9 => ?_)
            simp [putC] at hB9
            replace hr6 := hr6.sto hS9 (hr6.nbox hB2)
            replace hE := hE.nextS hS9 hle2
            obtain ⟨k0, k1⟩ := ibx hB9
            simp [go_sem, g2]
            refine hK _ _ ?_; clear hK K
            refine W_ret ?_
            repeat (first | refine thenG_ret ?_ | refine inBlock_ret ?_)
            refine ⟨by simp [resOk, go_sem, rowOk, g2, k0, k1, add_mk], a6, c6, ?_, by rw [hV]; exact hr6, hE⟩
            simp [go_sem, pack, resL, rowV, g2, k0, k1, add_mk, hEl, hV, iR]
      · have hEl' : izE l = E := by rw [hEl, if_pos he]
        first | refine W_rt (by kernel_rfl) (fun K hK => ?_) | refine W_text (by kernel_rfl) (fun K hK => ?_)
        simp [go_sem, g5, he]
        refine hK _ _ ?_; clear hK K
        refine W_if (by simp [go_sem]; rfl) rfl ?_
        first | refine W_rt (by kernel_rfl) (fun K hK => ?_) | refine W_text (by kernel_rfl) (fun K hK => ?_)
        simp [go_sem, g2, k0, k1]
        refine hv_build #[.bool false, .slice none 0 0] (by simp [go_sem, g2]) rfl ty_stZ25 [] (by simp [go_sem, g2]) rfl ?_
        simp [go_sem, g2]
        refine hv_store (b := b2) (off := 0) [.bool false, .slice none 0 0] (by simp [go_sem, g2]) rfl (by simp [go_sem, g2]) (by simp [go_sem, Value.cells, g2]) ty_size25 hB2 (by simp) (by simp [Value.oneCell']) (by decide) (fun w9 hS9 hB9 => ?_)
        simp [putC] at hB9
        replace hE := hE.nextS hS9 hle2
        obtain ⟨k0, k1⟩ := ibx hB9
        simp [go_sem, g2]
        refine hK _ _ ?_; clear hK K
        refine W_ret ?_
        repeat (first | refine thenG_ret ?_ | refine inBlock_ret ?_)
        refine ⟨by simp [resOk, go_sem, rowOk, g2, k0, k1, add_mk], ireadErr (by rw [hEl']; exact he) ?_ hE⟩
        simp [go_sem, pack, resL, rowV, g2, k0, k1, add_mk, hEl']
    cases hnn : n with
    | false =>
      have hd0 : bs s = izd l := by unfold izd; rw [← hn, hnn, ← hl]; simp
      rw [hnn] at main g4
      first | refine W_rt (by kernel_rfl) (fun K hK => ?_) | refine W_text (by kernel_rfl) (fun K hK => ?_)
      simp [go_sem, g4]
      refine hK _ _ ?_; clear hK K
      refine W_if (by simp [go_sem]; rfl) rfl ?_
      refine W_skip ?_
      exact main _ s (by simp [go_sem, g2]) (by simp [go_sem, g4]) (by simp [go_sem]) hd0
    | true =>
      have hd0 : bs (s.extract 1 s.size) = izd l := by unfold izd; rw [← hn, hnn, hex]; simp
      have hp : 1 ≤ s.size := by
        have h1 : izn l = true := by rw [← hn, hnn]
        unfold izn at h1
        have := (of_decide_eq_true h1).1
        omega
      have hp' : (1 : Int) ≤ s.size := by omega
      rw [hnn] at main g4
      first | refine W_rt (by kernel_rfl) (fun K hK => ?_) | refine W_text (by kernel_rfl) (fun K hK => ?_)
      simp [go_sem, g4]
      refine hK _ _ ?_; clear hK K
      refine W_if (by simp [go_sem]; rfl) rfl ?_
      first | refine W_rt (by kernel_rfl) (fun K hK => ?_) | refine W_text (by kernel_rfl) (fun K hK => ?_)
      simp [go_sem, g0, hp, hp']
      refine hK _ _ ?_; clear hK K
      exact main _ (s.extract 1 s.size) (by simp [go_sem, g2]) (by simp [go_sem, g4]) (by simp [go_sem]) hd0
set_option maxHeartbeats 1000000 in
theorem iReadR_any (s : ByteArray) (w : World) : Calls Try.prog 82 #[.string s] w (IReadPost w (bs s)) := by
  have hsz := bs_len s
  have hbe : bs ⟨#[]⟩ = [] := rfl
  obtain ⟨l, hl⟩ : ∃ l, l = bs s := ⟨_, rfl⟩
  have hex := bs_extI s
  rw [← hl] at hsz hex ⊢
  have hba : byteAt s 0 = ch l 0 := by rw [hl]; rfl
  obtain ⟨n, hn⟩ : ∃ n, n = izn l := ⟨_, rfl⟩
  refine calls_of_W (args := [.string s]) (rs := [.cell 2 25, .tmp 3]) (n := 37) Try.func82 rfl rfl rfl (by kernel_rfl) ?_
  first | refine W_rt (by kernel_rfl) (fun K hK => ?_) | refine W_text (by kernel_rfl) (fun K hK => ?_)
  simp [go_sem]
  refine hv_alloc (by simp [go_sem]) rfl ty_zeroC25 (fun w2 b2 hE2 hle2 hB2 => ?_)
  have hE := hE2
  simp [go_sem]
  refine hK _ _ ?_; clear hK K
  refine W_rtJ (fun g w' => w' = w2 ∧ g 0 = .string s ∧ g 2 = .pointer (some ⟨b2, 0, none⟩) ∧ g 4 = .bool n) (by kernel_rfl) ?_ ?_
  · by_cases h0 : l = []
    · have hn0 : n = false := by rw [hn, h0]; rfl
      have hs0 : s.size = 0 := by rw [← hsz, h0]; rfl
      simp [go_sem, ← hl, hbe, h0, hn0, hs0]
    · have hl0 : 0 < s.size := by rw [← hsz]; exact List.length_pos_iff.2 h0
      have hl0' : (0 : Int) < s.size := by omega
      have hl1 : 0 < l.length := List.length_pos_iff.2 h0
      by_cases h1 : ((ch l 0).toNat : Int) = 45
      · have hn1 : n = true := by rw [hn]; unfold izn; exact decide_eq_true ⟨hl1, h1⟩
        simp [go_sem, ← hl, hbe, h0, hba, h1, hl0, hl0', hn1]
      · have hn1 : n = false := by rw [hn]; unfold izn; exact decide_eq_false (fun h => h1 h.2)
        simp [go_sem, ← hl, hbe, h0, hba, h1, hl0, hl0', hn1]
  · rintro g w2 ⟨rfl, g0, g2, g4⟩
    refine W_seq (fun K1 hK1 => ?_)
    have main : ∀ (g' : G) (d : ByteArray), g' 2 = .pointer (some ⟨b2, 0, none⟩) → g' 4 = .bool n → g' 0 = .string d → bs d = izd l → K1 g' w2 := by
      intro g' d g2 g4 g0 hd
      refine hK1 _ _ ?_; clear hK1 K1
      have hrd := readR_any d w2
      unfold ReadPost at hrd
      rw [hd] at hrd
      have hEl : izE l = if ¬ rdE (izd l) = 0 then rdE (izd l) else if n = true ∧ (rdL (izd l)).length = 0 then 9 else 0 := by rw [hn]; rfl
      have hVl : izE l = 0 → izV l = iv n (dv (izd l)) := fun h => by unfold izV; rw [if_pos h, hn]
      have hLl : rdE (izd l) = 0 → rdL (izd l) = lim (dv (izd l)) := fun h => by unfold rdL; rw [if_pos h]
      generalize izd l = D at *
      generalize hEE : rdE D = E at *
      generalize hLL : rdL D = L at *
      first | refine W_rt (by kernel_rfl) (fun K hK => ?_) | refine W_text (by kernel_rfl) (fun K hK => ?_)
      simp [go_sem, g0]
      refine hv_call (by simp [go_sem, g0]) rfl Try.call83 (fun R hR => ?_)
      simp [go_sem, g0]
      refine hrd.mono ?_
      rintro e w4 ⟨a4, c4, rfl, hr4, hE4⟩
      refine ⟨_, rfl, hR _ _ ?_⟩
      clear hR R
      replace hB2 := hB2.keep hE4
      replace hE := hE.next hE4
      obtain ⟨k0, k1⟩ := ibx hB2
      simp [go_sem, g0]
      refine hK _ _ ?_; clear hK K
      refine W_seq (fun K2 hK2 => ?_)
      by_cases he : E = 0
      · have hL := hLl he
        subst hL
        rw [if_neg (by rw [he]; simp)] at hEl
        first | refine W_rt (by kernel_rfl) (fun K hK => ?_) | refine W_text (by kernel_rfl) (fun K hK => ?_)
        simp [go_sem, g0, he]
        refine hK _ _ ?_; clear hK K
        refine W_if (by simp [go_sem]; rfl) rfl ?_
        refine W_skip ?_
        refine hK2 _ _ ?_; clear hK2 K2
        refine W_seq (fun K3 hK3 => ?_)
        refine W_rtJ (fun g w' => w' = w4 ∧ g 2 = .pointer (some ⟨b2, 0, none⟩) ∧ g 4 = .bool n ∧ g 5 = .slice a4 (lim (dv D)).length c4 ∧ g 32 = .bool (n && decide (((lim (dv D)).length : Int) = 0))) (by kernel_rfl) ?_ ?_
        · cases n
          · simp [go_sem, g2, g4]
          · simp [go_sem, g2, g4]
        · clear g2 g4 g0
          rintro g w5 ⟨rfl, g2, g4, g5, g32⟩
          refine W_if g32 rfl ?_
          by_cases hz : n = true ∧ (lim (dv D)).length = 0
          · rw [if_pos hz] at hEl
            obtain ⟨hz1, hz2⟩ := hz
            have hz3 : ((lim (dv D)).length : Int) = 0 := by omega
            rw [hz1, decide_eq_true hz3, Bool.and_self]
            first | refine W_rt (by kernel_rfl) (fun K hK => ?_) | refine W_text (by kernel_rfl) (fun K hK => ?_)
            simp [go_sem, g2, k0, k1]
            refine hv_build #[.bool false, .slice none 0 0] (by simp [go_sem, g2]) rfl ty_stZ25 [] (by simp [go_sem, g2]) rfl ?_
            simp [go_sem, g2]
            refine hv_store (b := b2) (off := 0) [.bool false, .slice none 0 0] (by simp [go_sem, g2]) rfl (by simp [go_sem, g2]) (by simp [go_sem, Value.cells, g2]) ty_size25 hB2 (by simp) (by simp [Value.oneCell']) (by decide) (fun w9 hS9 hB9 => ?_)
            simp [putC] at hB9
            replace hE := hE.nextS hS9 hle2
            obtain ⟨k0, k1⟩ := ibx hB9
            simp [go_sem, g2]
            refine hK _ _ ?_; clear hK K
            refine W_ret ?_
            repeat (first | refine thenG_ret ?_ | refine inBlock_ret ?_)
            refine ⟨by simp [resOk, go_sem, rowOk, g2, k0, k1, add_mk], ireadErr (by rw [hEl]; decide) ?_ hE⟩
            simp [go_sem, pack, resL, rowV, g2, k0, k1, add_mk, hEl]
          · rw [if_neg hz] at hEl
            have hbb : (n && decide (((lim (dv D)).length : Int) = 0)) = false := by
              cases n
              · rfl
              · have : ¬ ((lim (dv D)).length : Int) = 0 := fun h => hz ⟨rfl, by omega⟩
                rw [decide_eq_false this]; rfl
            rw [hbb]
            have hV := hVl hEl
            refine W_skip ?_
            refine hK3 _ _ ?_; clear hK3 K3
            first | refine W_rt (by kernel_rfl) (fun K hK => ?_) | refine W_text (by kernel_rfl) (fun K hK => ?_)
            simp [go_sem, g2, g4, g5]
            have hof := iofR_any n (lim (dv D)) a4 c4 w5 hr4 (by have := rdL_lenI D; rw [hLL] at this; unfold lenB; omega)
            rw [val_lim] at hof
            refine hv_call (by simp [go_sem, g2, g4, g5]) rfl Try.call93 (fun R hR => ?_)
            simp [go_sem, g2, g4, g5]
            refine (hof).mono ?_
            rintro e w6 ⟨a6, c6, rfl, hr6, hE6⟩
            refine ⟨_, rfl, hR _ _ ?_⟩
            clear hR R
            replace hB2 := hB2.keep hE6
            replace hE := hE.next hE6
            simp [go_sem, g2]
            refine hv_store (b := b2) (off := 0) [.bool (decide (iv n (dv D) < 0)), .slice a6 (lim (iv n (dv D)).natAbs).length c6] (by simp [go_sem, g2, iR]) rfl (by simp [go_sem, g2, iR]) (by simp [go_sem, Value.cells, g2, iR]) ty_size25 hB2 (by simp) (by simp [Value.oneCell']) (by decide) (fun w9 hS9 hB9 => ?_)
            simp [putC] at hB9
            replace hr6 := hr6.sto hS9 (hr6.nbox hB2)
            replace hE := hE.nextS hS9 hle2
            obtain ⟨k0, k1⟩ := ibx hB9
            simp [go_sem, g2]
            refine hK _ _ ?_; clear hK K
            refine W_ret ?_
            repeat (first | refine thenG_ret ?_ | refine inBlock_ret ?_)
            refine ⟨by simp [resOk, go_sem, rowOk, g2, k0, k1, add_mk], a6, c6, ?_, by rw [hV]; exact hr6, hE⟩
            simp [go_sem, pack, resL, rowV, g2, k0, k1, add_mk, hEl, hV, iR]
      · have hEl' : izE l = E := by rw [hEl, if_pos he]
        first | refine W_rt (by kernel_rfl) (fun K hK => ?_) | refine W_text (by kernel_rfl) (fun K hK => ?_)
        simp [go_sem, g0, he]
        refine hK _ _ ?_; clear hK K
        refine W_if (by simp [go_sem]; rfl) rfl ?_
        first | refine W_rt (by kernel_rfl) (fun K hK => ?_) | refine W_text (by kernel_rfl) (fun K hK => ?_)
        simp [go_sem, g2, k0, k1]
        refine hv_build #[.bool false, .slice none 0 0] (by simp [go_sem, g2]) rfl ty_stZ25 [] (by simp [go_sem, g2]) rfl ?_
        simp [go_sem, g2]
        refine hv_store (b := b2) (off := 0) [.bool false, .slice none 0 0] (by simp [go_sem, g2]) rfl (by simp [go_sem, g2]) (by simp [go_sem, Value.cells, g2]) ty_size25 hB2 (by simp) (by simp [Value.oneCell']) (by decide) (fun w9 hS9 hB9 => ?_)
        simp [putC] at hB9
        replace hE := hE.nextS hS9 hle2
        obtain ⟨k0, k1⟩ := ibx hB9
        simp [go_sem, g2]
        refine hK _ _ ?_; clear hK K
        refine W_ret ?_
        repeat (first | refine thenG_ret ?_ | refine inBlock_ret ?_)
        refine ⟨by simp [resOk, go_sem, rowOk, g2, k0, k1, add_mk], ireadErr (by rw [hEl']; exact he) ?_ hE⟩
        simp [go_sem, pack, resL, rowV, g2, k0, k1, add_mk, hEl']
    cases hnn : n with
    | false =>
      have hd0 : bs s = izd l := by unfold izd; rw [← hn, hnn, ← hl]; simp
      rw [hnn] at main g4
      first | refine W_rt (by kernel_rfl) (fun K hK => ?_) | refine W_text (by kernel_rfl) (fun K hK => ?_)
      simp [go_sem, g4]
      refine hK _ _ ?_; clear hK K
      refine W_if (by simp [go_sem]; rfl) rfl ?_
      refine W_skip ?_
      exact main _ s (by simp [go_sem, g2]) (by simp [go_sem, g4]) (by simp [go_sem, g0]) hd0
    | true =>
      have hd0 : bs (s.extract 1 s.size) = izd l := by unfold izd; rw [← hn, hnn, hex]; simp
      have hp : 1 ≤ s.size := by
        have h1 : izn l = true := by rw [← hn, hnn]
        unfold izn at h1
        have := (of_decide_eq_true h1).1
        omega
      have hp' : (1 : Int) ≤ s.size := by omega
      rw [hnn] at main g4
      first | refine W_rt (by kernel_rfl) (fun K hK => ?_) | refine W_text (by kernel_rfl) (fun K hK => ?_)
      simp [go_sem, g4]
      refine hK _ _ ?_; clear hK K
      refine W_if (by simp [go_sem]; rfl) rfl ?_
      first | refine W_rt (by kernel_rfl) (fun K hK => ?_) | refine W_text (by kernel_rfl) (fun K hK => ?_)
      simp [go_sem, g0, hp, hp']
      refine hK _ _ ?_; clear hK K
      exact main _ (s.extract 1 s.size) (by simp [go_sem, g2]) (by simp [go_sem, g4]) (by simp [go_sem]) hd0
end Go.Proofs.Ytnclpllmidlbbaa
