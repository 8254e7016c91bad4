/- Rational numbers: the specification's texts, written. -/
import Derived.Test.YtkampmdekonjmaaRs3
namespace Go.Proofs.Ytkampmdekonjmaa
open Go Go.RowKit Go.V
set_option linter.unusedSimpArgs false
set_option linter.unusedVariables false
set_option maxRecDepth 20000
set_option maxHeartbeats 1000000 in
theorem qTextR_any (neg : Bool) (l m : List Nat) (a b : Option Addr) (c d : Nat) (w : World) (hr : RD w a c l) (hs : RD w b d m) (hl : l.length ≤ 1000) (hm : m.length ≤ 1000) :
    Calls Try.prog 36 #[.agg #[.bool neg, .slice a l.length c, .slice b m.length d]] w (RetS w (qtxt (qv neg l m))) := by
  obtain ⟨X, hX⟩ : ∃ X, X = qv neg l m := ⟨_, rfl⟩
  rw [← hX]
  refine calls_of_W (args := [.agg #[.bool neg, .slice a l.length c, .slice b m.length d]]) (rs := [.tmp 2]) (n := 20) Try.func36 rfl rfl rfl (by kernel_rfl) ?_
  first | refine W_rt (by kernel_rfl) (fun K hK => ?_) | refine W_text (by kernel_rfl) (fun K hK => ?_)
  simp [go_sem]
  refine hv_box #[.bool neg, .slice a l.length c, .slice b m.length d] (by simp [go_sem]) rfl (by simp [go_sem, Value.cells]) (fun w1 b1 hE1 hle1 hB1 => ?_)
  replace hr := hr.keep hE1
  replace hs := hs.keep hE1
  have hE := hE1
  obtain ⟨k0, k1, k2⟩ := qbx hB1
  simp [go_sem]
  refine hK _ _ ?_; clear hK K
  first | refine W_rt (by kernel_rfl) (fun K hK => ?_) | refine W_text (by kernel_rfl) (fun K hK => ?_)
  simp [go_sem, k0, k1, k2, add_mk, rowV, rowOk]
  refine hv_call (by simp [go_sem, k0, k1, k2, add_mk, rowV, rowOk]) rfl Try.call38 (fun R hR => ?_)
  simp [go_sem, k0, k1, k2, add_mk, rowV, rowOk]
  refine (rnormQ_any neg l m a b c d 1000 _ hr hs hl hm (by decide)).mono ?_
  rintro e w5 ⟨a5, c5, b5, d5, rfl, hr5, hs5, hz5, hy5, hE5⟩
  refine ⟨_, rfl, hR _ _ ?_⟩
  clear hR R
  rw [← hX] at hr5 hs5 hz5 hy5
  replace hB1 := hB1.keep hE5
  replace hE := hE.next hE5
  simp [go_sem, qR, ← hX]
  refine hv_store (b := b1) (off := 0) [.bool (decide (X.num < 0)), .slice a5 (lim X.num.natAbs).length c5, .slice b5 (lim X.den).length d5] (by simp [go_sem]) rfl (by simp [go_sem]) (by simp [go_sem, Value.cells]) ty_size28 hB1 (by simp) (by simp [Value.oneCell']) (by decide) (fun w7 hS7 hB7 => ?_)
  simp [putC] at hB7
  replace hr5 := hr5.sto hS7 (hr5.nboxR hB1)
  replace hs5 := hs5.sto hS7 (hs5.nboxR hB1)
  replace hE := hE.nextS hS7 hle1
  obtain ⟨k0, k1, k2⟩ := qbx hB7
  simp [go_sem]
  refine hK _ _ ?_; clear hK K
  refine W_seq (fun K1 hK1 => ?_)
  have hD0 : Below w7.heap.size w7 w7.drew := Below.drew1 _
  replace hr5 := hr5.keep hD0
  replace hs5 := hs5.keep hD0
  replace hB7 := hB7.keep hD0
  replace hE := hE.next hD0
  obtain ⟨k0, k1, k2⟩ := qbx hB7
  first | refine W_rd [(0, 0), (1, 0), (2, 1), (3, 1)] (by kernel_rfl) (by kernel_rfl) (fun K hK => ?_) | refine W_draw [(0, 0), (1, 0), (2, 1), (3, 1)] (by kernel_rfl) (by kernel_rfl) (fun K hK => ?_)
  simp [go_sem, k0, k1, k2, add_mk]
  refine hv_call (by simp [go_sem, k0, k1, k2, add_mk]) rfl Try.call65 (fun R hR => ?_)
  simp [go_sem, k0, k1, k2, add_mk]
  refine (ofR_any 1 _ (by decide)).mono ?_
  rintro e wC ⟨aC, cC, rfl, hrC, hEC⟩
  refine ⟨_, rfl, (by assumption), hR _ _ ?_⟩
  clear hR R
  replace hr5 := hr5.keep hEC
  replace hs5 := hs5.keep hEC
  replace hB7 := hB7.keep hEC
  replace hE := hE.next hEC
  obtain ⟨k0, k1, k2⟩ := qbx hB7
  simp [go_sem, k0, k1, k2, add_mk]
  refine hv_call (by simp [go_sem, k0, k1, k2, add_mk]) rfl Try.call63 (fun R hR => ?_)
  simp [go_sem, k0, k1, k2, add_mk]
  refine (sameN_any (lim X.den) (lim 1) b5 aC d5 cC _ hs5 hrC (by unfold lenB; omega)).mono ?_
  rintro e w8 ⟨rfl, hE8⟩
  refine ⟨_, rfl, (by assumption), hR _ _ ?_⟩
  clear hR R
  replace hr5 := hr5.keep hE8
  replace hs5 := hs5.keep hE8
  replace hB7 := hB7.keep hE8
  replace hE := hE.next hE8
  obtain ⟨k0, k1, k2⟩ := qbx hB7
  have t1 := lim_lenI hz5 (by decide)
  have t2 := lim_lenT hy5 (by decide)
  have ht1 := fun {w} hr => iTextR_any (decide (X.num < 0)) (lim X.num.natAbs) a5 c5 w hr (by omega)
  have ht2 := fun {w} hr => textR_any (lim X.den) b5 d5 w hr (by omega)
  unfold RetS at ht1 ht2
  rw [show iv (decide (X.num < 0)) (val (lim X.num.natAbs)) = X.num from vz_can X.num] at ht1
  rw [val_lim] at ht2
  generalize hU : itxt X.num = U at ht1 t1
  generalize hV : txt X.den = V at ht2 t2
  by_cases hd : X.den = 1
  · have h1 : lim X.den = lim 1 := by rw [hd]
    simp [go_sem, h1]
    refine hK _ _ ?_; clear hK K
    refine W_if (t := true) (by simp [go_sem]) rfl ?_
    first | refine W_rt (by kernel_rfl) (fun K hK => ?_) | refine W_text (by kernel_rfl) (fun K hK => ?_)
    simp [go_sem, k0, k1, k2, add_mk, rowV, rowOk]
    refine hv_call (by simp [go_sem, k0, k1, k2, add_mk, rowV, rowOk]) rfl Try.call73 (fun R hR => ?_)
    simp [go_sem, k0, k1, k2, add_mk, rowV, rowOk]
    refine (ht1 hr5).mono ?_
    rintro e w9 ⟨rfl, hE9⟩
    refine ⟨_, rfl, hR _ _ ?_⟩
    clear hR R
    replace hE := hE.next hE9
    simp [go_sem]
    refine hK _ _ ?_; clear hK K
    refine W_ret ?_
    repeat (first | refine thenG_ret ?_ | refine inBlock_ret ?_)
    refine ⟨trivial, ?_, hE⟩
    simp [go_sem, pack, resL, qtxt_1 hd, hU]
  · have h1 : ¬ lim X.den = lim 1 := by rw [lim_iff]; exact hd
    simp [go_sem, h1]
    refine hK _ _ ?_; clear hK K
    refine W_if (t := false) (by simp [go_sem]) rfl ?_
    refine W_skip ?_
    refine hK1 _ _ ?_; clear hK1 K1
    have hD : Below w8.heap.size w8 w8.drew := Below.drew1 _
    replace hr5 := hr5.keep hD
    replace hs5 := hs5.keep hD
    replace hB7 := hB7.keep hD
    replace hE := hE.next hD
    obtain ⟨k0, k1, k2⟩ := qbx hB7
    first | refine W_rd [(0, 0), (1, 0), (4, 0), (5, 0), (2, 1), (3, 0), (6, 1), (7, 0), (8, 0)] (by kernel_rfl) (by kernel_rfl) (fun K hK => ?_) | refine W_draw [(0, 0), (1, 0), (4, 0), (5, 0), (2, 1), (3, 0), (6, 1), (7, 0), (8, 0)] (by kernel_rfl) (by kernel_rfl) (fun K hK => ?_)
    simp [go_sem, k0, k1, k2, add_mk, rowV, rowOk]
    refine hv_call (by simp [go_sem, k0, k1, k2, add_mk, rowV, rowOk]) rfl Try.call73 (fun R hR => ?_)
    simp [go_sem, k0, k1, k2, add_mk, rowV, rowOk]
    refine (ht1 hr5).mono ?_
    rintro e w9 ⟨rfl, hE9⟩
    refine ⟨_, rfl, (by assumption), hR _ _ ?_⟩
    clear hR R
    replace hr5 := hr5.keep hE9
    replace hs5 := hs5.keep hE9
    replace hB7 := hB7.keep hE9
    replace hE := hE.next hE9
    obtain ⟨k0, k1, k2⟩ := qbx hB7
    simp [go_sem, k0, k1, k2, add_mk]
    refine ⟨by omega, ?_⟩
    refine hv_call (by simp [go_sem, k0, k1, k2, add_mk]) rfl Try.call74 (fun R hR => ?_)
    simp [go_sem, k0, k1, k2, add_mk]
    refine (ht2 hs5).mono ?_
    rintro e wA ⟨rfl, hEA⟩
    refine ⟨_, rfl, (by assumption), hR _ _ ?_⟩
    clear hR R
    replace hE := hE.next hEA
    simp [go_sem]
    refine ⟨by omega, ?_⟩
    refine hK _ _ ?_; clear hK K
    refine W_ret ?_
    repeat (first | refine thenG_ret ?_ | refine inBlock_ret ?_)
    refine ⟨trivial, ?_, hE⟩
    simp [go_sem, pack, resL, qtxt_2 hd, hU, hV]
    first | done | exact ba_slash U V | (rw [← ba_slash U V]; rfl)
end Go.Proofs.Ytkampmdekonjmaa
