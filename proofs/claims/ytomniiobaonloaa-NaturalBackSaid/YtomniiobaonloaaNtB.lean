/- NaturalForms. -/
import Derived.Test.YtomniiobaonloaaNtA
import Derived.Test.YtomniiobaonloaaRow
import Derived.ChangeSlices
namespace Go.Proofs.Ytomniiobaonloaa
open Go.RowKit Go.V Go.ChangeMaps
set_option linter.unusedSimpArgs false
set_option linter.unusedVariables false
theorem Try.own : ownKnob Try.prog.godebug = none := by kernel_rfl
theorem Try.laidOut : laidOutB Try.prog = true := by kernel_rfl

theorem open_nat {H : Type} {enc : TypeId × Value → H} {W : World} {r : Reach} {base : Nat} {v : Value} {d : DataW H} {ps : List MemPlace}
    (hval : Value.okWide Try.prog W r base 23 v) (hd : DataW.Trod enc Try.prog W 0 (fun _ => true) true 23 v d ps) : ∃ l a c, v = .slice a l.length c ∧ RD W a c l ∧ c ≤ maxLen := by
  obtain ⟨a0, len, cap, rfl⟩ := Go.WideShapes.okWide_slice Try.underlying23 hval
  obtain ⟨fuel, hf⟩ := hd
  rcases Go.ChangeShapes.open_ints Try.underlying23 Try.underlying39 (by kernel_rfl) hf with ⟨h, _⟩ | ⟨ad, len', cap', zs, h, _, hle, hmax, hz, _, hcell, hwf⟩
  · simp [Value.cells] at h
    obtain ⟨rfl, rfl, rfl⟩ := h
    exact ⟨[], none, 0, rfl, RD.nil _ _ _, by decide⟩
  · simp [Value.cells] at h
    obtain ⟨rfl, rfl, rfl⟩ := h
    simp at hz
    have hlen : ((zs.take len).map Int.toNat).length = len := by rw [List.length_map, List.length_take]; omega
    refine ⟨(zs.take len).map Int.toNat, some ad, cap, by rw [hlen], ⟨?_, ?_, by rw [hlen]; exact hle⟩, hmax⟩
    · by_cases h0 : len = 0
      · subst h0; exact .inl (by simp [lmC])
      · have g0 := hcell 0 (by omega)
        obtain ⟨b, off, spot⟩ := ad
        have hspot : spot = none := by simpa [Addr.add] using World.cell?_spot g0
        subst hspot
        refine .inr ⟨b, off, rfl, fun j u hu => ?_⟩
        have hj : j < len := by
          have := (List.getElem?_eq_some_iff.1 hu).1
          rwa [lmC_len, hlen] at this
        have g := hcell j (by omega)
        rw [add_mk] at g
        rw [g]
        have hjz : j < zs.length := by omega
        have hw := hwf _ (List.getElem_mem hjz)
        have hn : 0 ≤ zs[j] := by
          simp only [Lit.wf, Bool.and_eq_true, decide_eq_true_eq] at hw
          have e1 : IntKind.u16.min = 0 := by decide
          omega
        rw [lmC_get, List.getElem?_map, List.getElem?_take_of_lt hj, List.getElem?_eq_getElem hjz] at hu
        simp only [Option.map_some, Option.some.injEq] at hu
        rw [← hu, List.getD_eq_getElem?_getD, List.getElem?_eq_getElem hjz, Option.getD_some]
        congr 2
        omega
    · intro x hx
      simp only [List.mem_map] at hx
      obtain ⟨y, hy, rfl⟩ := hx
      have hw := hwf y (List.mem_of_mem_take hy)
      simp only [Lit.wf, Bool.and_eq_true, decide_eq_true_eq] at hw
      have e1 : IntKind.u16.min = 0 := by decide
      have e2 : IntKind.u16.max = 65535 := by decide
      omega
theorem u64_nat {n : Int} (h : (Lit.int .u64 n).wf = true) : ∃ k : Nat, n = k ∧ k < 18446744073709551616 := by
  simp only [Lit.wf, Bool.and_eq_true, decide_eq_true_eq] at h
  have e1 : IntKind.u64.min = 0 := by decide
  have e2 : IntKind.u64.max = 18446744073709551615 := by decide
  exact ⟨n.toNat, by omega, by omega⟩
theorem blen_small (l : List Nat) (a : Option Addr) (c : Nat) (w : World) (hr : RD w a c l) (hl : l.length ≤ 24) : blen (val l) ≤ 384 := by
  have := blen_bound l hr.ok; omega
theorem uintV_lt (l : List Nat) (h : Ok l) : uintV l < 18446744073709551616 := by
  unfold uintV
  split
  · rename_i h4
    rw [← val_nrm l]; exact val_lt4 _ (nrm_ok l h) h4
  · decide
theorem uintV_lim (n : Nat) (hn : n < 18446744073709551616) : uintV (lim n) = n ∧ (nrm (lim n)).length ≤ 4 := by
  have h : (nrm (lim n)).length ≤ 4 := by rw [nrm_lim]; exact lim_len 4 n (by simpa using hn)
  exact ⟨by unfold uintV; rw [if_pos h, val_lim], h⟩

set_option maxHeartbeats 4000000 in
theorem naturalForms_any (l m : List Nat) (a b : Option Addr) (c d n : Nat) (w : World) (hr : RD w a c l) (hs : RD w b d m) (hn : n < 18446744073709551616) :
    Calls Try.prog 3 #[.slice a l.length c, .slice b m.length d, .int .u64 n] w fun e w' => e = .returned (.bool true) ∧ Below w.heap.size w w' := by
  refine calls_of_W (args := [.slice a l.length c, .slice b m.length d, .int .u64 n]) (rs := [.tmp 6]) (n := 83) Try.func3 rfl rfl rfl (by kernel_rfl) ?_
  first | refine W_rt (by kernel_rfl) (fun K hK => ?_) | refine W_text (by kernel_rfl) (fun K hK => ?_)
  simp [go_sem]
  refine hK _ _ ?_; clear hK K
  refine W_seq (fun K1 hK1 => ?_)
  first | refine W_rt (by kernel_rfl) (fun K hK => ?_) | refine W_text (by kernel_rfl) (fun K hK => ?_)
  simp [go_sem]
  refine hv_buildSlice #[.slice a l.length c, .slice b m.length d] (by simp [go_sem]) rfl ty_slZ50 (by decide) [(0, .slice a l.length c), (1, .slice b m.length d)] (by simp [go_sem]) (by kernel_rfl) (fun w2 b2 hE2 hle2 hB2 => ?_)
  replace hr := hr.ext hE2
  replace hs := hs.ext hE2
  simp [go_sem]
  refine hv_call (by simp [go_sem]) rfl Try.call12 (fun R hR => ?_)
  simp [go_sem]
  refine (small_any [(a, l.length, c), (b, m.length, d)] b2 _ hB2 (by simp)).mono ?_
  rintro e w3 ⟨rfl, rfl⟩
  refine ⟨_, rfl, hR _ _ ?_⟩
  clear hR R
  simp [go_sem]
  refine hK _ _ ?_; clear hK K
  have hE := hE2
  clear hE2 hB2
  by_cases h24 : l.length ≤ 24 ∧ m.length ≤ 24
  · obtain ⟨h1, h2⟩ := h24
    have hb1 : l.length ≤ lenB := by unfold lenB; omega
    have hb2 : m.length ≤ lenB := by unfold lenB; omega
    refine W_if (by simp [go_sem, h1, h2]; rfl) rfl ?_
    refine W_skip ?_
    refine hK1 _ _ ?_; clear hK1 K1
    first | refine W_rt (by kernel_rfl) (fun K hK => ?_) | refine W_text (by kernel_rfl) (fun K hK => ?_)
    simp [go_sem]
    refine hv_call (by simp [go_sem]) rfl Try.call14 (fun R hR => ?_)
    simp [go_sem]
    refine (uint_any l a c _ hr hb1).mono ?_
    rintro e w4 ⟨rfl, rfl⟩
    refine ⟨_, rfl, hR _ _ ?_⟩
    clear hR R
    simp [go_sem]
    refine hK _ _ ?_; clear hK K
    first | refine W_rt (by kernel_rfl) (fun K hK => ?_) | refine W_text (by kernel_rfl) (fun K hK => ?_)
    simp [go_sem]
    refine hv_call (by simp [go_sem]) rfl Try.call15 (fun R hR => ?_)
    simp [go_sem]
    refine (uintR_any l a c _ hr hb1).mono ?_
    rintro e w5 ⟨rfl, hE5⟩
    refine ⟨_, rfl, hR _ _ ?_⟩
    clear hR R
    replace hr := hr.ext hE5
    replace hs := hs.ext hE5
    replace hE := hE.next hE5
    clear hE5
    simp [go_sem]
    refine hK _ _ ?_; clear hK K
    refine W_seq (fun K1 hK1 => ?_)
    first | refine W_rt (by kernel_rfl) (fun K hK => ?_) | refine W_text (by kernel_rfl) (fun K hK => ?_)
    simp [go_sem]
    refine hv_call (by simp [go_sem]) rfl Try.call17 (fun R hR => ?_)
    simp [go_sem]
    refine (norm_any l a c _ hr hb1).mono ?_
    rintro e w6 ⟨a6, c6, rfl, hr6, hE6⟩
    refine ⟨_, rfl, hR _ _ ?_⟩
    clear hR R
    replace hr := hr.ext hE6
    replace hs := hs.ext hE6
    replace hE := hE.next hE6
    clear hE6
    simp [go_sem]
    refine hv_call (by simp [go_sem]) rfl Try.call18 (fun R hR => ?_)
    simp [go_sem]
    refine (normR_any l a c _ hr hb1).mono ?_
    rintro e w7 ⟨a7, c7, rfl, hr7, hE7⟩
    refine ⟨_, rfl, hR _ _ ?_⟩
    clear hR R
    replace hr := hr.ext hE7
    replace hs := hs.ext hE7
    replace hr6 := hr6.ext hE7
    replace hE := hE.next hE7
    clear hE7
    simp [go_sem]
    refine hv_call (by simp [go_sem]) rfl Try.call16 (fun R hR => ?_)
    simp [go_sem]
    refine (same_any (nrm l) _ _ _ _ _ hr6 hr7 (Nat.le_trans (nrm_len l) hb1)).mono ?_
    rintro e w8 ⟨rfl, hE8⟩
    refine ⟨_, rfl, hR _ _ ?_⟩
    clear hR R
    replace hr := hr.ext hE8
    replace hs := hs.ext hE8
    replace hE := hE.next hE8
    clear hE8 hr6 hr7
    simp [go_sem]
    refine hv_call (by simp [go_sem]) rfl Try.call19 (fun R hR => ?_)
    simp [go_sem]
    refine (bits_any l a c _ hr hb1).mono ?_
    rintro e w9 ⟨rfl, rfl⟩
    refine ⟨_, rfl, hR _ _ ?_⟩
    clear hR R
    simp [go_sem]
    refine hv_call (by simp [go_sem]) rfl Try.call20 (fun R hR => ?_)
    simp [go_sem]
    refine (bitsR_any l a c _ hr hb1).mono ?_
    rintro e w10 ⟨rfl, hE10⟩
    refine ⟨_, rfl, hR _ _ ?_⟩
    clear hR R
    replace hr := hr.ext hE10
    replace hs := hs.ext hE10
    replace hE := hE.next hE10
    clear hE10
    simp [go_sem]
    refine hv_call (by simp [go_sem]) rfl Try.call21 (fun R hR => ?_)
    simp [go_sem]
    refine (cmp_any l m a b c d _ hr hs hb1 hb2).mono ?_
    rintro e w11 ⟨rfl, hE11⟩
    refine ⟨_, rfl, hR _ _ ?_⟩
    clear hR R
    replace hr := hr.ext hE11
    replace hs := hs.ext hE11
    replace hE := hE.next hE11
    clear hE11
    simp [go_sem]
    refine hv_call (by simp [go_sem]) rfl Try.call22 (fun R hR => ?_)
    simp [go_sem]
    refine (cmpR_any l m a b c d _ hr hs hb1 hb2).mono ?_
    rintro e w12 ⟨rfl, rfl⟩
    refine ⟨_, rfl, hR _ _ ?_⟩
    clear hR R
    simp [go_sem]
    refine hK _ _ ?_; clear hK K
    refine W_if (by simp [go_sem]; rfl) rfl ?_
    refine W_skip ?_
    refine hK1 _ _ ?_; clear hK1 K1
    obtain ⟨u1, u2⟩ := uintV_lim n hn
    have hlim : (lim n).length ≤ lenB := by have := lim_len 4 n (by simpa using hn); unfold lenB; omega
    first | refine W_rt (by kernel_rfl) (fun K hK => ?_) | refine W_text (by kernel_rfl) (fun K hK => ?_)
    simp [go_sem]
    refine hv_call (by simp [go_sem]) rfl Try.call23 (fun R hR => ?_)
    simp [go_sem]
    refine (of_any n _ hn).mono ?_
    rintro e w13 ⟨a13, c13, rfl, hr13, hE13⟩
    refine ⟨_, rfl, hR _ _ ?_⟩
    clear hR R
    replace hE := hE.next hE13
    simp [go_sem]
    refine hv_call (by simp [go_sem]) rfl Try.call14 (fun R hR => ?_)
    simp [go_sem]
    refine (uint_any (lim n) a13 c13 _ hr13 hlim).mono ?_
    rintro e w14 ⟨rfl, rfl⟩
    refine ⟨_, rfl, hR _ _ ?_⟩
    clear hR R
    simp [go_sem, u1, u2]
    refine hK _ _ ?_; clear hK K
    first | refine W_rt (by kernel_rfl) (fun K hK => ?_) | refine W_text (by kernel_rfl) (fun K hK => ?_)
    simp [go_sem]
    refine hv_call (by simp [go_sem]) rfl Try.call23 (fun R hR => ?_)
    simp [go_sem]
    refine (of_any n _ hn).mono ?_
    rintro e w15 ⟨a15, c15, rfl, hr15, hE15⟩
    refine ⟨_, rfl, hR _ _ ?_⟩
    clear hR R
    replace hE := hE.next hE15
    simp [go_sem]
    refine hv_call (by simp [go_sem]) rfl Try.call24 (fun R hR => ?_)
    simp [go_sem]
    refine (ofR_any n _ hn).mono ?_
    rintro e w16 ⟨a16, c16, rfl, hr16, hE16⟩
    refine ⟨_, rfl, hR _ _ ?_⟩
    clear hR R
    replace hE := hE.next hE16
    replace hr15 := hr15.ext hE16
    simp [go_sem]
    refine hv_call (by simp [go_sem]) rfl Try.call16 (fun R hR => ?_)
    simp [go_sem]
    refine (same_any (lim n) _ _ _ _ _ hr15 hr16 hlim).mono ?_
    rintro e w17 ⟨rfl, hE17⟩
    refine ⟨_, rfl, hR _ _ ?_⟩
    clear hR R
    replace hE := hE.next hE17
    simp [go_sem]
    refine hv_call (by simp [go_sem]) rfl Try.call13 (fun R hR => ?_)
    simp [go_sem]
    refine (alive_any _).mono ?_
    rintro e w18 ⟨rfl, hE18⟩
    refine ⟨_, rfl, hR _ _ ?_⟩
    clear hR R
    replace hE := hE.next hE18
    simp [go_sem]
    refine hK _ _ ?_; clear hK K
    refine W_ret ?_
    repeat (first | refine thenG_ret ?_ | refine inBlock_ret ?_)
    refine ⟨trivial, ?_, hE⟩
    simp [go_sem, pack, resL]
  · have hb : (!decide (l.length ≤ 24) || !decide (m.length ≤ 24)) = true := by
      by_cases h : l.length ≤ 24
      · have : ¬ m.length ≤ 24 := fun h' => h24 ⟨h, h'⟩
        simp [h, this]
      · simp [h]
    refine W_if (by simp [go_sem, hb]; rfl) rfl ?_
    first | refine W_rt (by kernel_rfl) (fun K hK => ?_) | refine W_text (by kernel_rfl) (fun K hK => ?_)
    simp [go_sem]
    refine hv_call (by simp [go_sem]) rfl Try.call13 (fun R hR => ?_)
    simp [go_sem]
    refine (alive_any _).mono ?_
    rintro e w4 ⟨rfl, hE4⟩
    refine ⟨_, rfl, hR _ _ ?_⟩
    clear hR R
    simp [go_sem]
    refine hK _ _ ?_; clear hK K
    refine W_ret ?_
    repeat (first | refine thenG_ret ?_ | refine inBlock_ret ?_)
    refine ⟨trivial, ?_, hE.next hE4⟩
    simp [go_sem, pack, resL]
theorem forms_arg (l m : List Nat) (a b : Option Addr) (c d : Nat) (n : Int) (w : World) (hr : RD w a c l) (hs : RD w b d m) (hn : (Lit.int .u64 n).wf = true) :
    Calls Try.prog 3 #[.slice a l.length c, .slice b m.length d, .int .u64 n] w fun e w' => e = .returned (.bool true) ∧ Below w.heap.size w w' := by
  obtain ⟨k, rfl, hk⟩ := u64_nat hn
  exact naturalForms_any l m a b c d k w hr hs hk
set_option maxRecDepth 100000 in
theorem naturalForms_lifted (os : Os) (started : os.Started) (H : Type) (enc : TypeId × Value → H) :
    ReturnsInHanded {} Try.checked os 3 .any (Rows.naturalFormsSpec.pre6 enc Try.prog Try.f3 Rows.naturalFormsRow.domain false) (Rows.naturalFormsSpec.post enc Try.prog Try.f3 false true false false) := by
  refine law_lifted (C := Try.checked) (s := Rows.naturalFormsSpec) Try.own Try.laidOut (by kernel_rfl) Try.func3 rfl 4 rfl Try.underlying4 (by kernel_rfl) enc ?_ ?_ os started
    (ChangeSpec.witness6 (enc := enc) (C := Try.checked) false ⟨#[], #[.slice none 0 0, .slice none 0 0, .int .u64 0], []⟩ 8 (by kernel_rfl) (by kernel_rfl) (by kernel_rfl) (by kernel_rfl))
  · intro ds hl
    match ds, hl with
    | [d0, d1, d2], _ => rfl
  · intro W base args ds ps hval hA hlt _
    have hA' : DataW.TrodAll enc Try.prog W 0 (fun _ => true) true [23, 23, 24] args.toList ds ps := hA
    have hval' : ∀ (j : Nat) t v, Try.f3.params[j]? = some t → args[j]? = some v → Value.okWide Try.prog W .any base t v := hval
    obtain ⟨v0, v1, v2, d0, d1, d2, p0, p1, p2, rfl, rfl, rfl, h0, h1, h2⟩ := Go.ChangeShapes.trodAll_three hA'
    obtain ⟨x, a_x, c_x, rfl, hr_x, hk_x⟩ := open_nat (hval' 0 23 v0 rfl rfl) h0
    obtain ⟨y, a_y, c_y, rfl, hr_y, hk_y⟩ := open_nat (hval' 1 23 v1 rfl rfl) h1
    obtain ⟨n, rfl, rfl, rfl, hs_n⟩ := Go.ChangeShapes.open_int Try.underlying24 (hval' 2 24 v2 rfl rfl) h2
    exact forms_arg x y a_x a_y c_x c_y n W hr_x hr_y hs_n

theorem naturalForms_holds : Rows.NaturalFormsSaid :=
  OpenClaim.holds_of_wide 3 Try.f3 rfl rfl rfl rfl rfl rfl rfl ⟨rfl, rfl, rfl, rfl, rfl⟩ rfl rfl rfl rfl rfl (by kernel_rfl) Try.func3 (by kernel_rfl)
    (of_decide_eq_true (by kernel_rfl)) (by unfold Func.isWrapper; first | (rw [if_pos (by decide +kernel)]; kernel_rfl) | (rw [if_neg (by decide +kernel)]; exact ⟨rfl, rfl⟩))
    (fun os started H enc _ => naturalForms_lifted os started H enc)
end Go.Proofs.Ytomniiobaonloaa
