/- NaturalReads. -/
import Derived.Test.YtomniiobaonloaaNu8
import Derived.Test.YtomniiobaonloaaNtW
namespace Go.Proofs.Ytomniiobaonloaa
open Go.RowKit Go.V Go.ChangeMaps
set_option linter.unusedSimpArgs false
set_option linter.unusedVariables false

theorem rdL_len (l : List UInt8) : (rdL l).length ≤ 1000 := by
  unfold rdL
  split
  · rename_i h
    unfold rdE at h
    split at h
    · cases h
    · split at h
      · cases h
      · rename_i h1
        split at h
        · cases h
        · rename_i hb
          have hd : ∀ k, k < l.length → isD (ch l k) = true := by
            intro k hk
            cases hc : isD (ch l k) with
            | true => rfl
            | false => exact absurd (bad_at hk hc) hb
          have := dv_len l l.length (Nat.le_refl _) hd
          rw [List.take_length] at this
          omega
  · simp
set_option maxHeartbeats 1000000 in
theorem naturalReads_any (l : List Nat) (a : Option Addr) (c : Nat) (s : ByteArray) (w : World) (hr : RD w a c l) :
    Calls Try.prog 9 #[.slice a l.length c, .string s] w fun e w' => e = .returned (.bool true) ∧ Below w.heap.size w w' := by
  refine calls_of_W (args := [.slice a l.length c, .string s]) (rs := [.tmp 4]) (n := 47) Try.func9 rfl rfl rfl (by kernel_rfl) ?_
  first | refine W_rt (by kernel_rfl) (fun K hK => ?_) | refine W_text (by kernel_rfl) (fun K hK => ?_)
  simp [go_sem]
  refine hK _ _ ?_; clear hK K
  refine W_seq (fun K1 hK1 => ?_)
  first | refine W_rt (by kernel_rfl) (fun K hK => ?_) | refine W_text (by kernel_rfl) (fun K hK => ?_)
  simp [go_sem]
  refine hv_buildSlice #[.slice a l.length c] (by simp [go_sem]) rfl ty_slZ50 (by decide) [(0, .slice a l.length c)] (by simp [go_sem]) (by kernel_rfl) (fun w2 b2 hE2 hle2 hB2 => ?_)
  replace hr := hr.ext hE2
  simp [go_sem]
  refine hv_call (by simp [go_sem]) rfl Try.call12 (fun R hR => ?_)
  simp [go_sem]
  refine (small_any [(a, l.length, c)] b2 _ hB2 (by simp)).mono ?_
  rintro e w3 ⟨rfl, rfl⟩
  refine ⟨_, rfl, hR _ _ ?_⟩
  clear hR R
  have hE := hE2
  clear hE2 hB2
  by_cases h1 : l.length ≤ 24
  · by_cases n1 : 1100 < s.size
    · have n1' : (1100 : Int) < s.size := by omega
      simp [go_sem, h1, n1, n1']
      refine hK _ _ ?_; clear hK K
      refine W_if (by simp [go_sem, h1, n1, n1']; rfl) rfl ?_
      first | refine W_rt (by kernel_rfl) (fun K hK => ?_) | refine W_text (by kernel_rfl) (fun K hK => ?_)
      simp [go_sem]
      refine hv_call (by simp [go_sem]) rfl Try.call13 (fun R hR => ?_)
      simp [go_sem]
      refine (alive_any _).mono ?_
      rintro e w4 ⟨rfl, hE4⟩
      refine ⟨_, rfl, hR _ _ ?_⟩
      clear hR R
      replace hE := hE.next hE4
      clear hE4
      simp [go_sem]
      refine hK _ _ ?_; clear hK K
      refine W_ret ?_
      repeat (first | refine thenG_ret ?_ | refine inBlock_ret ?_)
      refine ⟨trivial, ?_, hE⟩
      simp [go_sem, pack, resL]
    · have n1' : ¬ (1100 : Int) < s.size := by omega
      simp [go_sem, h1, n1, n1']
      refine hK _ _ ?_; clear hK K
      refine W_if (by simp [go_sem, h1, n1, n1']; rfl) rfl ?_
      refine W_skip ?_
      refine hK1 _ _ ?_; clear hK1 K1
      have hl := Nat.le_trans (rdL_len (bs s)) (show 1000 ≤ lenB by decide)
      have hrd := fun {w} => read_any s w
      have hrdR := fun {w} => readR_any s w
      have htx := fun {w} hr => text_any l a c w hr (by omega)
      have htxR := fun {w} hr => textR_any l a c w hr (by omega)
      unfold ReadPost at hrd hrdR
      unfold RetS at htx htxR
      generalize rdL (bs s) = L at *
      generalize rdE (bs s) = E at *
      generalize txt (val l) = T at *
      first | refine W_rt (by kernel_rfl) (fun K hK => ?_) | refine W_text (by kernel_rfl) (fun K hK => ?_)
      simp [go_sem]
      refine hv_call (by simp [go_sem]) rfl Try.call35 (fun R hR => ?_)
      simp [go_sem]
      refine hrd.mono ?_
      rintro e w4 ⟨a4, c4, rfl, hr4, hE4⟩
      refine ⟨_, rfl, hR _ _ ?_⟩
      clear hR R
      replace hr := hr.ext hE4
      replace hE := hE.next hE4
      simp [go_sem]
      refine hK _ _ ?_; clear hK K
      first | refine W_rt (by kernel_rfl) (fun K hK => ?_) | refine W_text (by kernel_rfl) (fun K hK => ?_)
      simp [go_sem]
      refine hv_call (by simp [go_sem]) rfl Try.call36 (fun R hR => ?_)
      simp [go_sem]
      refine hrdR.mono ?_
      rintro e w5 ⟨a5, c5, rfl, hr5, hE5⟩
      refine ⟨_, rfl, hR _ _ ?_⟩
      clear hR R
      replace hr := hr.ext hE5
      replace hr4 := hr4.ext hE5
      replace hE := hE.next hE5
      simp [go_sem]
      refine hK _ _ ?_; clear hK K
      first | refine W_rt (by kernel_rfl) (fun K hK => ?_) | refine W_text (by kernel_rfl) (fun K hK => ?_)
      simp [go_sem]
      refine hv_call (by simp [go_sem]) rfl Try.call37 (fun R hR => ?_)
      simp [go_sem]
      refine (htx hr).mono ?_
      rintro e w6 ⟨rfl, hE6⟩
      refine ⟨_, rfl, hR _ _ ?_⟩
      clear hR R
      replace hr := hr.ext hE6
      replace hr4 := hr4.ext hE6
      replace hr5 := hr5.ext hE6
      replace hE := hE.next hE6
      clear hE6
      simp [go_sem]
      refine hv_call (by simp [go_sem]) rfl Try.call38 (fun R hR => ?_)
      simp [go_sem]
      refine (htxR hr).mono ?_
      rintro e w7 ⟨rfl, hE7⟩
      refine ⟨_, rfl, hR _ _ ?_⟩
      clear hR R
      replace hr4 := hr4.ext hE7
      replace hr5 := hr5.ext hE7
      replace hE := hE.next hE7
      clear hE7
      simp [go_sem]
      refine hv_call (by simp [go_sem]) rfl Try.call16 (fun R hR => ?_)
      simp [go_sem]
      refine (same_any L _ _ _ _ _ hr4 hr5 hl).mono ?_
      rintro e w8 ⟨rfl, hE8⟩
      refine ⟨_, rfl, hR _ _ ?_⟩
      clear hR R
      replace hE := hE.next hE8
      clear hE8
      simp [go_sem]
      refine hv_call (by simp [go_sem]) rfl Try.call13 (fun R hR => ?_)
      simp [go_sem]
      refine (alive_any _).mono ?_
      rintro e w9 ⟨rfl, hE9⟩
      refine ⟨_, rfl, hR _ _ ?_⟩
      clear hR R
      replace hE := hE.next hE9
      clear hE9
      simp [go_sem]
      refine hK _ _ ?_; clear hK K
      refine W_ret ?_
      repeat (first | refine thenG_ret ?_ | refine inBlock_ret ?_)
      refine ⟨trivial, ?_, hE⟩
      simp [go_sem, pack, resL]
  · simp [go_sem, h1]
    refine hK _ _ ?_; clear hK K
    refine W_if (by simp [go_sem, h1]; rfl) rfl ?_
    first | refine W_rt (by kernel_rfl) (fun K hK => ?_) | refine W_text (by kernel_rfl) (fun K hK => ?_)
    simp [go_sem]
    refine hv_call (by simp [go_sem]) rfl Try.call13 (fun R hR => ?_)
    simp [go_sem]
    refine (alive_any _).mono ?_
    rintro e w4 ⟨rfl, hE4⟩
    refine ⟨_, rfl, hR _ _ ?_⟩
    clear hR R
    replace hE := hE.next hE4
    clear hE4
    simp [go_sem]
    refine hK _ _ ?_; clear hK K
    refine W_ret ?_
    repeat (first | refine thenG_ret ?_ | refine inBlock_ret ?_)
    refine ⟨trivial, ?_, hE⟩
    simp [go_sem, pack, resL]
set_option maxRecDepth 100000 in
theorem naturalReads_lifted (os : Os) (started : os.Started) (H : Type) (enc : TypeId × Value → H) :
    ReturnsInHanded {} Try.checked os 9 .any (Rows.naturalReadsSpec.pre6 enc Try.prog Try.f9 Rows.naturalReadsRow.domain false) (Rows.naturalReadsSpec.post enc Try.prog Try.f9 false true false false) := by
  refine law_lifted (C := Try.checked) (s := Rows.naturalReadsSpec) Try.own Try.laidOut (by kernel_rfl) Try.func9 rfl 4 rfl Try.underlying4 (by kernel_rfl) enc ?_ ?_ os started
    (ChangeSpec.witness6 (enc := enc) (C := Try.checked) false ⟨#[], #[.slice none 0 0, .string ⟨#[]⟩], []⟩ 8 (by kernel_rfl) (by kernel_rfl) (by kernel_rfl) (by kernel_rfl))
  · intro ds hl
    match ds, hl with
    | [d0, d1], _ => rfl
  · intro W base args ds ps hval hA hlt _
    have hA' : DataW.TrodAll enc Try.prog W 0 (fun _ => true) true [23, 9] args.toList ds ps := hA
    have hval' : ∀ (j : Nat) t v, Try.f9.params[j]? = some t → args[j]? = some v → Value.okWide Try.prog W .any base t v := hval
    obtain ⟨v0, v1, d0, d1, p0, p1, rfl, rfl, rfl, h0, h1⟩ := Go.ChangeShapes.trodAll_two hA'
    obtain ⟨x, a_x, c_x, rfl, hr_x, hk_x⟩ := open_nat (hval' 0 23 v0 rfl rfl) h0
    obtain ⟨s, rfl, rfl, rfl, hs_s⟩ := Go.ChangeMaps.open_string Try.underlying9 (hval' 1 9 v1 rfl rfl) h1
    exact naturalReads_any x a_x c_x s W hr_x

theorem naturalReads_holds : Rows.NaturalReadsSaid :=
  OpenClaim.holds_of_wide 9 Try.f9 rfl rfl rfl rfl rfl rfl rfl ⟨rfl, rfl, rfl, rfl, rfl⟩ rfl rfl rfl rfl rfl (by kernel_rfl) Try.func9 (by kernel_rfl)
    (of_decide_eq_true (by kernel_rfl)) (by unfold Func.isWrapper; first | (rw [if_pos (by decide +kernel)]; kernel_rfl) | (rw [if_neg (by decide +kernel)]; exact ⟨rfl, rfl⟩))
    (fun os started H enc _ => naturalReads_lifted os started H enc)
end Go.Proofs.Ytomniiobaonloaa
