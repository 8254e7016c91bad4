/- NaturalBack. -/
import Derived.Test.YtomniiobaonloaaNu9
import Derived.Test.YtomniiobaonloaaNtX
import Derived.Test.YtomniiobaonloaaNtK
namespace Go.Proofs.Ytomniiobaonloaa
open Go.RowKit Go.V Go.ChangeMaps
set_option linter.unusedSimpArgs false
set_option linter.unusedVariables false

theorem dv_snoc (l : List UInt8) (c : UInt8) : dv (l ++ [c]) = dv l * 10 + (c.toNat - 48) := by
  unfold dv; rw [List.foldl_append]; rfl
theorem dgz_props (n : Nat) : dv (dgz n) = n ∧ (∀ c ∈ dgz n, isD c = true) ∧ (dgz n).getD 0 0 ≠ 48 := by
  induction n using Nat.strongRecOn with
  | _ n ih =>
    by_cases h : n = 0
    · subst h
      rw [dgz_0]
      refine ⟨rfl, ?_, by decide⟩
      intro c hc
      cases hc
    · obtain ⟨h1, h2, h3⟩ := ih (n / 10) (by omega)
      have hc : (UInt8.ofNat (48 + n % 10)).toNat = 48 + n % 10 := by
        have := u8_48 (n % 10) (Nat.mod_lt _ (by decide))
        omega
      rw [dgz_s n h]
      refine ⟨?_, ?_, ?_⟩
      · rw [dv_snoc, h1, hc]; omega
      · intro c hm
        rcases List.mem_append.1 hm with hm | hm
        · exact h2 c hm
        · have : c = UInt8.ofNat (48 + n % 10) := by simpa using hm
          subst this
          unfold isD
          rw [hc]
          simp; omega
      · by_cases h10 : n / 10 = 0
        · rw [h10, dgz_0, List.nil_append, List.getD_cons_zero]
          intro e
          rw [e] at hc
          have : (48 : UInt8).toNat = 48 := rfl
          omega
        · have hne : dgz (n / 10) ≠ [] := fun e => h10 (dgz_nil.1 e)
          rw [List.getD_eq_getElem?_getD] at h3 ⊢
          rw [List.getElem?_append_left (List.length_pos_iff.2 hne)]
          exact h3
theorem read_txt (A : Nat) (hA : (txt A).length ≤ 1000) : rdE (txt A) = 0 ∧ rdL (txt A) = lim A := by
  obtain ⟨h1, h2, h3⟩ := dgz_props A
  have hE : rdE (txt A) = 0 := by
    unfold rdE
    rw [if_neg, if_neg (by omega), if_neg]
    · have : rdBad (txt A) = false := by
        unfold txt at hA ⊢
        by_cases h : A = 0
        · rw [if_pos h]; decide
        · rw [if_neg h]
          refine bad_none (fun hh => h3 hh.2) (fun k hk => ?_)
          refine h2 _ ?_
          rw [List.getD_eq_getElem?_getD, List.getElem?_eq_getElem hk, Option.getD_some]
          exact List.getElem_mem hk
      rw [this]; decide
    · unfold txt
      split
      · simp
      · rename_i h
        exact fun e => h (dgz_nil.1 e)
  refine ⟨hE, ?_⟩
  unfold rdL
  rw [if_pos hE]
  unfold txt
  split
  · rename_i h; subst h; rw [show dv [48] = 0 from rfl]
  · rw [h1]
theorem txt_len (A e : Nat) (h : A < 2 ^ e) (he : 1 ≤ e) : (txt A).length ≤ e := by
  unfold txt
  split
  · simpa using he
  · exact dgz_len e A h
theorem shiftV_back (x n : Nat) (hn : n ≤ 1048576) : shiftV (x * 2 ^ n) (-(n : Int)) = x := by
  unfold shiftV
  rw [if_neg (by omega)]
  by_cases h : (-(n : Int)) < 0
  · rw [if_pos h]
    have e : (- -(n : Int)).toNat = n := by omega
    rw [e, Nat.mul_div_cancel _ (Nat.pow_pos (by decide))]
  · rw [if_neg h]
    have e : n = 0 := by omega
    subst e
    simp
set_option maxHeartbeats 1000000 in
theorem naturalBack_any (l : List Nat) (a : Option Addr) (c : Nat) (N : Int) (w : World) (hr0 : RD w a c l) :
    Calls Try.prog 11 #[.slice a l.length c, .int .i64 N] w fun e w' => e = .returned (.bool true) ∧ Below w.heap.size w w' := by
  refine calls_of_W (args := [.slice a l.length c, .int .i64 N]) (rs := [.tmp 4]) (n := 75) Try.func11 rfl rfl rfl (by kernel_rfl) ?_
  first | refine W_rt (by kernel_rfl) (fun K hK => ?_) | refine W_text (by kernel_rfl) (fun K hK => ?_)
  simp [go_sem]
  refine hK _ _ ?_; clear hK K
  refine W_seq (fun K1 hK1 => ?_)
  first | refine W_rt (by kernel_rfl) (fun K hK => ?_) | refine W_text (by kernel_rfl) (fun K hK => ?_)
  simp [go_sem]
  refine hv_buildSlice #[.slice a l.length c] (by simp [go_sem]) rfl ty_slZ50 (by decide) [(0, .slice a l.length c)] (by simp [go_sem]) (by kernel_rfl) (fun w2 b2 hE2 hle2 hB2 => ?_)
  replace hr0 := hr0.ext hE2
  simp [go_sem]
  refine hv_call (by simp [go_sem]) rfl Try.call12 (fun R hR => ?_)
  simp [go_sem]
  refine (small_any [(a, l.length, c)] b2 _ hB2 (by simp)).mono ?_
  rintro e w3 ⟨rfl, rfl⟩
  refine ⟨_, rfl, hR _ _ ?_⟩
  clear hR R
  have hE := hE2
  clear hE2 hB2
  by_cases h1 : l.length ≤ 24
  · by_cases n1 : N < 0
    · simp [go_sem, h1, n1]
      refine hK _ _ ?_; clear hK K
      refine W_if (by simp [go_sem, h1, n1]; rfl) rfl ?_
      first | refine W_rt (by kernel_rfl) (fun K hK => ?_) | refine W_text (by kernel_rfl) (fun K hK => ?_)
      simp [go_sem]
      refine hv_call (by simp [go_sem]) rfl Try.call13 (fun R hR => ?_)
      simp [go_sem]
      refine (alive_any _).mono ?_
      rintro e w4 ⟨rfl, hE4⟩
      refine ⟨_, rfl, hR _ _ ?_⟩
      clear hR R
      replace hE := hE.next hE4
      clear hE4
      simp [go_sem]
      refine hK _ _ ?_; clear hK K
      refine W_ret ?_
      repeat (first | refine thenG_ret ?_ | refine inBlock_ret ?_)
      refine ⟨trivial, ?_, hE⟩
      simp [go_sem, pack, resL]
    · by_cases n2 : 400 < N
      · simp [go_sem, h1, n1, n2]
        refine hK _ _ ?_; clear hK K
        refine W_if (by simp [go_sem, h1, n1, n2]; rfl) rfl ?_
        first | refine W_rt (by kernel_rfl) (fun K hK => ?_) | refine W_text (by kernel_rfl) (fun K hK => ?_)
        simp [go_sem]
        refine hv_call (by simp [go_sem]) rfl Try.call13 (fun R hR => ?_)
        simp [go_sem]
        refine (alive_any _).mono ?_
        rintro e w4 ⟨rfl, hE4⟩
        refine ⟨_, rfl, hR _ _ ?_⟩
        clear hR R
        replace hE := hE.next hE4
        clear hE4
        simp [go_sem]
        refine hK _ _ ?_; clear hK K
        refine W_ret ?_
        repeat (first | refine thenG_ret ?_ | refine inBlock_ret ?_)
        refine ⟨trivial, ?_, hE⟩
        simp [go_sem, pack, resL]
      · simp [go_sem, h1, n1, n2]
        refine hK _ _ ?_; clear hK K
        refine W_if (by simp [go_sem, h1, n1, n2]; rfl) rfl ?_
        refine W_skip ?_
        refine hK1 _ _ ?_; clear hK1 K1
        obtain ⟨n, rfl⟩ : ∃ n : Nat, N = (n : Int) := ⟨N.toNat, by omega⟩
        have hn : n ≤ 400 := by omega
        have hr : NV w2 a c l (val l) := ⟨hr0, rfl, by omega⟩
        have bx := val_24 l hr0.ok h1
        have htx := text_any l a c w2 hr0 (by omega)
        have htl : (txt (val l)).length ≤ 16 * 24 := txt_len _ (16 * 24) (by have := bx; rw [pow_16] at this; exact this) (by decide)
        obtain ⟨rt1, rt2⟩ := read_txt (val l) (by omega)
        have hsq := fun {w} hr => sqrt_any l a c w hr (by omega)
        obtain ⟨iq1, iq2⟩ := isq_spec (val l)
        have iq0 := sq_self_le iq1
        have hsh := fun {w} hr => (shl_any l a c n w hr (by unfold lenS; omega) (by omega)).mono (fun _ _ => retN_of_O)
        have hback := shiftV_back (val l) n (by omega)
        have hshl : (lim (val l * 2 ^ n)).length ≤ 60 := Nat.le_trans (lim_mul_len (k := 24) (m := 26) (lim_len _ _ bx) (lim_len2 n 26 (by omega))) (by decide)
        clear hr0
        obtain ⟨A, hA⟩ : ∃ A, A = val l := ⟨_, rfl⟩
        rw [← hA] at hr bx htx htl rt1 rt2 iq1 iq2 iq0 hback hshl
        have hQ : 65536 ^ 24 * 65536 ^ 24 * 65536 ≤ 65536 ^ 100 := by
          rw [← Nat.pow_add, ← Nat.pow_succ]; exact Nat.pow_le_pow_right (by decide) (by decide)
        have hsq2 : (isq A + 1) * (isq A + 1) < 65536 ^ 100 := by
          have h := Nat.mul_le_mul (show isq A + 1 ≤ 65536 ^ 24 by omega) (show isq A + 1 ≤ 65536 ^ 24 by omega)
          have h2 : 0 < 65536 ^ 24 * 65536 ^ 24 := Nat.mul_pos (Nat.pow_pos (by decide)) (Nat.pow_pos (by decide))
          omega
        have bA : A < 65536 ^ 100 := Nat.lt_of_lt_of_le bx (Nat.pow_le_pow_right (by decide) (by decide))
        first | refine W_rt (by kernel_rfl) (fun K hK => ?_) | refine W_text (by kernel_rfl) (fun K hK => ?_)
        simp [go_sem]
        refine hv_call (by simp [go_sem]) rfl Try.call37 (fun R hR => ?_)
        simp [go_sem]
        refine (htx).mono ?_
        rintro e w4 ⟨rfl, hE4⟩
        refine ⟨_, rfl, hR _ _ ?_⟩
        clear hR R
        replace hr := hr.ext hE4
        replace hE := hE.next hE4
        clear hE4
        simp [go_sem]
        have hrd := read_any ⟨(txt A).toArray⟩ w4
        unfold ReadPost at hrd
        rw [bs_mk, rt1, rt2] at hrd
        refine hv_call (by simp [go_sem]) rfl Try.call35 (fun R hR => ?_)
        simp [go_sem]
        refine hrd.mono ?_
        rintro e w5 ⟨a5, c5, rfl, hr5, hE5⟩
        refine ⟨_, rfl, hR _ _ ?_⟩
        clear hR R
        replace hr := hr.ext hE5
        replace hE := hE.next hE5
        have hm : NV w5 a5 c5 (lim A) A := NV.lim hr5 bA
        clear hr5 hrd hE5
        simp [go_sem]
        refine hK _ _ ?_; clear hK K
        have hsq1 := hsq hr.rd
        rw [← hA] at hsq1
        unfold SqPost at hsq1
        first | refine W_rt (by kernel_rfl) (fun K hK => ?_) | refine W_text (by kernel_rfl) (fun K hK => ?_)
        simp [go_sem]
        refine hv_call (by simp [go_sem]) rfl Try.call39 (fun R hR => ?_)
        simp [go_sem]
        refine hsq1.mono ?_
        rintro e w6 ⟨a6, c6, a6', c6', rfl, hr6, hs6, hE6⟩
        refine ⟨_, rfl, hR _ _ ?_⟩
        clear hR R
        replace hr := hr.ext hE6
        replace hm := hm.ext hE6
        replace hE := hE.next hE6
        have hq : NV w6 a6 c6 (lim (isq A)) (isq A) := NV.lim hr6 (by omega)
        have hrest : NV w6 a6' c6' (lim (A - isq A * isq A)) (A - isq A * isq A) := NV.lim hs6 (by omega)
        clear hr6 hs6 hE6 hsq1
        generalize hQ0 : isq A = q at *
        generalize hqq : q * q = qq at *
        generalize hqn : (q + 1) * (q + 1) = qn at *
        generalize hQQ : 65536 ^ 100 = QQ at *
        simp [go_sem]
        refine hK _ _ ?_; clear hK K
        first | refine W_rt (by kernel_rfl) (fun K hK => ?_) | refine W_text (by kernel_rfl) (fun K hK => ?_)
        simp [go_sem]
        refine hv_buildSlice #[.int .u16 1] (by simp [go_sem]) rfl ty_slZ22 (by decide) [(0, .int .u16 1)] (by simp [go_sem]) (by kernel_rfl) (fun w7 b7 hE7 hle7 hB7 => ?_)
        have hone : NV w7 (some ⟨b7, 0, none⟩) 1 [1] 1 := ⟨RD.of_lm hB7 (Ok.cons (by decide) Ok.nil) (by decide), rfl, by decide⟩
        replace hr := hr.ext hE7
        replace hm := hm.ext hE7
        replace hq := hq.ext hE7
        replace hrest := hrest.ext hE7
        replace hE := hE.next hE7
        clear hE7 hB7
        simp [go_sem]
        have one : [1].length = 1 := rfl
        refine hv_call (by simp [go_sem]) rfl Try.call29 (fun R hR => ?_)
        simp [go_sem]
        refine (addE (q + 1) hq hone rfl (by omega)).mono ?_
        rintro e w8 ⟨a8, c8, rfl, hr8, hE8⟩
        refine ⟨_, rfl, hR _ _ ?_⟩
        clear hR R
        replace hr := hr.ext hE8
        replace hm := hm.ext hE8
        replace hq := hq.ext hE8
        replace hrest := hrest.ext hE8
        replace hE := hE.next hE8
        clear hE8
        simp [go_sem]
        refine hK _ _ ?_; clear hK K
        refine W_seq (fun K1 hK1 => ?_)
        first | refine W_rt (by kernel_rfl) (fun K hK => ?_) | refine W_text (by kernel_rfl) (fun K hK => ?_)
        simp [go_sem]
        refine hv_call (by simp [go_sem]) rfl Try.call17 (fun R hR => ?_)
        simp [go_sem]
        refine (normV hr (by omega)).mono ?_
        rintro e w9 ⟨a9, c9, rfl, hr9, hE9⟩
        refine ⟨_, rfl, hR _ _ ?_⟩
        clear hR R
        replace hr := hr.ext hE9
        replace hm := hm.ext hE9
        replace hq := hq.ext hE9
        replace hrest := hrest.ext hE9
        replace hr8 := hr8.ext hE9
        replace hE := hE.next hE9
        clear hE9
        simp [go_sem]
        refine hv_call (by simp [go_sem]) rfl Try.call16 (fun R hR => ?_)
        simp [go_sem]
        refine (sameV hm hr9).mono ?_
        rintro e w10 ⟨rfl, hE10⟩
        refine ⟨_, rfl, hR _ _ ?_⟩
        clear hR R
        replace hr := hr.ext hE10
        replace hm := hm.ext hE10
        replace hq := hq.ext hE10
        replace hrest := hrest.ext hE10
        replace hr8 := hr8.ext hE10
        replace hE := hE.next hE10
        clear hE10
        simp [go_sem]
        refine hv_call (by simp [go_sem]) rfl Try.call30 (fun R hR => ?_)
        simp [go_sem]
        refine (mulE qq hq hq hqq (by omega)).mono ?_
        rintro e w11 ⟨a11, c11, rfl, hr11, hE11⟩
        refine ⟨_, rfl, hR _ _ ?_⟩
        clear hR R
        replace hr := hr.ext hE11
        replace hm := hm.ext hE11
        replace hrest := hrest.ext hE11
        replace hr8 := hr8.ext hE11
        replace hE := hE.next hE11
        clear hE11
        simp [go_sem]
        refine hv_call (by simp [go_sem]) rfl Try.call29 (fun R hR => ?_)
        simp [go_sem]
        refine (addE A hr11 hrest (by omega) (by omega)).mono ?_
        rintro e w12 ⟨a12, c12, rfl, hr12, hE12⟩
        refine ⟨_, rfl, hR _ _ ?_⟩
        clear hR R
        replace hr := hr.ext hE12
        replace hm := hm.ext hE12
        replace hr8 := hr8.ext hE12
        replace hE := hE.next hE12
        clear hE12
        simp [go_sem]
        refine hv_call (by simp [go_sem]) rfl Try.call16 (fun R hR => ?_)
        simp [go_sem]
        refine (sameV hr12 hm).mono ?_
        rintro e w13 ⟨rfl, hE13⟩
        refine ⟨_, rfl, hR _ _ ?_⟩
        clear hR R
        replace hr := hr.ext hE13
        replace hm := hm.ext hE13
        replace hr8 := hr8.ext hE13
        replace hE := hE.next hE13
        clear hE13
        simp [go_sem]
        refine hv_call (by simp [go_sem]) rfl Try.call30 (fun R hR => ?_)
        simp [go_sem]
        refine (mulE qn hr8 hr8 hqn (by omega)).mono ?_
        rintro e w14 ⟨a14, c14, rfl, hr14, hE14⟩
        refine ⟨_, rfl, hR _ _ ?_⟩
        clear hR R
        replace hr := hr.ext hE14
        replace hm := hm.ext hE14
        replace hE := hE.next hE14
        clear hE14
        simp [go_sem]
        refine hv_call (by simp [go_sem]) rfl Try.call21 (fun R hR => ?_)
        simp [go_sem]
        refine (cmpNV hr14 hm).mono ?_
        rintro e w15 ⟨rfl, hE15⟩
        refine ⟨_, rfl, hR _ _ ?_⟩
        clear hR R
        replace hr := hr.ext hE15
        replace hm := hm.ext hE15
        replace hE := hE.next hE15
        clear hE15
        simp [go_sem]
        have cq : ¬ cmpV qn A ≤ 0 := cmpV_nle (by omega)
        have cq' : 0 < cmpV qn A := by omega
        simp [go_sem, cq, cq']
        refine hK _ _ ?_; clear hK K
        refine W_if (by simp [go_sem, cq, cq']; rfl) rfl ?_
        refine W_skip ?_
        refine hK1 _ _ ?_; clear hK1 K1
        have hsh1 := hsh hr.rd
        rw [← hA] at hsh1
        first | refine W_rt (by kernel_rfl) (fun K hK => ?_) | refine W_text (by kernel_rfl) (fun K hK => ?_)
        simp [go_sem]
        refine hv_call (by simp [go_sem]) rfl Try.call41 (fun R hR => ?_)
        simp [go_sem]
        refine (hsh1).mono ?_
        rintro e w16 ⟨a16, c16, rfl, hr16, hE16⟩
        refine ⟨_, rfl, hR _ _ ?_⟩
        clear hR R
        replace hm := hm.ext hE16
        replace hE := hE.next hE16
        have hsb := shift_any (lim (A * 2 ^ n)) a16 c16 (-(n : Int)) _ hr16 (Nat.le_trans hshl (by decide))
        rw [val_lim, hback] at hsb
        obtain ⟨ns, hns⟩ : ∃ ns, ns = -(n : Int) := ⟨_, rfl⟩
        have p5 : IntKind.i64.wrap (-(n : Int)) = ns := by rw [hns]; exact IntWalk.i64_in _ (by omega)
        rw [← hns] at hsb
        simp [go_sem, p5]
        refine hv_call (by simp [go_sem, p5]) rfl Try.call41 (fun R hR => ?_)
        simp [go_sem, p5]
        refine (hsb).mono ?_
        rintro e w17 ⟨a17, c17, rfl, hr17, hE17⟩
        refine ⟨_, rfl, hR _ _ ?_⟩
        clear hR R
        replace hm := hm.ext hE17
        replace hE := hE.next hE17
        clear hE17
        simp [go_sem, p5]
        refine hv_call (by simp [go_sem]) rfl Try.call16 (fun R hR => ?_)
        simp [go_sem]
        refine (same_any (lim A) _ _ _ _ _ hr17 hm.rd hm.b).mono ?_
        rintro e w18 ⟨rfl, hE18⟩
        refine ⟨_, rfl, hR _ _ ?_⟩
        clear hR R
        replace hE := hE.next hE18
        clear hE18
        simp [go_sem]
        refine hv_call (by simp [go_sem]) rfl Try.call13 (fun R hR => ?_)
        simp [go_sem]
        refine (alive_any _).mono ?_
        rintro e w19 ⟨rfl, hE19⟩
        refine ⟨_, rfl, hR _ _ ?_⟩
        clear hR R
        replace hE := hE.next hE19
        clear hE19
        simp [go_sem]
        refine hK _ _ ?_; clear hK K
        refine W_ret ?_
        repeat (first | refine thenG_ret ?_ | refine inBlock_ret ?_)
        refine ⟨trivial, ?_, hE⟩
        simp [go_sem, pack, resL]
  · simp [go_sem, h1]
    refine hK _ _ ?_; clear hK K
    refine W_if (by simp [go_sem, h1]; rfl) rfl ?_
    first | refine W_rt (by kernel_rfl) (fun K hK => ?_) | refine W_text (by kernel_rfl) (fun K hK => ?_)
    simp [go_sem]
    refine hv_call (by simp [go_sem]) rfl Try.call13 (fun R hR => ?_)
    simp [go_sem]
    refine (alive_any _).mono ?_
    rintro e w4 ⟨rfl, hE4⟩
    refine ⟨_, rfl, hR _ _ ?_⟩
    clear hR R
    replace hE := hE.next hE4
    clear hE4
    simp [go_sem]
    refine hK _ _ ?_; clear hK K
    refine W_ret ?_
    repeat (first | refine thenG_ret ?_ | refine inBlock_ret ?_)
    refine ⟨trivial, ?_, hE⟩
    simp [go_sem, pack, resL]
set_option maxRecDepth 100000 in
theorem naturalBack_lifted (os : Os) (started : os.Started) (H : Type) (enc : TypeId × Value → H) :
    ReturnsInHanded {} Try.checked os 11 .any (Rows.naturalBackSpec.pre6 enc Try.prog Try.f11 Rows.naturalBackRow.domain false) (Rows.naturalBackSpec.post enc Try.prog Try.f11 false true false false) := by
  refine law_lifted (C := Try.checked) (s := Rows.naturalBackSpec) Try.own Try.laidOut (by kernel_rfl) Try.func11 rfl 4 rfl Try.underlying4 (by kernel_rfl) enc ?_ ?_ os started
    (ChangeSpec.witness6 (enc := enc) (C := Try.checked) false ⟨#[], #[.slice none 0 0, .int .i64 0], []⟩ 8 (by kernel_rfl) (by kernel_rfl) (by kernel_rfl) (by kernel_rfl))
  · intro ds hl
    match ds, hl with
    | [d0, d1], _ => rfl
  · intro W base args ds ps hval hA hlt _
    have hA' : DataW.TrodAll enc Try.prog W 0 (fun _ => true) true [23, 3] args.toList ds ps := hA
    have hval' : ∀ (j : Nat) t v, Try.f11.params[j]? = some t → args[j]? = some v → Value.okWide Try.prog W .any base t v := hval
    obtain ⟨v0, v1, d0, d1, p0, p1, rfl, rfl, rfl, h0, h1⟩ := Go.ChangeShapes.trodAll_two hA'
    obtain ⟨x, a_x, c_x, rfl, hr_x, hk_x⟩ := open_nat (hval' 0 23 v0 rfl rfl) h0
    obtain ⟨n, rfl, rfl, rfl, hs_n⟩ := Go.ChangeShapes.open_int Try.underlying3 (hval' 1 3 v1 rfl rfl) h1
    exact naturalBack_any x a_x c_x n W hr_x

theorem naturalBack_holds : Rows.NaturalBackSaid :=
  OpenClaim.holds_of_wide 11 Try.f11 rfl rfl rfl rfl rfl rfl rfl ⟨rfl, rfl, rfl, rfl, rfl⟩ rfl rfl rfl rfl rfl (by kernel_rfl) Try.func11 (by kernel_rfl)
    (of_decide_eq_true (by kernel_rfl)) (by unfold Func.isWrapper; first | (rw [if_pos (by decide +kernel)]; kernel_rfl) | (rw [if_neg (by decide +kernel)]; exact ⟨rfl, rfl⟩))
    (fun os started H enc _ => naturalBack_lifted os started H enc)
end Go.Proofs.Ytomniiobaonloaa
