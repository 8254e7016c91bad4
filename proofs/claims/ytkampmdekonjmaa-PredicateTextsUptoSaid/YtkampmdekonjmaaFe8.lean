/- Texts of facts: Text. -/
import Derived.Test.YtkampmdekonjmaaFe7
import Derived.Test.YtkampmdekonjmaaQa1
namespace Go.Proofs.Ytkampmdekonjmaa
open Go Go.RowKit Go.V Go.ChangeMaps
set_option linter.unusedSimpArgs false
set_option linter.unusedVariables false
set_option maxRecDepth 20000
theorem fRt_zeroT {k : Int} {args : List Int} {N : Int} {neg : Bool} {l m : List Nat} (h : fRt k args N neg l m = 0) : fAr k ≠ 0 ∧ args.length = fAr k ∧ (∀ z ∈ args, 0 ≤ z ∧ z < N) ∧ fRat k neg l m = true := by
  unfold fRt at h
  by_cases h1 : fAr k = 0
  · rw [if_pos h1] at h; omega
  rw [if_neg h1] at h
  by_cases h2 : ¬ args.length = fAr k
  · rw [if_pos h2] at h; omega
  rw [if_neg h2] at h
  by_cases h3 : args.any (badA N) = true
  · rw [if_pos h3] at h; omega
  rw [if_neg h3] at h
  by_cases h4 : fRat k neg l m = true
  · refine ⟨h1, Decidable.not_not.1 h2, fun z hz => ?_, h4⟩
    have h5 : badA N z = false := by
      cases hb : badA N z with
      | false => rfl
      | true => exact absurd (List.any_eq_true.2 ⟨z, hz, hb⟩) h3
    unfold badA at h5
    simp only [Bool.or_eq_false_iff, decide_eq_false_iff_not] at h5
    omega
  · rw [if_neg h4] at h; omega
theorem fAr_leT (k : Int) : fAr k ≤ 8 := by
  unfold fAr
  repeat' split
  all_goals omega
def nmB (xs : List (List UInt8)) (args : List Int) : List (List UInt8) := args.map fun z => xs.getD z.toNat []
def txtB (k : Int) (args : List Int) (xs : List (List UInt8)) (q : Rat) : List UInt8 := wordB k ++ [40] ++ joinB (nmB xs args ++ if k = 9 then [qtxt q] else []) ++ [41]
theorem nmB_take {xs : List (List UInt8)} {args : List Int} {i : Nat} (h : i < args.length) : nmB xs (args.take (i + 1)) = nmB xs (args.take i) ++ [xs.getD (args.getD i 0).toNat []] := by
  unfold nmB
  rw [List.take_succ_eq_append_getElem h, List.map_append]
  simp [List.getD_eq_getElem?_getD, h]
theorem nmB_len (xs : List (List UInt8)) (args : List Int) : (nmB xs args).length = args.length := by simp [nmB]
theorem strC_snoc (l : List (List UInt8)) (x : List UInt8) : strC (l ++ [x]) = strC l ++ [.string ⟨x.toArray⟩] := by simp [strC]
theorem _root_.Go.World.ownsRow.keep {w w' : World} {B e size n : Nat} {v : Value} {xs : List Value} (h : w.ownsRow B e size v n xs) (hb : Below w.heap.size w w') : w'.ownsRow B e size v n xs := own_keep' h hb
theorem own_ne_bx {w : World} {B e size n b t : Nat} {v : Value} {xs : List Value} {c : Array Value} (h : w.ownsRow B e size v n xs) (hB : Bx w b c t) (hne : e ≠ t) : v.ownBlock ≠ some b := by
  intro hb
  rcases h.2 with ⟨h1, _⟩ | ⟨g, cap, cur, hv, _, hg, _⟩
  · rw [h1] at hb; cases hb
  · rw [hv] at hb
    injection hb with hb
    simp only at hb
    subst hb
    rw [hB.heap] at hg
    injection hg with hg
    injection hg with _ hg _
    exact hne hg.symm
theorem own_strs {w : World} {B e n : Nat} {v : Value} {l : List (List UInt8)} (h : w.ownsRow B e 1 v n (strC l)) (hn : n ≠ 0) : ∃ ad cap, v = .slice ad n cap ∧ n ≤ cap ∧ SL w ad (strC l) := by
  rcases h.2 with ⟨_, h2⟩ | ⟨g, cap, cur, hv, _, hg, hc, _⟩
  · exact absurd h2 hn
  · refine ⟨_, cap, hv, hc, .inr ⟨g, 0, rfl, fun j u hj => ?_⟩⟩
    have := h.cells (g := g) (by rw [hv]; rfl) j u hj
    rw [add_mk, Nat.zero_add] at this
    rw [Nat.zero_add]; exact this
theorem qtxt_le {neg : Bool} {l m : List Nat} (hl : Ok l) (hm : Ok m) (hl1 : l.length ≤ 1000) (hm1 : m.length ≤ 1000) (h : qRight neg l m = true) : (qtxt (qv neg l m)).length ≤ 4000000 := by
  have e := can_qa hl hm h
  simp only [QA.at, qa, At.r.injEq] at e
  obtain ⟨_, e2, e3⟩ := e
  have h1 := lim_lenI (z := (qv neg l m).num) (s := 1000) (by rw [← e2]; exact hl1) (by decide)
  have h2 := lim_lenT (n := (qv neg l m).den) (s := 1000) (by rw [← e3]; exact hm1) (by decide)
  unfold qtxt
  split
  · omega
  · simp only [List.length_append, List.length_cons]; omega
theorem nmB_le {xs : List (List UInt8)} {args : List Int} {M : Nat} (h : ∀ x ∈ xs, x.length ≤ M) : ∀ x ∈ nmB xs args, x.length ≤ M := by
  intro x hx
  obtain ⟨z, _, rfl⟩ := List.mem_map.1 hx
  rw [List.getD_eq_getElem?_getD]
  cases hg : xs[z.toNat]? with
  | none => exact Nat.zero_le _
  | some y => exact h y (List.mem_of_getElem? hg)
theorem fAr_ge {k : Int} (h : fAr k ≠ 0) : 2 ≤ fAr k := by
  rcases fAr_cases h with rfl | rfl | rfl | rfl | rfl | rfl | rfl | rfl | rfl <;> decide
theorem wordB_len (k : Int) : (wordB k).length ≤ 13 := by
  unfold wordB
  repeat' split
  all_goals decide
theorem joinB_len {l : List (List UInt8)} {M : Nat} (h : ∀ x ∈ l, x.length ≤ M) : (joinB l).length ≤ l.length * (M + 2) := by
  cases l with
  | nil => exact Nat.zero_le _
  | cons x r =>
    have h1 := sumL_le (l := r) fun y hy => h y (List.mem_cons_of_mem _ hy)
    have h2 := h x (List.mem_cons_self ..)
    have h3 := joinT_len r
    simp only [joinB, List.length_append, List.length_cons, Nat.succ_mul, Nat.mul_add]
    omega
theorem ba_app (a b : List UInt8) : (⟨a.toArray⟩ : ByteArray) ++ ⟨b.toArray⟩ = ⟨(a ++ b).toArray⟩ := by
  apply ByteArray.ext
  rw [ByteArray.data_append]
  simp
set_option maxHeartbeats 2000000 in
theorem fText_any (k : Int) (args : List Int) (neg : Bool) (l m : List Nat) (ad a b pa : Option Addr) (cap c d cap2 : Nat) (xs : List (List UInt8)) (w : World) (ha : SL w ad (intC args)) (hn : args.length ≤ maxLen) (hr : RD w a c l) (hs : RD w b d m) (hl : l.length ≤ 1000) (hm : m.length ≤ 1000) (hP : SL w pa (strC xs)) (hpl : xs.length ≤ maxLen) (hz : ∀ x ∈ xs, x.length ≤ 1048576) :
    Calls Try.prog 12 #[.agg #[.int .i64 k, .slice ad args.length cap, .bool neg, .slice a l.length c, .slice b m.length d], .slice pa xs.length cap2] w fun e w' => e = .returned (.tuple #[.string ⟨(if fRt k args xs.length neg l m = 0 then txtB k args xs (qv neg l m) else []).toArray⟩, .int .i64 (fRt k args xs.length neg l m)]) ∧ Below w.heap.size w w' := by
  unfold maxLen at hpl
  obtain ⟨R, hR⟩ : ∃ R, R = fRt k args xs.length neg l m := ⟨_, rfl⟩
  rw [← hR]
  refine calls_of_W (args := [.agg #[.int .i64 k, .slice ad args.length cap, .bool neg, .slice a l.length c, .slice b m.length d], .slice pa xs.length cap2]) (rs := [.tmp 4, .tmp 5]) (n := 49) Try.func12 rfl rfl rfl (by kernel_rfl) ?_
  have hA0 := Below.refl w.heap.size w
  first | refine W_rt (by kernel_rfl) (fun K hK => ?_) | refine W_text (by kernel_rfl) (fun K hK => ?_)
  simp [go_sem, add_mk, rowV, rowOk]
  refine hv_box #[.int .i64 k, .slice ad args.length cap, .bool neg, .slice a l.length c, .slice b m.length d] (by simp [go_sem, add_mk, rowV, rowOk]) rfl (by simp [go_sem, Value.cells, add_mk, rowV, rowOk]) (fun w1 b1 hE1 hle1 hB1 => ?_)
  have hb1_0 := Nat.le_trans hA0.size hle1
  replace hA0 := hA0.next hE1
  simp [go_sem, add_mk, rowV, rowOk, hB1.cell]
  refine hK _ _ ?_; clear hK K
  refine W_seq (fun K1 hK1 => ?_)
  first | refine W_rt (by kernel_rfl) (fun K hK => ?_) | refine W_text (by kernel_rfl) (fun K hK => ?_)
  simp [go_sem, add_mk, rowV, rowOk, hB1.cell]
  refine hv_call (by simp [go_sem, add_mk, rowV, rowOk, hB1.cell]) rfl Try.call10 (fun R hR => ?_)
  simp [go_sem, add_mk, rowV, rowOk, hB1.cell]
  refine (fright_any k args xs.length neg l m ad a b cap c d _ (ha.ext hA0) hn (hr.ext hA0) (hs.ext hA0) (by omega) (by omega)).mono ?_
  rintro e w2 ⟨rfl, hE2⟩
  refine ⟨_, rfl, hR _ _ ?_⟩
  clear hR R
  replace hA0 := hA0.next hE2
  replace hB1 := hB1.keep hE2
  simp [go_sem, add_mk, rowV, rowOk, hB1.cell]
  rw [← hR]
  refine hK _ _ ?_; clear hK K
  first | refine W_rt (by kernel_rfl) (fun K hK => ?_) | refine W_text (by kernel_rfl) (fun K hK => ?_)
  simp [go_sem, add_mk, rowV, rowOk, hB1.cell]
  refine hK _ _ ?_; clear hK K
  by_cases h0 : ¬ R = 0
  · refine W_if (t := true) (by simp [go_sem, add_mk, rowV, rowOk, hB1.cell, h0]) rfl ?_
    first | refine W_rt (by kernel_rfl) (fun K hK => ?_) | refine W_text (by kernel_rfl) (fun K hK => ?_)
    simp [go_sem, add_mk, rowV, rowOk, hB1.cell]
    refine hK _ _ ?_; clear hK K
    refine W_ret ?_
    repeat (first | refine thenG_ret ?_ | refine inBlock_ret ?_)
    refine ⟨trivial, ?_, hA0⟩
    simp [go_sem, pack, resL, h0]
  replace h0 := Decidable.not_not.1 h0
  rw [h0] at hR
  obtain ⟨f1, f2, f3, f4⟩ := fRt_zeroT hR.symm
  have hle8 := fAr_leT k
  refine W_if (t := false) (by simp [go_sem, add_mk, rowV, rowOk, hB1.cell,  h0]) rfl ?_
  refine W_skip ?_
  refine hK1 _ _ ?_
  first | refine W_rt (by kernel_rfl) (fun K hK => ?_) | refine W_text (by kernel_rfl) (fun K hK => ?_)
  simp [go_sem, add_mk, rowV, rowOk, hB1.cell]
  refine hK _ _ ?_; clear hK K
  refine W_seq (fun K2 hK2 => ?_)
  first | refine W_rt (by kernel_rfl) (fun K hK => ?_) | refine W_text (by kernel_rfl) (fun K hK => ?_)
  simp [go_sem, add_mk, rowV, rowOk, hB1.cell]
  refine hK _ _ ?_; clear hK K
  refine W_block ?_
  refine W_loop (fun m' g w' => Below w.heap.size w w' ∧ Bx w' b1 #[.int .i64 k, .slice ad args.length cap, .bool neg, .slice a l.length c, .slice b m.length d] 30 ∧ ∃ (i : Nat) (v : Value), i ≤ args.length ∧ m' = args.length - i ∧ w'.ownsRow w.heap.size 9 1 v i (strC (nmB xs (args.take i))) ∧ g 1 = .slice pa xs.length cap2 ∧ g 2 = .pointer (some ⟨b1, 0, none⟩) ∧ g 7 = v ∧ g 18 = .slice ad args.length cap ∧ g 19 = .int .i64 args.length ∧ g 20 = .int .i64 i) args.length ?_ ?_
  · exact ⟨hA0, hB1, 0, .slice none 0 0, by omega, rfl, World.ownsRow_nil _ _ _ _, by simp [go_sem], by simp [go_sem], by simp [go_sem], by simp [go_sem], by simp [go_sem], by simp [go_sem]⟩
  clear hB1 hA0
  rintro m' g w' ⟨hA0, hB1, i, v, hi, rfl, hown, g1, g2, g7, g18, g19, g20⟩
  first | refine W_rt (by kernel_rfl) (fun K hK => ?_) | refine W_text (by kernel_rfl) (fun K hK => ?_)
  simp [go_sem, add_mk, rowV, rowOk, hB1.cell, g1, g2, g7, g18, g19, g20]
  refine hK _ _ ?_; clear hK K
  refine W_seq (fun K3 hK3 => ?_)
  by_cases hlt : i < args.length
  · have c1 : (i : Int) < args.length := by omega
    have hw1 : IntKind.i64.wrap ((i : Int) + 1) = (i : Int) + 1 := IntWalk.i64_in _ (by unfold maxLen at hn; omega)
    obtain ⟨q1, q2⟩ := (ha.ext hA0).getD (j := i) (by simp [intC]; omega)
    rw [intC_at hlt] at q1
    have hgt := nmB_take (xs := xs) hlt
    have hmem : args.getD i 0 ∈ args := by rw [List.getD_eq_getElem?_getD, List.getElem?_eq_getElem hlt]; exact List.getElem_mem hlt
    obtain ⟨z1, z2⟩ := f3 _ hmem
    generalize args.getD i 0 = z at q1 hgt z1 z2
    have hzl : z.toNat < xs.length := by omega
    obtain ⟨q3, q4⟩ := (hP.ext hA0).getD (j := z.toNat) (by rw [strC_len]; exact hzl)
    have hgx : xs.getD z.toNat [] = xs[z.toNat]'hzl := by rw [List.getD_eq_getElem?_getD, List.getElem?_eq_getElem hzl]; rfl
    rw [strC_at hzl, ← hgx] at q3
    generalize xs.getD z.toNat [] = x at q3 hgt hgx
    refine W_if (t := true) (by simp [go_sem, add_mk, rowV, rowOk, hB1.cell, g1, g2, g7, g18, g19, g20, c1, hlt]) rfl ?_
    refine W_skip ?_
    refine hK3 _ _ ?_
    refine W_seq (fun K4 hK4 => ?_)
    refine W_block ?_
    first | refine W_rt (by kernel_rfl) (fun K hK => ?_) | refine W_text (by kernel_rfl) (fun K hK => ?_)
    simp [go_sem, add_mk, rowV, rowOk, hB1.cell, g1, g2, g7, g18, g19, g20,  c1, hlt, q1, q2]
    refine hK _ _ ?_; clear hK K
    first | refine W_rt (by kernel_rfl) (fun K hK => ?_) | refine W_text (by kernel_rfl) (fun K hK => ?_)
    simp [go_sem, add_mk, rowV, rowOk, hB1.cell, g1, g2, g7, g18, g19, g20,  z1, z2, q3, q4]
    refine hv_buildSlice #[.string ⟨x.toArray⟩] (by simp [go_sem, add_mk, rowV, rowOk, hB1.cell, g1, g2, g7, g18, g19, g20, z1, z2, q3, q4]) rfl ty_slZ35 (by decide) [(0, .string ⟨x.toArray⟩)] (by simp [go_sem, add_mk, rowV, rowOk, hB1.cell, g1, g2, g7, g18, g19, g20, z1, z2, q3, q4]) (by kernel_rfl) (fun w3 b3 hE3 hle3 hB3 => ?_)
    have hb3_0 := Nat.le_trans hA0.size hle3
    have hd1_3 : b1 ≠ b3 := Nat.ne_of_lt (Nat.lt_of_lt_of_le hB1.lt hle3)
    replace hA0 := hA0.next hE3
    replace hB1 := hB1.keep hE3
    replace hown := hown.keep hE3
    simp [go_sem, add_mk, rowV, rowOk, hB1.cell, g1, g2, g7, g18, g19, g20, hB3.cell, z1, z2, q3, q4]
    refine hv_appendB (v := v) (b := b3) (len := 1) (c := 1) hB3 (by simp [go_sem]) rfl ty_slZ35 ty_bytes9 rfl (by decide) (by simp [go_sem, add_mk, rowV, rowOk, hB1.cell, g1, g2, g7, g18, g19, g20, hB3.cell, z1]) (by simp [go_sem]) hown rfl (by first | (simp [Value.oneCell']; done) | simpa using hone) (by unfold maxLen; omega) (by omega) hA0.size (by decide) (fun v21 w21 h21 hg21 _ => ?_)
    have hne21 := fun b e => (hown.lt b e).1
    replace hA0 := hA0.nextG hg21 hne21
    replace hB1 := hB1.grown hg21 (fun e => own_ne_bx hown hB1 (by decide) e.symm)
    simp [go_sem, add_mk, rowV, rowOk, hB1.cell, g1, g2, g7, g18, g19, g20, z1]
    refine hK _ _ ?_; clear hK K
    refine hK4 _ _ ?_
    refine W_text (by kernel_rfl) (fun K hK => ?_)
    simp [go_sem, g20, hw1]
    refine hK _ _ ⟨args.length - (i + 1), by omega, hA0, hB1, i + 1, v21, by omega, rfl, by rw [hgt, strC_snoc]; exact h21, by simp [go_sem, g1], by simp [go_sem, g2], by simp [go_sem], by simp [go_sem, g18], by simp [go_sem, g19], by simp [go_sem]⟩
  · have c1 : ¬ (i : Int) < args.length := by omega
    have hie : i = args.length := by omega
    rw [hie, List.take_length] at hown
    have hnl := nmB_len xs args
    have hwl := wordB_len k
    have hlens : ∀ x ∈ nmB xs args, x.length ≤ 1099511627776 := fun x hx => Nat.le_trans (nmB_le hz x hx) (by decide)
    refine W_if (t := false) (by simp [go_sem, add_mk, rowV, rowOk, hB1.cell, g1, g2, g7, g18, g19, g20, c1, hlt]) rfl ?_
    refine W_exit ?_
    repeat (first | refine thenG_exit ?_ | refine inBlock_other rfl ?_ | refine inBlock_same ?_)
    refine hK2 _ _ ?_
    refine W_seq (fun K5 hK5 => ?_)
    first | refine W_rt (by kernel_rfl) (fun K hK => ?_) | refine W_text (by kernel_rfl) (fun K hK => ?_)
    simp [go_sem, add_mk, rowV, rowOk, hB1.cell, g1, g2, g7, g18, g19, g20]
    refine hK _ _ ?_; clear hK K
    by_cases h9 : k = 9
    · have hlens9 : ∀ x ∈ nmB xs args ++ [qtxt (qv neg l m)], x.length ≤ 1099511627776 := fun x hx => by
        rcases List.mem_append.1 hx with hx | hx
        · exact hlens x hx
        · rw [List.mem_singleton.1 hx]
          exact Nat.le_trans (qtxt_le hr.ok hs.ok hl hm (by rw [h9] at f4; simpa [fRat] using f4)) (by decide)
      refine W_if (t := true) (by simp [go_sem, add_mk, rowV, rowOk, hB1.cell, g1, g2, g7, g18, g19, g20, h9]) rfl ?_
      first | refine W_rt (by kernel_rfl) (fun K hK => ?_) | refine W_text (by kernel_rfl) (fun K hK => ?_)
      simp [go_sem, add_mk, rowV, rowOk, hB1.cell, g1, g2, g7, g18, g19, g20,  h9]
      refine hv_call (by simp [go_sem, add_mk, rowV, rowOk, hB1.cell, g1, g2, g7, g18, g19, g20, h9]) rfl Try.call32 (fun R hR => ?_)
      simp [go_sem, add_mk, rowV, rowOk, hB1.cell, g1, g2, g7, g18, g19, g20, h9]
      refine (qText_any neg l m a b c d _ (hr.ext hA0) (hs.ext hA0) hl hm).mono ?_
      rintro e w22 ⟨rfl, hE22⟩
      refine ⟨_, rfl, hR _ _ ?_⟩
      clear hR R
      replace hA0 := hA0.next hE22
      replace hB1 := hB1.keep hE22
      replace hown := hown.keep hE22
      simp [go_sem, add_mk, rowV, rowOk, hB1.cell, g1, g2, g7, g18, g19, g20, h9]
      refine hv_buildSlice #[.string ⟨(qtxt (qv neg l m)).toArray⟩] (by simp [go_sem, add_mk, rowV, rowOk, hB1.cell, g1, g2, g7, g18, g19, g20, h9]) rfl ty_slZ35 (by decide) [(0, .string ⟨(qtxt (qv neg l m)).toArray⟩)] (by simp [go_sem, add_mk, rowV, rowOk, hB1.cell, g1, g2, g7, g18, g19, g20, h9]) (by kernel_rfl) (fun w31 b31 hE31 hle31 hB31 => ?_)
      have hb31_0 := Nat.le_trans hA0.size hle31
      have hd1_31 : b1 ≠ b31 := Nat.ne_of_lt (Nat.lt_of_lt_of_le hB1.lt hle31)
      replace hA0 := hA0.next hE31
      replace hB1 := hB1.keep hE31
      replace hown := hown.keep hE31
      simp [go_sem, add_mk, rowV, rowOk, hB1.cell, g1, g2, g7, g18, g19, g20, hB31.cell, h9]
      refine hv_appendB (v := v) (b := b31) (len := 1) (c := 1) hB31 (by simp [go_sem]) rfl ty_slZ35 ty_bytes9 rfl (by decide) (by simp [go_sem, add_mk, rowV, rowOk, hB1.cell, g1, g2, g7, g18, g19, g20, hB31.cell, h9]) (by simp [go_sem]) hown rfl (by first | (simp [Value.oneCell']; done) | simpa using hone) (by unfold maxLen; omega) (by omega) hA0.size (by decide) (fun v32 w32 h32 hg32 _ => ?_)
      have hne32 := fun b e => (hown.lt b e).1
      replace hA0 := hA0.nextG hg32 hne32
      replace hB1 := hB1.grown hg32 (fun e => own_ne_bx hown hB1 (by decide) e.symm)
      simp [go_sem, add_mk, rowV, rowOk, hB1.cell, g1, g2, g7, g18, g19, g20, h9]
      refine hK _ _ ?_; clear hK K
      refine hK5 _ _ ?_
      obtain ⟨ad2, cp2, rfl, hc2, hS2⟩ := own_strs (l := nmB xs args ++ [qtxt (qv neg l m)]) (by rw [strC_snoc]; exact h32) (by omega)
      have hA33 := Below.refl (w32).heap.size (w32)
      first | refine W_rt (by kernel_rfl) (fun K hK => ?_) | refine W_text (by kernel_rfl) (fun K hK => ?_)
      simp [go_sem, add_mk, rowV, rowOk, hB1.cell, g1, g2, g7, g18, g19, g20]
      refine hv_call (by simp [go_sem, add_mk, rowV, rowOk, hB1.cell, g1, g2, g7, g18, g19, g20]) rfl Try.call33 (fun R hR => ?_)
      simp [go_sem, add_mk, rowV, rowOk, hB1.cell, g1, g2, g7, g18, g19, g20]
      refine (wordP_any k _ f1).mono ?_
      rintro e w41 ⟨rfl, hE41⟩
      refine ⟨_, rfl, hR _ _ ?_⟩
      clear hR R
      replace hA0 := hA0.next hE41
      replace hA33 := hA33.next hE41
      replace hB1 := hB1.keep hE41
      replace h32 := h32.keep hE41
      simp [go_sem, add_mk, rowV, rowOk, hB1.cell, g1, g2, g7, g18, g19, g20]
      refine ⟨by omega, ?_⟩
      have hjl := joinB_len hlens9
      rw [List.length_append, hnl] at hjl
      have hjm : (args.length + 1) * (1099511627776 + 2) ≤ 20 * (1099511627776 + 2) := Nat.mul_le_mul_right _ (by omega)
      have hjk : ([qtxt (qv neg l m)] : List (List UInt8)).length = 1 := rfl
      rw [hjk] at hjl
      refine hv_call (by simp [go_sem, add_mk, rowV, rowOk, hB1.cell, g1, g2, g7, g18, g19, g20]) rfl Try.call34 (fun R hR => ?_)
      simp [go_sem, add_mk, rowV, rowOk, hB1.cell, g1, g2, g7, g18, g19, g20]
      refine (join_any (nmB xs args ++ [qtxt (qv neg l m)]) (args.length + 1) (by rw [List.length_append, hnl]; rfl) ad2 cp2 _ (hS2.ext hA33) (by have := fAr_ge f1; omega) (by omega) hc2 hlens9).mono ?_
      rintro e w42 ⟨rfl, hE42⟩
      refine ⟨_, rfl, hR _ _ ?_⟩
      clear hR R
      replace hA0 := hA0.next hE42
      replace hA33 := hA33.next hE42
      replace hB1 := hB1.keep hE42
      replace h32 := h32.keep hE42
      simp [go_sem, add_mk, rowV, rowOk, hB1.cell, g1, g2, g7, g18, g19, g20]
      refine ⟨by omega, by omega, ?_⟩
      refine hK _ _ ?_; clear hK K
      refine W_ret ?_
      repeat (first | refine thenG_ret ?_ | refine inBlock_ret ?_)
      refine ⟨trivial, ?_, hA0⟩
      simp [go_sem, pack, resL, h0, txtB, h9, ba_app]
    · refine W_if (t := false) (by simp [go_sem, add_mk, rowV, rowOk, hB1.cell, g1, g2, g7, g18, g19, g20, h9]) rfl ?_
      refine W_skip ?_
      refine hK5 _ _ ?_
      obtain ⟨ad2, cp2, rfl, hc2, hS2⟩ := own_strs hown (by have := fAr_ge f1; omega)
      have hA43 := Below.refl (w').heap.size (w')
      first | refine W_rt (by kernel_rfl) (fun K hK => ?_) | refine W_text (by kernel_rfl) (fun K hK => ?_)
      simp [go_sem, add_mk, rowV, rowOk, hB1.cell, g1, g2, g7, g18, g19, g20]
      refine hv_call (by simp [go_sem, add_mk, rowV, rowOk, hB1.cell, g1, g2, g7, g18, g19, g20]) rfl Try.call33 (fun R hR => ?_)
      simp [go_sem, add_mk, rowV, rowOk, hB1.cell, g1, g2, g7, g18, g19, g20]
      refine (wordP_any k _ f1).mono ?_
      rintro e w41 ⟨rfl, hE41⟩
      refine ⟨_, rfl, hR _ _ ?_⟩
      clear hR R
      replace hA0 := hA0.next hE41
      replace hA43 := hA43.next hE41
      replace hB1 := hB1.keep hE41
      replace hown := hown.keep hE41
      simp [go_sem, add_mk, rowV, rowOk, hB1.cell, g1, g2, g7, g18, g19, g20]
      refine ⟨by omega, ?_⟩
      have hjl := joinB_len hlens
      rw [hnl] at hjl
      have hjm : args.length * (1099511627776 + 2) ≤ 20 * (1099511627776 + 2) := Nat.mul_le_mul_right _ (by omega)
      refine hv_call (by simp [go_sem, add_mk, rowV, rowOk, hB1.cell, g1, g2, g7, g18, g19, g20]) rfl Try.call34 (fun R hR => ?_)
      simp [go_sem, add_mk, rowV, rowOk, hB1.cell, g1, g2, g7, g18, g19, g20]
      refine (join_any (nmB xs args) args.length hnl ad2 cp2 _ (hS2.ext hA43) (by have := fAr_ge f1; omega) (by omega) hc2 hlens).mono ?_
      rintro e w42 ⟨rfl, hE42⟩
      refine ⟨_, rfl, hR _ _ ?_⟩
      clear hR R
      replace hA0 := hA0.next hE42
      replace hA43 := hA43.next hE42
      replace hB1 := hB1.keep hE42
      replace hown := hown.keep hE42
      simp [go_sem, add_mk, rowV, rowOk, hB1.cell, g1, g2, g7, g18, g19, g20]
      refine ⟨by omega, by omega, ?_⟩
      refine hK _ _ ?_; clear hK K
      refine W_ret ?_
      repeat (first | refine thenG_ret ?_ | refine inBlock_ret ?_)
      refine ⟨trivial, ?_, hA0⟩
      simp [go_sem, pack, resL, h0, txtB, h9, ba_app]
end Go.Proofs.Ytkampmdekonjmaa
