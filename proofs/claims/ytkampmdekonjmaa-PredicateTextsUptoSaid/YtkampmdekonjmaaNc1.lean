/- Natural numbers: the functions' contracts, as symbolic evaluation wants them. -/
import Derived.Test.YtkampmdekonjmaaIc1
import Derived.Test.YtkampmdekonjmaaNu8
import Derived.Test.YtkampmdekonjmaaIn8
namespace Go.Proofs.Ytkampmdekonjmaa
open Go Go.RowKit Go.V
set_option linter.unusedSimpArgs false
set_option linter.unusedVariables false
set_option maxRecDepth 20000

def na (x : Nat) : At := .u (lim x)
theorem na_0 : na 0 = .u [] := by rw [na, lim_zero]
theorem RetN.rep {w w' : World} {x : Nat} {e : Ending} (h : RetN w (lim x) e w') : ∃ v, e = .returned v ∧ RepV w' [.u] [na x] v ∧ Below w.heap.size w w' := by
  obtain ⟨a, c, he, hr, hE⟩ := h
  exact ⟨_, he, repV_u.2 ⟨_, a, c, rfl, rfl, hr⟩, hE⟩
def f_uu (g : List Nat → Nat) : List At → Option (List At)
  | [.u l] => some [na (g l)]
  | _ => none
theorem ok_uu {P : Program} {f L A B : Nat} {g : List Nat → Nat}
    (h : ∀ l a c w, RD w a c l → l.length ≤ L → Calls P f #[.slice a l.length c] w (RetN w (lim (g l))))
    (hz : ∀ l s, Ok l → l.length ≤ s → (lim (g l)).length ≤ A * s + B) : Ct.ok P f { args := [[.u]], res := [[.u]], F := f_uu g, L := L, A := A, B := B } := by
  intro s w vs als r hs hr hsz hF
  obtain ⟨v, rfl, h1⟩ := vs1 hr
  obtain ⟨l, a, c, rfl, rfl, r1⟩ := repV_u.1 h1
  injection hF with hF; subst hF
  have s1 : l.length ≤ s := hsz (.u l) (by simp)
  refine (h l a c w r1 (Nat.le_trans s1 hs)).mono ?_
  intro e w' hret
  obtain ⟨v, he, hv, hE⟩ := hret.rep
  exact ret1 rfl he hv (fun x hx => by simp at hx; subst hx; exact hz l s r1.ok s1) hE
def f_uuu (g : List Nat → List Nat → Nat) : List At → Option (List At)
  | [.u l, .u m] => some [na (g l m)]
  | _ => none
theorem ok_uuu {P : Program} {f L A B : Nat} {g : List Nat → List Nat → Nat}
    (h : ∀ l m a b c d w, RD w a c l → RD w b d m → l.length ≤ L → m.length ≤ L → Calls P f #[.slice a l.length c, .slice b m.length d] w (RetN w (lim (g l m))))
    (hz : ∀ l m s, Ok l → Ok m → l.length ≤ s → m.length ≤ s → (lim (g l m)).length ≤ A * s + B) : Ct.ok P f { args := [[.u], [.u]], res := [[.u]], F := f_uuu g, L := L, A := A, B := B } := by
  intro s w vs als r hs hr hsz hF
  obtain ⟨a1, a2, v, u, rfl, rfl, h1, h2⟩ := vs2 hr
  obtain ⟨l, a, c, rfl, rfl, r1⟩ := repV_u.1 h1
  obtain ⟨m, b, d, rfl, rfl, r2⟩ := repV_u.1 h2
  have hF' : some [na (g l m)] = some r := hF
  injection hF' with hF'; subst hF'
  have s1 : l.length ≤ s := hsz (.u l) (by simp)
  have s2 : m.length ≤ s := hsz (.u m) (by simp)
  refine (h l m a b c d w r1 r2 (Nat.le_trans s1 hs) (Nat.le_trans s2 hs)).mono ?_
  intro e w' hret
  obtain ⟨v, he, hv, hE⟩ := hret.rep
  exact ret1 rfl he hv (fun x hx => by simp at hx; subst hx; exact hz l m s r1.ok r2.ok s1 s2) hE
def f_un (g : List Nat → Int) : List At → Option (List At)
  | [.u l] => some [.n (g l)]
  | _ => none
def f_ub (g : List Nat → Bool) : List At → Option (List At)
  | [.u l] => some [.b (g l)]
  | _ => none
def f_uub (g : List Nat → List Nat → Bool) : List At → Option (List At)
  | [.u l, .u m] => some [.b (g l m)]
  | _ => none
def f_div : List At → Option (List At)
  | [.u l, .u m] => some (if val m = 0 then [.u [], .u [], .n 3] else [na (val l / val m), na (val l % val m), .n 0])
  | _ => none
theorem ok_div {P : Program} {f L : Nat} (h : ∀ l m a b c d w, RD w a c l → RD w b d m → l.length ≤ L → m.length ≤ L → Calls P f #[.slice a l.length c, .slice b m.length d] w (DivPost w (val l) (val m))) : Ct.ok P f { args := [[.u], [.u]], res := [[.u], [.u], [.n]], F := f_div, L := L, A := 1, B := 0 } := by
  intro s w vs als r hs hr hsz hF
  obtain ⟨a1, a2, v, u, rfl, rfl, h1, h2⟩ := vs2 hr
  obtain ⟨l, a, c, rfl, rfl, r1⟩ := repV_u.1 h1
  obtain ⟨m, b, d, rfl, rfl, r2⟩ := repV_u.1 h2
  have hF' : some (if val m = 0 then [.u [], .u [], .n 3] else [na (val l / val m), na (val l % val m), .n 0]) = some r := hF
  injection hF' with hF'; subst hF'
  have s1 : l.length ≤ s := hsz (.u l) (by simp)
  have s2 : m.length ≤ s := hsz (.u m) (by simp)
  refine (h l m a b c d w r1 r2 (Nat.le_trans s1 hs) (Nat.le_trans s2 hs)).mono ?_
  rintro e w' (⟨h0, rfl, hE⟩ | ⟨h0, a, c, a', c', rfl, g1, g2, hE⟩)
  · rw [if_pos h0]
    exact ret3 (r1 := [.u []]) (r2 := [.u []]) (r3 := [.n 3]) rfl rfl (repV_u.2 ⟨[], none, 0, rfl, rfl, RD.nil _ _ _⟩) (repV_u.2 ⟨[], none, 0, rfl, rfl, RD.nil _ _ _⟩) (repV_n.2 ⟨3, rfl, rfl⟩) (fun x hx => by simp at hx; rcases hx with rfl | rfl <;> simp [At.sz]) hE
  · rw [if_neg h0]
    refine ret3 (r1 := [na (val l / val m)]) (r2 := [na (val l % val m)]) (r3 := [.n 0]) rfl rfl (repV_u.2 ⟨_, a, c, rfl, rfl, g1⟩) (repV_u.2 ⟨_, a', c', rfl, rfl, g2⟩) (repV_n.2 ⟨0, rfl, rfl⟩) (fun x hx => ?_) hE
    have q1 := lim_of_len r1.ok s1
    simp at hx
    rcases hx with rfl | rfl | rfl
    · have := lim_mono (Nat.div_le_self (val l) (val m)) q1
      simp only [na, At.sz]; omega
    · have := lim_mono (Nat.mod_le (val l) (val m)) q1
      simp only [na, At.sz]; omega
    · simp [At.sz]
def f_sqrt : List At → Option (List At)
  | [.u l] => some [na (isq (val l)), na (val l - isq (val l) * isq (val l))]
  | _ => none
theorem isq_le (n : Nat) : isq n ≤ n := by
  have := isq_spec n
  have h1 : isq n * isq n ≤ n := this.1
  rcases Nat.eq_zero_or_pos (isq n) with h | h
  · omega
  · have := Nat.le_mul_of_pos_left (isq n) h; omega
theorem ok_sqrt {P : Program} {f L : Nat} (h : ∀ l a c w, RD w a c l → l.length ≤ L → Calls P f #[.slice a l.length c] w (SqPost w (val l))) : Ct.ok P f { args := [[.u]], res := [[.u], [.u]], F := f_sqrt, L := L, A := 1, B := 0 } := by
  intro s w vs als r hs hr hsz hF
  obtain ⟨v, rfl, h1⟩ := vs1 hr
  obtain ⟨l, a, c, rfl, rfl, r1⟩ := repV_u.1 h1
  injection hF with hF; subst hF
  have s1 : l.length ≤ s := hsz (.u l) (by simp)
  refine (h l a c w r1 (Nat.le_trans s1 hs)).mono ?_
  rintro e w' ⟨a, c, a', c', rfl, g1, g2, hE⟩
  refine ret2 (r1 := [na (isq (val l))]) (r2 := [na (val l - isq (val l) * isq (val l))]) rfl rfl (repV_u.2 ⟨_, a, c, rfl, rfl, g1⟩) (repV_u.2 ⟨_, a', c', rfl, rfl, g2⟩) (fun x hx => ?_) hE
  have q1 := lim_of_len r1.ok s1
  simp at hx
  rcases hx with rfl | rfl
  · have := lim_mono (isq_le (val l)) q1
    simp only [na, At.sz]; omega
  · have := lim_mono (Nat.sub_le (val l) (isq (val l) * isq (val l))) q1
    simp only [na, At.sz]; omega
def f_nof : List At → Option (List At)
  | [.w (.int .u64 z)] => if 0 ≤ z ∧ z < 18446744073709551616 then some [na z.toNat] else none
  | _ => none
theorem ok_nof {P : Program} {f : Nat} (h : ∀ (n : Nat) w, n < 18446744073709551616 → Calls P f #[.int .u64 n] w (RetN w (lim n))) : Ct.ok P f { args := [[.w]], res := [[.u]], F := f_nof, L := 100000000000000, A := 0, B := 4 } := by
  intro s w vs als r hs hr hsz hF
  obtain ⟨v, rfl, h1⟩ := vs1 hr
  obtain ⟨x, rfl, rfl, _⟩ := repV_w.1 h1
  obtain ⟨z, rfl⟩ : ∃ z, v = .int .u64 z := by
    simp only [f_nof] at hF
    split at hF
    · rename_i z h2
      simp only [List.cons.injEq, At.w.injEq, and_true] at h2
      exact ⟨z, h2⟩
    · cases hF
  have hF' : (if 0 ≤ z ∧ z < 18446744073709551616 then some [na z.toNat] else none) = some r := hF
  split at hF'
  · rename_i hz
    injection hF' with hF'; subst hF'
    have := h z.toNat w (by omega)
    rw [Int.toNat_of_nonneg hz.1] at this
    refine this.mono ?_
    intro e w' hret
    obtain ⟨v, he, hv, hE⟩ := hret.rep
    exact ret1 rfl he hv (fun x hx => by simp at hx; subst hx; have := lim_len 4 z.toNat (by simp; omega); simp only [na, At.sz]; omega) hE
  · cases hF'
def f_text : List At → Option (List At)
  | [.u l] => some [.s (txt (val l))]
  | _ => none
theorem ok_text {P : Program} {f L : Nat} (h : ∀ l a c w, RD w a c l → l.length ≤ L → Calls P f #[.slice a l.length c] w (RetS w (txt (val l)))) : Ct.ok P f { args := [[.u]], res := [[.s]], F := f_text, L := L, A := 0, B := 0 } := by
  intro s w vs als r hs hr hsz hF
  obtain ⟨v, rfl, h1⟩ := vs1 hr
  obtain ⟨l, a, c, rfl, rfl, r1⟩ := repV_u.1 h1
  injection hF with hF; subst hF
  have s1 : l.length ≤ s := hsz (.u l) (by simp)
  refine (h l a c w r1 (Nat.le_trans s1 hs)).mono ?_
  rintro e w' ⟨he, hE⟩
  exact ret1 rfl he (repV_s.2 ⟨_, rfl, rfl⟩) (fun x hx => by simp at hx; subst hx; simp [At.sz]) hE
set_option maxHeartbeats 1000000 in
theorem sameN_any (l m : List Nat) (a b : Option Addr) (c d : Nat) (w : World) (hr : RD w a c l) (hs : RD w b d m) (hl : l.length ≤ lenB) :
    Calls Try.prog 63 #[.slice a l.length c, .slice b m.length d] w fun e w' => e = .returned (.bool (decide (l = m))) ∧ Below w.heap.size w w' := by
  have hl' : l.length ≤ 1000000000000 := hl
  by_cases hlm : ¬ l.length = m.length
  · have h1 : ¬ (l.length : Int) = m.length := by omega
    have h2 : ¬ l = m := fun e => hlm (by rw [e])
    refine calls_of_W (args := [.slice a l.length c, .slice b m.length d]) (rs := [.tmp 4]) (n := 26) Try.func63 rfl rfl rfl (by kernel_rfl) ?_
    first | refine W_rt (by kernel_rfl) (fun K hK => ?_) | refine W_text (by kernel_rfl) (fun K hK => ?_)
    simp [go_sem]
    refine hK _ _ ?_; clear hK K
    refine W_seq (fun K1 hK1 => ?_)
    first | refine W_rt (by kernel_rfl) (fun K hK => ?_) | refine W_text (by kernel_rfl) (fun K hK => ?_)
    simp [go_sem]
    refine hK _ _ ?_; clear hK K
    refine W_if (by simp [go_sem, h1, hlm]; rfl) rfl ?_
    first | refine W_rt (by kernel_rfl) (fun K hK => ?_) | refine W_text (by kernel_rfl) (fun K hK => ?_)
    simp [go_sem]
    refine hK _ _ ?_; clear hK K
    refine W_ret ?_
    repeat (first | refine thenG_ret ?_ | refine inBlock_ret ?_)
    refine ⟨trivial, ?_, Below.refl _ _⟩
    simp [go_sem, pack, resL, h2]
  replace hlm : l.length = m.length := by omega
  have h1 : (l.length : Int) = m.length := by omega
  refine calls_of_W (args := [.slice a l.length c, .slice b m.length d]) (rs := [.tmp 4]) (n := 26) Try.func63 rfl rfl rfl (by kernel_rfl) ?_
  first | refine W_rt (by kernel_rfl) (fun K hK => ?_) | refine W_text (by kernel_rfl) (fun K hK => ?_)
  simp [go_sem]
  refine hK _ _ ?_; clear hK K
  refine W_seq (fun K1 hK1 => ?_)
  first | refine W_rt (by kernel_rfl) (fun K hK => ?_) | refine W_text (by kernel_rfl) (fun K hK => ?_)
  simp [go_sem]
  refine hK _ _ ?_; clear hK K
  refine W_if (by simp [go_sem, h1, hlm]; rfl) rfl ?_
  refine W_skip ?_
  refine hK1 _ _ ?_; clear hK1 K1
  refine W_seq (fun K1 hK1 => ?_)
  first | refine W_rt (by kernel_rfl) (fun K hK => ?_) | refine W_text (by kernel_rfl) (fun K hK => ?_)
  simp [go_sem]
  refine hK _ _ ?_; clear hK K
  refine W_block ?_
  refine W_loop (fun k g w' => Below w.heap.size w w' ∧ RD w' a c l ∧ RD w' b d m ∧ ∃ i : Nat, i ≤ l.length ∧ k = l.length - i ∧ g 0 = .slice a l.length c ∧ g 1 = .slice b m.length d ∧ g 5 = .int .i64 i ∧ l.take i = m.take i) l.length ?_ ?_
  · exact ⟨Below.refl _ _, hr, hs, 0, by omega, rfl, by simp [go_sem], by simp [go_sem], by simp [go_sem], rfl⟩
  · clear hr hs
    rintro k g w' ⟨hE, hr, hs, i, hi, rfl, g0, g1, g5, ht⟩
    refine W_seq (fun K2 hK2 => ?_)
    first | refine W_rt (by kernel_rfl) (fun K hK => ?_) | refine W_text (by kernel_rfl) (fun K hK => ?_)
    simp [go_sem, g0, g5]
    refine hK _ _ ?_; clear hK K
    by_cases hlt : i < l.length
    · have hlt' : (i : Int) < l.length := by omega
      have hlt2 : i < m.length := by omega
      have hlt2' : (i : Int) < m.length := by omega
      have hw1 : IntKind.i64.wrap (↑i + 1) = (i : Int) + 1 := IntWalk.i64_in _ (by omega)
      have hD : Below w'.heap.size w' w'.drew := Below.drew1 _
      replace hE := hE.next hD
      replace hr := hr.ext hD
      replace hs := hs.ext hD
      obtain ⟨c1, c2⟩ := hr.at hlt
      obtain ⟨c3, c4⟩ := hs.at hlt2
      have t1 : l.take (i + 1) = l.take i ++ [lat l i] := by rw [List.take_succ_eq_append_getElem hlt]; simp [lat, List.getD_eq_getElem?_getD, List.getElem?_eq_getElem hlt]
      have t2 : m.take (i + 1) = m.take i ++ [lat m i] := by rw [List.take_succ_eq_append_getElem hlt2]; simp [lat, List.getD_eq_getElem?_getD, List.getElem?_eq_getElem hlt2]
      generalize lat l i = x at *
      generalize lat m i = y at *
      refine W_if (by simp [go_sem, hlt, hlt']; rfl) rfl ?_
      refine W_skip ?_
      refine hK2 _ _ ?_; clear hK2 K2
      refine W_seq (fun K2 hK2 => ?_)
      refine W_block ?_
      by_cases hxy : x = y
      · have hxy' : (x : Int) = y := by omega
        subst hxy
        first | refine W_rd [(0, 0), (1, 0), (2, 0), (3, 0), (4, 0), (5, 0), (6, 0), (7, 0), (8, 0)] (by kernel_rfl) (by kernel_rfl) (fun K hK => ?_) | refine W_draw [(0, 0), (1, 0), (2, 0), (3, 0), (4, 0), (5, 0), (6, 0), (7, 0), (8, 0)] (by kernel_rfl) (by kernel_rfl) (fun K hK => ?_)
        simp [go_sem, g0, g1, g5, hlt, hlt', hlt2, hlt2', c1, c2, c3, c4]
        refine hK _ _ ?_; clear hK K
        refine W_if (by simp [go_sem]; rfl) rfl ?_
        refine W_skip ?_
        refine hK2 _ _ ?_; clear hK2 K2
        refine W_text (by kernel_rfl) (fun K hK => ?_)
        simp [go_sem, g5, hw1]
        refine hK _ _ ⟨l.length - (i + 1), by omega, hE, hr, hs, i + 1, by omega, rfl, by simp [go_sem, g0], by simp [go_sem, g1], by simp [go_sem], by rw [t1, t2, ht]⟩
      · have hxy' : ¬ (x : Int) = y := by omega
        have hne : ¬ l = m := by
          intro e
          apply hxy
          have : l.take (i + 1) = m.take (i + 1) := by rw [e]
          rw [t1, t2, ht] at this
          simpa using this
        first | refine W_rd [(0, 0), (1, 0), (2, 0), (3, 0), (4, 0), (5, 0), (6, 0), (7, 0), (8, 0)] (by kernel_rfl) (by kernel_rfl) (fun K hK => ?_) | refine W_draw [(0, 0), (1, 0), (2, 0), (3, 0), (4, 0), (5, 0), (6, 0), (7, 0), (8, 0)] (by kernel_rfl) (by kernel_rfl) (fun K hK => ?_)
        simp [go_sem, g0, g1, g5, hlt, hlt', hlt2, hlt2', c1, c2, c3, c4, hxy, hxy']
        refine hK _ _ ?_; clear hK K
        refine W_if (by simp [go_sem, hxy, hxy']; rfl) rfl ?_
        first | refine W_rt (by kernel_rfl) (fun K hK => ?_) | refine W_text (by kernel_rfl) (fun K hK => ?_)
        simp [go_sem]
        refine hK _ _ ?_; clear hK K
        refine W_ret ?_
        repeat (first | refine thenG_ret ?_ | refine inBlock_ret ?_)
        refine ⟨trivial, ?_, hE⟩
        simp [go_sem, pack, resL, hne]
    · have hil : i = l.length := by omega
      have he : l = m := by
        have h1 : l.take l.length = m.take l.length := by rw [← hil]; exact ht
        rw [List.take_length] at h1
        rw [h1, hlm, List.take_length]
      refine W_if (by simp [go_sem, hlt]; rfl) rfl ?_
      refine W_exit ?_
      repeat (first | refine thenG_exit ?_ | refine inBlock_other rfl ?_ | refine inBlock_same ?_)
      refine hK1 _ _ ?_; clear hK1 K1 hK2 K2
      first | refine W_rt (by kernel_rfl) (fun K hK => ?_) | refine W_text (by kernel_rfl) (fun K hK => ?_)
      simp [go_sem]
      refine hK _ _ ?_; clear hK K
      refine W_ret ?_
      repeat (first | refine thenG_ret ?_ | refine inBlock_ret ?_)
      refine ⟨trivial, ?_, hE⟩
      simp [go_sem, pack, resL, he]
theorem ok_uub {P : Program} {f L : Nat} {g : List Nat → List Nat → Bool}
    (h : ∀ l m a b c d w, RD w a c l → RD w b d m → l.length ≤ L → m.length ≤ L → Calls P f #[.slice a l.length c, .slice b m.length d] w fun e w' => e = .returned (.bool (g l m)) ∧ Below w.heap.size w w') : Ct.ok P f { args := [[.u], [.u]], res := [[.b]], F := f_uub g, L := L, A := 0, B := 0 } := by
  intro s w vs als r hs hr hsz hF
  obtain ⟨a1, a2, v, u, rfl, rfl, h1, h2⟩ := vs2 hr
  obtain ⟨l, a, c, rfl, rfl, r1⟩ := repV_u.1 h1
  obtain ⟨m, b, d, rfl, rfl, r2⟩ := repV_u.1 h2
  have hF' : some [At.b (g l m)] = some r := hF
  injection hF' with hF'; subst hF'
  have s1 : l.length ≤ s := hsz (.u l) (by simp)
  have s2 : m.length ≤ s := hsz (.u m) (by simp)
  refine (h l m a b c d w r1 r2 (Nat.le_trans s1 hs) (Nat.le_trans s2 hs)).mono ?_
  rintro e w' ⟨he, hE⟩
  exact ret1 rfl he (repV_b.2 ⟨_, rfl, rfl⟩) (fun x hx => by simp at hx; subst hx; simp [At.sz]) hE
theorem ok_ub {P : Program} {f L : Nat} {g : List Nat → Bool}
    (h : ∀ l a c w, RD w a c l → l.length ≤ L → Calls P f #[.slice a l.length c] w fun e w' => e = .returned (.bool (g l)) ∧ Below w.heap.size w w') : Ct.ok P f { args := [[.u]], res := [[.b]], F := f_ub g, L := L, A := 0, B := 0 } := by
  intro s w vs als r hs hr hsz hF
  obtain ⟨v, rfl, h1⟩ := vs1 hr
  obtain ⟨l, a, c, rfl, rfl, r1⟩ := repV_u.1 h1
  injection hF with hF; subst hF
  have s1 : l.length ≤ s := hsz (.u l) (by simp)
  refine (h l a c w r1 (Nat.le_trans s1 hs)).mono ?_
  rintro e w' ⟨he, hE⟩
  exact ret1 rfl he (repV_b.2 ⟨_, rfl, rfl⟩) (fun x hx => by simp at hx; subst hx; simp [At.sz]) hE
theorem ok_un {P : Program} {f L : Nat} {g : List Nat → Int}
    (h : ∀ l a c w, RD w a c l → l.length ≤ L → Calls P f #[.slice a l.length c] w fun e w' => e = .returned (.int .i64 (g l)) ∧ Below w.heap.size w w') : Ct.ok P f { args := [[.u]], res := [[.n]], F := f_un g, L := L, A := 0, B := 0 } := by
  intro s w vs als r hs hr hsz hF
  obtain ⟨v, rfl, h1⟩ := vs1 hr
  obtain ⟨l, a, c, rfl, rfl, r1⟩ := repV_u.1 h1
  injection hF with hF; subst hF
  have s1 : l.length ≤ s := hsz (.u l) (by simp)
  refine (h l a c w r1 (Nat.le_trans s1 hs)).mono ?_
  rintro e w' ⟨he, hE⟩
  exact ret1 rfl he (repV_n.2 ⟨_, rfl, rfl⟩) (fun x hx => by simp at hx; subst hx; simp [At.sz]) hE
theorem refl_below {w w' : World} (h : w = w') : Below w.heap.size w w' := by subst h; exact Below.refl _ _
theorem lz_n {l : List Nat} {s : Nat} (h : Ok l) (hl : l.length ≤ s) : (lim (val l)).length ≤ 1 * s + 0 := by have := lim_of_len h hl; omega
theorem gcd_le_max (a b : Nat) : Nat.gcd a b ≤ max a b := by
  rcases Nat.eq_zero_or_pos a with h | h
  · subst h; rw [Nat.gcd_zero_left]; omega
  · have := Nat.gcd_le_left b h; omega
theorem lz_gcd {l m : List Nat} {s : Nat} (h1 : Ok l) (h2 : Ok m) (hl : l.length ≤ s) (hm : m.length ≤ s) : (lim (Nat.gcd (val l) (val m))).length ≤ 1 * s + 0 := by
  have q1 := lim_of_len h1 hl
  have q2 := lim_of_len h2 hm
  have : (lim (max (val l) (val m))).length ≤ s := by rcases Nat.le_total (val l) (val m) with h | h
                                                      · rw [Nat.max_eq_right h]; exact q2
                                                      · rw [Nat.max_eq_left h]; exact q1
  have := lim_mono (gcd_le_max (val l) (val m)) this
  omega
theorem lz_nmul {l m : List Nat} {s : Nat} (h1 : Ok l) (h2 : Ok m) (hl : l.length ≤ s) (hm : m.length ≤ s) : (lim (val l * val m)).length ≤ 2 * s + 0 := by
  have := lim_len (s + s) (val l * val m) (by rw [Nat.pow_add]; exact Nat.mul_lt_mul'' (Nat.lt_of_lt_of_le (val_lt l h1) (Nat.pow_le_pow_right (by decide) hl)) (Nat.lt_of_lt_of_le (val_lt m h2) (Nat.pow_le_pow_right (by decide) hm)))
  omega
def ct_nnorm : Ct := { args := [[.u]], res := [[.u]], F := f_uu val, L := 10000000000, A := 1, B := 0 }
theorem ctF_nnorm : ct_nnorm.F = f_uu val := rfl
theorem ok_nnorm : ct_nnorm.ok Try.prog 93 := ok_uu (fun l a c w hr hl => by rw [lim_val l hr.ok]; exact norm_any l a c w hr (by unfold lenB; omega)) (fun l s h1 h2 => lz_n h1 h2)
def ct_rnorm : Ct := { args := [[.u]], res := [[.u]], F := f_uu val, L := 10000000000, A := 1, B := 0 }
theorem ctF_rnorm : ct_rnorm.F = f_uu val := rfl
theorem ok_rnorm : ct_rnorm.ok Try.prog 97 := ok_uu (fun l a c w hr hl => by rw [lim_val l hr.ok]; exact normR_any l a c w hr (by unfold lenB; omega)) (fun l s h1 h2 => lz_n h1 h2)
def ct_ngcd : Ct := { args := [[.u], [.u]], res := [[.u]], F := f_uuu fun l m => Nat.gcd (val l) (val m), L := 10000000000, A := 1, B := 0 }
theorem ctF_ngcd : ct_ngcd.F = f_uuu fun l m => Nat.gcd (val l) (val m) := rfl
theorem ok_ngcd : ct_ngcd.ok Try.prog 60 := ok_uuu (fun l m a b c d w hr hs hl hm => gcd_any l m a b c d w hr hs (by unfold lenS; omega) (by unfold lenS; omega)) (fun l m s h1 h2 h3 h4 => lz_gcd h1 h2 h3 h4)
def ct_rgcd : Ct := { args := [[.u], [.u]], res := [[.u]], F := f_uuu fun l m => Nat.gcd (val l) (val m), L := 10000000000, A := 1, B := 0 }
theorem ctF_rgcd : ct_rgcd.F = f_uuu fun l m => Nat.gcd (val l) (val m) := rfl
theorem ok_rgcd : ct_rgcd.ok Try.prog 64 := ok_uuu (fun l m a b c d w hr hs hl hm => gcdR_any l m a b c d w hr hs (by unfold lenS; omega) (by unfold lenS; omega)) (fun l m s h1 h2 h3 h4 => lz_gcd h1 h2 h3 h4)
def ct_nmul : Ct := { args := [[.u], [.u]], res := [[.u]], F := f_uuu fun l m => val l * val m, L := 10000000000, A := 2, B := 0 }
theorem ctF_nmul : ct_nmul.F = f_uuu fun l m => val l * val m := rfl
theorem ok_nmul : ct_nmul.ok Try.prog 89 := ok_uuu (fun l m a b c d w hr hs hl hm => mul_any l m a b c d w hr hs (by unfold lenS; omega) (by unfold lenS; omega)) (fun l m s h1 h2 h3 h4 => lz_nmul h1 h2 h3 h4)
def ct_rmul : Ct := { args := [[.u], [.u]], res := [[.u]], F := f_uuu fun l m => val l * val m, L := 10000000000, A := 2, B := 0 }
theorem ctF_rmul : ct_rmul.F = f_uuu fun l m => val l * val m := rfl
theorem ok_rmul : ct_rmul.ok Try.prog 110 := ok_uuu (fun l m a b c d w hr hs hl hm => mulR_any l m a b c d w hr hs (by unfold lenS; omega) (by unfold lenS; omega)) (fun l m s h1 h2 h3 h4 => lz_nmul h1 h2 h3 h4)
def ct_ndiv : Ct := { args := [[.u], [.u]], res := [[.u], [.u], [.n]], F := f_div, L := 10000000000, A := 1, B := 0 }
theorem ctF_ndiv : ct_ndiv.F = f_div := rfl
theorem ok_ndiv : ct_ndiv.ok Try.prog 96 := ok_div (fun l m a b c d w hr hs hl hm => divmod_any l m a b c d w hr hs (by unfold lenS; omega) (by unfold lenS; omega))
def ct_rdiv : Ct := { args := [[.u], [.u]], res := [[.u], [.u], [.n]], F := f_div, L := 10000000000, A := 1, B := 0 }
theorem ctF_rdiv : ct_rdiv.F = f_div := rfl
theorem ok_rdiv : ct_rdiv.ok Try.prog 98 := ok_div (fun l m a b c d w hr hs hl hm => divmodR_any l m a b c d w hr hs (by unfold lenS; omega) (by unfold lenS; omega))
def ct_nbits : Ct := { args := [[.u]], res := [[.n]], F := f_un fun l => (blen (val l) : Int), L := 10000000000, A := 0, B := 0 }
theorem ctF_nbits : ct_nbits.F = f_un fun l => (blen (val l) : Int) := rfl
theorem ok_nbits : ct_nbits.ok Try.prog 99 := ok_un (fun l a c w hr hl => (bits_any l a c w hr (by unfold lenB; omega)).mono fun e w' h => ⟨h.1, refl_below h.2⟩)
def ct_rnof : Ct := { args := [[.w]], res := [[.u]], F := f_nof, L := 100000000000000, A := 0, B := 4 }
theorem ctF_rnof : ct_rnof.F = f_nof := rfl
theorem ok_rnof : ct_rnof.ok Try.prog 65 := ok_nof (fun n w hn => ofR_any n w hn)
def ct_rsame : Ct := { args := [[.u], [.u]], res := [[.b]], F := f_uub fun l m => decide (l = m), L := 100000000000, A := 0, B := 0 }
theorem ctF_rsame : ct_rsame.F = f_uub fun l m => decide (l = m) := rfl
theorem ok_rsame : ct_rsame.ok Try.prog 63 := ok_uub (fun l m a b c d w hr hs hl hm => sameN_any l m a b c d w hr hs (by unfold lenB; omega))
def ct_rvalid : Ct := { args := [[.u]], res := [[.b]], F := f_ub fun l => iRight false l, L := 100000000000, A := 0, B := 0 }
theorem ctF_rvalid : ct_rvalid.F = f_ub fun l => iRight false l := rfl
theorem ok_rvalid : ct_rvalid.ok Try.prog 62 := ok_ub (fun l a c w hr hl => (valid_any l a c w hr (by unfold lenB; omega)).mono fun e w' h => ⟨h.1, refl_below h.2⟩)
def ct_ntext : Ct := { args := [[.u]], res := [[.s]], F := f_text, L := 100000, A := 0, B := 0 }
theorem ctF_ntext : ct_ntext.F = f_text := rfl
theorem ok_ntext : ct_ntext.ok Try.prog 69 := ok_text (fun l a c w hr hl => text_any l a c w hr hl)
def ct_rtext : Ct := { args := [[.u]], res := [[.s]], F := f_text, L := 100000, A := 0, B := 0 }
theorem ctF_rtext : ct_rtext.F = f_text := rfl
theorem ok_rtext : ct_rtext.ok Try.prog 74 := ok_text (fun l a c w hr hl => textR_any l a c w hr hl)
end Go.Proofs.Ytkampmdekonjmaa
