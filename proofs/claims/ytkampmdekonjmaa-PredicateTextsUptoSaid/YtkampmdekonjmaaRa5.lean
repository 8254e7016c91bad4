/- Rational numbers: Right. -/
import Derived.Test.YtkampmdekonjmaaRa4
namespace Go.Proofs.Ytkampmdekonjmaa
open Go Go.RowKit Go.V
set_option linter.unusedSimpArgs false
set_option linter.unusedVariables false
set_option maxRecDepth 20000

theorem qbx {w : World} {b n c n' c' : Nat} {t : TypeId} {a a' : Option Addr} {neg : Bool} (h : Bx w b #[.bool neg, .slice a n c, .slice a' n' c'] t) : w.cell? ⟨b, 0, none⟩ = some (.bool neg) ∧ w.cell? ⟨b, 1, none⟩ = some (.slice a n c) ∧ w.cell? ⟨b, 2, none⟩ = some (.slice a' n' c') := ⟨h.cell 0, h.cell 1, h.cell 2⟩
theorem nil_val {m : List Nat} (h : m.length = 0) : val m = 0 := by rw [List.length_eq_zero_iff.1 h]; rfl
theorem isOne_iff {m : List Nat} : isOne m = true ↔ m = [1] := by unfold isOne; simp
set_option maxHeartbeats 1000000 in
theorem qRight_any (neg : Bool) (l m : List Nat) (a b : Option Addr) (c d : Nat) (w : World) (hr : RD w a c l) (hs : RD w b d m) (hl : l.length ≤ 10000000000) (hm : m.length ≤ 10000000000) :
    Calls Try.prog 28 #[.agg #[.bool neg, .slice a l.length c, .slice b m.length d]] w fun e w' => e = .returned (.bool (qRight neg l m)) ∧ Below w.heap.size w w' := by
  refine calls_of_W (args := [.agg #[.bool neg, .slice a l.length c, .slice b m.length d]]) (rs := [.tmp 2]) (n := 36) Try.func28 rfl rfl rfl (by kernel_rfl) ?_
  first | refine W_rt (by kernel_rfl) (fun K hK => ?_) | refine W_text (by kernel_rfl) (fun K hK => ?_)
  simp [go_sem]
  refine hv_box #[.bool neg, .slice a l.length c, .slice b m.length d] (by simp [go_sem]) rfl (by simp [go_sem, Value.cells]) (fun w1 b1 hE1 hle1 hB1 => ?_)
  replace hr := hr.keep hE1
  replace hs := hs.keep hE1
  have hE := hE1
  obtain ⟨k0, k1, k2⟩ := qbx hB1
  simp [go_sem]
  refine hK _ _ ?_; clear hK K
  first | refine W_rt (by kernel_rfl) (fun K hK => ?_) | refine W_text (by kernel_rfl) (fun K hK => ?_)
  simp [go_sem, k0, k1, k2, add_mk]
  refine hK _ _ ?_; clear hK K
  refine W_seq (fun K1 hK1 => ?_)
  first | refine W_rt (by kernel_rfl) (fun K hK => ?_) | refine W_text (by kernel_rfl) (fun K hK => ?_)
  simp [go_sem, k0, k1, k2, add_mk, rowV, rowOk]
  refine hv_call (by simp [go_sem, k0, k1, k2, add_mk, rowV, rowOk]) rfl Try.call58 (fun R hR => ?_)
  simp [go_sem, k0, k1, k2, add_mk, rowV, rowOk]
  refine (iRight_any neg l a c _ hr (by unfold lenB; omega)).mono ?_
  rintro e w2 ⟨rfl, hE2⟩
  refine ⟨_, rfl, hR _ _ ?_⟩
  clear hR R
  replace hr := hr.keep hE2
  replace hs := hs.keep hE2
  replace hB1 := hB1.keep hE2
  replace hE := hE.next hE2
  obtain ⟨k0, k1, k2⟩ := qbx hB1
  have hq : iRight neg l = false → qRight neg l m = false := fun h => by unfold qRight; rw [h]; rfl
  by_cases h1 : iRight neg l = false
  · simp [go_sem, k0, k1, k2, add_mk, h1]
    refine hK _ _ ?_; clear hK K
    refine W_if (by simp [go_sem]; rfl) rfl ?_
    first | refine W_rt (by kernel_rfl) (fun K hK => ?_) | refine W_text (by kernel_rfl) (fun K hK => ?_)
    simp [go_sem]
    refine hK _ _ ?_; clear hK K
    refine W_ret ?_
    repeat (first | refine thenG_ret ?_ | refine inBlock_ret ?_)
    refine ⟨trivial, ?_, hE⟩
    simp [go_sem, pack, resL, hq h1]
  replace h1 : iRight neg l = true := by simpa using h1
  by_cases h2 : m.length = 0
  · have h2' : (m.length : Int) = 0 := by omega
    have hq2 : qRight neg l m = false := by unfold qRight; simp [h2]
    simp [go_sem, k0, k1, k2, add_mk, h1, h2, h2']
    refine hK _ _ ?_; clear hK K
    refine W_if (by simp [go_sem]; rfl) rfl ?_
    first | refine W_rt (by kernel_rfl) (fun K hK => ?_) | refine W_text (by kernel_rfl) (fun K hK => ?_)
    simp [go_sem]
    refine hK _ _ ?_; clear hK K
    refine W_ret ?_
    repeat (first | refine thenG_ret ?_ | refine inBlock_ret ?_)
    refine ⟨trivial, ?_, hE⟩
    simp [go_sem, pack, resL, hq2]
  have h2' : ¬ (m.length : Int) = 0 := by omega
  obtain ⟨i, hi⟩ : ∃ i, i = m.length - 1 := ⟨_, rfl⟩
  have f1 : IntKind.i64.wrap ((m.length : Int) - 1) = (i : Int) := by rw [IntWalk.i64_in _ (by omega)]; omega
  obtain ⟨c1, c2⟩ := hs.at (i := i) (by omega)
  have q1 : i < m.length := by omega
  have q1' : (i : Int) < m.length := by omega
  obtain ⟨x, hx⟩ : ∃ x, x = lat m i := ⟨_, rfl⟩
  rw [← hx] at c1
  have hir : iRight false m = !decide (x = 0) := by unfold iRight; rw [if_neg h2, ← hi, ← hx]
  by_cases h3 : x = 0
  · have h3' : (x : Int) = 0 := by omega
    have hq2 : qRight neg l m = false := by unfold qRight; rw [hir]; simp [h3]
    subst h3
    simp [go_sem, k0, k1, k2, add_mk, h1, h2, h2', f1, q1, q1', c1, c2]
    refine hK _ _ ?_; clear hK K
    refine W_if (by simp [go_sem]; rfl) rfl ?_
    first | refine W_rt (by kernel_rfl) (fun K hK => ?_) | refine W_text (by kernel_rfl) (fun K hK => ?_)
    simp [go_sem]
    refine hK _ _ ?_; clear hK K
    refine W_ret ?_
    repeat (first | refine thenG_ret ?_ | refine inBlock_ret ?_)
    refine ⟨trivial, ?_, hE⟩
    simp [go_sem, pack, resL, hq2]
  have h3' : ¬ (x : Int) = 0 := by omega
  have hqq : qRight neg l m = decide (Nat.gcd (val l) (val m) = 1) := by
    unfold qRight
    rw [h1, hir]
    simp [h3]; omega
  simp [go_sem, k0, k1, k2, add_mk, h1, h2, h2', f1, q1, q1', c1, c2, h3, h3']
  refine hK _ _ ?_; clear hK K
  refine W_if (by simp [go_sem, h3, h3']; rfl) rfl ?_
  refine W_skip ?_
  refine hK1 _ _ ?_; clear hK1 K1
  first | refine W_rt (by kernel_rfl) (fun K hK => ?_) | refine W_text (by kernel_rfl) (fun K hK => ?_)
  simp [go_sem, k0, k1, k2, add_mk]
  refine hv_call (by simp [go_sem, k0, k1, k2, add_mk]) rfl Try.call59 (fun R hR => ?_)
  simp [go_sem, k0, k1, k2, add_mk]
  refine (one_any m b d _ hs (by unfold lenB; omega)).mono ?_
  rintro e w3 ⟨rfl, hE3⟩
  refine ⟨_, rfl, hR _ _ ?_⟩
  clear hR R
  replace hr := hr.keep hE3
  replace hs := hs.keep hE3
  replace hB1 := hB1.keep hE3
  replace hE := hE.next hE3
  obtain ⟨k0, k1, k2⟩ := qbx hB1
  by_cases h4 : isOne m = true
  · have hg : Nat.gcd (val l) (val m) = 1 := by rw [isOne_val h4, Nat.gcd_one_right]
    simp [go_sem, k0, k1, k2, add_mk, h4]
    refine hK _ _ ?_; clear hK K
    refine W_ret ?_
    repeat (first | refine thenG_ret ?_ | refine inBlock_ret ?_)
    refine ⟨trivial, ?_, hE⟩
    simp [go_sem, pack, resL, hqq, hg]
  · replace h4 : isOne m = false := by simpa using h4
    simp [go_sem, k0, k1, k2, add_mk, h4]
    refine hv_call (by simp [go_sem, k0, k1, k2, add_mk, h4]) rfl Try.call60 (fun R hR => ?_)
    simp [go_sem, k0, k1, k2, add_mk, h4]
    refine (gcd_any l m a b c d _ hr hs (by unfold lenS; omega) (by unfold lenS; omega)).mono ?_
    rintro e w4 ⟨a4, c4, rfl, hr4, hE4⟩
    refine ⟨_, rfl, hR _ _ ?_⟩
    clear hR R
    replace hE := hE.next hE4
    have hgl : (lim (Nat.gcd (val l) (val m))).length ≤ lenB := by
      have := lz_gcd hr.ok hs.ok (s := 10000000000) hl hm
      unfold lenB; omega
    simp [go_sem, h4]
    refine hv_call (by simp [go_sem, h4]) rfl Try.call59 (fun R hR => ?_)
    simp [go_sem, h4]
    refine (one_any _ a4 c4 _ hr4 hgl).mono ?_
    rintro e w5 ⟨rfl, hE5⟩
    refine ⟨_, rfl, hR _ _ ?_⟩
    clear hR R
    replace hE := hE.next hE5
    simp [go_sem, h4]
    refine hK _ _ ?_; clear hK K
    refine W_ret ?_
    repeat (first | refine thenG_ret ?_ | refine inBlock_ret ?_)
    refine ⟨trivial, ?_, hE⟩
    simp [go_sem, pack, resL, hqq, one_lim]
theorem ok_rb {P : Program} {f L : Nat} {g : Bool → List Nat → List Nat → Bool}
    (h : ∀ neg l m a b c d w, RD w a c l → RD w b d m → l.length ≤ L → m.length ≤ L → Calls P f #[.agg #[.bool neg, .slice a l.length c, .slice b m.length d]] w fun e w' => e = .returned (.bool (g neg l m)) ∧ Below w.heap.size w w')
    {F : List At → Option (List At)} (hF : ∀ als r, F als = some r → ∃ a l m, als = [.r a l m] ∧ r = [.b (g a l m)]) : Ct.ok P f { args := [[.r]], res := [[.b]], F := F, L := L, A := 0, B := 0 } := by
  intro s w vs als r hs hr hsz hFF
  obtain ⟨v, rfl, h1⟩ := vs1 hr
  obtain ⟨neg, l, m, a, c, b, d, rfl, rfl, r1, r2⟩ := repV_r.1 h1
  obtain ⟨_, _, _, e1, rfl⟩ := hF _ _ hFF
  simp at e1
  obtain ⟨rfl, rfl, rfl⟩ := e1
  have s1 : max l.length m.length ≤ s := hsz (.r neg l m) (by simp)
  have hs2 : s ≤ L := hs
  refine (h neg l m a b c d w r1 r2 (by omega) (by omega)).mono ?_
  rintro e w' ⟨he, hE⟩
  exact ret1 rfl he (repV_b.2 ⟨_, rfl, rfl⟩) (fun x hx => by simp at hx; subst hx; simp [At.sz]) hE
def ct_qright : Ct := { args := [[.r]], res := [[.b]], F := f_qright, L := 10000000000, A := 0, B := 0 }
theorem ctF_qright : ct_qright.F = f_qright := rfl
theorem ok_qright : ct_qright.ok Try.prog 28 := ok_rb (g := qRight) (fun neg l m a b c d w hr hs hl hm => qRight_any neg l m a b c d w hr hs hl hm) (fun als r h => by
  unfold f_qright at h
  split at h
  · injection h with h; exact ⟨_, _, _, rfl, h.symm⟩
  · cases h)
end Go.Proofs.Ytkampmdekonjmaa
