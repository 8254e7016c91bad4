/- Integers: Right, Same, Sign, Cmp, Of. -/
import Derived.Test.YtkampmdekonjmaaIn1
namespace Go.Proofs.Ytkampmdekonjmaa
open Go.RowKit Go.V
set_option linter.unusedSimpArgs false
set_option linter.unusedVariables false
set_option maxRecDepth 20000

def iRight (neg : Bool) (l : List Nat) : Bool := if l.length = 0 then !neg else !decide (lat l (l.length - 1) = 0)
def sg (z : Int) : Int := if z = 0 then 0 else if z < 0 then -1 else 1
def icmp (z y : Int) : Int := if z < y then -1 else if y < z then 1 else 0

set_option maxHeartbeats 400000 in
theorem iRight_any (neg : Bool) (l : List Nat) (a : Option Addr) (c : Nat) (w : World) (hr : RD w a c l) (hl : l.length ≤ lenB) :
    Calls Try.prog 58 #[.agg #[.bool neg, .slice a l.length c]] w fun e w' => e = .returned (.bool (iRight neg l)) ∧ Below w.heap.size w w' := by
  have hl' : l.length ≤ 1000000000000 := hl
  refine calls_of_W (args := [.agg #[.bool neg, .slice a l.length c]]) (rs := [.tmp 2]) (n := 27) Try.func58 rfl rfl rfl (by kernel_rfl) ?_
  first | refine W_rt (by kernel_rfl) (fun K hK => ?_) | refine W_text (by kernel_rfl) (fun K hK => ?_)
  simp [go_sem]
  refine hv_box #[.bool neg, .slice a l.length c] (by simp [go_sem]) rfl (by simp [go_sem, Value.cells]) (fun w1 b1 hE1 hle1 hB1 => ?_)
  replace hr := hr.ext hE1
  obtain ⟨k0, k1⟩ := ibx hB1
  simp [go_sem]
  refine hK _ _ ?_; clear hK K
  first | refine W_rt (by kernel_rfl) (fun K hK => ?_) | refine W_text (by kernel_rfl) (fun K hK => ?_)
  simp [go_sem, k0, k1, add_mk]
  refine hK _ _ ?_; clear hK K
  by_cases h0 : l.length = 0
  · have h0' : (l.length : Int) = 0 := by omega
    cases neg <;>
    · first | refine W_rt (by kernel_rfl) (fun K hK => ?_) | refine W_text (by kernel_rfl) (fun K hK => ?_)
      simp [go_sem, k0, k1, add_mk, h0, h0']
      refine hK _ _ ?_; clear hK K
      refine W_ret ?_
      repeat (first | refine thenG_ret ?_ | refine inBlock_ret ?_)
      refine ⟨trivial, ?_, hE1⟩
      simp [go_sem, pack, resL, iRight, h0]
  · have h0' : ¬ (l.length : Int) = 0 := by omega
    have hp : 0 < l.length := by omega
    have hp' : (0 : Int) < l.length := by omega
    obtain ⟨i, hi⟩ : ∃ i, i = l.length - 1 := ⟨_, rfl⟩
    have f1 : IntKind.i64.wrap ((l.length : Int) - 1) = (i : Int) := by rw [IntWalk.i64_in _ (by omega)]; omega
    obtain ⟨c1, c2⟩ := hr.at (i := i) (by omega)
    have q1 : i < l.length := by omega
    have q1' : (i : Int) < l.length := by omega
    obtain ⟨x, hx⟩ : ∃ x, x = lat l i := ⟨_, rfl⟩
    rw [← hx] at c1
    first | refine W_rt (by kernel_rfl) (fun K hK => ?_) | refine W_text (by kernel_rfl) (fun K hK => ?_)
    simp [go_sem, k0, k1, add_mk, h0, h0', hp, hp', f1, q1, q1', c1, c2]
    refine hK _ _ ?_; clear hK K
    refine W_ret ?_
    repeat (first | refine thenG_ret ?_ | refine inBlock_ret ?_)
    refine ⟨trivial, ?_, hE1⟩
    simp [go_sem, pack, resL, iRight, h0, ← hi, ← hx]
set_option maxHeartbeats 400000 in
theorem valid_any (l : List Nat) (a : Option Addr) (c : Nat) (w : World) (hr : RD w a c l) (hl : l.length ≤ lenB) :
    Calls Try.prog 62 #[.slice a l.length c] w fun e w' => e = .returned (.bool (iRight false l)) ∧ w = w' := by
  have hl' : l.length ≤ 1000000000000 := hl
  refine calls_of_W (args := [.slice a l.length c]) (rs := [.tmp 2]) (n := 15) Try.func62 rfl rfl rfl (by kernel_rfl) ?_
  first | refine W_rt (by kernel_rfl) (fun K hK => ?_) | refine W_text (by kernel_rfl) (fun K hK => ?_)
  simp [go_sem]
  refine hK _ _ ?_; clear hK K
  by_cases h0 : l.length = 0
  · have h0' : (l.length : Int) = 0 := by omega
    first | refine W_rt (by kernel_rfl) (fun K hK => ?_) | refine W_text (by kernel_rfl) (fun K hK => ?_)
    simp [go_sem, h0, h0']
    refine hK _ _ ?_; clear hK K
    refine W_ret ?_
    repeat (first | refine thenG_ret ?_ | refine inBlock_ret ?_)
    refine ⟨trivial, ?_, rfl⟩
    simp [go_sem, pack, resL, iRight, h0]
  · have h0' : ¬ (l.length : Int) = 0 := by omega
    obtain ⟨i, hi⟩ : ∃ i, i = l.length - 1 := ⟨_, rfl⟩
    have f1 : IntKind.i64.wrap ((l.length : Int) - 1) = (i : Int) := by rw [IntWalk.i64_in _ (by omega)]; omega
    obtain ⟨c1, c2⟩ := hr.at (i := i) (by omega)
    have q1 : i < l.length := by omega
    have q1' : (i : Int) < l.length := by omega
    obtain ⟨x, hx⟩ : ∃ x, x = lat l i := ⟨_, rfl⟩
    rw [← hx] at c1
    first | refine W_rt (by kernel_rfl) (fun K hK => ?_) | refine W_text (by kernel_rfl) (fun K hK => ?_)
    simp [go_sem, h0, h0', f1, q1, q1', c1, c2]
    refine hK _ _ ?_; clear hK K
    refine W_ret ?_
    repeat (first | refine thenG_ret ?_ | refine inBlock_ret ?_)
    refine ⟨trivial, ?_, rfl⟩
    simp [go_sem, pack, resL, iRight, h0, ← hi, ← hx]
set_option maxHeartbeats 400000 in
theorem iRightR_any (neg : Bool) (l : List Nat) (a : Option Addr) (c : Nat) (w : World) (hr : RD w a c l) (hl : l.length ≤ lenB) :
    Calls Try.prog 61 #[.agg #[.bool neg, .slice a l.length c]] w fun e w' => e = .returned (.bool (iRight neg l)) ∧ Below w.heap.size w w' := by
  refine calls_of_W (args := [.agg #[.bool neg, .slice a l.length c]]) (rs := [.tmp 2]) (n := 17) Try.func61 rfl rfl rfl (by kernel_rfl) ?_
  first | refine W_rt (by kernel_rfl) (fun K hK => ?_) | refine W_text (by kernel_rfl) (fun K hK => ?_)
  simp [go_sem]
  refine hv_box #[.bool neg, .slice a l.length c] (by simp [go_sem]) rfl (by simp [go_sem, Value.cells]) (fun w1 b1 hE1 hle1 hB1 => ?_)
  replace hr := hr.ext hE1
  obtain ⟨k0, k1⟩ := ibx hB1
  simp [go_sem]
  refine hK _ _ ?_; clear hK K
  first | refine W_rt (by kernel_rfl) (fun K hK => ?_) | refine W_text (by kernel_rfl) (fun K hK => ?_)
  simp [go_sem, k0, k1, add_mk]
  refine hv_call (by simp [go_sem, k0, k1, add_mk]) rfl Try.call62 (fun R hR => ?_)
  simp [go_sem, k0, k1, add_mk]
  refine (valid_any l a c _ hr hl).mono ?_
  rintro e w2 ⟨rfl, rfl⟩
  refine ⟨_, rfl, hR _ _ ?_⟩
  clear hR R
  by_cases h0 : l.length = 0
  · have h0' : (l.length : Int) = 0 := by omega
    have hv : iRight false l = true := by unfold iRight; rw [if_pos h0]; rfl
    cases neg with
    | false =>
      simp [go_sem, k0, k1, add_mk, h0, h0', hv]
      refine hK _ _ ?_; clear hK K
      refine W_ret ?_
      repeat (first | refine thenG_ret ?_ | refine inBlock_ret ?_)
      refine ⟨trivial, ?_, hE1⟩
      simp [go_sem, pack, resL, iRight, h0]
    | true =>
      simp [go_sem, k0, k1, add_mk, h0, h0', hv]
      refine hK _ _ ?_; clear hK K
      refine W_ret ?_
      repeat (first | refine thenG_ret ?_ | refine inBlock_ret ?_)
      refine ⟨trivial, ?_, hE1⟩
      simp [go_sem, pack, resL, iRight, h0]
  · have h0' : ¬ (l.length : Int) = 0 := by omega
    have hv : iRight false l = iRight neg l := by unfold iRight; rw [if_neg h0, if_neg h0]
    generalize iRight false l = r at *
    cases r with
    | false =>
      simp [go_sem, k0, k1, add_mk, h0, h0']
      refine hK _ _ ?_; clear hK K
      refine W_ret ?_
      repeat (first | refine thenG_ret ?_ | refine inBlock_ret ?_)
      refine ⟨trivial, ?_, hE1⟩
      rw [← hv]
      simp [go_sem, pack, resL]
    | true =>
      cases neg with
      | false =>
        simp [go_sem, k0, k1, add_mk, h0, h0']
        refine hK _ _ ?_; clear hK K
        refine W_ret ?_
        repeat (first | refine thenG_ret ?_ | refine inBlock_ret ?_)
        refine ⟨trivial, ?_, hE1⟩
        rw [← hv]
        simp [go_sem, pack, resL]
      | true =>
        simp [go_sem, k0, k1, add_mk, h0, h0']
        refine hK _ _ ?_; clear hK K
        refine W_ret ?_
        repeat (first | refine thenG_ret ?_ | refine inBlock_ret ?_)
        refine ⟨trivial, ?_, hE1⟩
        rw [← hv]
        simp [go_sem, pack, resL, h0]
theorem blen0 (x : Nat) : blen x = 0 ↔ x = 0 := by
  constructor
  · intro h
    rcases Nat.eq_zero_or_pos x with h0 | h0
    · exact h0
    · rw [blen_s x (by omega)] at h; omega
  · rintro rfl; exact blen_0
theorem sg_0 (neg : Bool) (x : Nat) (h : x = 0) : sg (iv neg x) = 0 := by subst h; cases neg <;> rfl
theorem sg_t (x : Nat) (h : x ≠ 0) : sg (iv true x) = -1 := by unfold sg iv; simp; omega
theorem sg_f (x : Nat) (h : x ≠ 0) : sg (iv false x) = 1 := by unfold sg iv; simp; omega
set_option maxHeartbeats 400000 in
theorem iSign_any (neg : Bool) (l : List Nat) (a : Option Addr) (c : Nat) (w : World) (hr : RD w a c l) (hl : l.length ≤ lenB) :
    Calls Try.prog 82 #[.agg #[.bool neg, .slice a l.length c]] w fun e w' => e = .returned (.int .i64 (sg (iv neg (val l)))) ∧ Below w.heap.size w w' := by
  obtain ⟨Z, hZ⟩ : ∃ Z, Z = sg (iv neg (val l)) := ⟨_, rfl⟩
  rw [← hZ]
  refine calls_of_W (args := [.agg #[.bool neg, .slice a l.length c]]) (rs := [.tmp 2]) (n := 11) Try.func82 rfl rfl rfl (by kernel_rfl) ?_
  first | refine W_rt (by kernel_rfl) (fun K hK => ?_) | refine W_text (by kernel_rfl) (fun K hK => ?_)
  simp [go_sem]
  refine hv_box #[.bool neg, .slice a l.length c] (by simp [go_sem]) rfl (by simp [go_sem, Value.cells]) (fun w1 b1 hE1 hle1 hB1 => ?_)
  replace hr := hr.ext hE1
  obtain ⟨k0, k1⟩ := ibx hB1
  simp [go_sem]
  refine hK _ _ ?_; clear hK K
  refine W_seq (fun K1 hK1 => ?_)
  refine W_block ?_
  first | refine W_rt (by kernel_rfl) (fun K hK => ?_) | refine W_text (by kernel_rfl) (fun K hK => ?_)
  simp [go_sem, k0, k1, add_mk]
  refine hv_call (by simp [go_sem, k0, k1, add_mk]) rfl Try.call99 (fun R hR => ?_)
  simp [go_sem, k0, k1, add_mk]
  refine (bits_any l a c _ hr hl).mono ?_
  rintro e w2 ⟨rfl, rfl⟩
  refine ⟨_, rfl, hR _ _ ?_⟩
  clear hR R
  by_cases h0 : val l = 0
  · have hb : blen (val l) = 0 := (blen0 _).2 h0
    rw [hb]
    have hz := hZ.trans (sg_0 neg _ h0)
    subst hz
    simp [go_sem]
    refine hK _ _ ?_; clear hK K
    refine W_if (by simp [go_sem]; rfl) rfl ?_
    first | refine W_rt (by kernel_rfl) (fun K hK => ?_) | refine W_text (by kernel_rfl) (fun K hK => ?_)
    simp [go_sem]
    refine hK _ _ ?_; clear hK K
    refine W_ret ?_
    repeat (first | refine thenG_ret ?_ | refine inBlock_ret ?_)
    refine ⟨trivial, ?_, hE1⟩
    simp [go_sem, pack, resL]
  · have hb : ¬ blen (val l) = 0 := fun h => h0 ((blen0 _).1 h)
    have hb' : ¬ (blen (val l) : Int) = 0 := by omega
    simp [go_sem, hb, hb']
    refine hK _ _ ?_; clear hK K
    refine W_if (by simp [go_sem, hb, hb']; rfl) rfl ?_
    cases neg with
    | true =>
      have hz := hZ.trans (sg_t _ h0)
      subst hz
      first | refine W_rt (by kernel_rfl) (fun K hK => ?_) | refine W_text (by kernel_rfl) (fun K hK => ?_)
      simp [go_sem, k0, k1, add_mk]
      refine hK _ _ ?_; clear hK K
      refine W_if (by simp [go_sem]; rfl) rfl ?_
      first | refine W_rt (by kernel_rfl) (fun K hK => ?_) | refine W_text (by kernel_rfl) (fun K hK => ?_)
      simp [go_sem]
      refine hK _ _ ?_; clear hK K
      refine W_ret ?_
      repeat (first | refine thenG_ret ?_ | refine inBlock_ret ?_)
      refine ⟨trivial, ?_, hE1⟩
      simp [go_sem, pack, resL]
    | false =>
      have hz := hZ.trans (sg_f _ h0)
      subst hz
      first | refine W_rt (by kernel_rfl) (fun K hK => ?_) | refine W_text (by kernel_rfl) (fun K hK => ?_)
      simp [go_sem, k0, k1, add_mk]
      refine hK _ _ ?_; clear hK K
      refine W_if (by simp [go_sem]; rfl) rfl ?_
      refine W_skip ?_
      refine hK1 _ _ ?_; clear hK1 K1
      first | refine W_rt (by kernel_rfl) (fun K hK => ?_) | refine W_text (by kernel_rfl) (fun K hK => ?_)
      simp [go_sem]
      refine hK _ _ ?_; clear hK K
      refine W_ret ?_
      repeat (first | refine thenG_ret ?_ | refine inBlock_ret ?_)
      refine ⟨trivial, ?_, hE1⟩
      simp [go_sem, pack, resL]
end Go.Proofs.Ytkampmdekonjmaa
