/- Facts about points, in numbers. -/
import Derived.Test.YtkampmdekonjmaaPl1
import Derived.Test.YtkampmdekonjmaaFcN
namespace Go.Proofs.Ytkampmdekonjmaa
open Go Go.RowKit Go.V
set_option linter.unusedSimpArgs false
set_option linter.unusedVariables false
set_option maxRecDepth 20000
abbrev PT := Rat × Rat
def crP (a b c d : PT) : Rat := pcross a.1 a.2 b.1 b.2 c.1 c.2 d.1 d.2
def dtP (a b c d : PT) : Rat := pdot a.1 a.2 b.1 b.2 c.1 c.2 d.1 d.2
def nmP (a b : PT) : Rat := pnorm a.1 a.2 b.1 b.2
def lnP (a b c d e f g h : PT) : Rat := crP a b c d * dtP e f g h - crP e f g h * dtP a b c d
/-- the values of a fact -/
def fVals (k : Int) (p : Nat → PT) (r : Rat) : List Rat :=
  if k = 1 then [crP (p 0) (p 1) (p 0) (p 2)] else
  if k = 2 then [crP (p 0) (p 1) (p 2) (p 3)] else
  if k = 3 then [dtP (p 0) (p 1) (p 2) (p 3)] else
  if k = 4 then [nmP (p 0) (p 1) - nmP (p 2) (p 3)] else
  if k = 5 then [(p 1).1 + (p 2).1 - 2 * (p 0).1, (p 1).2 + (p 2).2 - 2 * (p 0).2] else
  if k = 6 then [lnP (p 1) (p 0) (p 1) (p 2) (p 3) (p 0) (p 3) (p 2)] else
  if k = 7 then [lnP (p 0) (p 1) (p 2) (p 3) (p 4) (p 5) (p 6) (p 7)] else
  if k = 8 then [(p 0).1 - (p 1).1, (p 0).2 - (p 1).2] else
  [nmP (p 0) (p 1) - r * nmP (p 2) (p 3)]
def fHolds (k : Int) (p : Nat → PT) (r : Rat) : Bool := (fVals k p r).all fun x => decide (x = 0)
/-- a quarter turn with a shift -/
def qtP (u v : Rat) (p : PT) : PT := (u - p.2, v + p.1)
/-- a stretching with a shift -/
def gwP (u v s : Rat) (p : PT) : PT := (u + s * p.1, v + s * p.2)
theorem cr_qt (u v : Rat) (a b c d : PT) : crP (qtP u v a) (qtP u v b) (qtP u v c) (qtP u v d) = crP a b c d := by unfold crP pcross qtP; grind
theorem dt_qt (u v : Rat) (a b c d : PT) : dtP (qtP u v a) (qtP u v b) (qtP u v c) (qtP u v d) = dtP a b c d := by unfold dtP pdot qtP; grind
theorem nm_qt (u v : Rat) (a b : PT) : nmP (qtP u v a) (qtP u v b) = nmP a b := by unfold nmP pnorm qtP; grind
theorem ln_qt (u v : Rat) (a b c d e f g h : PT) : lnP (qtP u v a) (qtP u v b) (qtP u v c) (qtP u v d) (qtP u v e) (qtP u v f) (qtP u v g) (qtP u v h) = lnP a b c d e f g h := by
  unfold lnP; rw [cr_qt, dt_qt, cr_qt, dt_qt]
theorem cr_gw (u v s : Rat) (a b c d : PT) : crP (gwP u v s a) (gwP u v s b) (gwP u v s c) (gwP u v s d) = s * s * crP a b c d := by unfold crP pcross gwP; grind
theorem dt_gw (u v s : Rat) (a b c d : PT) : dtP (gwP u v s a) (gwP u v s b) (gwP u v s c) (gwP u v s d) = s * s * dtP a b c d := by unfold dtP pdot gwP; grind
theorem nm_gw (u v s : Rat) (a b : PT) : nmP (gwP u v s a) (gwP u v s b) = s * s * nmP a b := by unfold nmP pnorm gwP; grind
theorem ln_gw (u v s : Rat) (a b c d e f g h : PT) : lnP (gwP u v s a) (gwP u v s b) (gwP u v s c) (gwP u v s d) (gwP u v s e) (gwP u v s f) (gwP u v s g) (gwP u v s h) = s * s * (s * s) * lnP a b c d e f g h := by
  unfold lnP; rw [cr_gw, dt_gw, cr_gw, dt_gw]; grind
theorem mul_0 {s x : Rat} (hs : ¬ s = 0) : decide (s * x = 0) = decide (x = 0) := by
  congr 1
  apply propext
  rw [Rat.mul_eq_zero]
  exact ⟨fun h => h.resolve_left hs, .inr⟩
theorem dec_eq {p q : Prop} [Decidable p] [Decidable q] (h : p ↔ q) : decide p = decide q := by
  by_cases hp : p
  · rw [decide_eq_true hp, decide_eq_true (h.1 hp)]
  · rw [decide_eq_false hp, decide_eq_false (fun hq => hp (h.2 hq))]
theorem holds_qt (k : Int) (p : Nat → PT) (r u v : Rat) : fHolds k (fun i => qtP u v (p i)) r = fHolds k p r := by
  unfold fHolds fVals
  by_cases h1 : k = 1
  · simp only [if_pos h1, cr_qt]
  by_cases h2 : k = 2
  · simp only [if_neg h1, if_pos h2, cr_qt]
  by_cases h3 : k = 3
  · simp only [if_neg h1, if_neg h2, if_pos h3, dt_qt]
  by_cases h4 : k = 4
  · simp only [if_neg h1, if_neg h2, if_neg h3, if_pos h4, nm_qt]
  by_cases h5 : k = 5
  · simp only [if_neg h1, if_neg h2, if_neg h3, if_neg h4, if_pos h5, List.all_cons, List.all_nil, Bool.and_true]
    rw [Bool.and_comm]
    congr 1
    · apply dec_eq; unfold qtP; constructor <;> intro h <;> grind
    · apply dec_eq; unfold qtP; constructor <;> intro h <;> grind
  by_cases h6 : k = 6
  · simp only [if_neg h1, if_neg h2, if_neg h3, if_neg h4, if_neg h5, if_pos h6, ln_qt]
  by_cases h7 : k = 7
  · simp only [if_neg h1, if_neg h2, if_neg h3, if_neg h4, if_neg h5, if_neg h6, if_pos h7, ln_qt]
  by_cases h8 : k = 8
  · simp only [if_neg h1, if_neg h2, if_neg h3, if_neg h4, if_neg h5, if_neg h6, if_neg h7, if_pos h8, List.all_cons, List.all_nil, Bool.and_true]
    rw [Bool.and_comm]
    congr 1
    · apply dec_eq; unfold qtP; constructor <;> intro h <;> grind
    · apply dec_eq; unfold qtP; constructor <;> intro h <;> grind
  · simp only [if_neg h1, if_neg h2, if_neg h3, if_neg h4, if_neg h5, if_neg h6, if_neg h7, if_neg h8, nm_qt]
theorem holds_gw (k : Int) (p : Nat → PT) (r u v : Rat) {s : Rat} (hs : ¬ s = 0) : fHolds k (fun i => gwP u v s (p i)) r = fHolds k p r := by
  have hs2 : ¬ s * s = 0 := fun h => (Rat.mul_eq_zero.1 h).elim hs hs
  have hs4 : ¬ s * s * (s * s) = 0 := fun h => (Rat.mul_eq_zero.1 h).elim hs2 hs2
  unfold fHolds fVals
  by_cases h1 : k = 1
  · simp only [if_pos h1, cr_gw, List.all_cons, List.all_nil, mul_0 hs2]
  by_cases h2 : k = 2
  · simp only [if_neg h1, if_pos h2, cr_gw, List.all_cons, List.all_nil, mul_0 hs2]
  by_cases h3 : k = 3
  · simp only [if_neg h1, if_neg h2, if_pos h3, dt_gw, List.all_cons, List.all_nil, mul_0 hs2]
  by_cases h4 : k = 4
  · simp only [if_neg h1, if_neg h2, if_neg h3, if_pos h4, nm_gw, List.all_cons, List.all_nil]
    rw [← mul_0 hs2 (x := nmP (p 0) (p 1) - nmP (p 2) (p 3))]
    congr 2
    apply propext
    constructor <;> intro h <;> grind
  by_cases h5 : k = 5
  · simp only [if_neg h1, if_neg h2, if_neg h3, if_neg h4, if_pos h5, List.all_cons, List.all_nil]
    rw [← mul_0 hs (x := (p 1).1 + (p 2).1 - 2 * (p 0).1), ← mul_0 hs (x := (p 1).2 + (p 2).2 - 2 * (p 0).2)]
    congr 1
    · apply dec_eq; unfold gwP; constructor <;> intro h <;> grind
    · congr 1; apply dec_eq; unfold gwP; constructor <;> intro h <;> grind
  by_cases h6 : k = 6
  · simp only [if_neg h1, if_neg h2, if_neg h3, if_neg h4, if_neg h5, if_pos h6, ln_gw, List.all_cons, List.all_nil, mul_0 hs4]
  by_cases h7 : k = 7
  · simp only [if_neg h1, if_neg h2, if_neg h3, if_neg h4, if_neg h5, if_neg h6, if_pos h7, ln_gw, List.all_cons, List.all_nil, mul_0 hs4]
  by_cases h8 : k = 8
  · simp only [if_neg h1, if_neg h2, if_neg h3, if_neg h4, if_neg h5, if_neg h6, if_neg h7, if_pos h8, List.all_cons, List.all_nil]
    rw [← mul_0 hs (x := (p 0).1 - (p 1).1), ← mul_0 hs (x := (p 0).2 - (p 1).2)]
    congr 1
    · apply dec_eq; unfold gwP; constructor <;> intro h <;> grind
    · congr 1; apply dec_eq; unfold gwP; constructor <;> intro h <;> grind
  · simp only [if_neg h1, if_neg h2, if_neg h3, if_neg h4, if_neg h5, if_neg h6, if_neg h7, if_neg h8, nm_gw, List.all_cons, List.all_nil]
    rw [← mul_0 hs2 (x := nmP (p 0) (p 1) - r * nmP (p 2) (p 3))]
    congr 1
    apply dec_eq
    constructor <;> intro h <;> grind
end Go.Proofs.Ytkampmdekonjmaa
