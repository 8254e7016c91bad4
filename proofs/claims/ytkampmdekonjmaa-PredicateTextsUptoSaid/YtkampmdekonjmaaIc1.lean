/- Integers: the functions' contracts, as symbolic evaluation wants them. -/
import Derived.Test.YtkampmdekonjmaaInA
import Derived.Test.YtkampmdekonjmaaIn9
import Derived.Test.YtkampmdekonjmaaEv8
namespace Go.Proofs.Ytkampmdekonjmaa
open Go Go.RowKit Go.V
set_option linter.unusedSimpArgs false
set_option linter.unusedVariables false
set_option maxRecDepth 20000

def za (z : Int) : At := .y (decide (z < 0)) (lim z.natAbs)
theorem RetI.rep {w w' : World} {z : Int} {e : Ending} (h : RetI w z e w') : ∃ v, e = .returned v ∧ RepV w' [.y] [za z] v ∧ Below w.heap.size w w' := by
  obtain ⟨a, c, he, hr, hE⟩ := h
  exact ⟨_, he, repV_y.2 ⟨_, _, a, c, rfl, rfl, hr⟩, hE⟩
def f_yyy (g : Bool → List Nat → Bool → List Nat → Int) : List At → Option (List At)
  | [.y a l, .y b m] => some [za (g a l b m)]
  | _ => none
theorem f_yyy_some {g : Bool → List Nat → Bool → List Nat → Int} {als r : List At} (h : f_yyy g als = some r) : ∃ a l b m, als = [.y a l, .y b m] ∧ r = [za (g a l b m)] := by
  unfold f_yyy at h
  split at h
  · injection h with h; exact ⟨_, _, _, _, rfl, h.symm⟩
  · cases h
theorem vs2 {w : World} {x y : List Sh} {als : List At} {vs : List Value} (h : RepVs w [x, y] als vs) : ∃ a1 a2 v u, als = a1 ++ a2 ∧ vs = [v, u] ∧ RepV w x a1 v ∧ RepV w y a2 u := by
  obtain ⟨a1, a2, v, q, rfl, rfl, h1, b1, b2, u, q', rfl, rfl, h2, rfl, rfl⟩ := h
  exact ⟨a1, b1, v, u, by simp, rfl, h1, h2⟩
theorem vs1 {w : World} {x : List Sh} {als : List At} {vs : List Value} (h : RepVs w [x] als vs) : ∃ v, vs = [v] ∧ RepV w x als v := by
  obtain ⟨a1, a2, v, q, rfl, rfl, h1, rfl, rfl⟩ := h
  exact ⟨v, rfl, by simpa using h1⟩
theorem ok_yyy {P : Program} {f L A B : Nat} {g : Bool → List Nat → Bool → List Nat → Int}
    (h : ∀ neg peg l m a b c d w, RD w a c l → RD w b d m → l.length ≤ L → m.length ≤ L → Calls P f #[.agg #[.bool neg, .slice a l.length c], .agg #[.bool peg, .slice b m.length d]] w (RetI w (g neg l peg m)))
    (hz : ∀ neg l peg m s, Ok l → Ok m → l.length ≤ s → m.length ≤ s → (lim (g neg l peg m).natAbs).length ≤ A * s + B) : Ct.ok P f { args := [[.y], [.y]], res := [[.y]], F := f_yyy g, L := L, A := A, B := B } := by
  intro s w vs als r hs hr hsz hF
  obtain ⟨a1, a2, v, u, rfl, rfl, h1, h2⟩ := vs2 hr
  obtain ⟨neg, l, a, c, rfl, rfl, r1⟩ := repV_y.1 h1
  obtain ⟨peg, m, b, d, rfl, rfl, r2⟩ := repV_y.1 h2
  have hF' : some [za (g neg l peg m)] = some r := hF
  injection hF' with hF'; subst hF'
  have s1 : l.length ≤ s := hsz (.y neg l) (by simp)
  have s2 : m.length ≤ s := hsz (.y peg m) (by simp)
  refine (h neg peg l m a b c d w r1 r2 (Nat.le_trans s1 hs) (Nat.le_trans s2 hs)).mono ?_
  intro e w' hret
  obtain ⟨v, he, hv, hE⟩ := hret.rep
  refine ret1 rfl he hv ?_ hE
  intro x hx
  simp at hx; subst hx
  exact hz neg l peg m s r1.ok r2.ok s1 s2
theorem ok_fn0 {P : Program} {f : Nat} (h : ∀ w, Calls P f #[] w fun e w' => e = .returned (.bool true) ∧ Below w.heap.size w w') : Ct.ok P f { args := [], res := [[.b]], F := fun _ => some [.b true], L := 100000000000000, A := 0, B := 0 } := by
  intro s w vs als r hs hr hsz hF
  obtain ⟨rfl, rfl⟩ := hr
  injection hF with hF; subst hF
  refine (h w).mono ?_
  rintro e w' ⟨he, hE⟩
  exact ret1 rfl he (repV_b.2 ⟨true, rfl, rfl⟩) (fun x hx => by simp at hx; subst hx; simp [At.sz]) hE
def f_yb (g : Bool → List Nat → Bool) : List At → Option (List At)
  | [.y a l] => some [.b (g a l)]
  | _ => none
theorem ok_yb {P : Program} {f L : Nat} {g : Bool → List Nat → Bool}
    (h : ∀ neg l a c w, RD w a c l → l.length ≤ L → Calls P f #[.agg #[.bool neg, .slice a l.length c]] w fun e w' => e = .returned (.bool (g neg l)) ∧ Below w.heap.size w w') : Ct.ok P f { args := [[.y]], res := [[.b]], F := f_yb g, L := L, A := 0, B := 0 } := by
  intro s w vs als r hs hr hsz hF
  obtain ⟨v, rfl, h1⟩ := vs1 hr
  obtain ⟨neg, l, a, c, rfl, rfl, r1⟩ := repV_y.1 h1
  injection hF with hF; subst hF
  have s1 : l.length ≤ s := hsz (.y neg l) (by simp)
  refine (h neg l a c w r1 (Nat.le_trans s1 hs)).mono ?_
  rintro e w' ⟨he, hE⟩
  exact ret1 rfl he (repV_b.2 ⟨_, rfl, rfl⟩) (fun x hx => by simp at hx; subst hx; simp [At.sz]) hE
def f_yn (g : Bool → List Nat → Int) : List At → Option (List At)
  | [.y a l] => some [.n (g a l)]
  | _ => none
theorem ok_yn {P : Program} {f L : Nat} {g : Bool → List Nat → Int}
    (h : ∀ neg l a c w, RD w a c l → l.length ≤ L → Calls P f #[.agg #[.bool neg, .slice a l.length c]] w fun e w' => e = .returned (.int .i64 (g neg l)) ∧ Below w.heap.size w w') : Ct.ok P f { args := [[.y]], res := [[.n]], F := f_yn g, L := L, A := 0, B := 0 } := by
  intro s w vs als r hs hr hsz hF
  obtain ⟨v, rfl, h1⟩ := vs1 hr
  obtain ⟨neg, l, a, c, rfl, rfl, r1⟩ := repV_y.1 h1
  injection hF with hF; subst hF
  have s1 : l.length ≤ s := hsz (.y neg l) (by simp)
  refine (h neg l a c w r1 (Nat.le_trans s1 hs)).mono ?_
  rintro e w' ⟨he, hE⟩
  exact ret1 rfl he (repV_n.2 ⟨_, rfl, rfl⟩) (fun x hx => by simp at hx; subst hx; simp [At.sz]) hE
def f_yy (g : Bool → List Nat → Int) : List At → Option (List At)
  | [.y a l] => some [za (g a l)]
  | _ => none
theorem ok_yy {P : Program} {f L A B : Nat} {g : Bool → List Nat → Int}
    (h : ∀ neg l a c w, RD w a c l → l.length ≤ L → Calls P f #[.agg #[.bool neg, .slice a l.length c]] w (RetI w (g neg l)))
    (hz : ∀ neg l s, Ok l → l.length ≤ s → (lim (g neg l).natAbs).length ≤ A * s + B) : Ct.ok P f { args := [[.y]], res := [[.y]], F := f_yy g, L := L, A := A, B := B } := by
  intro s w vs als r hs hr hsz hF
  obtain ⟨v, rfl, h1⟩ := vs1 hr
  obtain ⟨neg, l, a, c, rfl, rfl, r1⟩ := repV_y.1 h1
  injection hF with hF; subst hF
  have s1 : l.length ≤ s := hsz (.y neg l) (by simp)
  refine (h neg l a c w r1 (Nat.le_trans s1 hs)).mono ?_
  intro e w' hret
  obtain ⟨v, he, hv, hE⟩ := hret.rep
  exact ret1 rfl he hv (fun x hx => by simp at hx; subst hx; exact hz neg l s r1.ok s1) hE
/-- Same, where it answers true -/
def f_isame : List At → Option (List At)
  | [.y a l, .y b m] => if a = b ∧ l = m then some [.b true] else none
  | _ => none
theorem lz_g {z : Int} {x k : Nat} (h : z.natAbs = x) (hk : (lim x).length ≤ k) : (lim z.natAbs).length ≤ k := by rw [h]; exact hk
def planL : List (Nat × Nat × Pn) := [(3, 1, .lin [(0, 0), (1, 0), (3, 0), (4, 0), (2, 1), (5, 1), (6, 0), (7, 0), (8, 0), (10, 0), (9, 1), (11, 1), (12, 0), (13, 0), (14, 0), (15, 0), (16, 0), (18, 0), (19, 0), (17, 1), (20, 1), (21, 0), (22, 0), (23, 0)]), (7, 3, .tree (.li 0 (.li 1 (.li 2 (.li 3 (.li 4 (.li 5 (.fork 6 (.fork 7 (.hv 8 (.hv 9 (.hv 10 (.hv 11 .done)))) (.hv 8 (.hv 7 (.hv 9 (.hv 10 (.hv 11 .done)))))) (.fork 7 (.fork 6 (.hv 8 (.hv 9 (.hv 10 (.hv 11 .done)))) (.hv 8 (.hv 6 (.hv 9 (.hv 10 (.hv 11 .done)))))) (.hv 8 (.fork 6 (.hv 7 (.hv 9 (.hv 10 (.hv 11 .done)))) (.hv 7 (.hv 6 (.hv 9 (.hv 10 (.hv 11 .done)))))))))))))))), (7, 4, .tree (.li 0 (.li 1 (.li 4 (.li 5 (.fork 2 (.fork 3 (.fork 6 (.hv 7 (.hv 8 (.li 9 .done))) (.hv 7 (.hv 6 (.hv 8 (.li 9 .done))))) (.hv 7 (.hv 3 (.hv 6 (.hv 8 (.li 9 .done)))))) (.hv 7 (.hv 2 (.hv 3 (.hv 6 (.hv 8 (.li 9 .done)))))))))))), (7, 12, .lin [(0, 0), (1, 0), (2, 0), (3, 0), (4, 0), (6, 0), (7, 0), (8, 0), (9, 0), (11, 0), (12, 0), (13, 0), (14, 0), (5, 1), (10, 1), (15, 1), (16, 1), (17, 0)]), (11, 3, .lin [(0, 0), (1, 0), (2, 0), (3, 0), (4, 0), (5, 1), (6, 0)]), (18, 1, .lin [(0, 0), (2, 0), (3, 0), (1, 1), (4, 1), (5, 1), (6, 1), (7, 2)]), (19, 1, .lin [(0, 0), (1, 0), (2, 0), (3, 0), (4, 1), (5, 1), (6, 2)]), (23, 1, .lin [(0, 0), (1, 0), (2, 0), (4, 0), (3, 1), (5, 1), (6, 1), (7, 2)]), (25, 4, .lin [(0, 0), (1, 0), (2, 0), (3, 1), (4, 1), (5, 2), (6, 0)]), (26, 1, .tree (.li 0 (.li 1 (.li 3 (.li 4 (.fork 2 (.fork 5 (.fork 6 (.hv 7 (.hv 8 (.hv 9 .done))) (.hv 7 (.hv 6 (.hv 8 (.hv 9 .done))))) (.fork 6 (.fork 5 (.hv 7 (.hv 8 (.hv 9 .done))) (.hv 7 (.hv 5 (.hv 8 (.hv 9 .done))))) (.hv 7 (.fork 5 (.hv 6 (.hv 8 (.hv 9 .done))) (.hv 6 (.hv 5 (.hv 8 (.hv 9 .done)))))))) (.fork 6 (.fork 2 (.fork 5 (.hv 7 (.hv 8 (.hv 9 .done))) (.hv 7 (.hv 5 (.hv 8 (.hv 9 .done))))) (.hv 7 (.hv 2 (.hv 5 (.hv 8 (.hv 9 .done)))))) (.hv 7 (.fork 2 (.fork 5 (.hv 6 (.hv 8 (.hv 9 .done))) (.hv 6 (.hv 5 (.hv 8 (.hv 9 .done))))) (.hv 6 (.hv 2 (.hv 5 (.hv 8 (.hv 9 .done)))))))))))))), (26, 2, .tree (.li 1 (.li 2 (.fork 0 (.fork 3 (.fork 4 (.hv 5 (.hv 6 .done)) (.hv 5 (.hv 4 (.hv 6 .done)))) (.hv 5 (.hv 3 (.hv 4 (.hv 6 .done))))) (.hv 5 (.hv 0 (.hv 3 (.hv 4 (.hv 6 .done))))))))), (26, 5, .tree (.li 0 (.li 2 (.fork 1 (.fork 3 (.fork 4 (.hv 5 (.hv 6 (.hv 7 .done))) (.hv 5 (.hv 4 (.hv 6 (.hv 7 .done))))) (.fork 4 (.fork 3 (.hv 5 (.hv 6 (.hv 7 .done))) (.hv 5 (.hv 3 (.hv 6 (.hv 7 .done))))) (.hv 5 (.fork 3 (.hv 4 (.hv 6 (.hv 7 .done))) (.hv 4 (.hv 3 (.hv 6 (.hv 7 .done)))))))) (.fork 4 (.fork 1 (.fork 3 (.hv 5 (.hv 6 (.hv 7 .done))) (.hv 5 (.hv 3 (.hv 6 (.hv 7 .done))))) (.hv 5 (.hv 1 (.hv 3 (.hv 6 (.hv 7 .done)))))) (.hv 5 (.fork 1 (.fork 3 (.hv 4 (.hv 6 (.hv 7 .done))) (.hv 4 (.hv 3 (.hv 6 (.hv 7 .done))))) (.hv 4 (.hv 1 (.hv 3 (.hv 6 (.hv 7 .done)))))))))))), (26, 6, .tree (.li 0 (.li 1 (.li 2 (.li 4 (.li 5 (.li 6 (.fork 3 (.fork 7 (.fork 8 (.hv 9 (.hv 10 .done)) (.hv 9 (.hv 8 (.hv 10 .done)))) (.hv 9 (.hv 7 (.hv 8 (.hv 10 .done))))) (.hv 9 (.hv 3 (.hv 7 (.hv 8 (.hv 10 .done))))))))))))), (26, 7, .tree (.li 0 (.li 1 (.li 2 (.li 4 (.li 5 (.li 6 (.fork 3 (.fork 7 (.fork 8 (.hv 9 (.hv 10 .done)) (.hv 9 (.hv 8 (.hv 10 .done)))) (.hv 9 (.hv 7 (.hv 8 (.hv 10 .done))))) (.hv 9 (.hv 3 (.hv 7 (.hv 8 (.hv 10 .done))))))))))))), (26, 8, .lin [(0, 0), (1, 0), (2, 0), (4, 0), (5, 0), (3, 1), (6, 1), (7, 1), (8, 1), (9, 2), (10, 0)]), (27, 1, .tree (.li 1 (.fork 0 (.fork 2 (.hv 3 (.hv 4 .done)) (.hv 3 (.hv 2 (.hv 4 .done)))) (.hv 3 (.hv 0 (.hv 2 (.hv 4 .done))))))), (27, 2, .tree (.li 1 (.li 2 (.li 4 (.li 7 (.fork 0 (.fork 3 (.fork 5 (.fork 6 (.fork 8 (.fork 9 (.hv 10 (.hv 11 .done)) (.hv 10 (.hv 9 (.hv 11 .done)))) (.hv 10 (.hv 8 (.hv 9 (.hv 11 .done))))) (.hv 10 (.hv 6 (.hv 8 (.hv 9 (.hv 11 .done)))))) (.hv 10 (.hv 5 (.hv 6 (.hv 8 (.hv 9 (.hv 11 .done))))))) (.hv 10 (.hv 3 (.hv 5 (.hv 6 (.hv 8 (.hv 9 (.hv 11 .done)))))))) (.hv 10 (.hv 0 (.hv 3 (.hv 5 (.hv 6 (.hv 8 (.hv 9 (.hv 11 .done)))))))))))))), (27, 3, .lin [(0, 0), (1, 0), (2, 0), (3, 1), (4, 1), (5, 2)]), (32, 5, .lin [(0, 0), (1, 0), (4, 0), (5, 0), (2, 1), (3, 0), (6, 1), (7, 0), (8, 0)]), (36, 2, .lin [(0, 0), (1, 0), (2, 1), (3, 1)]), (36, 4, .lin [(0, 0), (1, 0), (4, 0), (5, 0), (2, 1), (3, 0), (6, 1), (7, 0), (8, 0)]), (40, 1, .lin [(0, 0), (1, 0), (2, 0), (3, 0), (4, 0), (7, 0), (8, 0), (9, 0), (10, 0), (11, 0), (5, 1), (6, 1), (12, 1), (13, 1), (14, 1), (15, 2)]), (41, 1, .lin [(0, 0), (1, 0), (3, 0), (4, 0), (2, 1), (5, 1), (6, 2)]), (42, 1, .lin [(0, 0), (1, 0), (2, 0), (3, 0), (5, 0), (6, 0), (7, 0), (8, 0), (4, 1), (9, 1), (10, 1), (11, 2)]), (45, 1, .lin [(0, 0), (1, 0), (2, 0), (3, 0), (5, 0), (6, 0), (7, 0), (8, 0), (4, 1), (9, 1), (10, 1), (11, 2)]), (46, 1, .lin [(0, 0), (1, 0), (2, 0), (3, 0), (5, 0), (6, 0), (7, 0), (8, 0), (4, 1), (9, 1), (10, 1), (11, 2)]), (47, 1, .lin [(0, 0), (1, 0), (2, 0), (4, 0), (5, 0), (6, 0), (3, 1), (7, 1), (8, 1), (9, 2)]), (50, 4, .lin [(0, 0), (1, 0), (2, 0), (3, 0), (4, 0), (7, 0), (5, 1), (6, 1), (8, 1), (9, 1), (10, 1), (11, 1), (12, 2), (13, 0)]), (53, 1, .lin [(0, 0), (1, 0), (2, 0), (3, 0), (5, 0), (6, 0), (7, 0), (8, 0), (4, 1), (9, 1), (10, 1), (11, 2)]), (57, 1, .lin [(0, 0), (1, 0), (2, 0), (3, 0), (5, 0), (6, 0), (7, 0), (8, 0), (4, 1), (9, 1), (10, 1), (11, 2)]), (60, 7, .lin [(0, 0), (1, 0), (2, 0), (3, 0), (4, 0), (5, 0)]), (63, 6, .lin [(0, 0), (1, 0), (2, 0), (3, 0), (4, 0), (5, 0), (6, 0), (7, 0), (8, 0)]), (66, 3, .lin [(0, 0), (1, 0), (2, 0), (3, 0), (4, 2), (5, 0)]), (70, 3, .lin [(0, 0), (1, 0), (2, 0), (3, 0), (4, 0), (5, 0), (6, 0), (7, 0), (8, 0), (9, 0), (10, 0), (11, 0), (12, 0)]), (72, 1, .lin [(0, 0), (1, 0), (2, 0), (3, 0), (5, 0), (6, 0), (7, 0), (8, 0), (9, 0), (4, 2), (10, 2), (11, 0)]), (77, 1, .lin [(0, 0), (2, 0), (1, 1), (3, 1), (4, 2), (5, 2)]), (77, 2, .lin [(0, 0), (1, 0), (2, 0), (3, 0), (6, 0), (7, 0), (8, 0), (9, 0), (13, 0), (14, 0), (15, 0), (16, 0), (4, 1), (5, 1), (10, 1), (11, 1), (12, 1), (17, 1), (18, 1), (19, 2)]), (78, 1, .lin [(0, 0), (1, 0), (2, 0), (3, 0), (5, 0), (6, 0), (7, 0), (8, 0), (4, 1), (9, 1), (10, 1), (11, 2)]), (79, 1, .lin [(0, 0), (1, 0), (3, 0), (4, 0), (2, 1), (5, 1), (6, 2)]), (80, 1, .lin [(0, 0), (1, 0), (2, 1), (3, 1), (4, 2)]), (81, 3, .lin [(0, 0), (1, 0), (2, 0), (3, 0), (4, 0), (5, 0), (6, 0), (7, 0), (8, 0), (9, 0), (10, 0), (11, 0), (12, 1), (13, 1), (14, 1), (15, 0)]), (81, 5, .lin [(0, 0), (1, 0), (2, 0), (3, 0), (4, 0), (5, 0), (6, 0), (7, 0), (8, 0), (9, 0), (10, 0), (11, 0), (12, 1), (13, 1), (14, 1), (15, 0)]), (81, 7, .lin [(0, 0), (1, 0), (2, 0), (3, 0), (4, 0), (5, 0), (6, 0), (7, 0), (8, 0), (9, 0), (10, 0), (11, 0), (12, 1), (13, 1), (14, 1), (15, 0)]), (81, 9, .lin [(0, 0), (1, 0), (2, 0), (3, 0), (4, 0), (5, 0), (7, 0), (8, 0), (9, 0), (10, 0), (11, 0), (12, 0), (6, 1), (13, 1), (14, 1), (15, 1), (16, 1), (17, 0)]), (81, 11, .lin [(0, 0), (1, 0), (2, 0), (3, 0), (4, 0), (5, 0), (6, 0), (7, 0), (9, 0), (10, 0), (11, 0), (12, 0), (15, 0), (16, 0), (17, 0), (18, 0), (19, 0), (20, 0), (21, 0), (22, 0), (24, 0), (25, 0), (26, 0), (27, 0), (8, 1), (13, 1), (14, 1), (23, 1), (28, 1), (29, 1), (30, 1), (31, 1), (32, 0)]), (81, 13, .lin [(0, 0), (1, 0), (2, 0), (3, 0), (4, 0), (5, 0), (6, 0), (7, 0), (8, 0), (9, 0), (10, 0), (11, 0), (12, 0), (13, 0), (14, 0), (15, 0), (16, 0), (17, 0), (18, 0), (19, 0), (20, 0), (21, 0), (22, 0), (23, 0), (24, 1), (25, 1), (26, 1), (27, 1), (28, 0)]), (81, 17, .lin [(0, 0), (1, 0), (2, 0), (3, 0), (4, 0), (5, 0), (6, 0), (7, 0), (9, 0), (10, 0), (11, 0), (12, 0), (13, 0), (14, 0), (15, 0), (16, 0), (8, 1), (17, 1), (18, 1), (19, 1), (20, 0)]), (81, 18, .lin [(0, 0), (1, 0), (2, 0), (3, 0), (4, 0), (5, 0), (7, 0), (8, 0), (9, 0), (10, 0), (11, 0), (12, 0), (13, 0), (14, 0), (6, 1), (15, 1), (16, 1), (17, 1), (18, 1), (19, 1), (20, 0)]), (83, 5, .lin [(0, 0), (1, 0), (4, 0), (5, 0), (10, 0), (11, 0), (2, 1), (3, 1), (6, 1), (7, 1), (8, 1), (9, 1), (12, 1), (13, 1), (14, 2)]), (88, 1, .lin [(0, 0), (1, 0), (2, 0), (3, 0), (4, 0), (5, 0), (6, 0), (7, 0), (8, 0), (9, 1), (10, 1), (11, 2)]), (92, 3, .lin [(0, 0), (1, 0), (4, 0), (5, 0), (2, 1), (3, 1), (6, 1), (7, 1), (8, 1), (9, 0), (10, 0), (11, 2), (12, 0)]), (105, 0, .lin [(0, 0), (1, 0), (2, 0), (3, 0), (4, 0), (5, 0), (6, 0), (7, 0), (9, 0), (10, 0), (11, 0), (12, 0), (13, 0), (8, 1), (14, 0), (15, 0)]), (107, 2, .lin [(0, 0), (1, 0), (2, 0), (3, 0), (4, 0), (5, 0), (6, 1), (7, 1), (8, 2)]), (108, 1, .lin [(0, 0), (1, 0), (2, 0), (3, 0), (4, 0), (5, 0), (6, 0), (7, 0), (8, 0), (9, 1), (10, 1), (11, 2)]), (110, 9, .lin [(0, 0), (1, 0), (2, 0), (3, 0), (4, 0), (5, 0), (6, 0), (7, 0), (8, 0), (9, 0), (10, 0), (11, 0), (12, 0), (13, 0), (18, 0), (14, 1), (15, 0), (16, 0), (17, 0), (19, 0), (20, 0)]), (112, 1, .lin [(0, 0), (1, 0), (3, 0), (4, 0), (2, 1), (5, 1), (6, 1), (7, 2)]), (113, 1, .lin [(0, 0), (1, 0), (3, 0), (4, 0), (2, 1), (5, 1), (6, 1), (7, 2)]), (115, 1, .lin [(1, 0), (0, 1), (2, 1), (3, 2)]), (116, 1, .tree (.li 0 (.li 1 (.li 2 (.li 3 (.li 4 (.li 5 (.li 6 (.li 7 (.li 8 (.li 9 (.li 10 (.li 11 (.li 13 (.li 14 (.li 15 (.li 16 (.li 17 (.li 18 (.li 19 (.li 20 (.li 21 (.li 22 (.li 23 (.li 24 (.fork 12 (.fork 25 (.fork 26 (.hv 27 (.hv 28 .done)) (.hv 27 (.hv 26 (.hv 28 .done)))) (.hv 27 (.hv 25 (.hv 26 (.hv 28 .done))))) (.hv 27 (.hv 12 (.hv 25 (.hv 26 (.hv 28 .done))))))))))))))))))))))))))))))), (116, 2, .tree (.li 0 (.li 1 (.li 2 (.li 3 (.li 4 (.li 5 (.li 6 (.li 7 (.li 8 (.li 9 (.li 10 (.li 11 (.li 13 (.li 14 (.li 15 (.li 16 (.li 17 (.li 18 (.li 19 (.li 20 (.li 21 (.li 22 (.li 23 (.li 24 (.fork 12 (.fork 25 (.fork 26 (.hv 27 (.hv 28 .done)) (.hv 27 (.hv 26 (.hv 28 .done)))) (.hv 27 (.hv 25 (.hv 26 (.hv 28 .done))))) (.hv 27 (.hv 12 (.hv 25 (.hv 26 (.hv 28 .done))))))))))))))))))))))))))))))), (124, 9, .lin [(0, 0), (1, 0), (2, 0), (3, 0), (4, 0), (5, 0), (6, 0), (7, 0), (8, 0)]), (124, 11, .lin [(0, 0), (1, 0), (2, 0), (3, 0), (4, 0), (5, 0), (6, 0), (7, 0), (8, 0)]), (127, 6, .lin [(0, 0), (1, 0), (2, 0), (3, 0), (4, 0), (5, 0), (6, 0), (7, 0), (8, 0), (9, 0), (10, 0), (11, 0), (12, 0), (13, 0), (14, 0), (15, 0), (16, 0), (17, 0)]), (127, 7, .tree (.li 0 (.li 1 (.li 2 (.li 3 (.li 4 (.li 5 (.li 6 (.li 7 (.li 8 (.li 9 (.li 10 (.li 11 (.li 12 (.li 13 (.li 14 (.li 15 (.fork 16 (.hv 17 (.hv 18 (.hv 19 .done))) (.hv 17 (.hv 16 (.hv 18 (.hv 19 .done)))))))))))))))))))))), (127, 11, .lin [(0, 0), (1, 0), (2, 0), (3, 0), (4, 0), (5, 0), (6, 0), (7, 0), (8, 2)]), (127, 12, .lin [(0, 0), (1, 0), (2, 0), (3, 0), (4, 0), (5, 0), (6, 0), (7, 0), (8, 0), (9, 0), (10, 1)]), (127, 14, .lin [(0, 0), (1, 0), (2, 0), (3, 0), (4, 0), (5, 0), (6, 0), (7, 0), (8, 1)]), (134, 2, .lin [(0, 0), (1, 0), (2, 0), (3, 0), (4, 0), (5, 0), (6, 1), (7, 1), (8, 2)]), (135, 1, .lin [(0, 0), (2, 0), (1, 1), (3, 1), (4, 0), (5, 0)]), (135, 8, .lin [(0, 0), (1, 0), (4, 0), (5, 0), (2, 1), (3, 1), (6, 1), (7, 1), (8, 1), (9, 0)]), (137, 1, .lin [(0, 0), (1, 0), (2, 0), (3, 0), (4, 0), (5, 0), (6, 0), (7, 0), (8, 0), (9, 0), (10, 0), (11, 0), (12, 0), (13, 0), (14, 0), (15, 0), (16, 0), (17, 0), (18, 0), (19, 0), (20, 0), (21, 0), (22, 0), (23, 0), (24, 0)]), (143, 1, .lin [(0, 0), (2, 0), (1, 1), (3, 1), (4, 0), (5, 0)])]
def planF : Nat → Nat → Option Pn := lookP planL
def vz (neg : Bool) (l : List Nat) : Int := iv neg (val l)
theorem vz_lt {neg : Bool} {l : List Nat} {s : Nat} (h : Ok l) (hl : l.length ≤ s) : (lim (vz neg l).natAbs).length ≤ s := by
  unfold vz; rw [iv_abs]; exact lim_of_len h hl
theorem vz_pow {neg : Bool} {l : List Nat} {s : Nat} (h : Ok l) (hl : l.length ≤ s) : (vz neg l).natAbs < 65536 ^ s := by
  unfold vz; rw [iv_abs]; exact Nat.lt_of_lt_of_le (val_lt l h) (Nat.pow_le_pow_right (by decide) hl)
theorem lz_add' {z y : Int} {s : Nat} (h1 : (lim z.natAbs).length ≤ s) (h2 : (lim y.natAbs).length ≤ s) : (lim (z + y).natAbs).length ≤ s + 1 :=
  lim_mono (A := (z + y).natAbs) (B := z.natAbs + y.natAbs) (by omega) (lim_add_len h1 h2)
theorem lz_sub' {z y : Int} {s : Nat} (h1 : (lim z.natAbs).length ≤ s) (h2 : (lim y.natAbs).length ≤ s) : (lim (z - y).natAbs).length ≤ s + 1 :=
  lim_mono (A := (z - y).natAbs) (B := z.natAbs + y.natAbs) (by omega) (lim_add_len h1 h2)
theorem lz_mul' {z y : Int} {s t : Nat} (h1 : z.natAbs < 65536 ^ s) (h2 : y.natAbs < 65536 ^ t) : (lim (z * y).natAbs).length ≤ s + t := by
  rw [Int.natAbs_mul]
  exact lim_len _ _ (by rw [Nat.pow_add]; exact Nat.mul_lt_mul'' h1 h2)
def ct_iadd : Ct := { args := [[.y], [.y]], res := [[.y]], F := f_yyy fun a l b m => vz a l + vz b m, L := 1000000000, A := 1, B := 1 }
theorem ctF_iadd : ct_iadd.F = f_yyy fun a l b m => vz a l + vz b m := rfl
theorem ok_iadd : ct_iadd.ok Try.prog 134 := ok_yyy (fun neg peg l m a b c d w hr hs hl hm => iAdd_any neg peg l m a b c d w hr hs hl hm) (fun neg l peg m s h1 h2 h3 h4 => by rw [Nat.one_mul]; exact lz_add' (vz_lt h1 h3) (vz_lt h2 h4))
def ct_imul : Ct := { args := [[.y], [.y]], res := [[.y]], F := f_yyy fun a l b m => vz a l * vz b m, L := 1000000000, A := 2, B := 0 }
theorem ctF_imul : ct_imul.F = f_yyy fun a l b m => vz a l * vz b m := rfl
theorem ok_imul : ct_imul.ok Try.prog 88 := ok_yyy (fun neg peg l m a b c d w hr hs hl hm => iMul_any neg peg l m a b c d w hr hs hl hm) (fun neg l peg m s h1 h2 h3 h4 => by have := lz_mul' (s := s) (t := s) (vz_pow (neg := neg) h1 h3) (vz_pow (neg := peg) h2 h4); omega)
def ct_inorm : Ct := { args := [[.y]], res := [[.y]], F := f_yy fun a l => vz a l, L := 1000000000, A := 1, B := 0 }
theorem ctF_inorm : ct_inorm.F = f_yy fun a l => vz a l := rfl
theorem ok_inorm : ct_inorm.ok Try.prog 100 := ok_yy (fun neg l a c w hr hl => iNorm_any neg l a c w hr (by unfold lenB; omega)) (fun neg l s h1 h3 => by rw [Nat.one_mul]; exact vz_lt h1 h3)
def ct_iright : Ct := { args := [[.y]], res := [[.b]], F := f_yb iRight, L := 1000000000000, A := 0, B := 0 }
theorem ctF_iright : ct_iright.F = f_yb iRight := rfl
theorem ok_iright : ct_iright.ok Try.prog 58 := ok_yb (fun neg l a c w hr hl => iRight_any neg l a c w hr hl)
def ct_isign : Ct := { args := [[.y]], res := [[.n]], F := f_yn fun a l => sg (vz a l), L := 1000000000000, A := 0, B := 0 }
theorem ctF_isign : ct_isign.F = f_yn fun a l => sg (vz a l) := rfl
theorem ok_isign : ct_isign.ok Try.prog 82 := ok_yn (fun neg l a c w hr hl => iSign_any neg l a c w hr hl)
theorem vz_can (z : Int) : vz (decide (z < 0)) (lim z.natAbs) = z := by unfold vz; rw [val_lim, iv_self]
theorem iR_can (z : Int) : iRight (decide (z < 0)) (lim z.natAbs) = true := by
  unfold iRight
  by_cases hz : z = 0
  · subst hz; simp [lim_zero]
  · have hp : 0 < (lim z.natAbs).length := lim_ne (by omega)
    obtain ⟨k, hk⟩ : ∃ k, (lim z.natAbs).length = k + 1 := ⟨(lim z.natAbs).length - 1, by omega⟩
    rw [if_neg (by omega), hk]
    have := lim_top _ k hk
    simp [this]
theorem same_can (z y : Int) : (decide (z < 0) = decide (y < 0) ∧ lim z.natAbs = lim y.natAbs) = (z = y) := by
  apply propext
  constructor
  · rintro ⟨h1, h2⟩
    have h3 : z.natAbs = y.natAbs := by rw [← val_lim z.natAbs, h2, val_lim]
    have h4 : (z < 0) ↔ (y < 0) := by simpa using h1
    omega
  · rintro rfl; exact ⟨rfl, rfl⟩
theorem q_addc (x y : Int) : (x + y = y + x) = True := eq_true (Int.add_comm _ _)
theorem q_mulc (x y : Int) : (x * y = y * x) = True := eq_true (Int.mul_comm _ _)
theorem q_adda (x y z : Int) : (x + y + z = x + (y + z)) = True := eq_true (Int.add_assoc _ _ _)
theorem q_mula (x y z : Int) : (x * y * z = x * (y * z)) = True := eq_true (Int.mul_assoc _ _ _)
theorem q_dist (x y z : Int) : ((x + y) * z = x * z + y * z) = True := eq_true (Int.add_mul _ _ _)
theorem q_subi (x y : Int) : (x + y - y = x) = True := eq_true (by omega)
end Go.Proofs.Ytkampmdekonjmaa
