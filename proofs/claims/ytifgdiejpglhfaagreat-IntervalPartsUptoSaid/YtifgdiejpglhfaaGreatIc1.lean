/- Integers: the functions' contracts, as symbolic evaluation wants them. -/
import Derived.Test.YtifgdiejpglhfaaGreatInA
import Derived.Test.YtifgdiejpglhfaaGreatIn9
import Derived.Test.YtifgdiejpglhfaaGreatEv8
namespace Go.Proofs.YtifgdiejpglhfaaGreat
open Go Go.RowKit Go.V
set_option linter.unusedSimpArgs false
set_option linter.unusedVariables false
set_option maxRecDepth 20000

def za (z : Int) : At := .y (decide (z < 0)) (lim z.natAbs)
theorem RetI.rep {w w' : World} {z : Int} {e : Ending} (h : RetI w z e w') : ∃ v, e = .returned v ∧ RepV w' [.y] [za z] v ∧ Below w.heap.size w w' := by
  obtain ⟨a, c, he, hr, hE⟩ := h
  exact ⟨_, he, repV_y.2 ⟨_, _, a, c, rfl, rfl, hr⟩, hE⟩
def f_yyy (g : Bool → List Nat → Bool → List Nat → Int) : List At → Option (List At)
  | [.y a l, .y b m] => some [za (g a l b m)]
  | _ => none
theorem vs2 {w : World} {x y : List Sh} {als : List At} {vs : List Value} (h : RepVs w [x, y] als vs) : ∃ a1 a2 v u, als = a1 ++ a2 ∧ vs = [v, u] ∧ RepV w x a1 v ∧ RepV w y a2 u := by
  obtain ⟨a1, a2, v, q, rfl, rfl, h1, b1, b2, u, q', rfl, rfl, h2, rfl, rfl⟩ := h
  exact ⟨a1, b1, v, u, by simp, rfl, h1, h2⟩
theorem vs1 {w : World} {x : List Sh} {als : List At} {vs : List Value} (h : RepVs w [x] als vs) : ∃ v, vs = [v] ∧ RepV w x als v := by
  obtain ⟨a1, a2, v, q, rfl, rfl, h1, rfl, rfl⟩ := h
  exact ⟨v, rfl, by simpa using h1⟩
theorem ok_yyy {P : Program} {f L A B : Nat} {g : Bool → List Nat → Bool → List Nat → Int}
    (h : ∀ neg peg l m a b c d w, RD w a c l → RD w b d m → l.length ≤ L → m.length ≤ L → Calls P f #[.agg #[.bool neg, .slice a l.length c], .agg #[.bool peg, .slice b m.length d]] w (RetI w (g neg l peg m)))
    (hz : ∀ neg l peg m s, Ok l → Ok m → l.length ≤ s → m.length ≤ s → (lim (g neg l peg m).natAbs).length ≤ A * s + B) : Ct.ok P f { args := [[.y], [.y]], res := [[.y]], F := f_yyy g, L := L, A := A, B := B } := by
  intro s w vs als r hs hr hsz hF
  obtain ⟨a1, a2, v, u, rfl, rfl, h1, h2⟩ := vs2 hr
  obtain ⟨neg, l, a, c, rfl, rfl, r1⟩ := repV_y.1 h1
  obtain ⟨peg, m, b, d, rfl, rfl, r2⟩ := repV_y.1 h2
  have hF' : some [za (g neg l peg m)] = some r := hF
  injection hF' with hF'; subst hF'
  have s1 : l.length ≤ s := hsz (.y neg l) (by simp)
  have s2 : m.length ≤ s := hsz (.y peg m) (by simp)
  refine (h neg peg l m a b c d w r1 r2 (Nat.le_trans s1 hs) (Nat.le_trans s2 hs)).mono ?_
  intro e w' hret
  obtain ⟨v, he, hv, hE⟩ := hret.rep
  refine ret1 rfl he hv ?_ hE
  intro x hx
  simp at hx; subst hx
  exact hz neg l peg m s r1.ok r2.ok s1 s2
def f_yb (g : Bool → List Nat → Bool) : List At → Option (List At)
  | [.y a l] => some [.b (g a l)]
  | _ => none
theorem ok_yb {P : Program} {f L : Nat} {g : Bool → List Nat → Bool}
    (h : ∀ neg l a c w, RD w a c l → l.length ≤ L → Calls P f #[.agg #[.bool neg, .slice a l.length c]] w fun e w' => e = .returned (.bool (g neg l)) ∧ Below w.heap.size w w') : Ct.ok P f { args := [[.y]], res := [[.b]], F := f_yb g, L := L, A := 0, B := 0 } := by
  intro s w vs als r hs hr hsz hF
  obtain ⟨v, rfl, h1⟩ := vs1 hr
  obtain ⟨neg, l, a, c, rfl, rfl, r1⟩ := repV_y.1 h1
  injection hF with hF; subst hF
  have s1 : l.length ≤ s := hsz (.y neg l) (by simp)
  refine (h neg l a c w r1 (Nat.le_trans s1 hs)).mono ?_
  rintro e w' ⟨he, hE⟩
  exact ret1 rfl he (repV_b.2 ⟨_, rfl, rfl⟩) (fun x hx => by simp at hx; subst hx; simp [At.sz]) hE
def f_yn (g : Bool → List Nat → Int) : List At → Option (List At)
  | [.y a l] => some [.n (g a l)]
  | _ => none
theorem ok_yn {P : Program} {f L : Nat} {g : Bool → List Nat → Int}
    (h : ∀ neg l a c w, RD w a c l → l.length ≤ L → Calls P f #[.agg #[.bool neg, .slice a l.length c]] w fun e w' => e = .returned (.int .i64 (g neg l)) ∧ Below w.heap.size w w') : Ct.ok P f { args := [[.y]], res := [[.n]], F := f_yn g, L := L, A := 0, B := 0 } := by
  intro s w vs als r hs hr hsz hF
  obtain ⟨v, rfl, h1⟩ := vs1 hr
  obtain ⟨neg, l, a, c, rfl, rfl, r1⟩ := repV_y.1 h1
  injection hF with hF; subst hF
  have s1 : l.length ≤ s := hsz (.y neg l) (by simp)
  refine (h neg l a c w r1 (Nat.le_trans s1 hs)).mono ?_
  rintro e w' ⟨he, hE⟩
  exact ret1 rfl he (repV_n.2 ⟨_, rfl, rfl⟩) (fun x hx => by simp at hx; subst hx; simp [At.sz]) hE
def f_yy (g : Bool → List Nat → Int) : List At → Option (List At)
  | [.y a l] => some [za (g a l)]
  | _ => none
theorem ok_yy {P : Program} {f L A B : Nat} {g : Bool → List Nat → Int}
    (h : ∀ neg l a c w, RD w a c l → l.length ≤ L → Calls P f #[.agg #[.bool neg, .slice a l.length c]] w (RetI w (g neg l)))
    (hz : ∀ neg l s, Ok l → l.length ≤ s → (lim (g neg l).natAbs).length ≤ A * s + B) : Ct.ok P f { args := [[.y]], res := [[.y]], F := f_yy g, L := L, A := A, B := B } := by
  intro s w vs als r hs hr hsz hF
  obtain ⟨v, rfl, h1⟩ := vs1 hr
  obtain ⟨neg, l, a, c, rfl, rfl, r1⟩ := repV_y.1 h1
  injection hF with hF; subst hF
  have s1 : l.length ≤ s := hsz (.y neg l) (by simp)
  refine (h neg l a c w r1 (Nat.le_trans s1 hs)).mono ?_
  intro e w' hret
  obtain ⟨v, he, hv, hE⟩ := hret.rep
  exact ret1 rfl he hv (fun x hx => by simp at hx; subst hx; exact hz neg l s r1.ok s1) hE
def planL : List (Nat × Nat × Pn) := [(4, 7, .lin [(0, 0), (1, 0), (3, 0), (4, 0), (2, 1), (5, 1), (6, 0), (7, 0), (8, 0), (9, 0), (10, 1), (11, 0), (12, 0), (13, 0), (14, 0), (15, 0), (16, 0), (17, 0), (18, 0), (19, 0), (21, 0), (22, 0), (20, 1), (23, 1), (24, 1), (25, 0), (26, 0), (27, 0), (28, 0), (29, 0), (30, 0), (31, 0), (32, 0), (33, 0), (34, 0), (35, 0), (36, 0), (37, 1), (38, 0), (39, 0)]), (5, 5, .lin [(0, 0), (1, 0), (3, 0), (4, 0), (2, 1), (5, 1), (6, 1), (7, 0), (8, 0), (9, 0), (11, 0), (12, 0), (10, 1), (13, 1), (14, 1), (15, 0), (16, 0), (17, 0), (18, 0), (20, 0), (21, 0), (19, 1), (22, 1), (23, 1), (24, 0), (25, 0), (26, 0), (27, 0), (28, 1), (29, 0), (30, 0), (31, 0), (32, 0), (33, 0), (34, 0), (35, 0), (36, 0), (38, 0), (37, 1), (39, 1), (40, 1), (41, 0), (42, 0), (43, 1), (44, 0), (45, 0)]), (7, 5, .lin [(0, 0), (1, 0), (2, 0), (3, 0), (4, 0), (5, 0), (6, 0), (7, 0), (8, 0), (9, 0), (10, 0), (11, 0), (12, 0), (13, 1), (14, 1), (15, 0), (16, 0), (17, 0), (18, 0), (19, 1), (20, 1), (21, 0), (22, 0), (23, 0), (24, 0), (25, 1), (26, 1), (27, 0), (28, 0), (29, 0), (30, 0), (31, 1), (32, 1), (33, 0), (34, 0)]), (8, 5, .lin [(0, 0), (1, 0), (3, 0), (4, 0), (6, 0), (2, 1), (5, 1), (7, 1), (8, 1), (9, 2), (10, 0)]), (9, 3, .lin [(0, 0), (1, 0), (2, 0), (5, 0), (7, 0), (8, 0), (9, 0), (12, 0), (3, 1), (4, 1), (6, 1), (10, 1), (11, 1), (13, 1), (14, 1), (15, 2), (16, 0)]), (10, 5, .lin [(0, 0), (1, 0), (3, 0), (4, 0), (6, 0), (2, 1), (5, 1), (7, 1), (8, 1), (9, 2), (10, 0)]), (11, 3, .tree (.li 0 (.li 1 (.fork 2 (.fork 3 (.fork 4 (.hv 5 (.hv 6 .done)) (.hv 5 (.hv 4 (.hv 6 .done)))) (.hv 5 (.hv 3 (.hv 4 (.hv 6 .done))))) (.hv 5 (.hv 2 (.hv 3 (.hv 4 (.hv 6 .done))))))))), (11, 6, .lin [(0, 0), (1, 0), (5, 0), (2, 1), (3, 1), (4, 1), (6, 1), (7, 0)]), (11, 7, .lin [(0, 0), (1, 1), (2, 1), (3, 2)]), (11, 8, .lin [(0, 0), (1, 0), (2, 0), (5, 0), (7, 0), (8, 0), (3, 1), (4, 1), (6, 1), (9, 1), (10, 1), (11, 2), (12, 0)]), (15, 1, .tree (.li 0 (.li 1 (.li 2 (.li 3 (.li 6 (.li 7 (.li 8 (.li 9 (.fork 4 (.fork 5 (.fork 10 (.fork 11 (.fork 12 (.hv 13 (.hv 14 .done)) (.hv 13 (.hv 12 (.hv 14 .done)))) (.hv 13 (.hv 11 (.hv 12 (.hv 14 .done))))) (.hv 13 (.hv 10 (.hv 11 (.hv 12 (.hv 14 .done)))))) (.fork 10 (.fork 5 (.fork 11 (.fork 12 (.hv 13 (.hv 14 .done)) (.hv 13 (.hv 12 (.hv 14 .done)))) (.hv 13 (.hv 11 (.hv 12 (.hv 14 .done))))) (.hv 13 (.hv 5 (.hv 11 (.hv 12 (.hv 14 .done)))))) (.hv 13 (.fork 5 (.hv 10 (.hv 11 (.hv 12 (.hv 14 .done)))) (.hv 10 (.hv 5 (.hv 11 (.hv 12 (.hv 14 .done))))))))) (.fork 10 (.fork 4 (.fork 5 (.fork 11 (.fork 12 (.hv 13 (.hv 14 .done)) (.hv 13 (.hv 12 (.hv 14 .done)))) (.hv 13 (.hv 11 (.hv 12 (.hv 14 .done))))) (.hv 13 (.hv 5 (.hv 11 (.hv 12 (.hv 14 .done)))))) (.hv 13 (.hv 4 (.hv 5 (.hv 11 (.hv 12 (.hv 14 .done))))))) (.hv 13 (.fork 4 (.fork 5 (.hv 10 (.hv 11 (.hv 12 (.hv 14 .done)))) (.hv 10 (.hv 5 (.hv 11 (.hv 12 (.hv 14 .done)))))) (.hv 10 (.hv 4 (.hv 5 (.hv 11 (.hv 12 (.hv 14 .done))))))))))))))))))), (16, 1, .tree (.li 0 (.li 1 (.li 2 (.li 3 (.li 6 (.li 7 (.li 8 (.li 9 (.fork 4 (.fork 5 (.fork 10 (.fork 11 (.fork 12 (.hv 13 (.hv 14 .done)) (.hv 13 (.hv 12 (.hv 14 .done)))) (.hv 13 (.hv 11 (.hv 12 (.hv 14 .done))))) (.hv 13 (.hv 10 (.hv 11 (.hv 12 (.hv 14 .done)))))) (.fork 10 (.fork 5 (.fork 11 (.fork 12 (.hv 13 (.hv 14 .done)) (.hv 13 (.hv 12 (.hv 14 .done)))) (.hv 13 (.hv 11 (.hv 12 (.hv 14 .done))))) (.hv 13 (.hv 5 (.hv 11 (.hv 12 (.hv 14 .done)))))) (.hv 13 (.fork 5 (.hv 10 (.hv 11 (.hv 12 (.hv 14 .done)))) (.hv 10 (.hv 5 (.hv 11 (.hv 12 (.hv 14 .done))))))))) (.fork 10 (.fork 4 (.fork 5 (.fork 11 (.fork 12 (.hv 13 (.hv 14 .done)) (.hv 13 (.hv 12 (.hv 14 .done)))) (.hv 13 (.hv 11 (.hv 12 (.hv 14 .done))))) (.hv 13 (.hv 5 (.hv 11 (.hv 12 (.hv 14 .done)))))) (.hv 13 (.hv 4 (.hv 5 (.hv 11 (.hv 12 (.hv 14 .done))))))) (.hv 13 (.fork 4 (.fork 5 (.hv 10 (.hv 11 (.hv 12 (.hv 14 .done)))) (.hv 10 (.hv 5 (.hv 11 (.hv 12 (.hv 14 .done)))))) (.hv 10 (.hv 4 (.hv 5 (.hv 11 (.hv 12 (.hv 14 .done))))))))))))))))))), (18, 1, .lin [(0, 0), (1, 0), (3, 0), (4, 0), (2, 1), (5, 1), (6, 0), (7, 0)]), (21, 1, .tree (.li 0 (.li 1 (.li 2 (.li 3 (.li 6 (.li 7 (.li 8 (.li 9 (.fork 4 (.fork 5 (.hv 10 (.hv 11 (.hv 12 (.hv 13 .done)))) (.hv 10 (.hv 5 (.hv 11 (.hv 12 (.hv 13 .done)))))) (.hv 10 (.hv 4 (.hv 5 (.hv 11 (.hv 12 (.hv 13 .done)))))))))))))))), (23, 1, .tree (.li 1 (.li 2 (.fork 0 (.fork 3 (.li 4 (.li 5 (.li 6 (.hv 7 (.hv 8 (.li 9 .done)))))) (.hv 7 (.hv 3 (.li 4 (.li 5 (.li 6 (.hv 8 (.li 9 .done)))))))) (.hv 7 (.hv 0 (.hv 3 (.li 4 (.li 5 (.li 6 (.hv 8 (.li 9 .done)))))))))))), (23, 2, .tree (.li 1 (.li 2 (.fork 0 (.fork 3 (.li 4 (.li 5 (.li 6 (.hv 7 (.hv 8 (.li 9 .done)))))) (.hv 7 (.hv 3 (.li 4 (.li 5 (.li 6 (.hv 8 (.li 9 .done)))))))) (.hv 7 (.hv 0 (.hv 3 (.li 4 (.li 5 (.li 6 (.hv 8 (.li 9 .done)))))))))))), (23, 3, .lin [(0, 0), (1, 1), (2, 1), (3, 0), (4, 0), (5, 0), (6, 0), (7, 0), (8, 0), (9, 0), (10, 0)]), (24, 1, .lin [(0, 0), (1, 1), (2, 1)]), (24, 3, .tree (.li 1 (.li 2 (.fork 0 (.fork 3 (.li 4 (.li 5 (.li 6 (.hv 7 (.hv 8 (.li 9 .done)))))) (.hv 7 (.hv 3 (.li 4 (.li 5 (.li 6 (.hv 8 (.li 9 .done)))))))) (.hv 7 (.hv 0 (.hv 3 (.li 4 (.li 5 (.li 6 (.hv 8 (.li 9 .done)))))))))))), (24, 4, .tree (.li 1 (.li 2 (.fork 0 (.fork 3 (.li 4 (.li 5 (.li 6 (.hv 7 (.hv 8 (.li 9 .done)))))) (.hv 7 (.hv 3 (.li 4 (.li 5 (.li 6 (.hv 8 (.li 9 .done)))))))) (.hv 7 (.hv 0 (.hv 3 (.li 4 (.li 5 (.li 6 (.hv 8 (.li 9 .done)))))))))))), (25, 1, .lin [(0, 0), (1, 0), (2, 0), (3, 0), (5, 0), (6, 0), (7, 0), (8, 0), (4, 1), (9, 1), (10, 1), (11, 2)]), (26, 1, .lin [(0, 0), (1, 0), (2, 0), (3, 0), (5, 0), (6, 0), (7, 0), (8, 0), (4, 1), (9, 1), (10, 1), (11, 2)]), (27, 1, .lin [(0, 0), (1, 0), (2, 0), (3, 0), (5, 0), (6, 0), (7, 0), (8, 0), (4, 1), (9, 1), (10, 1), (11, 2)]), (28, 1, .lin [(0, 0), (1, 0), (2, 0), (3, 0), (5, 0), (6, 0), (7, 0), (8, 0), (4, 1), (9, 1), (10, 1), (11, 2)]), (29, 1, .tree (.li 0 (.li 1 (.li 2 (.li 3 (.li 5 (.li 6 (.li 7 (.li 8 (.fork 4 (.fork 9 (.fork 10 (.hv 11 (.hv 12 (.hv 13 .done))) (.hv 11 (.hv 10 (.hv 12 (.hv 13 .done))))) (.fork 10 (.fork 9 (.hv 11 (.hv 12 (.hv 13 .done))) (.hv 11 (.hv 9 (.hv 12 (.hv 13 .done))))) (.hv 11 (.fork 9 (.hv 10 (.hv 12 (.hv 13 .done))) (.hv 10 (.hv 9 (.hv 12 (.hv 13 .done)))))))) (.fork 10 (.fork 4 (.fork 9 (.hv 11 (.hv 12 (.hv 13 .done))) (.hv 11 (.hv 9 (.hv 12 (.hv 13 .done))))) (.hv 11 (.hv 4 (.hv 9 (.hv 12 (.hv 13 .done)))))) (.hv 11 (.fork 4 (.fork 9 (.hv 10 (.hv 12 (.hv 13 .done))) (.hv 10 (.hv 9 (.hv 12 (.hv 13 .done))))) (.hv 10 (.hv 4 (.hv 9 (.hv 12 (.hv 13 .done)))))))))))))))))), (29, 2, .tree (.li 0 (.li 1 (.li 2 (.li 3 (.li 5 (.li 6 (.li 7 (.li 8 (.fork 4 (.fork 9 (.fork 10 (.hv 11 (.hv 12 (.hv 13 .done))) (.hv 11 (.hv 10 (.hv 12 (.hv 13 .done))))) (.fork 10 (.fork 9 (.hv 11 (.hv 12 (.hv 13 .done))) (.hv 11 (.hv 9 (.hv 12 (.hv 13 .done))))) (.hv 11 (.fork 9 (.hv 10 (.hv 12 (.hv 13 .done))) (.hv 10 (.hv 9 (.hv 12 (.hv 13 .done)))))))) (.fork 10 (.fork 4 (.fork 9 (.hv 11 (.hv 12 (.hv 13 .done))) (.hv 11 (.hv 9 (.hv 12 (.hv 13 .done))))) (.hv 11 (.hv 4 (.hv 9 (.hv 12 (.hv 13 .done)))))) (.hv 11 (.fork 4 (.fork 9 (.hv 10 (.hv 12 (.hv 13 .done))) (.hv 10 (.hv 9 (.hv 12 (.hv 13 .done))))) (.hv 10 (.hv 4 (.hv 9 (.hv 12 (.hv 13 .done)))))))))))))))))), (29, 3, .tree (.li 0 (.li 1 (.li 2 (.li 3 (.li 6 (.li 7 (.li 8 (.li 9 (.fork 4 (.fork 5 (.hv 10 (.hv 11 (.hv 12 (.hv 13 .done)))) (.hv 10 (.hv 5 (.hv 11 (.hv 12 (.hv 13 .done)))))) (.hv 10 (.hv 4 (.hv 5 (.hv 11 (.hv 12 (.hv 13 .done)))))))))))))))), (30, 1, .lin [(0, 0), (1, 0), (2, 0), (3, 0), (5, 0), (6, 0), (7, 0), (8, 0), (10, 0), (11, 0), (12, 0), (13, 0), (15, 0), (16, 0), (17, 0), (18, 0), (4, 1), (9, 1), (14, 1), (19, 1), (20, 1), (21, 1), (22, 2)]), (31, 1, .tree (.li 0 (.li 1 (.li 2 (.li 3 (.li 5 (.li 6 (.li 7 (.li 8 (.fork 4 (.fork 9 (.fork 10 (.hv 11 (.hv 12 (.hv 13 .done))) (.hv 11 (.hv 10 (.hv 12 (.hv 13 .done))))) (.fork 10 (.fork 9 (.hv 11 (.hv 12 (.hv 13 .done))) (.hv 11 (.hv 9 (.hv 12 (.hv 13 .done))))) (.hv 11 (.fork 9 (.hv 10 (.hv 12 (.hv 13 .done))) (.hv 10 (.hv 9 (.hv 12 (.hv 13 .done)))))))) (.fork 10 (.fork 4 (.fork 9 (.hv 11 (.hv 12 (.hv 13 .done))) (.hv 11 (.hv 9 (.hv 12 (.hv 13 .done))))) (.hv 11 (.hv 4 (.hv 9 (.hv 12 (.hv 13 .done)))))) (.hv 11 (.fork 4 (.fork 9 (.hv 10 (.hv 12 (.hv 13 .done))) (.hv 10 (.hv 9 (.hv 12 (.hv 13 .done))))) (.hv 10 (.hv 4 (.hv 9 (.hv 12 (.hv 13 .done)))))))))))))))))), (31, 2, .lin [(0, 0), (1, 1), (2, 1)]), (31, 3, .tree (.li 1 (.li 2 (.fork 0 (.hv 3 (.hv 4 (.hv 5 (.hv 6 .done)))) (.hv 3 (.hv 0 (.hv 4 (.hv 5 (.hv 6 .done))))))))), (31, 4, .tree (.li 0 (.li 1 (.li 4 (.li 5 (.fork 2 (.fork 3 (.hv 6 (.hv 7 (.hv 8 (.hv 9 .done)))) (.hv 6 (.hv 3 (.hv 7 (.hv 8 (.hv 9 .done)))))) (.hv 6 (.hv 2 (.hv 3 (.hv 7 (.hv 8 (.hv 9 .done)))))))))))), (32, 1, .tree (.li 0 (.li 1 (.li 2 (.li 3 (.li 5 (.li 6 (.li 7 (.li 8 (.fork 4 (.fork 9 (.fork 10 (.fork 11 (.hv 12 (.hv 13 .done)) (.hv 12 (.hv 11 (.hv 13 .done)))) (.hv 12 (.hv 10 (.hv 11 (.hv 13 .done))))) (.hv 12 (.hv 9 (.hv 10 (.hv 11 (.hv 13 .done)))))) (.hv 12 (.hv 4 (.hv 9 (.hv 10 (.hv 11 (.hv 13 .done)))))))))))))))), (32, 2, .lin [(0, 0), (1, 1), (2, 1)]), (40, 1, .tree (.li 0 (.li 1 (.li 2 (.fork 3 (.fork 4 (.hv 5 (.hv 6 .done)) (.hv 5 (.hv 4 (.hv 6 .done)))) (.hv 5 (.hv 3 (.hv 4 (.hv 6 .done))))))))), (40, 3, .lin [(0, 0), (1, 0), (2, 0), (3, 0), (4, 0), (5, 1), (6, 0), (7, 0), (8, 2), (9, 0)]), (41, 1, .tree (.li 0 (.li 1 (.fork 2 (.fork 3 (.li 4 (.li 5 (.li 6 (.hv 7 (.hv 8 (.li 9 .done)))))) (.hv 7 (.hv 3 (.li 4 (.li 5 (.li 6 (.hv 8 (.li 9 .done)))))))) (.hv 7 (.hv 2 (.hv 3 (.li 4 (.li 5 (.li 6 (.hv 8 (.li 9 .done)))))))))))), (42, 2, .lin [(0, 0), (1, 1), (2, 1), (3, 2)]), (43, 1, .tree (.li 0 (.li 1 (.fork 2 (.fork 3 (.li 4 (.li 5 (.li 6 (.hv 7 (.hv 8 (.li 9 .done)))))) (.hv 7 (.hv 3 (.li 4 (.li 5 (.li 6 (.hv 8 (.li 9 .done)))))))) (.hv 7 (.hv 2 (.hv 3 (.li 4 (.li 5 (.li 6 (.hv 8 (.li 9 .done)))))))))))), (44, 2, .tree (.li 0 (.li 1 (.li 2 (.li 3 (.fork 4 (.fork 5 (.li 6 (.li 7 (.li 8 (.li 9 (.fork 10 (.hv 11 (.hv 12 (.hv 13 (.li 14 .done)))) (.hv 11 (.hv 10 (.hv 12 (.hv 13 (.li 14 .done)))))))))) (.fork 10 (.fork 5 (.li 6 (.li 7 (.li 8 (.li 9 (.hv 11 (.hv 12 (.hv 13 (.li 14 .done)))))))) (.hv 11 (.hv 5 (.li 6 (.li 7 (.li 8 (.li 9 (.hv 12 (.hv 13 (.li 14 .done)))))))))) (.hv 11 (.fork 5 (.li 6 (.li 7 (.li 8 (.li 9 (.hv 10 (.hv 12 (.hv 13 (.li 14 .done)))))))) (.hv 10 (.hv 5 (.li 6 (.li 7 (.li 8 (.li 9 (.hv 12 (.hv 13 (.li 14 .done))))))))))))) (.fork 10 (.fork 4 (.fork 5 (.li 6 (.li 7 (.li 8 (.li 9 (.hv 11 (.hv 12 (.hv 13 (.li 14 .done)))))))) (.hv 11 (.hv 5 (.li 6 (.li 7 (.li 8 (.li 9 (.hv 12 (.hv 13 (.li 14 .done)))))))))) (.hv 11 (.hv 4 (.hv 5 (.li 6 (.li 7 (.li 8 (.li 9 (.hv 12 (.hv 13 (.li 14 .done))))))))))) (.hv 11 (.fork 4 (.fork 5 (.li 6 (.li 7 (.li 8 (.li 9 (.hv 10 (.hv 12 (.hv 13 (.li 14 .done)))))))) (.hv 10 (.hv 5 (.li 6 (.li 7 (.li 8 (.li 9 (.hv 12 (.hv 13 (.li 14 .done)))))))))) (.hv 10 (.hv 4 (.hv 5 (.li 6 (.li 7 (.li 8 (.li 9 (.hv 12 (.hv 13 (.li 14 .done))))))))))))))))))), (45, 1, .lin [(0, 0), (1, 0), (2, 1), (3, 1), (4, 1), (5, 1), (6, 2)]), (50, 5, .lin [(0, 0), (1, 0), (2, 0), (3, 0), (4, 0), (5, 1), (6, 0)]), (52, 1, .lin [(0, 0), (2, 0), (1, 1), (3, 1), (4, 2), (5, 2)]), (52, 2, .lin [(0, 0), (1, 0), (2, 0), (3, 0), (6, 0), (7, 0), (8, 0), (9, 0), (4, 1), (5, 1), (10, 1), (11, 1), (12, 1), (13, 0)]), (53, 1, .lin [(0, 0), (1, 0), (2, 0), (3, 0), (4, 0), (5, 0), (6, 0), (7, 0), (8, 0), (9, 1), (10, 1), (11, 2)]), (55, 2, .lin [(0, 0), (1, 0), (2, 0), (3, 0), (4, 0), (5, 0), (6, 1), (7, 1), (8, 2)]), (60, 6, .lin [(0, 0), (1, 0), (2, 0), (3, 0), (4, 0), (5, 0), (6, 0), (7, 0), (8, 0)]), (64, 1, .lin [(0, 0), (2, 0), (1, 1), (3, 1), (4, 0), (5, 0)]), (64, 8, .lin [(0, 0), (1, 0), (4, 0), (5, 0), (2, 1), (3, 1), (6, 1), (7, 1), (8, 1), (9, 0)]), (65, 5, .lin [(0, 0), (1, 0), (2, 0), (3, 0), (4, 0), (5, 1), (6, 0)]), (66, 1, .lin [(0, 0), (1, 0), (3, 0), (4, 0), (2, 1), (5, 1), (6, 1), (7, 2)]), (68, 3, .lin [(0, 0), (1, 0), (4, 0), (5, 0), (2, 1), (3, 1), (6, 1), (7, 1), (8, 1), (9, 0), (10, 0), (11, 2), (12, 0)]), (69, 1, .lin [(0, 0), (2, 0), (1, 1), (3, 1), (4, 2), (5, 2)]), (69, 2, .lin [(0, 0), (1, 0), (2, 0), (3, 0), (6, 0), (7, 0), (8, 0), (9, 0), (4, 1), (5, 1), (10, 1), (11, 1), (12, 1), (13, 0), (14, 0), (15, 2), (16, 0)]), (70, 5, .lin [(0, 0), (1, 0), (4, 0), (5, 0), (10, 0), (11, 0), (2, 1), (3, 1), (6, 1), (7, 1), (8, 1), (9, 1), (12, 1), (13, 1), (14, 2)]), (71, 1, .lin [(0, 0), (2, 0), (1, 1), (3, 1), (4, 2), (5, 2)]), (71, 2, .lin [(0, 0), (1, 0), (2, 0), (3, 0), (6, 0), (7, 0), (8, 0), (9, 0), (13, 0), (14, 0), (15, 0), (16, 0), (4, 1), (5, 1), (10, 1), (11, 1), (12, 1), (17, 1), (18, 1), (19, 2)]), (73, 1, .lin [(0, 0), (1, 0), (2, 1), (3, 1), (4, 2)]), (75, 1, .lin [(0, 0), (1, 0), (2, 0), (3, 0), (5, 0), (6, 0), (7, 0), (8, 0), (4, 1), (9, 1), (10, 1), (11, 2)]), (81, 1, .lin [(0, 0), (1, 0), (2, 0), (3, 0), (4, 0), (5, 0), (6, 0), (7, 0), (8, 0), (9, 1), (10, 1), (11, 2)]), (86, 2, .lin [(0, 0), (1, 0), (2, 0), (3, 0), (4, 0), (5, 0), (6, 1), (7, 1), (8, 2)]), (92, 1, .lin [(0, 0), (1, 0), (3, 0), (4, 0), (2, 1), (5, 1), (6, 2)]), (93, 3, .lin [(0, 0), (1, 0), (2, 0), (3, 0), (4, 2), (5, 0)]), (97, 1, .lin [(0, 0), (2, 0), (1, 1), (3, 1), (4, 2), (5, 2)]), (99, 9, .lin [(0, 0), (1, 0), (2, 0), (3, 0), (4, 0), (5, 0), (6, 0), (7, 0), (8, 0), (9, 0), (10, 0), (11, 0), (12, 0), (13, 0), (18, 0), (14, 1), (15, 0), (16, 0), (17, 0), (19, 0), (20, 0)]), (105, 1, .lin [(0, 0), (2, 0), (1, 1), (3, 1), (4, 0), (5, 0)]), (112, 7, .lin [(0, 0), (1, 0), (2, 0), (3, 0), (4, 0), (5, 0)]), (121, 9, .lin [(0, 0), (1, 0), (2, 0), (3, 0), (4, 0), (5, 0), (6, 0), (7, 0), (8, 0)]), (121, 11, .lin [(0, 0), (1, 0), (2, 0), (3, 0), (4, 0), (5, 0), (6, 0), (7, 0), (8, 0)]), (122, 8, .lin [(0, 0), (1, 0), (2, 0), (3, 0), (4, 0), (5, 0), (6, 0), (7, 0), (8, 0), (9, 1), (10, 1), (11, 0), (12, 0), (13, 0), (14, 0), (15, 0), (16, 0), (17, 0)]), (136, 6, .lin [(0, 0), (1, 0), (2, 0), (3, 0), (4, 0), (5, 0), (6, 0), (7, 0), (8, 0), (9, 0), (10, 0), (11, 0), (12, 0), (13, 0), (14, 0), (15, 0), (16, 0), (17, 0)]), (136, 7, .tree (.li 0 (.li 1 (.li 2 (.li 3 (.li 4 (.li 5 (.li 6 (.li 7 (.li 8 (.li 9 (.li 10 (.li 11 (.li 12 (.li 13 (.li 14 (.li 15 (.fork 16 (.hv 17 (.hv 18 (.hv 19 .done))) (.hv 17 (.hv 16 (.hv 18 (.hv 19 .done)))))))))))))))))))))), (136, 11, .lin [(0, 0), (1, 0), (2, 0), (3, 0), (4, 0), (5, 0), (6, 0), (7, 0), (8, 2)]), (136, 12, .lin [(0, 0), (1, 0), (2, 0), (3, 0), (4, 0), (5, 0), (6, 0), (7, 0), (8, 0), (9, 0), (10, 1)]), (136, 14, .lin [(0, 0), (1, 0), (2, 0), (3, 0), (4, 0), (5, 0), (6, 0), (7, 0), (8, 1)]), (139, 1, .lin [(0, 0), (1, 0), (2, 0), (3, 0), (4, 0), (5, 0), (6, 0), (7, 0), (8, 0), (9, 0), (10, 0), (11, 0), (12, 0), (13, 0), (14, 0), (15, 0), (16, 0), (17, 0), (18, 0), (19, 0), (20, 0), (21, 0), (22, 0), (23, 0), (24, 0)])]
def planF : Nat → Nat → Option Pn := lookP planL
def vz (neg : Bool) (l : List Nat) : Int := iv neg (val l)
theorem vz_lt {neg : Bool} {l : List Nat} {s : Nat} (h : Ok l) (hl : l.length ≤ s) : (lim (vz neg l).natAbs).length ≤ s := by
  unfold vz; rw [iv_abs]; exact lim_of_len h hl
theorem vz_pow {neg : Bool} {l : List Nat} {s : Nat} (h : Ok l) (hl : l.length ≤ s) : (vz neg l).natAbs < 65536 ^ s := by
  unfold vz; rw [iv_abs]; exact Nat.lt_of_lt_of_le (val_lt l h) (Nat.pow_le_pow_right (by decide) hl)
theorem lz_add' {z y : Int} {s : Nat} (h1 : (lim z.natAbs).length ≤ s) (h2 : (lim y.natAbs).length ≤ s) : (lim (z + y).natAbs).length ≤ s + 1 :=
  lim_mono (A := (z + y).natAbs) (B := z.natAbs + y.natAbs) (by omega) (lim_add_len h1 h2)
theorem lz_mul' {z y : Int} {s t : Nat} (h1 : z.natAbs < 65536 ^ s) (h2 : y.natAbs < 65536 ^ t) : (lim (z * y).natAbs).length ≤ s + t := by
  rw [Int.natAbs_mul]
  exact lim_len _ _ (by rw [Nat.pow_add]; exact Nat.mul_lt_mul'' h1 h2)
def ct_iadd : Ct := { args := [[.y], [.y]], res := [[.y]], F := f_yyy fun a l b m => vz a l + vz b m, L := 1000000000, A := 1, B := 1 }
theorem ctF_iadd : ct_iadd.F = f_yyy fun a l b m => vz a l + vz b m := rfl
theorem ok_iadd : ct_iadd.ok Tryz.prog 86 := ok_yyy (fun neg peg l m a b c d w hr hs hl hm => iAdd_any neg peg l m a b c d w hr hs hl hm) (fun neg l peg m s h1 h2 h3 h4 => by rw [Nat.one_mul]; exact lz_add' (vz_lt h1 h3) (vz_lt h2 h4))
def ct_imul : Ct := { args := [[.y], [.y]], res := [[.y]], F := f_yyy fun a l b m => vz a l * vz b m, L := 1000000000, A := 2, B := 0 }
theorem ctF_imul : ct_imul.F = f_yyy fun a l b m => vz a l * vz b m := rfl
theorem ok_imul : ct_imul.ok Tryz.prog 81 := ok_yyy (fun neg peg l m a b c d w hr hs hl hm => iMul_any neg peg l m a b c d w hr hs hl hm) (fun neg l peg m s h1 h2 h3 h4 => by have := lz_mul' (s := s) (t := s) (vz_pow (neg := neg) h1 h3) (vz_pow (neg := peg) h2 h4); omega)
def ct_inorm : Ct := { args := [[.y]], res := [[.y]], F := f_yy fun a l => vz a l, L := 1000000000, A := 1, B := 0 }
theorem ctF_inorm : ct_inorm.F = f_yy fun a l => vz a l := rfl
theorem ok_inorm : ct_inorm.ok Tryz.prog 130 := ok_yy (fun neg l a c w hr hl => iNorm_any neg l a c w hr (by unfold lenB; omega)) (fun neg l s h1 h3 => by rw [Nat.one_mul]; exact vz_lt h1 h3)
def ct_isign : Ct := { args := [[.y]], res := [[.n]], F := f_yn fun a l => sg (vz a l), L := 1000000000000, A := 0, B := 0 }
theorem ctF_isign : ct_isign.F = f_yn fun a l => sg (vz a l) := rfl
theorem ok_isign : ct_isign.ok Tryz.prog 84 := ok_yn (fun neg l a c w hr hl => iSign_any neg l a c w hr hl)
theorem vz_can (z : Int) : vz (decide (z < 0)) (lim z.natAbs) = z := by unfold vz; rw [val_lim, iv_self]
theorem iR_can (z : Int) : iRight (decide (z < 0)) (lim z.natAbs) = true := by
  unfold iRight
  by_cases hz : z = 0
  · subst hz; simp [lim_zero]
  · have hp : 0 < (lim z.natAbs).length := lim_ne (by omega)
    obtain ⟨k, hk⟩ : ∃ k, (lim z.natAbs).length = k + 1 := ⟨(lim z.natAbs).length - 1, by omega⟩
    rw [if_neg (by omega), hk]
    have := lim_top _ k hk
    simp [this]
theorem same_can (z y : Int) : (decide (z < 0) = decide (y < 0) ∧ lim z.natAbs = lim y.natAbs) = (z = y) := by
  apply propext
  constructor
  · rintro ⟨h1, h2⟩
    have h3 : z.natAbs = y.natAbs := by rw [← val_lim z.natAbs, h2, val_lim]
    have h4 : (z < 0) ↔ (y < 0) := by simpa using h1
    omega
  · rintro rfl; exact ⟨rfl, rfl⟩
end Go.Proofs.YtifgdiejpglhfaaGreat
