/- PredicateSimilar: a fact and similarities. -/
import Derived.Test.YtkampmdekonjmaaFe3
import Derived.Test.YtkampmdekonjmaaFc2
import Derived.Test.YtkampmdekonjmaaFcP
import Derived.Test.YtkampmdekonjmaaPl4
import Derived.Test.YtkampmdekonjmaaAp1
namespace Go.Proofs.Ytkampmdekonjmaa
open Go Go.RowKit Go.V Go.ChangeMaps
set_option linter.unusedSimpArgs false
set_option linter.unusedVariables false
set_option maxRecDepth 20000
theorem fHolds_congr {k : Int} {p q : Nat → PT} (r : Rat) (hk : fAr k ≠ 0) (h : ∀ i, i < fAr k → p i = q i) : fHolds k p r = fHolds k q r := by
  unfold fHolds
  have e : fVals k p r = fVals k q r := by
    by_cases h8 : k = 8
    · subst h8; unfold fVals; simp [h 0 (by decide), h 1 (by decide)]
    by_cases h1 : k = 1
    · subst h1; unfold fVals; simp [h 0 (by decide), h 1 (by decide), h 2 (by decide)]
    by_cases h5 : k = 5
    · subst h5; unfold fVals; simp [h 0 (by decide), h 1 (by decide), h 2 (by decide)]
    by_cases h2 : k = 2
    · subst h2; unfold fVals; simp [h 0 (by decide), h 1 (by decide), h 2 (by decide), h 3 (by decide)]
    by_cases h3 : k = 3
    · subst h3; unfold fVals; simp [h 0 (by decide), h 1 (by decide), h 2 (by decide), h 3 (by decide)]
    by_cases h4 : k = 4
    · subst h4; unfold fVals; simp [h 0 (by decide), h 1 (by decide), h 2 (by decide), h 3 (by decide)]
    by_cases h6 : k = 6
    · subst h6; unfold fVals; simp [h 0 (by decide), h 1 (by decide), h 2 (by decide), h 3 (by decide)]
    by_cases h9 : k = 9
    · subst h9; unfold fVals; simp [h 0 (by decide), h 1 (by decide), h 2 (by decide), h 3 (by decide)]
    by_cases h7 : k = 7
    · subst h7; unfold fVals; simp [h 0 (by decide), h 1 (by decide), h 2 (by decide), h 3 (by decide), h 4 (by decide), h 5 (by decide), h 6 (by decide), h 7 (by decide)]
    · exact absurd (by unfold fAr; simp [h1, h2, h3, h4, h5, h6, h7, h8, h9]) hk
  rw [e]
theorem ptOf_map (T : PT → PT) {l : List PT} {i : Nat} (h : i < l.length) : ptOf (l.map T) i = T (ptOf l i) := by
  unfold ptOf
  simp [List.getD_eq_getElem?_getD, h]
theorem gath_map (T : PT → PT) {ps : List PT} {args : List Int} (h : ∀ z ∈ args, 0 ≤ z ∧ z < ps.length) : gath (ps.map T) args = (gath ps args).map T := by
  unfold gath
  rw [List.map_map]
  refine List.map_congr_left fun z hz => ?_
  have := h z hz
  exact ptOf_map T (by omega)
theorem gath_len (ps : List PT) (args : List Int) : (gath ps args).length = args.length := by unfold gath; simp
theorem holds_map {k : Int} {ps : List PT} {args : List Int} {neg : Bool} {l m : List Nat} (T : PT → PT) (hT : ∀ p : Nat → PT, fHolds k (fun i => T (p i)) (qv neg l m) = fHolds k p (qv neg l m)) :
    (decide (fRt k args (ps.map T).length neg l m = 0) && fHolds k (ptOf (gath (ps.map T) args)) (qv neg l m)) = (decide (fRt k args ps.length neg l m = 0) && fHolds k (ptOf (gath ps args)) (qv neg l m)) := by
  rw [List.length_map]
  by_cases h : fRt k args ps.length neg l m = 0
  · obtain ⟨f1, f2, f3, f4⟩ := fRt_zero h
    rw [gath_map T f3, ← hT (ptOf (gath ps args))]
    congr 1
    refine fHolds_congr _ f1 fun i hi => ptOf_map T (by rw [gath_len]; omega)
  · simp [h]
def RetP (w : World) (s : Nat) (p : PT) (e : Ending) (w' : World) : Prop := ∃ a1 c1 b1 d1 a2 c2 b2 d2, e = .returned (.agg #[.bool (decide (p.1.num < 0)), .slice a1 (lim p.1.num.natAbs).length c1, .slice b1 (lim p.1.den).length d1, .bool (decide (p.2.num < 0)), .slice a2 (lim p.2.num.natAbs).length c2, .slice b2 (lim p.2.den).length d2]) ∧
  (RD w' a1 c1 (lim p.1.num.natAbs) ∧ RD w' b1 d1 (lim p.1.den) ∧ RD w' a2 c2 (lim p.2.num.natAbs) ∧ RD w' b2 d2 (lim p.2.den)) ∧ ptSz p s ∧ Below w.heap.size w w'
theorem repP {w : World} {p : PT} {v : Value} (h : RepV w [.r, .r] (ptA p) v) : ∃ a1 c1 b1 d1 a2 c2 b2 d2, v = .agg #[.bool (decide (p.1.num < 0)), .slice a1 (lim p.1.num.natAbs).length c1, .slice b1 (lim p.1.den).length d1, .bool (decide (p.2.num < 0)), .slice a2 (lim p.2.num.natAbs).length c2, .slice b2 (lim p.2.den).length d2] ∧
    (RD w a1 c1 (lim p.1.num.natAbs) ∧ RD w b1 d1 (lim p.1.den) ∧ RD w a2 c2 (lim p.2.num.natAbs) ∧ RD w b2 d2 (lim p.2.den)) := by
  obtain ⟨cs, h1, rfl⟩ := (RepV_of rfl).1 h
  obtain ⟨x, r, c1, c2, e1, rfl, h2, h3, z, r', c3, c4, e2, rfl, h4, h5, e3, rfl⟩ := h1
  simp only [ptA, QA.at, qa, List.cons.injEq] at e1
  obtain ⟨rfl, rfl⟩ := e1
  simp only [List.cons.injEq] at e2
  obtain ⟨rfl, _⟩ := e2
  obtain ⟨a1, e1, b1, d1, rfl, q1, q2⟩ := h3
  obtain ⟨a2, e2, b2, d2, rfl, q3, q4⟩ := h5
  exact ⟨_, _, _, _, _, _, _, _, rfl, q1, q2, q3, q4⟩
theorem repP' {w : World} {p : PT} {a1 b1 a2 b2 : Option Addr} {c1 d1 c2 d2 : Nat} (h : RD w a1 c1 (lim p.1.num.natAbs) ∧ RD w b1 d1 (lim p.1.den) ∧ RD w a2 c2 (lim p.2.num.natAbs) ∧ RD w b2 d2 (lim p.2.den)) :
    RepV w [.r, .r] (ptA p) (.agg #[.bool (decide (p.1.num < 0)), .slice a1 (lim p.1.num.natAbs).length c1, .slice b1 (lim p.1.den).length d1, .bool (decide (p.2.num < 0)), .slice a2 (lim p.2.num.natAbs).length c2, .slice b2 (lim p.2.den).length d2]) := by
  obtain ⟨q1, q2, q3, q4⟩ := h
  exact (RepV_of rfl).2 ⟨_, ⟨_, _, _, _, rfl, rfl, rfl, ⟨_, _, _, _, rfl, q1, q2⟩, _, [], _, [], rfl, rfl, rfl, ⟨_, _, _, _, rfl, q3, q4⟩, rfl, rfl⟩, rfl⟩
theorem ct_p {P : Program} {f s S : Nat} {c : Ct} {w : World} {vs : List Value} {als : List At} {p : PT} (h : c.ok P f) (hres : c.res = [[.r, .r]]) (hs : s ≤ c.L) (hr : RepVs w c.args als vs) (hz : ∀ a ∈ als, a.sz ≤ s) (hF : c.F als = some (ptA p)) (hS : c.A * s + c.B ≤ S) :
    Calls P f vs.toArray w (RetP w S p) := by
  refine (h s w vs als _ hs hr hz hF).mono ?_
  rintro e w' ⟨rvs, he, hrv, hsz, hE⟩
  rw [hres] at hrv
  obtain ⟨v, rfl, h1⟩ := vs1 hrv
  obtain ⟨a1, c1, b1, d1, a2, c2, b2, d2, rfl, hq⟩ := repP h1
  exact ⟨_, _, _, _, _, _, _, _, he, hq, ⟨Nat.le_trans (hsz _ (by simp [ptA])) hS, Nat.le_trans (hsz _ (by simp [ptA])) hS⟩, hE⟩
theorem reps3 {w : World} {v1 v2 v3 : Value} {p1 p2 p3 : PT} (h1 : RepV w [.r, .r] (ptA p1) v1) (h2 : RepV w [.r, .r] (ptA p2) v2) (h3 : RepV w [.r, .r] (ptA p3) v3) :
    RepVs w [[.r, .r], [.r, .r], [.r, .r]] (ptA p1 ++ (ptA p2 ++ ptA p3)) [v1, v2, v3] :=
  ⟨_, _, _, _, rfl, rfl, h1, _, _, _, _, rfl, rfl, h2, _, [], _, _, by simp, rfl, h3, rfl, rfl⟩
theorem reps2r {w : World} {v1 v2 v3 : Value} {p1 p2 : PT} {x : Rat} (h1 : RepV w [.r, .r] (ptA p1) v1) (h2 : RepV w [.r, .r] (ptA p2) v2) (h3 : RepV w [.r] [QA.at (.q x)] v3) :
    RepVs w [[.r, .r], [.r, .r], [.r]] (ptA p1 ++ (ptA p2 ++ [QA.at (.q x)])) [v1, v2, v3] :=
  ⟨_, _, _, _, rfl, rfl, h1, _, _, _, _, rfl, rfl, h2, _, [], _, _, by simp, rfl, h3, rfl, rfl⟩
theorem turnC {w : World} {v1 v2 v3 : Value} {p1 p2 p3 : PT} (h1 : RepV w [.r, .r] (ptA p1) v1) (h2 : RepV w [.r, .r] (ptA p2) v2) (h3 : RepV w [.r, .r] (ptA p3) v3) (s1 : ptSz p1 2) (s2 : ptSz p2 2) (s3 : ptSz p3 2) :
    Calls Try.prog 18 #[v1, v2, v3] w (RetP w 300 (qtP (p1.1 + p2.2) (p1.2 - p2.1) p3)) :=
  ct_p ok_rturn rfl (s := 2) (by decide) (reps3 h1 h2 h3) (by
    intro a ha
    simp only [ptA, List.mem_append, List.mem_cons, List.not_mem_nil, or_false] at ha
    rcases ha with (rfl | rfl) | (rfl | rfl) | (rfl | rfl) <;> first | exact s1.1 | exact s1.2 | exact s2.1 | exact s2.2 | exact s3.1 | exact s3.2) (by
    show cq g_turn _ = _
    refine (cq6 _ _ _ _ _ _ _).trans ?_
    show some [QA.at (.q _), QA.at (.q _)] = _
    unfold ptA qtP
    rw [show p1.1 + -(p3.2 - p2.2) = p1.1 + p2.2 - p3.2 by grind, show p1.2 + (p3.1 - p2.1) = p1.2 - p2.1 + p3.1 by grind]) (by decide)
theorem divideC {w : World} {v1 v2 v3 : Value} {p1 p2 : PT} {x : Rat} (h1 : RepV w [.r, .r] (ptA p1) v1) (h2 : RepV w [.r, .r] (ptA p2) v2) (h3 : RepV w [.r] [QA.at (.q x)] v3) (s1 : ptSz p1 2) (s2 : ptSz p2 2) (s3 : (QA.at (.q x)).sz ≤ 2) :
    Calls Try.prog 19 #[v1, v2, v3] w (RetP w 300 (gwP (p1.1 - x * p1.1) (p1.2 - x * p1.2) x p2)) :=
  ct_p ok_rdivide rfl (s := 2) (by decide) (reps2r h1 h2 h3) (by
    intro a ha
    simp only [ptA, List.mem_append, List.mem_cons, List.not_mem_nil, or_false] at ha
    rcases ha with (rfl | rfl) | (rfl | rfl) | rfl <;> first | exact s1.1 | exact s1.2 | exact s2.1 | exact s2.2 | exact s3) (by
    show cq g_divide _ = _
    refine (cq5 _ _ _ _ _ _).trans ?_
    show some [QA.at (.q _), QA.at (.q _)] = _
    unfold ptA gwP
    rw [show p1.1 + x * (p2.1 - p1.1) = p1.1 - x * p1.1 + x * p2.1 by grind, show p1.2 + x * (p2.2 - p1.2) = p1.2 - x * p1.2 + x * p2.2 by grind]) (by decide)
theorem turnQ {w : World} {v1 v2 v3 : Value} {p1 p2 p3 q : PT} (hq : qtP (p1.1 + p2.2) (p1.2 - p2.1) p3 = q) (h1 : RepV w [.r, .r] (ptA p1) v1) (h2 : RepV w [.r, .r] (ptA p2) v2) (h3 : RepV w [.r, .r] (ptA p3) v3) (s1 : ptSz p1 2) (s2 : ptSz p2 2) (s3 : ptSz p3 2) :
    Calls Try.prog 18 #[v1, v2, v3] w (RetP w 300 q) := by subst hq; exact turnC h1 h2 h3 s1 s2 s3
theorem divideQ {w : World} {v1 v2 v3 : Value} {p1 p2 q : PT} {x : Rat} (hq : gwP (p1.1 - x * p1.1) (p1.2 - x * p1.2) x p2 = q) (h1 : RepV w [.r, .r] (ptA p1) v1) (h2 : RepV w [.r, .r] (ptA p2) v2) (h3 : RepV w [.r] [QA.at (.q x)] v3) (s1 : ptSz p1 2) (s2 : ptSz p2 2) (s3 : (QA.at (.q x)).sz ≤ 2) :
    Calls Try.prog 19 #[v1, v2, v3] w (RetP w 300 q) := by subst hq; exact divideC h1 h2 h3 s1 s2 s3
theorem _root_.Go.World.ownsRow.ext {w w' : World} {B e size n : Nat} {v : Value} {xs : List Value} (h : w.ownsRow B e size v n xs) (hb : Below w.heap.size w w') : w'.ownsRow B e size v n xs := h.keep hb
theorem NB.ext {w w' : World} {v : Value} (h : NB w v) (hb : Below w.heap.size w w') : NB w' v := h.keep hb
structure PV (w : World) (qs : List PT) (cs : List Value) : Prop where
  reps : Reps w (qs.flatMap fun _ => [Sh.r, .r]) (qs.flatMap ptA) cs
theorem PV.keep {w w' : World} {qs : List PT} {cs : List Value} (h : PV w qs cs) (hb : Below w.heap.size w w') : PV w' qs cs := ⟨Reps_keep hb h.reps⟩
theorem PV.ext {w w' : World} {qs : List PT} {cs : List Value} (h : PV w qs cs) (hb : Below w.heap.size w w') : PV w' qs cs := ⟨Reps_keep hb h.reps⟩
theorem PV.nil (w : World) : PV w [] [] := ⟨⟨rfl, rfl⟩⟩
theorem reps_app16 {w w' : World} {v : Value} (hg : w.grownBy w' v.ownBlock) (hn : NB w v) : ∀ {qs : List PT} {cs : List Value}, Reps w (qs.flatMap fun _ => [Sh.r, .r]) (qs.flatMap ptA) cs → Reps w' (qs.flatMap fun _ => [Sh.r, .r]) (qs.flatMap ptA) cs
  | [], cs, h => h
  | q :: r, cs, h => by
    obtain ⟨x, l, c1, c2, e1, rfl, h1, h2, y, l', c3, c4, e2, rfl, h3, h4, h5⟩ := h
    have e1' : QA.at (.q q.1) :: QA.at (.q q.2) :: (r.flatMap ptA) = x :: l := e1
    injection e1' with e3 e4
    subst e3; subst e4
    injection e2 with e5 e6
    subst e5; subst e6
    obtain ⟨a1, f1, b1, d1, rfl, q1, q2⟩ := h2
    obtain ⟨a2, f2, b2, d2, rfl, q3, q4⟩ := h4
    exact ⟨_, _, _, _, rfl, rfl, h1, ⟨_, _, _, _, rfl, q1.app hg hn, q2.app hg hn⟩, _, _, _, _, rfl, rfl, h3, ⟨_, _, _, _, rfl, q3.app hg hn, q4.app hg hn⟩, reps_app16 hg hn h5⟩
theorem PV.app {w w' : World} {v : Value} {qs : List PT} {cs : List Value} (h : PV w qs cs) (hg : w.grownBy w' v.ownBlock) (hn : NB w v) : PV w' qs cs := ⟨reps_app16 hg hn h.reps⟩
theorem PV.snoc {w : World} {qs : List PT} {p : PT} {cs R : List Value} (h : PV w qs cs) (hp : RepV w [.r, .r] (ptA p) (.agg R.toArray)) : PV w (qs ++ [p]) (cs ++ R) := ⟨reps_snoc h.reps hp⟩
theorem own_rows {w : World} {B e n : Nat} {v : Value} {qs : List PT} {cs : List Value} (h : w.ownsRow B e 6 v n cs) (hp : PV w qs cs) (hn : qs.length = n) : ∃ pa cap, v = .slice pa n cap ∧ RowsR w pa 6 [.r, .r] (qs.map ptA) := by
  subst hn
  rcases h.2 with ⟨h1, h2⟩ | ⟨g, cap, cur, hv, _, hg, _⟩
  · refine ⟨none, 0, by rw [h2]; exact h1, ?_⟩
    have hq : qs = [] := List.eq_nil_of_length_eq_zero h2
    subst hq
    exact ⟨[], SL.nil _ _, rfl, fun i R x h => by simp at h⟩
  · refine ⟨_, cap, hv, rowsR_of hp.reps (.inr ⟨g, 0, rfl, fun j u hj => ?_⟩)⟩
    have := h.cells (g := g) (by rw [hv]; rfl) j u hj
    rw [add_mk, Nat.zero_add] at this
    rw [Nat.zero_add]; exact this
def AP (v u : Value) : Prop := ∀ k, v.ownBlock = some k → u.ownBlock ≠ some k
theorem AP.ne {v u : Value} (h : AP v u) : u.ownBlock = none ∨ u.ownBlock ≠ v.ownBlock := by
  cases hu : u.ownBlock with
  | none => exact .inl rfl
  | some k => exact .inr fun e => h k e.symm hu
theorem AP.symm {v u : Value} (h : AP v u) : AP u v := fun k hk e => h k e hk
theorem AP.next {v v' u : Value} {w : World} {B e size n : Nat} {xs : List Value} (h : AP v u) (hat : v'.ownBlock = v.ownBlock ∨ v'.ownBlock = some w.heap.size) (hu : w.ownsRow B e size u n xs) : AP v' u := by
  intro k hk e
  rcases hat with h1 | h1
  · exact h k (h1 ▸ hk) e
  · rw [h1] at hk; injection hk with hk
    have := (hu.lt k e).2
    omega
theorem holdsT_any (H : Bool) (E : Int) (T : PT → PT) (k : Int) (args : List Int) (neg : Bool) (l m : List Nat) (hT : ∀ p : Nat → PT, fHolds k (fun i => T (p i)) (qv neg l m) = fHolds k p (qv neg l m)) (ad a b pa : Option Addr) (cap c d cap2 s : Nat) (ps : List PT) (w : World) (hH : (decide (fRt k args ps.length neg l m = 0) && fHolds k (ptOf (gath ps args)) (qv neg l m)) = H) (hE : fRt k args ps.length neg l m = E) (ha : SL w ad (intC args)) (hn : args.length ≤ maxLen) (hr : RD w a c l) (hs : RD w b d m) (hl : l.length ≤ s) (hm : m.length ≤ s) (hP : RowsR w pa 6 [.r, .r] ((ps.map T).map ptA)) (hpl : ps.length ≤ maxLen) (hz : ∀ p ∈ ps.map T, ptSz p s) (hL : s ≤ 3000) :
    Calls Try.prog 20 #[.agg #[.int .i64 k, .slice ad args.length cap, .bool neg, .slice a l.length c, .slice b m.length d], .slice pa ps.length cap2] w fun e w' => e = .returned (.tuple #[.bool H, .int .i64 E]) ∧ Below w.heap.size w w' := by
  have h := fHolds_any k args neg l m ad a b pa cap c d cap2 s (ps.map T) w ha hn hr hs hl hm hP (by rw [List.length_map]; exact hpl) hz hL
  rw [holds_map T hT, List.length_map, hH, hE] at h
  exact h
theorem signC {w : World} {v : Value} {x : Rat} (h : RepV w [.r] [QA.at (.q x)] v) (hz : (QA.at (.q x)).sz ≤ 2) : Calls Try.prog 16 #[v] w fun e w' => e = .returned (.int .i64 (qsg x)) ∧ Below w.heap.size w w' :=
  ct_n ok_drsign rfl (s := 2) (als := [QA.at (.q x)]) (by decide) ⟨_, [], _, [], (List.append_nil _).symm, rfl, h, rfl, rfl⟩ (fun a ha => by rw [List.mem_singleton.1 ha]; exact hz) (by show cq g_sign [QA.at (.q x)] = _; exact (cq1 _ _).trans rfl)
theorem awakeC (w : World) : Calls Try.prog 17 #[] w fun e w' => e = .returned (.bool true) ∧ Below w.heap.size w w' :=
  (ok_awake14 0 w [] [] _ (Nat.zero_le _) ⟨rfl, rfl⟩ (fun a h => by cases h) f_aw0).mono fun e w' ⟨rvs, he, hrv, _, hE⟩ => by
    obtain ⟨v, rfl, h1⟩ := vs1 hrv
    obtain ⟨cs, ⟨x, r, c1, c2, e1, rfl, h2, h3, e2, rfl⟩, rfl⟩ := (RepV_of rfl).1 h1
    simp only [List.cons.injEq] at e1
    obtain ⟨rfl, rfl⟩ := e1
    have h3' : c1 = [.bool true] := h3
    subst h3'
    exact ⟨he, hE⟩
theorem RepV.ext {w w' : World} {shs : List Sh} {als : List At} {v : Value} (h : RepV w shs als v) (hb : Below w.heap.size w w') : RepV w' shs als v := RepV_keep hb h
theorem PV.one {w : World} {p : PT} {R : List Value} (hp : RepV w [.r, .r] (ptA p) (.agg R.toArray)) : PV w [p] R := (PV.nil w).snoc hp
theorem PV.join {w : World} {qs rs : List PT} {cs ds : List Value} (h : PV w qs cs) (h' : PV w rs ds) : PV w (qs ++ rs) (cs ++ ds) := ⟨by
  rw [List.flatMap_append, List.flatMap_append]; exact Reps_app h.reps h'.reps⟩
theorem move5 {w : World} {bls : List At} {v : Value} (h : RepV w [.r, .r, .r, .r, .r] bls v) : ∃ n1 l1 m1 n2 l2 m2 n3 l3 m3 n4 l4 m4 n5 l5 m5 a1 c1 b1 d1 a2 c2 b2 d2 a3 c3 b3 d3 a4 c4 b4 d4 a5 c5 b5 d5, bls = [.r n1 l1 m1, .r n2 l2 m2, .r n3 l3 m3, .r n4 l4 m4, .r n5 l5 m5] ∧ v = .agg #[.bool n1, .slice a1 l1.length c1, .slice b1 m1.length d1, .bool n2, .slice a2 l2.length c2, .slice b2 m2.length d2, .bool n3, .slice a3 l3.length c3, .slice b3 m3.length d3, .bool n4, .slice a4 l4.length c4, .slice b4 m4.length d4, .bool n5, .slice a5 l5.length c5, .slice b5 m5.length d5] ∧ RD w a1 c1 l1 ∧ RD w b1 d1 m1 ∧ RD w a2 c2 l2 ∧ RD w b2 d2 m2 ∧ RD w a3 c3 l3 ∧ RD w b3 d3 m3 ∧ RD w a4 c4 l4 ∧ RD w b4 d4 m4 ∧ RD w a5 c5 l5 ∧ RD w b5 d5 m5 := by
  obtain ⟨cs, h1, rfl⟩ := (RepV_of rfl).1 h
  obtain ⟨x1, r1, c1, _, rfl, rfl, s1, t1, x2, r2, c2, _, rfl, rfl, s2, t2, x3, r3, c3, _, rfl, rfl, s3, t3, x4, r4, c4, _, rfl, rfl, s4, t4, x5, r5, c5, _, rfl, rfl, s5, t5, rfl, rfl⟩ := h1
  obtain ⟨n1, l1, m1, rfl⟩ := sh_r s1
  obtain ⟨n2, l2, m2, rfl⟩ := sh_r s2
  obtain ⟨n3, l3, m3, rfl⟩ := sh_r s3
  obtain ⟨n4, l4, m4, rfl⟩ := sh_r s4
  obtain ⟨n5, l5, m5, rfl⟩ := sh_r s5
  obtain ⟨a1, e1, b1, f1, rfl, p1, q1⟩ := t1
  obtain ⟨a2, e2, b2, f2, rfl, p2, q2⟩ := t2
  obtain ⟨a3, e3, b3, f3, rfl, p3, q3⟩ := t3
  obtain ⟨a4, e4, b4, f4, rfl, p4, q4⟩ := t4
  obtain ⟨a5, e5, b5, f5, rfl, p5, q5⟩ := t5
  exact ⟨_, _, _, _, _, _, _, _, _, _, _, _, _, _, _, _, _, _, _, _, _, _, _, _, _, _, _, _, _, _, _, _, _, _, _, rfl, rfl, p1, q1, p2, q2, p3, q3, p4, q4, p5, q5⟩
theorem rowsR_two {w : World} {b t : Nat} {cells : Array Value} {R1 R2 : List Value} {x1 x2 : List At} (hB : Bx w b cells t) (hc : cells.toList = R1 ++ R2) (l1 : R1.length = 6) (l2 : R2.length = 6) (r1 : RepV w [.r, .r] x1 (.agg R1.toArray)) (r2 : RepV w [.r, .r] x2 (.agg R2.toArray)) : RowsR w (some ⟨b, 0, none⟩) 6 [.r, .r] [x1, x2] := by
  refine ⟨[R1, R2], .inr ⟨b, 0, rfl, fun j v hj => ?_⟩, rfl, fun i R x hR hx => ?_⟩
  · rw [Nat.zero_add, hB.cell]
    rw [← Array.getElem?_toList, hc]
    simpa using hj
  · rcases i with _ | _ | i
    · simp at hR hx; subst hR; subst hx; exact ⟨l1, r1⟩
    · simp at hR hx; subst hR; subst hx; exact ⟨l2, r2⟩
    · simp at hR
theorem ptR {w : World} {n1 n2 : Bool} {l1 m1 l2 m2 : List Nat} {a1 b1 a2 b2 : Option Addr} {c1 d1 c2 d2 : Nat} (p1 : RD w a1 c1 l1) (q1 : RD w b1 d1 m1) (p2 : RD w a2 c2 l2) (q2 : RD w b2 d2 m2) : RepV w [.r, .r] [.r n1 l1 m1, .r n2 l2 m2] (.agg #[.bool n1, .slice a1 l1.length c1, .slice b1 m1.length d1, .bool n2, .slice a2 l2.length c2, .slice b2 m2.length d2]) :=
  (RepV_of rfl).2 ⟨_, ⟨_, _, _, _, rfl, rfl, rfl, ⟨_, _, _, _, rfl, p1, q1⟩, _, [], _, [], rfl, rfl, rfl, ⟨_, _, _, _, rfl, p2, q2⟩, rfl, rfl⟩, rfl⟩
set_option maxHeartbeats 4000000 in
theorem predicateSimilar_any {v u mm : Value} {B C D : Nat} {w : World} {bls : List At} (hv : FactV w v B) (hu : PtsV w u C) (hm : RepV w [.r, .r, .r, .r, .r] bls mm) (hmz : ∀ a ∈ bls, a.rngB D) (hB : B ≤ 1048576) (hC : C ≤ 1048576) (hD : D ≤ 1048576) :
    Calls Try.prog 5 #[v, u, mm] w fun e w' => e = .returned (.bool true) ∧ Below w.heap.size w w' := by
  obtain ⟨k, args, neg, l, m, ad, a, b, cap, c, d, rfl, ha, hn, hr, hs, hl, hmm, _⟩ := hv
  obtain ⟨pa, cap2, xs, rfl, hX, hxn, hxB, hxz⟩ := hu
  obtain ⟨n1, l1, m1, n2, l2, m2, n3, l3, m3, n4, l4, m4, n5, l5, m5, ua1, c1, ub1, d1, ua2, c2, ub2, d2, ua3, c3, ub3, d3, ua4, c4, ub4, d4, ua5, c5, ub5, d5, rfl, rfl, p1, q1, p2, q2, p3, q3, p4, q4, p5, q5⟩ := move5 hm
  have z1 := hmz _ (by simp : At.r n1 l1 m1 ∈ _)
  have z2 := hmz _ (by simp : At.r n2 l2 m2 ∈ _)
  have z3 := hmz _ (by simp : At.r n3 l3 m3 ∈ _)
  have z4 := hmz _ (by simp : At.r n4 l4 m4 ∈ _)
  have z5 := hmz _ (by simp : At.r n5 l5 m5 ∈ _)
  have hxz' : ∀ y ∈ xs, ∀ z ∈ y, z.sz ≤ 1048576 := fun y hy z hz => by have := (hxz y hy z hz).2; omega
  have hC1 : RepV w [.r, .r] [.r n1 l1 m1, .r n2 l2 m2] _ := ptR p1 q1 p2 q2
  have hC2 : RepV w [.r, .r] [.r n3 l3 m3, .r n4 l4 m4] _ := ptR p3 q3 p4 q4
  have h5z : l5.length ≤ 1048576 ∧ m5.length ≤ 1048576 := by
    have := z5.2; simp only [At.sz] at this; omega
  refine calls_of_W (args := [.agg #[.int .i64 k, .slice ad args.length cap, .bool neg, .slice a l.length c, .slice b m.length d], .slice pa xs.length cap2, .agg #[.bool n1, .slice ua1 l1.length c1, .slice ub1 m1.length d1, .bool n2, .slice ua2 l2.length c2, .slice ub2 m2.length d2, .bool n3, .slice ua3 l3.length c3, .slice ub3 m3.length d3, .bool n4, .slice ua4 l4.length c4, .slice ub4 m4.length d4, .bool n5, .slice ua5 l5.length c5, .slice ub5 m5.length d5]]) (rs := [.tmp 6]) (n := 117) Try.func5 rfl rfl rfl (by kernel_rfl) ?_
  have hA0 := Below.refl w.heap.size w
  first | refine W_rt (by kernel_rfl) (fun K hK => ?_) | refine W_text (by kernel_rfl) (fun K hK => ?_)
  simp [go_sem, add_mk, rowV, rowOk]
  refine hv_box #[.int .i64 k, .slice ad args.length cap, .bool neg, .slice a l.length c, .slice b m.length d] (by simp [go_sem, add_mk, rowV, rowOk]) rfl (by simp [go_sem, Value.cells, add_mk, rowV, rowOk]) (fun w1 b1 hE1 hle1 hB1 => ?_)
  have hb1_0 := Nat.le_trans hA0.size hle1
  replace hA0 := hA0.next hE1
  simp [go_sem, add_mk, rowV, rowOk, hB1.cell]
  refine hv_box #[.bool n1, .slice ua1 l1.length c1, .slice ub1 m1.length d1, .bool n2, .slice ua2 l2.length c2, .slice ub2 m2.length d2, .bool n3, .slice ua3 l3.length c3, .slice ub3 m3.length d3, .bool n4, .slice ua4 l4.length c4, .slice ub4 m4.length d4, .bool n5, .slice ua5 l5.length c5, .slice ub5 m5.length d5] (by simp [go_sem, add_mk, rowV, rowOk, hB1.cell]) rfl (by simp [go_sem, Value.cells, add_mk, rowV, rowOk, hB1.cell]) (fun w2 b2 hE2 hle2 hB2 => ?_)
  have hb2_0 := Nat.le_trans hA0.size hle2
  replace hA0 := hA0.next hE2
  replace hB1 := hB1.keep hE2
  simp [go_sem, add_mk, rowV, rowOk, hB1.cell, hB2.cell]
  refine hK _ _ ?_; clear hK K
  refine W_seq (fun K1 hK1 => ?_)
  first | refine W_rt (by kernel_rfl) (fun K hK => ?_) | refine W_text (by kernel_rfl) (fun K hK => ?_)
  simp [go_sem, add_mk, rowV, rowOk, hB1.cell, hB2.cell]
  refine hv_call (by simp [go_sem, add_mk, rowV, rowOk, hB1.cell, hB2.cell]) rfl Try.call14 (fun R hR => ?_)
  simp [go_sem, add_mk, rowV, rowOk, hB1.cell, hB2.cell]
  refine (fits_any pa cap2 xs _ (hX.ext hA0) hxn hxz').mono ?_
  rintro e w3 ⟨rfl, hE3⟩
  refine ⟨_, rfl, hR _ _ ?_⟩
  clear hR R
  replace hA0 := hA0.next hE3
  replace hB1 := hB1.keep hE3
  replace hB2 := hB2.keep hE3
  simp [go_sem, add_mk, rowV, rowOk, hB1.cell, hB2.cell]
  cases hf : fitB xs with
  | false =>
    simp [go_sem, add_mk, rowV, rowOk, hB1.cell, hB2.cell, hf]
    refine hK _ _ ?_; clear hK K
    refine W_if (t := true) (by simp [go_sem, add_mk, rowV, rowOk, hB1.cell, hB2.cell, hf]) rfl ?_
    first | refine W_rt (by kernel_rfl) (fun K hK => ?_) | refine W_text (by kernel_rfl) (fun K hK => ?_)
    simp [go_sem, add_mk, rowV, rowOk, hB1.cell, hB2.cell]
    refine hv_call (by simp [go_sem, add_mk, rowV, rowOk, hB1.cell, hB2.cell]) rfl Try.call17 (fun R hR => ?_)
    simp [go_sem, add_mk, rowV, rowOk, hB1.cell, hB2.cell]
    refine (awakeC _).mono ?_
    rintro e w4 ⟨rfl, hE4⟩
    refine ⟨_, rfl, hR _ _ ?_⟩
    clear hR R
    replace hA0 := hA0.next hE4
    replace hB1 := hB1.keep hE4
    replace hB2 := hB2.keep hE4
    simp [go_sem, add_mk, rowV, rowOk, hB1.cell, hB2.cell]
    refine hK _ _ ?_; clear hK K
    refine W_ret ?_
    repeat (first | refine thenG_ret ?_ | refine inBlock_ret ?_)
    refine ⟨trivial, ?_, hA0⟩
    simp [go_sem, pack, resL]
  | true =>
    obtain ⟨ps, rfl, hpz, hp8⟩ := fit_pts hX hf
    simp [go_sem, add_mk, rowV, rowOk, hB1.cell, hB2.cell, hf]
    refine hv_buildSlice #[.bool n1, .slice ua1 l1.length c1, .slice ub1 m1.length d1, .bool n2, .slice ua2 l2.length c2, .slice ub2 m2.length d2, .bool n3, .slice ua3 l3.length c3, .slice ub3 m3.length d3, .bool n4, .slice ua4 l4.length c4, .slice ub4 m4.length d4] (by simp [go_sem, add_mk, rowV, rowOk, hB1.cell, hB2.cell, hf]) rfl ty_slZ39 (by decide) [(0, .agg #[.bool n1, .slice ua1 l1.length c1, .slice ub1 m1.length d1, .bool n2, .slice ua2 l2.length c2, .slice ub2 m2.length d2]), (1, .agg #[.bool n3, .slice ua3 l3.length c3, .slice ub3 m3.length d3, .bool n4, .slice ua4 l4.length c4, .slice ub4 m4.length d4])] (by simp [go_sem, add_mk, rowV, rowOk, hB1.cell, hB2.cell, hf]) (by kernel_rfl) (fun w6 b6 hE6 hle6 hB6 => ?_)
    have hb6_0 := Nat.le_trans hA0.size hle6
    replace hA0 := hA0.next hE6
    replace hB1 := hB1.keep hE6
    replace hB2 := hB2.keep hE6
    simp [go_sem, add_mk, rowV, rowOk, hB1.cell, hB2.cell, hB6.cell, hf]
    have hyz : ∀ y ∈ [[At.r n1 l1 m1, At.r n2 l2 m2], [At.r n3 l3 m3, At.r n4 l4 m4]], ∀ z ∈ y, z.sz ≤ 1048576 := by
      intro y hy z hz
      simp only [List.mem_cons, List.not_mem_nil, or_false] at hy
      rcases hy with rfl | rfl <;> simp only [List.mem_cons, List.not_mem_nil, or_false] at hz <;> rcases hz with rfl | rfl
      · exact Nat.le_trans z1.2 hD
      · exact Nat.le_trans z2.2 hD
      · exact Nat.le_trans z3.2 hD
      · exact Nat.le_trans z4.2 hD
    refine hv_call (by simp [go_sem, add_mk, rowV, rowOk, hB1.cell, hB2.cell, hB6.cell, hf]) rfl Try.call14 (fun R hR => ?_)
    simp [go_sem, add_mk, rowV, rowOk, hB1.cell, hB2.cell, hB6.cell, hf]
    refine (fits_any (some ⟨b6, 0, none⟩) 2 [[.r n1 l1 m1, .r n2 l2 m2], [.r n3 l3 m3, .r n4 l4 m4]] _ (rowsR_two hB6 rfl rfl rfl (hC1.ext hA0) (hC2.ext hA0)) (by unfold maxLen; simp) hyz).mono ?_
    rintro e w7 ⟨rfl, hE7⟩
    refine ⟨_, rfl, hR _ _ ?_⟩
    clear hR R
    replace hA0 := hA0.next hE7
    replace hB1 := hB1.keep hE7
    replace hB2 := hB2.keep hE7
    replace hB6 := hB6.keep hE7
    simp [go_sem, add_mk, rowV, rowOk, hB1.cell, hB2.cell, hB6.cell, hf]
    cases hg : fitB [[.r n1 l1 m1, .r n2 l2 m2], [.r n3 l3 m3, .r n4 l4 m4]] with
    | false =>
      simp [go_sem, add_mk, rowV, rowOk, hB1.cell, hB2.cell, hB6.cell, hf, hg]
      refine hK _ _ ?_; clear hK K
      refine W_if (t := true) (by simp [go_sem, add_mk, rowV, rowOk, hB1.cell, hB2.cell, hB6.cell, hf, hg]) rfl ?_
      first | refine W_rt (by kernel_rfl) (fun K hK => ?_) | refine W_text (by kernel_rfl) (fun K hK => ?_)
      simp [go_sem, add_mk, rowV, rowOk, hB1.cell, hB2.cell, hB6.cell]
      refine hv_call (by simp [go_sem, add_mk, rowV, rowOk, hB1.cell, hB2.cell, hB6.cell]) rfl Try.call17 (fun R hR => ?_)
      simp [go_sem, add_mk, rowV, rowOk, hB1.cell, hB2.cell, hB6.cell]
      refine (awakeC _).mono ?_
      rintro e w8 ⟨rfl, hE8⟩
      refine ⟨_, rfl, hR _ _ ?_⟩
      clear hR R
      replace hA0 := hA0.next hE8
      replace hB1 := hB1.keep hE8
      replace hB2 := hB2.keep hE8
      replace hB6 := hB6.keep hE8
      simp [go_sem, add_mk, rowV, rowOk, hB1.cell, hB2.cell, hB6.cell]
      refine hK _ _ ?_; clear hK K
      refine W_ret ?_
      repeat (first | refine thenG_ret ?_ | refine inBlock_ret ?_)
      refine ⟨trivial, ?_, hA0⟩
      simp [go_sem, pack, resL]
    | true =>
      simp [go_sem, add_mk, rowV, rowOk, hB1.cell, hB2.cell, hB6.cell, hf, hg]
      refine hv_call (by simp [go_sem, add_mk, rowV, rowOk, hB1.cell, hB2.cell, hB6.cell, hf, hg]) rfl Try.call15 (fun R hR => ?_)
      simp [go_sem, add_mk, rowV, rowOk, hB1.cell, hB2.cell, hB6.cell, hf, hg]
      refine (short14_any n5 l5 m5 ua5 ub5 c5 d5 _ (p5.ext hA0) (q5.ext hA0) h5z.1 h5z.2).mono ?_
      rintro e w9 ⟨rfl, hE9⟩
      refine ⟨_, rfl, hR _ _ ?_⟩
      clear hR R
      replace hA0 := hA0.next hE9
      replace hB1 := hB1.keep hE9
      replace hB2 := hB2.keep hE9
      replace hB6 := hB6.keep hE9
      simp [go_sem, add_mk, rowV, rowOk, hB1.cell, hB2.cell, hB6.cell, hf, hg]
      cases hh : qSh n5 l5 m5 with
      | false =>
        simp [go_sem, add_mk, rowV, rowOk, hB1.cell, hB2.cell, hB6.cell, hf, hg, hh]
        refine hK _ _ ?_; clear hK K
        refine W_if (t := true) (by simp [go_sem, add_mk, rowV, rowOk, hB1.cell, hB2.cell, hB6.cell, hf, hg, hh]) rfl ?_
        first | refine W_rt (by kernel_rfl) (fun K hK => ?_) | refine W_text (by kernel_rfl) (fun K hK => ?_)
        simp [go_sem, add_mk, rowV, rowOk, hB1.cell, hB2.cell, hB6.cell]
        refine hv_call (by simp [go_sem, add_mk, rowV, rowOk, hB1.cell, hB2.cell, hB6.cell]) rfl Try.call17 (fun R hR => ?_)
        simp [go_sem, add_mk, rowV, rowOk, hB1.cell, hB2.cell, hB6.cell]
        refine (awakeC _).mono ?_
        rintro e w10 ⟨rfl, hE10⟩
        refine ⟨_, rfl, hR _ _ ?_⟩
        clear hR R
        replace hA0 := hA0.next hE10
        replace hB1 := hB1.keep hE10
        replace hB2 := hB2.keep hE10
        replace hB6 := hB6.keep hE10
        simp [go_sem, add_mk, rowV, rowOk, hB1.cell, hB2.cell, hB6.cell]
        refine hK _ _ ?_; clear hK K
        refine W_ret ?_
        repeat (first | refine thenG_ret ?_ | refine inBlock_ret ?_)
        refine ⟨trivial, ?_, hA0⟩
        simp [go_sem, pack, resL]
      | true =>
        obtain ⟨e5, y5, y6⟩ := qSh_can p5.ok q5.ok hh
        obtain ⟨s1, s2, s3, s4⟩ : qSh n1 l1 m1 = true ∧ qSh n2 l2 m2 = true ∧ qSh n3 l3 m3 = true ∧ qSh n4 l4 m4 = true := by simpa [fitB, qSh2, and_assoc] using hg
        obtain ⟨e1, t1, t2⟩ := qSh_can p1.ok q1.ok s1
        obtain ⟨e2, t3, t4⟩ := qSh_can p2.ok q2.ok s2
        obtain ⟨e3, t5, t6⟩ := qSh_can p3.ok q3.ok s3
        obtain ⟨e4, t7, t8⟩ := qSh_can p4.ok q4.ok s4
        obtain ⟨Cp, hCp, hCs⟩ : ∃ p : PT, [At.r n1 l1 m1, .r n2 l2 m2] = ptA p ∧ ptSz p 2 := ⟨(qv n1 l1 m1, qv n2 l2 m2), by unfold ptA; rw [← e1, ← e2], by unfold ptSz; rw [← e1, ← e2]; exact ⟨Nat.max_le.2 ⟨t1, t2⟩, Nat.max_le.2 ⟨t3, t4⟩⟩⟩
        obtain ⟨Dp, hDp, hDs⟩ : ∃ p : PT, [At.r n3 l3 m3, .r n4 l4 m4] = ptA p ∧ ptSz p 2 := ⟨(qv n3 l3 m3, qv n4 l4 m4), by unfold ptA; rw [← e3, ← e4], by unfold ptSz; rw [← e3, ← e4]; exact ⟨Nat.max_le.2 ⟨t5, t6⟩, Nat.max_le.2 ⟨t7, t8⟩⟩⟩
        obtain ⟨R0, hR0, hRs⟩ : ∃ x : Rat, At.r n5 l5 m5 = QA.at (.q x) ∧ (QA.at (.q x)).sz ≤ 2 := ⟨_, e5, by rw [← e5]; exact Nat.max_le.2 ⟨y5, y6⟩⟩
        have hRv : RepV w [.r] [QA.at (.q R0)] (.agg #[.bool n5, .slice ua5 l5.length c5, .slice ub5 m5.length d5]) := by rw [← hR0]; exact repV_r.2 ⟨_, _, _, _, _, _, _, rfl, rfl, p5, q5⟩
        rw [hCp] at hC1
        rw [hDp] at hC2
        rw [List.length_map] at *
        obtain ⟨T1, hT1⟩ : ∃ T, T = qtP (Cp.1 + Dp.2) (Cp.2 - Dp.1) := ⟨_, rfl⟩
        obtain ⟨T2, hT2⟩ : ∃ T, T = gwP (Cp.1 - R0 * Cp.1) (Cp.2 - R0 * Cp.2) R0 := ⟨_, rfl⟩
        simp [go_sem, add_mk, rowV, rowOk, hB1.cell, hB2.cell, hB6.cell, hf, hg, hh]
        refine hv_call (by simp [go_sem, add_mk, rowV, rowOk, hB1.cell, hB2.cell, hB6.cell, hf, hg, hh]) rfl Try.call16 (fun R hR => ?_)
        simp [go_sem, add_mk, rowV, rowOk, hB1.cell, hB2.cell, hB6.cell, hf, hg, hh]
        refine (signC (hRv.ext hA0) hRs).mono ?_
        rintro e w11 ⟨rfl, hE11⟩
        refine ⟨_, rfl, hR _ _ ?_⟩
        clear hR R
        replace hA0 := hA0.next hE11
        replace hB1 := hB1.keep hE11
        replace hB2 := hB2.keep hE11
        replace hB6 := hB6.keep hE11
        simp [go_sem, add_mk, rowV, rowOk, hB1.cell, hB2.cell, hB6.cell, hf, hg, hh]
        by_cases h4 : qsg R0 = 0
        · simp [go_sem, add_mk, rowV, rowOk, hB1.cell, hB2.cell, hB6.cell, hf, hg, hh, h4]
          refine hK _ _ ?_; clear hK K
          refine W_if (t := true) (by simp [go_sem, add_mk, rowV, rowOk, hB1.cell, hB2.cell, hB6.cell, hf, hg, hh, h4]) rfl ?_
          first | refine W_rt (by kernel_rfl) (fun K hK => ?_) | refine W_text (by kernel_rfl) (fun K hK => ?_)
          simp [go_sem, add_mk, rowV, rowOk, hB1.cell, hB2.cell, hB6.cell]
          refine hv_call (by simp [go_sem, add_mk, rowV, rowOk, hB1.cell, hB2.cell, hB6.cell]) rfl Try.call17 (fun R hR => ?_)
          simp [go_sem, add_mk, rowV, rowOk, hB1.cell, hB2.cell, hB6.cell]
          refine (awakeC _).mono ?_
          rintro e w12 ⟨rfl, hE12⟩
          refine ⟨_, rfl, hR _ _ ?_⟩
          clear hR R
          replace hA0 := hA0.next hE12
          replace hB1 := hB1.keep hE12
          replace hB2 := hB2.keep hE12
          replace hB6 := hB6.keep hE12
          simp [go_sem, add_mk, rowV, rowOk, hB1.cell, hB2.cell, hB6.cell]
          refine hK _ _ ?_; clear hK K
          refine W_ret ?_
          repeat (first | refine thenG_ret ?_ | refine inBlock_ret ?_)
          refine ⟨trivial, ?_, hA0⟩
          simp [go_sem, pack, resL]
        by_cases h6 : (2 : Int) < l.length
        · simp [go_sem, add_mk, rowV, rowOk, hB1.cell, hB2.cell, hB6.cell, hf, hg, hh, h4, h6]
          refine hK _ _ ?_; clear hK K
          refine W_if (t := true) (by simp [go_sem, add_mk, rowV, rowOk, hB1.cell, hB2.cell, hB6.cell, hf, hg, hh, h4, h6]) rfl ?_
          first | refine W_rt (by kernel_rfl) (fun K hK => ?_) | refine W_text (by kernel_rfl) (fun K hK => ?_)
          simp [go_sem, add_mk, rowV, rowOk, hB1.cell, hB2.cell, hB6.cell]
          refine hv_call (by simp [go_sem, add_mk, rowV, rowOk, hB1.cell, hB2.cell, hB6.cell]) rfl Try.call17 (fun R hR => ?_)
          simp [go_sem, add_mk, rowV, rowOk, hB1.cell, hB2.cell, hB6.cell]
          refine (awakeC _).mono ?_
          rintro e w13 ⟨rfl, hE13⟩
          refine ⟨_, rfl, hR _ _ ?_⟩
          clear hR R
          replace hA0 := hA0.next hE13
          replace hB1 := hB1.keep hE13
          replace hB2 := hB2.keep hE13
          replace hB6 := hB6.keep hE13
          simp [go_sem, add_mk, rowV, rowOk, hB1.cell, hB2.cell, hB6.cell]
          refine hK _ _ ?_; clear hK K
          refine W_ret ?_
          repeat (first | refine thenG_ret ?_ | refine inBlock_ret ?_)
          refine ⟨trivial, ?_, hA0⟩
          simp [go_sem, pack, resL]
        by_cases h7 : (2 : Int) < m.length
        · simp [go_sem, add_mk, rowV, rowOk, hB1.cell, hB2.cell, hB6.cell, hf, hg, hh, h4, h6, h7]
          refine hK _ _ ?_; clear hK K
          refine W_if (t := true) (by simp [go_sem, add_mk, rowV, rowOk, hB1.cell, hB2.cell, hB6.cell, hf, hg, hh, h4, h6, h7]) rfl ?_
          first | refine W_rt (by kernel_rfl) (fun K hK => ?_) | refine W_text (by kernel_rfl) (fun K hK => ?_)
          simp [go_sem, add_mk, rowV, rowOk, hB1.cell, hB2.cell, hB6.cell]
          refine hv_call (by simp [go_sem, add_mk, rowV, rowOk, hB1.cell, hB2.cell, hB6.cell]) rfl Try.call17 (fun R hR => ?_)
          simp [go_sem, add_mk, rowV, rowOk, hB1.cell, hB2.cell, hB6.cell]
          refine (awakeC _).mono ?_
          rintro e w14 ⟨rfl, hE14⟩
          refine ⟨_, rfl, hR _ _ ?_⟩
          clear hR R
          replace hA0 := hA0.next hE14
          replace hB1 := hB1.keep hE14
          replace hB2 := hB2.keep hE14
          replace hB6 := hB6.keep hE14
          simp [go_sem, add_mk, rowV, rowOk, hB1.cell, hB2.cell, hB6.cell]
          refine hK _ _ ?_; clear hK K
          refine W_ret ?_
          repeat (first | refine thenG_ret ?_ | refine inBlock_ret ?_)
          refine ⟨trivial, ?_, hA0⟩
          simp [go_sem, pack, resL]
        have hR00 : ¬ R0 = 0 := fun e => h4 ((qsg_zero R0).2 e)
        simp [go_sem, add_mk, rowV, rowOk, hB1.cell, hB2.cell, hB6.cell, hf, hg, hh, h4, h6, h7]
        refine hK _ _ ?_; clear hK K
        refine W_if (t := false) (by simp [go_sem, add_mk, rowV, rowOk, hB1.cell, hB2.cell, hB6.cell,  hf, hg, hh, h4, h6, h7]) rfl ?_
        refine W_skip ?_
        refine hK1 _ _ ?_
        first | refine W_rt (by kernel_rfl) (fun K hK => ?_) | refine W_text (by kernel_rfl) (fun K hK => ?_)
        simp [go_sem, add_mk, rowV, rowOk, hB1.cell, hB2.cell, hB6.cell]
        refine hK _ _ ?_; clear hK K
        refine W_seq (fun K2 hK2 => ?_)
        first | refine W_rt (by kernel_rfl) (fun K hK => ?_) | refine W_text (by kernel_rfl) (fun K hK => ?_)
        simp [go_sem, add_mk, rowV, rowOk, hB1.cell, hB2.cell, hB6.cell]
        refine hK _ _ ?_; clear hK K
        refine W_block ?_
        refine W_loop (fun m' g w' => Below w.heap.size w w' ∧ Bx w' b1 #[.int .i64 k, .slice ad args.length cap, .bool neg, .slice a l.length c, .slice b m.length d] 30 ∧ Bx w' b2 #[.bool n1, .slice ua1 l1.length c1, .slice ub1 m1.length d1, .bool n2, .slice ua2 l2.length c2, .slice ub2 m2.length d2, .bool n3, .slice ua3 l3.length c3, .slice ub3 m3.length d3, .bool n4, .slice ua4 l4.length c4, .slice ub4 m4.length d4, .bool n5, .slice ua5 l5.length c5, .slice ub5 m5.length d5] 43 ∧ ∃ (i : Nat) (v u : Value) (cs ds : List Value), i ≤ ps.length ∧ m' = ps.length - i ∧ w'.ownsRow w.heap.size 41 6 v i cs ∧ w'.ownsRow w.heap.size 41 6 u i ds ∧ NB w' v ∧ NB w' u ∧ AP v u ∧ PV w' ((ps.take i).map T1) cs ∧ PV w' ((ps.take i).map T2) ds ∧ (∀ q ∈ (ps.take i).map T1, ptSz q 300) ∧ (∀ q ∈ (ps.take i).map T2, ptSz q 300) ∧ g 1 = .slice pa ps.length cap2 ∧ g 3 = .pointer (some ⟨b1, 0, none⟩) ∧ g 5 = .pointer (some ⟨b2, 0, none⟩) ∧ g 7 = v ∧ g 8 = u ∧ g 55 = .slice pa ps.length cap2 ∧ g 56 = .int .i64 ps.length ∧ g 57 = .int .i64 i) ps.length ?_ ?_
        · exact ⟨hA0, hB1, hB2, 0, .slice none 0 0, .slice none 0 0, [], [], by omega, rfl, World.ownsRow_nil _ _ _ _, World.ownsRow_nil _ _ _ _, NB.nil _, NB.nil _, (fun k h => by cases h), PV.nil _, PV.nil _, (fun q h => by cases h), (fun q h => by cases h), by simp [go_sem], by simp [go_sem], by simp [go_sem], by simp [go_sem], by simp [go_sem], by simp [go_sem], by simp [go_sem], by simp [go_sem]⟩
        clear hB1 hB2 hA0
        rintro m' g w' ⟨hA0, hB1, hB2, i, v, u, cs, ds, hi, rfl, hown, hown2, hnb, hnb2, hap, hpv, hpv2, hz1, hz2, g1, g3, g5, g7, g8, g55, g56, g57⟩
        have hA15 := Below.refl (w').heap.size (w')
        first | refine W_rt (by kernel_rfl) (fun K hK => ?_) | refine W_text (by kernel_rfl) (fun K hK => ?_)
        simp [go_sem, add_mk, rowV, rowOk, hB1.cell, hB2.cell, g1, g3, g5, g7, g8, g55, g56, g57]
        refine hK _ _ ?_; clear hK K
        refine W_seq (fun K3 hK3 => ?_)
        by_cases hlt : i < ps.length
        · have c1 : (i : Int) < ps.length := by omega
          have hw1 : IntKind.i64.wrap ((i : Int) + 1) = (i : Int) + 1 := IntWalk.i64_in _ (by unfold maxLen at hxn; omega)
          have hxi : (ps.map ptA)[i]? = some (ptA (ps[i]'hlt)) := by simp [hlt]
          have htk : ps.take (i + 1) = ps.take i ++ [ps[i]'hlt] := List.take_succ_eq_append_getElem hlt
          have hps := hpz _ (List.getElem_mem hlt)
          generalize ps[i]'hlt = p at *
          obtain ⟨Rw, r1, r2, r3, r4, r5⟩ := hX.row2 hA0 (by decide) hxi
          obtain ⟨A1p, C1p, B1p, D1p, A2p, C2p, B2p, D2p, er, hq0⟩ := repP r5
          have er' : Rw = [.bool (decide (p.1.num < 0)), .slice A1p (lim p.1.num.natAbs).length C1p, .slice B1p (lim p.1.den).length D1p, .bool (decide (p.2.num < 0)), .slice A2p (lim p.2.num.natAbs).length C2p, .slice B2p (lim p.2.den).length D2p] := by injection er with er; simpa using er
          subst er'
          refine W_if (t := true) (by simp [go_sem, add_mk, hB1.cell, hB2.cell, g1, g3, g5, g7, g8, g55, g56, g57, c1, hlt]) rfl ?_
          refine W_skip ?_
          refine hK3 _ _ ?_
          refine W_seq (fun K4 hK4 => ?_)
          refine W_block ?_
          first | refine W_rt (by kernel_rfl) (fun K hK => ?_) | refine W_text (by kernel_rfl) (fun K hK => ?_)
          simp [go_sem, add_mk, hB1.cell, hB2.cell, g1, g3, g5, g7, g8, g55, g56, g57,  c1, hlt, r1, r2, r3]
          refine hv_alloc (by simp [go_sem, add_mk, hB1.cell, hB2.cell, g1, g3, g5, g7, g8, g55, g56, g57, c1, r1, r2, r3]) rfl ty_zeroC41 (fun w21 b21 hE21 hle21 hB21 => ?_)
          have hb21_0 := Nat.le_trans hA0.size hle21
          have hb21_1 := Nat.le_trans hA15.size hle21
          have hd1_21 : b1 ≠ b21 := Nat.ne_of_lt (Nat.lt_of_lt_of_le hB1.lt hle21)
          have hd2_21 : b2 ≠ b21 := Nat.ne_of_lt (Nat.lt_of_lt_of_le hB2.lt hle21)
          replace hA0 := hA0.next hE21
          replace hA15 := hA15.next hE21
          replace hB1 := hB1.keep hE21
          replace hB2 := hB2.keep hE21
          simp [go_sem, add_mk, hB1.cell, hB2.cell, g1, g3, g5, g7, g8, g55, g56, g57, hB21.cell, c1, r1, r2, r3]
          refine hv_store (b := b21) (off := 0) [.bool (decide (p.1.num < 0)), .slice A1p (lim p.1.num.natAbs).length C1p, .slice B1p (lim p.1.den).length D1p, .bool (decide (p.2.num < 0)), .slice A2p (lim p.2.num.natAbs).length C2p, .slice B2p (lim p.2.den).length D2p] (by simp [go_sem, add_mk, hB1.cell, hB2.cell, g1, g3, g5, g7, g8, g55, g56, g57, hB21.cell, c1, r1, r2, r3]) rfl (by simp [go_sem, add_mk, hB1.cell, hB2.cell, g1, g3, g5, g7, g8, g55, g56, g57, hB21.cell, c1, r1, r2, r3]) (by simp [go_sem, Value.cells, add_mk, hB1.cell, hB2.cell, g1, g3, g5, g7, g8, g55, g56, g57, hB21.cell, c1, r1, r2, r3]) ty_size41 hB21 (by simp) (by simp [Value.oneCell']) (by decide) (fun w22 hS22 hB22 => ?_)
          simp [putC] at hB22
          replace hA0 := hA0.nextS hS22 (by first | exact hb21_0 | omega)
          replace hA15 := hA15.nextS hS22 (by first | exact hb21_1 | omega)
          replace hB1 := hB1.sto hS22 (by first | exact hd1_21 | exact (hd21_1).symm)
          replace hB2 := hB2.sto hS22 (by first | exact hd2_21 | exact (hd21_2).symm)
          simp [go_sem, add_mk, hB1.cell, hB2.cell, g1, g3, g5, g7, g8, g55, g56, g57, hB22.cell, c1, r1, r2, r3]
          refine hK _ _ ?_; clear hK K
          have hownA := (hown.ext hA15)
          have hown2A := (hown2.ext hA15)
          have hnbA := (hnb.ext hA15)
          have hnb2A := (hnb2.ext hA15)
          have hpvA := (hpv.ext hA15)
          have hpv2A := (hpv2.ext hA15)
          have hn21 : some b21 ≠ v.ownBlock := fun e => by
            have := (hown.lt _ e.symm).2
            omega
          have hn21u : some b21 ≠ u.ownBlock := fun e => by
            have := (hown2.lt _ e.symm).2
            omega
          first | refine W_rt (by kernel_rfl) (fun K hK => ?_) | refine W_text (by kernel_rfl) (fun K hK => ?_)
          simp [go_sem, add_mk, hB1.cell, hB2.cell, g1, g3, g5, g7, g8, g55, g56, g57, hB22.cell, rowV, rowOk]
          refine hv_call (by simp [go_sem, add_mk, hB1.cell, hB2.cell, g1, g3, g5, g7, g8, g55, g56, g57, hB22.cell, rowV, rowOk]) rfl Try.call18 (fun R hR => ?_)
          simp [go_sem, add_mk, hB1.cell, hB2.cell, g1, g3, g5, g7, g8, g55, g56, g57, hB22.cell, rowV, rowOk]
          refine (turnQ (q := T1 p) (by rw [hT1]) (hC1.ext hA0) (hC2.ext hA0) (r5.ext hA0) hCs hDs hps).mono ?_
          rintro e w23 ⟨A123, C123, B123, D123, A223, C223, B223, D223, rfl, hq23, hz23, hE23⟩
          refine ⟨_, rfl, hR _ _ ?_⟩
          clear hR R
          replace hA0 := hA0.next hE23
          replace hA15 := hA15.next hE23
          replace hB1 := hB1.keep hE23
          replace hB2 := hB2.keep hE23
          replace hB22 := hB22.keep hE23
          replace hownA := hownA.keep hE23
          replace hown2A := hown2A.keep hE23
          replace hnbA := hnbA.keep hE23
          replace hnb2A := hnb2A.keep hE23
          replace hpvA := hpvA.keep hE23
          replace hpv2A := hpv2A.keep hE23
          simp [go_sem, add_mk, hB1.cell, hB2.cell, g1, g3, g5, g7, g8, g55, g56, g57, hB22.cell, rowV, rowOk]
          have hpq := PV.one (repP' hq23)
          refine hv_buildSlice #[.bool (decide ((T1 p).1.num < 0)), .slice A123 (lim (T1 p).1.num.natAbs).length C123, .slice B123 (lim (T1 p).1.den).length D123, .bool (decide ((T1 p).2.num < 0)), .slice A223 (lim (T1 p).2.num.natAbs).length C223, .slice B223 (lim (T1 p).2.den).length D223] (by simp [go_sem, add_mk, hB1.cell, hB2.cell, g1, g3, g5, g7, g8, g55, g56, g57, hB22.cell, rowV, rowOk]) rfl ty_slZ39 (by decide) [(0, .agg #[.bool (decide ((T1 p).1.num < 0)), .slice A123 (lim (T1 p).1.num.natAbs).length C123, .slice B123 (lim (T1 p).1.den).length D123, .bool (decide ((T1 p).2.num < 0)), .slice A223 (lim (T1 p).2.num.natAbs).length C223, .slice B223 (lim (T1 p).2.den).length D223])] (by simp [go_sem, add_mk, hB1.cell, hB2.cell, g1, g3, g5, g7, g8, g55, g56, g57, hB22.cell, rowV, rowOk]) (by kernel_rfl) (fun w24 b24 hE24 hle24 hB24 => ?_)
          have hb24_0 := Nat.le_trans hA0.size hle24
          have hb24_1 := Nat.le_trans hA15.size hle24
          replace hA0 := hA0.next hE24
          replace hA15 := hA15.next hE24
          replace hB1 := hB1.keep hE24
          replace hB2 := hB2.keep hE24
          replace hB22 := hB22.keep hE24
          replace hownA := hownA.keep hE24
          replace hown2A := hown2A.keep hE24
          replace hnbA := hnbA.keep hE24
          replace hnb2A := hnb2A.keep hE24
          replace hpvA := hpvA.keep hE24
          replace hpv2A := hpv2A.keep hE24
          replace hpq := hpq.keep hE24
          simp [go_sem, add_mk, hB1.cell, hB2.cell, g1, g3, g5, g7, g8, g55, g56, g57, hB22.cell, rowV, rowOk, hB24.cell]
          refine hv_append16 (v := v) (b := b24) (len := 1) (c := 1) hB24 (by simp [go_sem]) rfl ty_slZ39 ty_bytes41 rfl (by decide) (by simp [go_sem, add_mk, hB1.cell, hB2.cell, g1, g3, g5, g7, g8, g55, g56, g57, hB22.cell, rowV, rowOk, hB24.cell]) (by simp [go_sem]) hownA rfl (by first | (simp [Value.oneCell']; done) | simpa using hone) (by unfold maxLen; omega) (by omega) hA0.size (by decide) (by intro u hu x e; subst e; simp at hu) (by first | (intro u hu x e; subst e; simp at hu; done) | simpa using hone16) hnbA (fun v25 w25 h25 hg25 hat25 hnb25 => ?_)
          have hne25 := fun b e => (hownA.lt b e).1
          replace hA0 := hA0.nextG hg25 hne25
          replace hB1 := hB1.grown hg25 (fun e => own_ne_bx hownA hB1 (by decide) e.symm)
          replace hB2 := hB2.grown hg25 (fun e => own_ne_bx hownA hB2 (by decide) e.symm)
          replace hB22 := hB22.grown hg25 hn21
          simp [go_sem, add_mk, hB1.cell, hB2.cell, g1, g3, g5, g7, g8, g55, g56, g57, hB22.cell, rowV, rowOk]
          have hap' := hap.next hat25 hown2A
          replace hown2A := hown2A.kept hg25 hap.ne
          replace hnb2A := hnb2A.grown hg25 hap.ne
          replace hpvA := hpvA.app hg25 hnbA
          replace hpv2A := hpv2A.app hg25 hnbA
          replace hpq := hpq.app hg25 hnbA
          have hpv' := hpvA.join hpq
          refine hK _ _ ?_; clear hK K
          first | refine W_rt (by kernel_rfl) (fun K hK => ?_) | refine W_text (by kernel_rfl) (fun K hK => ?_)
          simp [go_sem, add_mk, hB1.cell, hB2.cell, g1, g3, g5, g7, g8, g55, g56, g57, hB22.cell, rowV, rowOk]
          refine hv_call (by simp [go_sem, add_mk, hB1.cell, hB2.cell, g1, g3, g5, g7, g8, g55, g56, g57, hB22.cell, rowV, rowOk]) rfl Try.call19 (fun R hR => ?_)
          simp [go_sem, add_mk, hB1.cell, hB2.cell, g1, g3, g5, g7, g8, g55, g56, g57, hB22.cell, rowV, rowOk]
          refine (divideQ (q := T2 p) (by rw [hT2]) (hC1.ext hA0) (r5.ext hA0) (hRv.ext hA0) hCs hps hRs).mono ?_
          rintro e w26 ⟨A126, C126, B126, D126, A226, C226, B226, D226, rfl, hq26, hz26, hE26⟩
          refine ⟨_, rfl, hR _ _ ?_⟩
          clear hR R
          replace hA0 := hA0.next hE26
          replace hB1 := hB1.keep hE26
          replace hB2 := hB2.keep hE26
          replace hB22 := hB22.keep hE26
          replace h25 := h25.keep hE26
          replace hnb25 := hnb25.keep hE26
          replace hown2A := hown2A.keep hE26
          replace hnb2A := hnb2A.keep hE26
          replace hpv' := hpv'.keep hE26
          replace hpv2A := hpv2A.keep hE26
          simp [go_sem, add_mk, hB1.cell, hB2.cell, g1, g3, g5, g7, g8, g55, g56, g57, hB22.cell, rowV, rowOk]
          have hpq2 := PV.one (repP' hq26)
          refine hv_buildSlice #[.bool (decide ((T2 p).1.num < 0)), .slice A126 (lim (T2 p).1.num.natAbs).length C126, .slice B126 (lim (T2 p).1.den).length D126, .bool (decide ((T2 p).2.num < 0)), .slice A226 (lim (T2 p).2.num.natAbs).length C226, .slice B226 (lim (T2 p).2.den).length D226] (by simp [go_sem, add_mk, hB1.cell, hB2.cell, g1, g3, g5, g7, g8, g55, g56, g57, hB22.cell, rowV, rowOk]) rfl ty_slZ39 (by decide) [(0, .agg #[.bool (decide ((T2 p).1.num < 0)), .slice A126 (lim (T2 p).1.num.natAbs).length C126, .slice B126 (lim (T2 p).1.den).length D126, .bool (decide ((T2 p).2.num < 0)), .slice A226 (lim (T2 p).2.num.natAbs).length C226, .slice B226 (lim (T2 p).2.den).length D226])] (by simp [go_sem, add_mk, hB1.cell, hB2.cell, g1, g3, g5, g7, g8, g55, g56, g57, hB22.cell, rowV, rowOk]) (by kernel_rfl) (fun w27 b27 hE27 hle27 hB27 => ?_)
          have hb27_0 := Nat.le_trans hA0.size hle27
          replace hA0 := hA0.next hE27
          replace hB1 := hB1.keep hE27
          replace hB2 := hB2.keep hE27
          replace hB22 := hB22.keep hE27
          replace h25 := h25.keep hE27
          replace hnb25 := hnb25.keep hE27
          replace hown2A := hown2A.keep hE27
          replace hnb2A := hnb2A.keep hE27
          replace hpv' := hpv'.keep hE27
          replace hpv2A := hpv2A.keep hE27
          replace hpq2 := hpq2.keep hE27
          simp [go_sem, add_mk, hB1.cell, hB2.cell, g1, g3, g5, g7, g8, g55, g56, g57, hB22.cell, rowV, rowOk, hB27.cell]
          refine hv_append16 (v := u) (b := b27) (len := 1) (c := 1) hB27 (by simp [go_sem]) rfl ty_slZ39 ty_bytes41 rfl (by decide) (by simp [go_sem, add_mk, hB1.cell, hB2.cell, g1, g3, g5, g7, g8, g55, g56, g57, hB22.cell, rowV, rowOk, hB27.cell]) (by simp [go_sem]) hown2A rfl (by first | (simp [Value.oneCell']; done) | simpa using hone) (by unfold maxLen; omega) (by omega) hA0.size (by decide) (by intro u hu x e; subst e; simp at hu) (by first | (intro u hu x e; subst e; simp at hu; done) | simpa using hone16) hnb2A (fun v28 w28 h28 hg28 hat28 hnb28 => ?_)
          have hne28 := fun b e => (hown2A.lt b e).1
          replace hA0 := hA0.nextG hg28 hne28
          replace hB1 := hB1.grown hg28 (fun e => own_ne_bx hown2A hB1 (by decide) e.symm)
          replace hB2 := hB2.grown hg28 (fun e => own_ne_bx hown2A hB2 (by decide) e.symm)
          simp [go_sem, add_mk, hB1.cell, hB2.cell, g1, g3, g5, g7, g8, g55, g56, g57, rowV, rowOk]
          have hap2 := hap'.symm.next hat28 h25
          replace h25 := h25.kept hg28 hap'.symm.ne
          replace hnb25 := hnb25.grown hg28 hap'.symm.ne
          replace hpv' := hpv'.app hg28 hnb2A
          replace hpv2A := hpv2A.app hg28 hnb2A
          replace hpq2 := hpq2.app hg28 hnb2A
          have hpv2' := hpv2A.join hpq2
          refine hK _ _ ?_; clear hK K
          refine hK4 _ _ ?_
          refine W_text (by kernel_rfl) (fun K hK => ?_)
          simp [go_sem, g57, hw1]
          refine hK _ _ ⟨ps.length - (i + 1), by omega, hA0, hB1, hB2, i + 1, v25, v28, _, _, by omega, rfl, h25, h28, hnb25, hnb28, hap2.symm, by rw [htk, List.map_append]; exact hpv', by rw [htk, List.map_append]; exact hpv2', ?_, ?_, by simp [go_sem, g1], by simp [go_sem, g3], by simp [go_sem, g5], by simp [go_sem], by simp [go_sem], by simp [go_sem, g55], by simp [go_sem, g56], by simp [go_sem]⟩
          · intro q hq
            rw [htk, List.map_append] at hq
            rcases List.mem_append.1 hq with h | h
            · exact hz1 q h
            · rw [List.mem_singleton.1 h]; exact hz23
          · intro q hq
            rw [htk, List.map_append] at hq
            rcases List.mem_append.1 hq with h | h
            · exact hz2 q h
            · rw [List.mem_singleton.1 h]; exact hz26
        · have c1 : ¬ (i : Int) < ps.length := by omega
          have hie : i = ps.length := by omega
          rw [hie, List.take_length] at hpv hpv2 hz1 hz2
          rw [hie] at hown hown2
          obtain ⟨pa1, cp1, rfl, hX1⟩ := own_rows hown hpv (by rw [List.length_map])
          obtain ⟨pa2, cp2, rfl, hX2⟩ := own_rows hown2 hpv2 (by rw [List.length_map])
          obtain ⟨H, hH⟩ : ∃ H, (decide (fRt k args ps.length neg l m = 0) && fHolds k (ptOf (gath ps args)) (qv neg l m)) = H := ⟨_, rfl⟩
          obtain ⟨E, hE⟩ : ∃ E, fRt k args ps.length neg l m = E := ⟨_, rfl⟩
          have hpz3 : ∀ q ∈ ps.map (fun p => p), ptSz q 300 := fun q hq => by
            have := hpz q (by simpa using hq)
            exact ⟨Nat.le_trans this.1 (by decide), Nat.le_trans this.2 (by decide)⟩
          have hq1 : ∀ p : Nat → PT, fHolds k (fun i => T1 (p i)) (qv neg l m) = fHolds k p (qv neg l m) := fun p => by rw [hT1]; exact holds_qt k p _ _ _
          have hq2 : ∀ p : Nat → PT, fHolds k (fun i => T2 (p i)) (qv neg l m) = fHolds k p (qv neg l m) := fun p => by rw [hT2]; exact holds_gw k p _ _ _ hR00
          have hX0 : RowsR w pa 6 [.r, .r] ((ps.map (fun p => p)).map ptA) := by rw [List.map_id']; exact hX
          refine W_if (t := false) (by simp [go_sem, add_mk, rowV, rowOk, hB1.cell, hB2.cell, g1, g3, g5, g7, g8, g55, g56, g57, c1, hlt]) rfl ?_
          refine W_exit ?_
          repeat (first | refine thenG_exit ?_ | refine inBlock_other rfl ?_ | refine inBlock_same ?_)
          refine hK2 _ _ ?_
          first | refine W_rt (by kernel_rfl) (fun K hK => ?_) | refine W_text (by kernel_rfl) (fun K hK => ?_)
          simp [go_sem, add_mk, rowV, rowOk, hB1.cell, hB2.cell, g1, g3, g5, g7, g8, g55, g56, g57]
          refine hv_call (by simp [go_sem, add_mk, rowV, rowOk, hB1.cell, hB2.cell, g1, g3, g5, g7, g8, g55, g56, g57]) rfl Try.call20 (fun R hR => ?_)
          simp [go_sem, add_mk, rowV, rowOk, hB1.cell, hB2.cell, g1, g3, g5, g7, g8, g55, g56, g57]
          refine (holdsT_any H E (fun p => p) k args neg l m (fun p => rfl) ad a b pa cap c d cap2 300 ps _ hH hE (ha.ext hA0) hn (hr.ext hA0) (hs.ext hA0) (by omega) (by omega) (hX0.ext hA0) hxn hpz3 (by decide)).mono ?_
          rintro e w29 ⟨rfl, hE29⟩
          refine ⟨_, rfl, hR _ _ ?_⟩
          clear hR R
          replace hA0 := hA0.next hE29
          replace hA15 := hA15.next hE29
          replace hB1 := hB1.keep hE29
          replace hB2 := hB2.keep hE29
          simp [go_sem, add_mk, rowV, rowOk, hB1.cell, hB2.cell, g1, g3, g5, g7, g8, g55, g56, g57]
          refine hK _ _ ?_; clear hK K
          first | refine W_rt (by kernel_rfl) (fun K hK => ?_) | refine W_text (by kernel_rfl) (fun K hK => ?_)
          simp [go_sem, add_mk, rowV, rowOk, hB1.cell, hB2.cell, g1, g3, g5, g7, g8, g55, g56, g57]
          refine hv_call (by simp [go_sem, add_mk, rowV, rowOk, hB1.cell, hB2.cell, g1, g3, g5, g7, g8, g55, g56, g57]) rfl Try.call20 (fun R hR => ?_)
          simp [go_sem, add_mk, rowV, rowOk, hB1.cell, hB2.cell, g1, g3, g5, g7, g8, g55, g56, g57]
          refine (holdsT_any H E T1 k args neg l m hq1 ad a b pa1 cap c d cp1 300 ps _ hH hE (ha.ext hA0) hn (hr.ext hA0) (hs.ext hA0) (by omega) (by omega) (hX1.ext hA15) hxn hz1 (by decide)).mono ?_
          rintro e w30 ⟨rfl, hE30⟩
          refine ⟨_, rfl, hR _ _ ?_⟩
          clear hR R
          replace hA0 := hA0.next hE30
          replace hA15 := hA15.next hE30
          replace hB1 := hB1.keep hE30
          replace hB2 := hB2.keep hE30
          simp [go_sem, add_mk, rowV, rowOk, hB1.cell, hB2.cell, g1, g3, g5, g7, g8, g55, g56, g57]
          refine hK _ _ ?_; clear hK K
          refine W_seq (fun K5 hK5 => ?_)
          first | refine W_rt (by kernel_rfl) (fun K hK => ?_) | refine W_text (by kernel_rfl) (fun K hK => ?_)
          simp [go_sem, add_mk, rowV, rowOk, hB1.cell, hB2.cell, g1, g3, g5, g7, g8, g55, g56, g57]
          refine hK _ _ ?_; clear hK K
          refine W_if (t := false) (by simp [go_sem, add_mk, rowV, rowOk, hB1.cell, hB2.cell, g1, g3, g5, g7, g8, g55, g56, g57]) rfl ?_
          refine W_skip ?_
          refine hK5 _ _ ?_
          first | refine W_rt (by kernel_rfl) (fun K hK => ?_) | refine W_text (by kernel_rfl) (fun K hK => ?_)
          simp [go_sem, add_mk, rowV, rowOk, hB1.cell, hB2.cell, g1, g3, g5, g7, g8, g55, g56, g57]
          refine hv_call (by simp [go_sem, add_mk, rowV, rowOk, hB1.cell, hB2.cell, g1, g3, g5, g7, g8, g55, g56, g57]) rfl Try.call20 (fun R hR => ?_)
          simp [go_sem, add_mk, rowV, rowOk, hB1.cell, hB2.cell, g1, g3, g5, g7, g8, g55, g56, g57]
          refine (holdsT_any H E T2 k args neg l m hq2 ad a b pa2 cap c d cp2 300 ps _ hH hE (ha.ext hA0) hn (hr.ext hA0) (hs.ext hA0) (by omega) (by omega) (hX2.ext hA15) hxn hz2 (by decide)).mono ?_
          rintro e w31 ⟨rfl, hE31⟩
          refine ⟨_, rfl, hR _ _ ?_⟩
          clear hR R
          replace hA0 := hA0.next hE31
          replace hA15 := hA15.next hE31
          replace hB1 := hB1.keep hE31
          replace hB2 := hB2.keep hE31
          simp [go_sem, add_mk, rowV, rowOk, hB1.cell, hB2.cell, g1, g3, g5, g7, g8, g55, g56, g57]
          refine hK _ _ ?_; clear hK K
          first | refine W_rt (by kernel_rfl) (fun K hK => ?_) | refine W_text (by kernel_rfl) (fun K hK => ?_)
          simp [go_sem, add_mk, rowV, rowOk, hB1.cell, hB2.cell, g1, g3, g5, g7, g8, g55, g56, g57]
          refine hv_call (by simp [go_sem, add_mk, rowV, rowOk, hB1.cell, hB2.cell, g1, g3, g5, g7, g8, g55, g56, g57]) rfl Try.call17 (fun R hR => ?_)
          simp [go_sem, add_mk, rowV, rowOk, hB1.cell, hB2.cell, g1, g3, g5, g7, g8, g55, g56, g57]
          refine (awakeC _).mono ?_
          rintro e w32 ⟨rfl, hE32⟩
          refine ⟨_, rfl, hR _ _ ?_⟩
          clear hR R
          replace hA0 := hA0.next hE32
          replace hA15 := hA15.next hE32
          replace hB1 := hB1.keep hE32
          replace hB2 := hB2.keep hE32
          simp [go_sem, add_mk, rowV, rowOk, hB1.cell, hB2.cell, g1, g3, g5, g7, g8, g55, g56, g57]
          refine hK _ _ ?_; clear hK K
          refine W_ret ?_
          repeat (first | refine thenG_ret ?_ | refine inBlock_ret ?_)
          refine ⟨trivial, ?_, hA0⟩
          simp [go_sem, pack, resL]
theorem TR_move : TR 43 [.r, .r, .r, .r, .r] := TR_struct Try.underlying43 (FT_cons TR_point rfl (c := 6) (by kernel_rfl) (FT_cons TR_point rfl (c := 6) (by kernel_rfl) (FT_cons TR_rat rfl (c := 3) (by kernel_rfl) FT_nil))) (by kernel_rfl)
theorem open_Move {H : Type} {enc : TypeId × Value → H} {W : World} {r : Reach} {base : Nat} {v : Value} {d : DataW H} {ps : List MemPlace}
    (hval : Value.okWide Try.prog W r base 43 v) (hd : DataW.Trod enc Try.prog W 0 (fun _ => true) true 43 v d ps) : ∃ als, RepV W [.r, .r, .r, .r, .r] als v ∧ ∀ a ∈ als, a.rngB (Rows.uptoBulk d) := TR_open TR_move Try.underlying43 (.inl rfl) hval hd
set_option maxRecDepth 100000 in
theorem predicateSimilar_liftedU (os : Os) (started : os.Started) (H : Type) (enc : TypeId × Value → H) (F : Stop.Interp) :
    ReturnsInHanded {} Try.checked os 5 .any ((Rows.OpenSpec.upto Rows.predicateSimilarSpec).pre6 enc Try.prog Try.f5 Rows.predicateSimilarUptoRow.domain false) (((Rows.OpenSpec.upto Rows.predicateSimilarSpec).at F).post enc Try.prog Try.f5 false true false false) := by
  refine law_liftedU (C := Try.checked) (s := Rows.predicateSimilarSpec) Try.own Try.laidOut (by kernel_rfl) Try.func5 rfl 4 rfl Try.underlying4 (by kernel_rfl) enc ?_ ?_ os started F
    (OpenSpec.witness (enc := enc) (C := Try.checked) (s := Rows.OpenSpec.upto Rows.predicateSimilarSpec) (k := Rows.uptoSmall) rfl false ⟨#[], #[.agg #[.int .i64 0, .slice none 0 0, .bool false, .slice none 0 0, .slice none 0 0], .slice none 0 0, .agg #[.bool false, .slice none 0 0, .slice none 0 0, .bool false, .slice none 0 0, .slice none 0 0, .bool false, .slice none 0 0, .slice none 0 0, .bool false, .slice none 0 0, .slice none 0 0, .bool false, .slice none 0 0, .slice none 0 0]], []⟩ 8 (by kernel_rfl) (by kernel_rfl) (by kernel_rfl) (x := ([.agg [.lit (.int .i64 0), .nil, .agg [.agg [.lit (.bool false), .nil], .nil]], .nil, .agg [.agg [.agg [.agg [.lit (.bool false), .nil], .nil], .agg [.agg [.lit (.bool false), .nil], .nil]], .agg [.agg [.agg [.lit (.bool false), .nil], .nil], .agg [.agg [.lit (.bool false), .nil], .nil]], .agg [.agg [.lit (.bool false), .nil], .nil]]], [], [])) (by kernel_rfl) rfl (by kernel_rfl))
  · intro ds hl
    match ds, hl with
    | [d0, d1, d2], _ => rfl
  · intro W base args ds ps hval hA hlt hk
    have hA' : DataW.TrodAll enc Try.prog W 0 (fun _ => true) true [30, 39, 43] args.toList ds ps := hA
    have hval' : ∀ (j : Nat) t v, Try.f5.params[j]? = some t → args[j]? = some v → Value.okWide Try.prog W .any base t v := hval
    obtain ⟨v0, v1, v2, d0, d1, d2, p0, p1, p2, rfl, rfl, rfl, h0, h1, h2⟩ := Go.ChangeShapes.trodAll_three hA'
    simp only [Rows.uptoBulkAll] at hk
    have hb_f : Rows.uptoBulk d0 ≤ 1048576 := by omega
    obtain ⟨als_f, hr_f, hg_f⟩ := open_Fact (hval' 0 30 v0 rfl rfl) h0
    have hb_l : Rows.uptoBulk d1 ≤ 1048576 := by omega
    obtain ⟨als_l, hr_l, hg_l⟩ := open_Points (hval' 1 39 v1 rfl rfl) h1
    have hb_m : Rows.uptoBulk d2 ≤ 1048576 := by omega
    obtain ⟨als_m, hr_m, hg_m⟩ := open_Move (hval' 2 43 v2 rfl rfl) h2
    exact predicateSimilar_any hg_f hg_l hr_m hg_m hb_f hb_l hb_m

theorem predicateSimilarUpto_holds : Rows.PredicateSimilarUptoSaid :=
  OpenClaim.holds_of_cond 5 Try.f5 rfl rfl rfl rfl rfl rfl rfl ⟨rfl, rfl, rfl, rfl, rfl⟩ rfl rfl rfl rfl rfl (by kernel_rfl) Try.func5 (by kernel_rfl)
    (of_decide_eq_true (by kernel_rfl)) (by unfold Func.isWrapper; first | (rw [if_pos (by decide +kernel)]; kernel_rfl) | (rw [if_neg (by decide +kernel)]; exact ⟨rfl, rfl⟩))
    (fun os started H enc _ F => predicateSimilar_liftedU os started H enc F)
end Go.Proofs.Ytkampmdekonjmaa
