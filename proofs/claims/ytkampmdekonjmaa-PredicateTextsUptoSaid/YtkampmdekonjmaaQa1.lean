/- Arguments and results as numbers. -/
import Derived.Test.YtkampmdekonjmaaRa6
namespace Go.Proofs.Ytkampmdekonjmaa
open Go Go.RowKit Go.V
set_option linter.unusedSimpArgs false
set_option linter.unusedVariables false
set_option maxRecDepth 20000
/-- is it the valid representation of its number? -/
def isCan (a : Bool) (l m : List Nat) : Prop := a = decide ((qv a l m).num < 0) ∧ l = lim (qv a l m).num.natAbs ∧ m = lim (qv a l m).den
instance (a : Bool) (l m : List Nat) : Decidable (isCan a l m) := inferInstanceAs (Decidable (_ ∧ _ ∧ _))
theorem isCan_eq {a : Bool} {l m : List Nat} (h : isCan a l m) : At.r a l m = qa (qv a l m) := by
  obtain ⟨h1, h2, h3⟩ := h
  unfold qa
  rw [← h1, ← h2, ← h3]
theorem isCan_qa (x : Rat) : isCan (decide (x.num < 0)) (lim x.num.natAbs) (lim x.den) := by
  unfold isCan
  rw [qv_qa]
  exact ⟨rfl, rfl, rfl⟩
theorem nrm_of_top : ∀ {l : List Nat}, l.length ≠ 0 → ¬ lat l (l.length - 1) = 0 → nrm l = l
  | [], h, _ => absurd rfl h
  | [x], _, h => by
    have hx : ¬ x = 0 := h
    simp [nrm, hx]
  | x :: y :: l, _, h => by
    have ih := nrm_of_top (l := y :: l) (by simp) (by simpa [lat] using h)
    rw [nrm, ih, if_neg (by simp)]
theorem lim_iR {neg : Bool} {l : List Nat} (hl : Ok l) (h : iRight neg l = true) : lim (val l) = l := by
  unfold iRight at h
  split at h
  · rename_i h0
    rw [List.length_eq_zero_iff.1 h0]; exact lim_zero
  · rename_i h0
    simp only [Bool.not_eq_true', decide_eq_false_iff_not] at h
    rw [lim_val l hl]
    exact nrm_of_top (by omega) h
/-- a valid representation is the one of its number -/
theorem qRight_can' {a : Bool} {l m : List Nat} (hl : Ok l) (hm : Ok m) (h : qRight a l m = true) : isCan a l m := by
  unfold qRight at h
  simp only [Bool.and_eq_true, decide_eq_true_eq] at h
  obtain ⟨h1, h2, h3, h4⟩ := h
  have e1 := lim_iR hl h1
  have e2 := lim_iR hm h2
  have hm0 : val m ≠ 0 := fun e => by rw [e, lim_zero] at e2; subst e2; simp at h4
  have hr := qa_red (vz a l) (val m) hm0
  have ha : (vz a l).natAbs = val l := by unfold vz; exact iv_abs _ _
  rw [ha, h3, Nat.div_one, Nat.div_one, e1, e2] at hr
  have hn : decide (vz a l < 0) = a := by
    unfold vz iv
    cases a
    · simp
    · simp only [if_true]
      have : val l ≠ 0 := fun e => by
        rw [e, lim_zero] at e1
        subst e1
        unfold iRight at h1
        simp at h1
      exact decide_eq_true (by omega)
  rw [hn] at hr
  have hq : qa (qv a l m) = .r a l m := hr
  unfold qa at hq
  injection hq with q1 q2 q3
  exact ⟨q1.symm, q2.symm, q3.symm⟩
theorem can_qa {a : Bool} {l m : List Nat} (hl : Ok l) (hm : Ok m) (h : qRight a l m = true) : At.r a l m = qa (qv a l m) := isCan_eq (qRight_can' hl hm h)
theorem not_can_nil : ¬ isCan false [] [] := by
  rintro ⟨_, _, h⟩
  have h1 : 0 < (lim (qv false [] []).den).length := lim_ne (by have := (qv false [] []).den_pos; omega)
  rw [← h] at h1
  exact absurd h1 (by decide)
/-! ### A rational number, a number without a value, a bool, an int, an integer, a natural number, a string -/
inductive QA where
  | q (x : Rat)
  | z
  | b (x : Bool)
  | n (x : Int)
  | y (x : Int)
  | u (x : Nat)
  | s (x : List UInt8)
  | k (x : Int)
  | kb (x : Bool)
def QA.at : QA → At
  | .q x => qa x
  | .z => .r false [] []
  | .b x => .b x
  | .n x => .n x
  | .y x => za x
  | .u x => na x
  | .s x => .s x
  | .k x => .k x
  | .kb x => .kb x
def toQ : At → Option QA
  | .r a l m => if isCan a l m then some (.q (qv a l m)) else if a = false ∧ l = [] ∧ m = [] then some .z else none
  | .b x => some (.b x)
  | .n x => some (.n x)
  | .y a l => if a = decide (vz a l < 0) ∧ l = lim (vz a l).natAbs then some (.y (vz a l)) else none
  | .u l => if l = lim (val l) then some (.u (val l)) else none
  | .s l => some (.s l)
  | .w _ => none
  | .k x => some (.k x)
  | .kb x => some (.kb x)
theorem toQ_at (x : QA) : toQ x.at = some x := by
  cases x with
  | q x => simp only [QA.at, qa, toQ, isCan_qa, if_true, qv_qa]
  | z => simp only [QA.at, toQ, not_can_nil, if_false, and_self, if_true]
  | b x => rfl
  | n x => rfl
  | y x => simp only [QA.at, za, toQ, vz_can, and_self, if_true]
  | u x => simp only [QA.at, na, toQ, val_lim, if_true]
  | s x => rfl
  | k x => rfl
  | kb x => rfl
theorem toQ_some {a : At} {x : QA} (h : toQ a = some x) : a = x.at := by
  cases a with
  | r a l m =>
    simp only [toQ] at h
    split at h
    · rename_i hc
      injection h with h; subst h
      exact isCan_eq hc
    · split at h
      · rename_i hc
        injection h with h; subst h
        obtain ⟨rfl, rfl, rfl⟩ := hc
        rfl
      · cases h
  | b x => injection h with h; subst h; rfl
  | n x => injection h with h; subst h; rfl
  | y a l =>
    simp only [toQ] at h
    split at h
    · rename_i hc
      injection h with h; subst h
      simp only [QA.at, za]
      rw [← hc.1, ← hc.2]
    · cases h
  | u l =>
    simp only [toQ] at h
    split at h
    · rename_i hc
      injection h with h; subst h
      simp only [QA.at, na]
      rw [← hc]
    · cases h
  | s l => injection h with h; subst h; rfl
  | w z => cases h
  | k x => injection h with h; subst h; rfl
  | kb x => injection h with h; subst h; rfl
def toQs : List At → Option (List QA)
  | [] => some []
  | a :: r => match toQ a, toQs r with
    | some x, some l => some (x :: l)
    | _, _ => none
theorem toQs_map : ∀ l : List QA, toQs (l.map QA.at) = some l
  | [] => rfl
  | x :: l => by simp only [List.map_cons, toQs, toQ_at, toQs_map l]
theorem toQs_some : ∀ {als : List At} {l : List QA}, toQs als = some l → als = l.map QA.at
  | [], l, h => by injection h with h; subst h; rfl
  | a :: r, l, h => by
    simp only [toQs] at h
    split at h
    · rename_i x l' h1 h2
      injection h with h; subst h
      rw [toQ_some h1, toQs_some h2]; rfl
    · cases h
def outQ : Option (List QA) → Option (List At)
  | some r => some (r.map QA.at)
  | none => none
/-- a function of numbers, as a function of what represents them -/
def cq (g : List QA → Option (List QA)) (als : List At) : Option (List At) := match toQs als with
  | some l => outQ (g l)
  | none => none
theorem cq_map (g : List QA → Option (List QA)) (l : List QA) : cq g (l.map QA.at) = outQ (g l) := by
  unfold cq; rw [toQs_map]
theorem of_cq {g : List QA → Option (List QA)} {F : List At → Option (List At)} (h : ∀ l r, g l = some r → F (l.map QA.at) = some (r.map QA.at)) (als r : List At) (hc : cq g als = some r) : F als = some r := by
  unfold cq at hc
  split at hc
  · rename_i l hl
    rw [toQs_some hl]
    unfold outQ at hc
    split at hc
    · rename_i r' hr
      injection hc with hc
      rw [← hc]
      exact h _ _ hr
    · cases hc
  · cases hc
section
variable (g : List QA → Option (List QA)) (a b c d e f h i j k m o : QA)
theorem cq0 : cq g [] = outQ (g []) := cq_map g []
theorem cq1 : cq g [a.at] = outQ (g [a]) := cq_map g [a]
theorem cq2 : cq g [a.at, b.at] = outQ (g [a, b]) := cq_map g [a, b]
theorem cq3 : cq g [a.at, b.at, c.at] = outQ (g [a, b, c]) := cq_map g [a, b, c]
theorem cq4 : cq g [a.at, b.at, c.at, d.at] = outQ (g [a, b, c, d]) := cq_map g [a, b, c, d]
theorem cq5 : cq g [a.at, b.at, c.at, d.at, e.at] = outQ (g [a, b, c, d, e]) := cq_map g [a, b, c, d, e]
theorem cq6 : cq g [a.at, b.at, c.at, d.at, e.at, f.at] = outQ (g [a, b, c, d, e, f]) := cq_map g [a, b, c, d, e, f]
theorem cq7 : cq g [a.at, b.at, c.at, d.at, e.at, f.at, h.at] = outQ (g [a, b, c, d, e, f, h]) := cq_map g [a, b, c, d, e, f, h]
theorem cq8 : cq g [a.at, b.at, c.at, d.at, e.at, f.at, h.at, i.at] = outQ (g [a, b, c, d, e, f, h, i]) := cq_map g [a, b, c, d, e, f, h, i]
theorem cq9 : cq g [a.at, b.at, c.at, d.at, e.at, f.at, h.at, i.at, j.at] = outQ (g [a, b, c, d, e, f, h, i, j]) := cq_map g [a, b, c, d, e, f, h, i, j]
theorem cq10 : cq g [a.at, b.at, c.at, d.at, e.at, f.at, h.at, i.at, j.at, k.at] = outQ (g [a, b, c, d, e, f, h, i, j, k]) := cq_map g [a, b, c, d, e, f, h, i, j, k]
theorem cq12 (p q : QA) : cq g [a.at, b.at, c.at, d.at, e.at, f.at, h.at, i.at, j.at, k.at, p.at, q.at] = outQ (g [a, b, c, d, e, f, h, i, j, k, p, q]) := cq_map g [a, b, c, d, e, f, h, i, j, k, p, q]
theorem cq16 (p q r s t u : QA) : cq g [a.at, b.at, c.at, d.at, e.at, f.at, h.at, i.at, j.at, k.at, p.at, q.at, r.at, s.at, t.at, u.at] = outQ (g [a, b, c, d, e, f, h, i, j, k, p, q, r, s, t, u]) := cq_map g [a, b, c, d, e, f, h, i, j, k, p, q, r, s, t, u]
end
theorem outQ1 (a : QA) : outQ (some [a]) = some [a.at] := rfl
theorem outQ2 (a b : QA) : outQ (some [a, b]) = some [a.at, b.at] := rfl
theorem outQ3 (a b c : QA) : outQ (some [a, b, c]) = some [a.at, b.at, c.at] := rfl
theorem outQ4 (a b c d : QA) : outQ (some [a, b, c, d]) = some [a.at, b.at, c.at, d.at] := rfl
theorem outQ5 (a b c d e : QA) : outQ (some [a, b, c, d, e]) = some [a.at, b.at, c.at, d.at, e.at] := rfl
theorem evN_at (z : Int) : evN (some (QA.at (.n z))) = some z := rfl
theorem evB_at (z : Bool) : evB (some (QA.at (.b z))) = some z := rfl
theorem evS_at (z : List UInt8) : evS (some (QA.at (.s z))) = some z := rfl
theorem evLen_z1 : evLen 1 (some (QA.at .z)) = some 0 := rfl
theorem evLen_z2 : evLen 2 (some (QA.at .z)) = some 0 := rfl
theorem evBit_z : evBit (some (QA.at .z)) = some false := rfl
theorem at_b (x : Bool) : At.b x = QA.at (.b x) := rfl
theorem at_n (x : Int) : At.n x = QA.at (.n x) := rfl
theorem at_s (x : List UInt8) : At.s x = QA.at (.s x) := rfl
theorem at_z : At.r false [] [] = QA.at .z := rfl
theorem at_k (x : Int) : At.k x = QA.at (.k x) := rfl
theorem at_kb (x : Bool) : At.kb x = QA.at (.kb x) := rfl
/-- results, with those known that are said to be -/
def kQ1 : Sh → QA → Option QA
  | .k z, .n z' => if z = z' then some (.k z) else none
  | .kb x, .b x' => if x = x' then some (.kb x) else none
  | .k _, _ => none
  | .kb _, _ => none
  | .sl _, _ => none
  | _, a => some a
def kQ : List Sh → List QA → Option (List QA)
  | [], [] => some []
  | sh :: s, a :: l => op2 List.cons (kQ1 sh a) (kQ s l)
  | _, _ => none
theorem kQ1_at {sh : Sh} {a a' : QA} (h : kQ1 sh a = some a') : kA sh a.at = some a'.at := by
  cases sh <;> cases a <;> simp [kQ1] at h <;> first | (subst h; rfl) | (obtain ⟨rfl, rfl⟩ := h; simp [QA.at, kA])
theorem kQ_at : ∀ {shs : List Sh} {r r' : List QA}, kQ shs r = some r' → kAs shs (r.map QA.at) = some (r'.map QA.at)
  | [], [], r', h => by injection h with h; subst h; rfl
  | sh :: s, a :: l, r', h => by
    obtain ⟨a', l', g1, g2, rfl⟩ := op2_some h
    simp [kAs, kQ1_at g1, kQ_at g2, op2]
  | [], _ :: _, _, h => by cases h
  | _ :: _, [], _, h => by cases h
def kG (g : List QA → Option (List QA)) (shs : List Sh) (l : List QA) : Option (List QA) := match g l with
  | some r => kQ shs r
  | none => none
theorem ok_kq {P : Program} {f L A B : Nat} {args res res' : List (List Sh)} {g : List QA → Option (List QA)} (h : Ct.ok P f { args := args, res := res, F := cq g, L := L, A := A, B := B }) (hres : res'.map (·.map baseSh) = res) :
    Ct.ok P f { args := args, res := res', F := cq (kG g res'.flatten), L := L, A := A, B := B } := by
  refine Ct.ok.konst h hres fun als r' hF => ?_
  unfold cq at hF
  split at hF
  · rename_i l hl
    unfold outQ at hF
    split at hF
    · rename_i q hq
      injection hF with hF; subst hF
      unfold kG at hq
      split at hq
      · rename_i r hr
        refine ⟨r.map QA.at, ?_, kQ_at hq⟩
        show cq g als = _
        unfold cq
        rw [hl]
        simp only [hr]
        rfl
      · cases hq
    · cases hF
  · cases hF
/-! ### The operations -/
def g_add : List QA → Option (List QA)
  | [.q x, .q y] => some [.q (x + y)]
  | _ => none
def g_sub : List QA → Option (List QA)
  | [.q x, .q y] => some [.q (x - y)]
  | _ => none
def g_mul : List QA → Option (List QA)
  | [.q x, .q y] => some [.q (x * y)]
  | _ => none
def g_neg : List QA → Option (List QA)
  | [.q x] => some [.q (-x)]
  | _ => none
def g_div : List QA → Option (List QA)
  | [.q x, .q y] => some (if y = 0 then [.z, .n 3] else [.q (x / y), .n 0])
  | _ => none
def g_of : List QA → Option (List QA)
  | [.n z] => if inI z then some [.q (z : Rat)] else none
  | _ => none
def g_frac : List QA → Option (List QA)
  | [.n z, .n y] => if inI z ∧ inI y then some [.q ((z : Rat) / (y : Rat))] else none
  | _ => none
def qsg (x : Rat) : Int := sg x.num
def g_sign : List QA → Option (List QA)
  | [.q x] => some [.n (qsg x)]
  | _ => none
def g_cmp : List QA → Option (List QA)
  | [.q x, .q y] => some [.n (qcmpv x y)]
  | _ => none
def g_equal : List QA → Option (List QA)
  | [.q x, .q y] => some [.b (decide (x = y))]
  | _ => none
def g_right : List QA → Option (List QA)
  | [.q x] => some [.b true]
  | [.z] => some [.b false]
  | _ => none
theorem qsg_0 (x : Rat) : (qsg x = 0) = (x = 0) := sg_num x
def ct_dadd : Ct := { args := [[.r], [.r]], res := [[.r]], F := cq g_add, L := 100000000, A := 2, B := 6 }
theorem ctF_dadd : ct_dadd.F = cq g_add := rfl
theorem ok_dadd : ct_dadd.ok Try.prog 83 := Ct.ok.weaken ok_qadd (of_cq (g := g_add) fun l r h => by
  unfold g_add at h
  split at h <;> first | (injection h with h; subst h; simp only [ctF_qadd, List.map, QA.at, qa, za, na, f_qadd, qv_qa, vz_can, val_lim]; done) | cases h | skip)
def ct_dradd : Ct := { args := [[.r], [.r]], res := [[.r]], F := cq g_add, L := 100000000, A := 2, B := 20 }
theorem ctF_dradd : ct_dradd.F = cq g_add := rfl
theorem ok_dradd : ct_dradd.ok Try.prog 77 := Ct.ok.weaken ok_rqadd (of_cq (g := g_add) fun l r h => by
  unfold g_add at h
  split at h <;> first | (injection h with h; subst h; simp only [ctF_rqadd, List.map, QA.at, qa, za, na, f_qadd, qv_qa, vz_can, val_lim]; done) | cases h | skip)
def ct_dsub : Ct := { args := [[.r], [.r]], res := [[.r]], F := cq g_sub, L := 100000000, A := 2, B := 6 }
theorem ctF_dsub : ct_dsub.F = cq g_sub := rfl
theorem ok_dsub : ct_dsub.ok Try.prog 55 := Ct.ok.weaken ok_qsub (of_cq (g := g_sub) fun l r h => by
  unfold g_sub at h
  split at h <;> first | (injection h with h; subst h; simp only [ctF_qsub, List.map, QA.at, qa, za, na, f_qsub, qv_qa, vz_can, val_lim]; done) | cases h | skip)
def ct_drsub : Ct := { args := [[.r], [.r]], res := [[.r]], F := cq g_sub, L := 10000000, A := 2, B := 40 }
theorem ctF_drsub : ct_drsub.F = cq g_sub := rfl
theorem ok_drsub : ct_drsub.ok Try.prog 80 := Ct.ok.weaken ok_rqsub (of_cq (g := g_sub) fun l r h => by
  unfold g_sub at h
  split at h <;> first | (injection h with h; subst h; simp only [ctF_rqsub, List.map, QA.at, qa, za, na, f_qsub, qv_qa, vz_can, val_lim]; done) | cases h | skip)
def ct_dmul : Ct := { args := [[.r], [.r]], res := [[.r]], F := cq g_mul, L := 100000000, A := 2, B := 4 }
theorem ctF_dmul : ct_dmul.F = cq g_mul := rfl
theorem ok_dmul : ct_dmul.ok Try.prog 51 := Ct.ok.weaken ok_qmul (of_cq (g := g_mul) fun l r h => by
  unfold g_mul at h
  split at h <;> first | (injection h with h; subst h; simp only [ctF_qmul, List.map, QA.at, qa, za, na, f_qmul, qv_qa, vz_can, val_lim]; done) | cases h | skip)
def ct_drmul : Ct := { args := [[.r], [.r]], res := [[.r]], F := cq g_mul, L := 100000000, A := 2, B := 20 }
theorem ctF_drmul : ct_drmul.F = cq g_mul := rfl
theorem ok_drmul : ct_drmul.ok Try.prog 78 := Ct.ok.weaken ok_rqmul (of_cq (g := g_mul) fun l r h => by
  unfold g_mul at h
  split at h <;> first | (injection h with h; subst h; simp only [ctF_rqmul, List.map, QA.at, qa, za, na, f_qmul, qv_qa, vz_can, val_lim]; done) | cases h | skip)
def ct_drneg : Ct := { args := [[.r]], res := [[.r]], F := cq g_neg, L := 100000000, A := 1, B := 4 }
theorem ctF_drneg : ct_drneg.F = cq g_neg := rfl
theorem ok_drneg : ct_drneg.ok Try.prog 79 := Ct.ok.weaken ok_rqneg (of_cq (g := g_neg) fun l r h => by
  unfold g_neg at h
  split at h <;> first | (injection h with h; subst h; simp only [ctF_rqneg, List.map, QA.at, qa, za, na, f_qneg, qv_qa, vz_can, val_lim]; done) | cases h | skip)
def ct_dsign : Ct := { args := [[.r]], res := [[.n]], F := cq g_sign, L := 100000000, A := 0, B := 0 }
theorem ctF_dsign : ct_dsign.F = cq g_sign := rfl
theorem ok_dsign : ct_dsign.ok Try.prog 44 := Ct.ok.weaken ok_qsign (of_cq (g := g_sign) fun l r h => by
  unfold g_sign at h
  split at h <;> first | (injection h with h; subst h; simp only [ctF_qsign, List.map, QA.at, qa, za, na, f_qsign, qsg, qv_qa, vz_can, val_lim]; done) | cases h | skip)
def ct_drsign : Ct := { args := [[.r]], res := [[.n]], F := cq g_sign, L := 100000000, A := 0, B := 0 }
theorem ctF_drsign : ct_drsign.F = cq g_sign := rfl
theorem ok_drsign : ct_drsign.ok Try.prog 16 := Ct.ok.weaken ok_rqsign (of_cq (g := g_sign) fun l r h => by
  unfold g_sign at h
  split at h <;> first | (injection h with h; subst h; simp only [ctF_rqsign, List.map, QA.at, qa, za, na, f_qsign, qsg, qv_qa, vz_can, val_lim]; done) | cases h | skip)
def ct_dcmp : Ct := { args := [[.r], [.r]], res := [[.n]], F := cq g_cmp, L := 100000000, A := 0, B := 0 }
theorem ctF_dcmp : ct_dcmp.F = cq g_cmp := rfl
theorem ok_dcmp : ct_dcmp.ok Try.prog 135 := Ct.ok.weaken ok_qcmp (of_cq (g := g_cmp) fun l r h => by
  unfold g_cmp at h
  split at h <;> first | (injection h with h; subst h; simp only [ctF_qcmp, List.map, QA.at, qa, za, na, f_qcmp, qv_qa, vz_can, val_lim]; done) | cases h | skip)
def ct_dequal : Ct := { args := [[.r], [.r]], res := [[.b]], F := cq g_equal, L := 100000000, A := 0, B := 0 }
theorem ctF_dequal : ct_dequal.F = cq g_equal := rfl
theorem ok_dequal : ct_dequal.ok Try.prog 120 := Ct.ok.weaken ok_qequal (of_cq (g := g_equal) fun l r h => by
  unfold g_equal at h
  split at h <;> first | (injection h with h; subst h; simp only [ctF_qequal, List.map, QA.at, qa, za, na, f_qequal, qv_qa, vz_can, val_lim]; done) | cases h | skip)
theorem qdiv_Q (l r : List QA) (h : g_div l = some r) : f_qdiv (l.map QA.at) = some (r.map QA.at) := by
  unfold g_div at h
  split at h
  · injection h with h; subst h
    simp only [List.map, QA.at, qa, f_qdiv, qv_qa]
    split <;> rfl
  · cases h
def ct_ddiv : Ct := { args := [[.r], [.r]], res := [[.r], [.n]], F := cq g_div, L := 100000000, A := 2, B := 4 }
theorem ctF_ddiv : ct_ddiv.F = cq g_div := rfl
theorem ok_ddiv : ct_ddiv.ok Try.prog 92 := Ct.ok.weaken ok_qdiv (of_cq qdiv_Q)
theorem qof_Q (l r : List QA) (h : g_of l = some r) : f_qof (l.map QA.at) = some (r.map QA.at) := by
  unfold g_of at h
  split at h
  · split at h
    · rename_i hz
      injection h with h; subst h
      simp only [List.map, QA.at, f_qof]
      exact if_pos hz
    · cases h
  · cases h
def ct_dof : Ct := { args := [[.n]], res := [[.r]], F := cq g_of, L := 100000000, A := 0, B := 4 }
theorem ctF_dof : ct_dof.F = cq g_of := rfl
theorem ok_dof : ct_dof.ok Try.prog 52 := Ct.ok.weaken ok_qof (of_cq qof_Q)
def ct_drof : Ct := { args := [[.n]], res := [[.r]], F := cq g_of, L := 100000000, A := 1, B := 8 }
theorem ctF_drof : ct_drof.F = cq g_of := rfl
theorem ok_drof : ct_drof.ok Try.prog 39 := Ct.ok.weaken ok_rqof (of_cq qof_Q)
theorem qfrac_Q (l r : List QA) (h : g_frac l = some r) : f_qfrac (l.map QA.at) = some (r.map QA.at) := by
  unfold g_frac at h
  split at h
  · split at h
    · rename_i hz
      injection h with h; subst h
      simp only [List.map, QA.at, f_qfrac]
      rw [if_pos hz]
    · cases h
  · cases h
def ct_drfrac : Ct := { args := [[.n], [.n]], res := [[.r]], F := cq g_frac, L := 100000000, A := 0, B := 20 }
theorem ctF_drfrac : ct_drfrac.F = cq g_frac := rfl
theorem ok_drfrac : ct_drfrac.ok Try.prog 24 := Ct.ok.weaken ok_rqfrac (of_cq qfrac_Q)
def g_sqrt : List QA → Option (List QA)
  | [.q x] => some (if isSq x = true then [.q (qroot x), .b true] else [.z, .b false])
  | _ => none
theorem qsqrt_Q (l r : List QA) (h : g_sqrt l = some r) : f_qsqrt (l.map QA.at) = some (r.map QA.at) := by
  unfold g_sqrt at h
  split at h
  · injection h with h; subst h
    simp only [List.map, QA.at, qa, f_qsqrt, qv_qa]
    split <;> rfl
  · cases h
theorem qRight_nil : qRight false [] [] = false := by decide
theorem qright_Q (l r : List QA) (h : g_right l = some r) : f_qright (l.map QA.at) = some (r.map QA.at) := by
  unfold g_right at h
  split at h
  · injection h with h; subst h
    simp only [List.map, QA.at, qa, f_qright, qRight_can]
  · injection h with h; subst h
    simp only [List.map, QA.at, f_qright, qRight_nil]
  · cases h
def ct_dright : Ct := { args := [[.r]], res := [[.b]], F := cq g_right, L := 10000000000, A := 0, B := 0 }
theorem ctF_dright : ct_dright.F = cq g_right := rfl
theorem ok_dright : ct_dright.ok Try.prog 28 := Ct.ok.weaken ok_qright (of_cq qright_Q)
def ct_drright : Ct := { args := [[.r]], res := [[.b]], F := cq g_right, L := 1000000000, A := 0, B := 0 }
theorem ctF_drright : ct_drright.F = cq g_right := rfl
theorem ok_drright : ct_drright.ok Try.prog 30 := Ct.ok.weaken ok_rqright (of_cq qright_Q)
end Go.Proofs.Ytkampmdekonjmaa
