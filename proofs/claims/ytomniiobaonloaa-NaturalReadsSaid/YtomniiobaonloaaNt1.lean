/- Natural numbers, first part: lists of limbs and their values. -/
import Derived.Test.YtomniiobaonloaaVA
import Derived.Test.YtomniiobaonloaaTy
namespace Go.Proofs.Ytomniiobaonloaa
open Go.RowKit Go.V
set_option linter.unusedSimpArgs false
set_option linter.unusedVariables false

/-- the value of limbs -/
def val : List Nat → Nat
  | [] => 0
  | x :: l => x + 65536 * val l
/-- without zeros at the end -/
def nrm : List Nat → List Nat
  | [] => []
  | x :: l => if nrm l = [] ∧ x = 0 then [] else x :: nrm l
/-- the limbs of a number -/
def lim (n : Nat) : List Nat := if h : n = 0 then [] else n % 65536 :: lim (n / 65536)
termination_by n
decreasing_by omega
def Ok (l : List Nat) : Prop := ∀ x ∈ l, x < 65536
theorem Ok.nil : Ok [] := by intro x h; cases h
theorem Ok.cons {x : Nat} {l : List Nat} (hx : x < 65536) (h : Ok l) : Ok (x :: l) := by
  intro y hy
  rcases List.mem_cons.1 hy with rfl | h'
  · exact hx
  · exact h y h'
theorem Ok.tail {x : Nat} {l : List Nat} (h : Ok (x :: l)) : Ok l := fun y hy => h y (List.mem_cons_of_mem _ hy)
theorem Ok.head {x : Nat} {l : List Nat} (h : Ok (x :: l)) : x < 65536 := h x (List.mem_cons_self ..)
theorem Ok.app {a b : List Nat} (h : Ok a) (h' : Ok b) : Ok (a ++ b) := by
  intro x hx
  rcases List.mem_append.1 hx with hx | hx
  · exact h x hx
  · exact h' x hx
theorem Ok.left {a b : List Nat} (h : Ok (a ++ b)) : Ok a := fun x hx => h x (List.mem_append_left _ hx)
theorem Ok.right {a b : List Nat} (h : Ok (a ++ b)) : Ok b := fun x hx => h x (List.mem_append_right _ hx)
theorem Ok.take {l : List Nat} (h : Ok l) (n : Nat) : Ok (l.take n) := fun x hx => h x (List.mem_of_mem_take hx)
theorem Ok.drop {l : List Nat} (h : Ok l) (n : Nat) : Ok (l.drop n) := fun x hx => h x (List.mem_of_mem_drop hx)
theorem Ok.get {l : List Nat} (h : Ok l) {i x : Nat} (hx : l[i]? = some x) : x < 65536 := h x (List.mem_of_getElem? hx)
theorem Ok.getD {l : List Nat} (h : Ok l) (i : Nat) : l.getD i 0 < 65536 := by
  rw [List.getD_eq_getElem?_getD]
  cases hx : l[i]? with
  | none => simp
  | some x => exact h.get hx
theorem Ok.zeros (n : Nat) : Ok (List.replicate n 0) := by
  intro x hx
  rw [List.eq_of_mem_replicate hx]; decide
theorem lim_zero : lim 0 = [] := by rw [lim, dif_pos rfl]
theorem lim_pos (n : Nat) (h : n ≠ 0) : lim n = n % 65536 :: lim (n / 65536) := by rw [lim, dif_neg h]
theorem lim_ok (n : Nat) : Ok (lim n) := by
  induction n using Nat.strongRecOn with
  | _ n ih =>
    by_cases h : n = 0
    · subst h; rw [lim_zero]; exact Ok.nil
    · rw [lim_pos n h]; exact Ok.cons (Nat.mod_lt _ (by decide)) (ih _ (by omega))
theorem val_lim (n : Nat) : val (lim n) = n := by
  induction n using Nat.strongRecOn with
  | _ n ih =>
    by_cases h : n = 0
    · subst h; rw [lim_zero]; rfl
    · rw [lim_pos n h, val, ih _ (by omega)]; omega
theorem val_nrm (l : List Nat) : val (nrm l) = val l := by
  induction l with
  | nil => rfl
  | cons x l ih =>
    unfold nrm
    split
    · rename_i h
      rw [h.1] at ih
      simp only [val] at ih ⊢; omega
    · simp only [val, ih]
theorem nrm_nil_iff (l : List Nat) : nrm l = [] ↔ val l = 0 := by
  induction l with
  | nil => simp [nrm, val]
  | cons x l ih =>
    unfold nrm
    split
    · rename_i h
      have := ih.1 h.1
      simp [val, this, h.2]
    · rename_i h
      simp only [val]
      constructor
      · intro e; cases e
      · intro e; exfalso; apply h; exact ⟨ih.2 (by omega), by omega⟩
theorem lim_val (l : List Nat) (h : Ok l) : lim (val l) = nrm l := by
  induction l with
  | nil => simp [val, lim_zero, nrm]
  | cons x l ih =>
    have hx := h.head
    have ih' := ih h.tail
    unfold nrm
    by_cases hz : val (x :: l) = 0
    · have h1 : val l = 0 := by simp only [val] at hz; omega
      have h2 : x = 0 := by simp only [val] at hz; omega
      rw [hz, lim_zero, if_pos ⟨(nrm_nil_iff l).2 h1, h2⟩]
    · rw [lim_pos _ hz, if_neg]
      · have e1 : val (x :: l) % 65536 = x := by simp only [val]; omega
        have e2 : val (x :: l) / 65536 = val l := by simp only [val]; omega
        rw [e1, e2, ih']
      · rintro ⟨h1, h2⟩
        apply hz
        have := (nrm_nil_iff l).1 h1
        simp only [val]; omega
theorem nrm_ok (l : List Nat) (h : Ok l) : Ok (nrm l) := by rw [← lim_val l h]; exact lim_ok _
theorem nrm_lim (n : Nat) : nrm (lim n) = lim n := by rw [← lim_val _ (lim_ok n), val_lim]
theorem val_app (a b : List Nat) : val (a ++ b) = val a + 65536 ^ a.length * val b := by
  induction a with
  | nil => simp [val]
  | cons x a ih =>
    simp only [List.cons_append, val, ih, List.length_cons, Nat.pow_succ]
    rw [Nat.mul_add, ← Nat.mul_assoc, ← Nat.add_assoc, Nat.mul_comm 65536 (65536 ^ a.length)]
theorem val_lt (l : List Nat) (h : Ok l) : val l < 65536 ^ l.length := by
  induction l with
  | nil => simp [val]
  | cons x l ih =>
    have := ih h.tail
    have hx := h.head
    simp only [val, List.length_cons, Nat.pow_succ]
    omega
theorem val_zeros (n : Nat) : val (List.replicate n 0) = 0 := by
  induction n with
  | zero => rfl
  | succ n ih => rw [List.replicate_succ, val, ih]
theorem nrm_snoc0 (l : List Nat) : nrm (l ++ [0]) = nrm l := by
  induction l with
  | nil => rfl
  | cons x l ih => rw [List.cons_append, nrm, nrm, ih]
theorem nrm_snoc (l : List Nat) (x : Nat) (h : x ≠ 0) : nrm (l ++ [x]) = l ++ [x] := by
  induction l with
  | nil => simp [nrm, h]
  | cons y l ih =>
    rw [List.cons_append, nrm, ih, if_neg (by simp)]
theorem nrm_pre (l : List Nat) : nrm l = l.take (nrm l).length := by
  induction l with
  | nil => rfl
  | cons x l ih =>
    unfold nrm
    split
    · simp
    · rw [List.length_cons, List.take_succ_cons, ← ih]
theorem nrm_len (l : List Nat) : (nrm l).length ≤ l.length := by
  have := congrArg List.length (nrm_pre l)
  rw [List.length_take] at this; omega
theorem nrm_top (l : List Nat) (k : Nat) (h : (nrm l).length = k + 1) : (nrm l).getD k 0 ≠ 0 := by
  induction l generalizing k with
  | nil => simp [nrm] at h
  | cons x l ih =>
    unfold nrm at h ⊢
    by_cases hz : nrm l = [] ∧ x = 0
    · rw [if_pos hz] at h; simp at h
    · rw [if_neg hz] at h ⊢
      cases k with
      | zero =>
        simp only [List.length_cons] at h
        have : nrm l = [] := List.length_eq_zero_iff.1 (by omega)
        simp only [List.getD_cons_zero]
        intro e; exact hz ⟨this, e⟩
      | succ k =>
        rw [List.getD_cons_succ]
        exact ih k (by simpa using h)
theorem val_len (l : List Nat) (h : Ok l) (k : Nat) (hk : (nrm l).length = k + 1) : 65536 ^ k ≤ val l := by
  have h1 := nrm_top l k hk
  rw [← val_nrm l]
  have e : nrm l = (nrm l).take k ++ [(nrm l).getD k 0] := by
    have h2 : k < (nrm l).length := by omega
    conv => lhs; rw [← List.take_append_drop k (nrm l)]
    congr 1
    rw [List.drop_eq_getElem_cons h2, List.getD_eq_getElem?_getD, List.getElem?_eq_getElem h2, Option.getD_some]
    rw [List.drop_eq_nil_of_le (by omega)]
  rw [e, val_app, List.length_take]
  have : min k (nrm l).length = k := by omega
  rw [this]
  simp only [val, Nat.mul_zero, Nat.add_zero]
  have : 65536 ^ k * 1 ≤ 65536 ^ k * (nrm l).getD k 0 := Nat.mul_le_mul_left _ (by omega)
  omega

/-- the cells of limbs -/
def lmC (l : List Nat) : List Value := l.map (fun (x : Nat) => .int .u16 x)
theorem lmC_len (l : List Nat) : (lmC l).length = l.length := by simp [lmC]
theorem lmC_get (l : List Nat) (i : Nat) : (lmC l)[i]? = (l[i]?).map (fun (x : Nat) => Value.int .u16 x) := by simp [lmC]
theorem lmC_app (a b : List Nat) : lmC (a ++ b) = lmC a ++ lmC b := by simp [lmC]
theorem lmC_take (a : List Nat) (n : Nat) : lmC (a.take n) = (lmC a).take n := by simp [lmC, List.map_take]
theorem lmC_drop (a : List Nat) (n : Nat) : lmC (a.drop n) = (lmC a).drop n := by simp [lmC, List.map_drop]
theorem lmC_one (l : List Nat) : ∀ v ∈ lmC l, v.oneCell' = true := by
  intro v hv
  simp only [lmC, List.mem_map] at hv
  obtain ⟨x, _, rfl⟩ := hv
  rfl
/-- a slice of limbs that can be read -/
structure RD (w : World) (a : Option Addr) (c : Nat) (l : List Nat) : Prop where
  sl : SL w a (lmC l)
  ok : Ok l
  cap : l.length ≤ c
theorem RD.ext {w w' : World} {a : Option Addr} {c : Nat} {l : List Nat} (h : RD w a c l) (hb : Below w.heap.size w w') : RD w' a c l := ⟨h.sl.ext hb, h.ok, h.cap⟩
theorem RD.take {w : World} {a : Option Addr} {c : Nat} {l : List Nat} (h : RD w a c l) (n : Nat) : RD w a c (l.take n) := ⟨by rw [lmC_take]; exact h.sl.take n, h.ok.take n, by have := h.cap; rw [List.length_take]; omega⟩
theorem RD.nrm {w : World} {a : Option Addr} {c : Nat} {l : List Nat} (h : RD w a c l) : RD w a c (nrm l) := by rw [nrm_pre]; exact h.take _
theorem RD.nil (w : World) (a : Option Addr) (c : Nat) : RD w a c [] := ⟨SL.nil _ _, Ok.nil, Nat.zero_le _⟩
theorem RD.get {w : World} {a : Option Addr} {c : Nat} {l : List Nat} (h : RD w a c l) {i : Nat} (hi : i < l.length) : w.cell? ((a.getD default).add i) = some (.int .u16 (l.getD i 0)) ∧ a.isSome = true := by
  have h1 := h.sl.get (j := i) (by rw [lmC_len]; exact hi)
  have e : (lmC l)[i]'(by rw [lmC_len]; exact hi) = .int .u16 (l.getD i 0) := by
    simp [lmC, List.getD_eq_getElem?_getD, List.getElem?_eq_getElem hi]
  rw [e] at h1; exact h1
theorem RD.sto {w w' : World} {a : Option Addr} {c : Nat} {l : List Nat} {b : Nat} (h : RD w a c l) (hs : Sto w w' b) (hne : ∀ ad, a = some ad → l ≠ [] → ad.block ≠ b) : RD w' a c l :=
  ⟨h.sl.sto hs (fun ad ha hn => hne ad ha (by intro e; subst e; exact hn rfl)), h.ok, h.cap⟩
theorem RD.below {w : World} {a : Option Addr} {c : Nat} {l : List Nat} (h : RD w a c l) {b : Nat} (hb : w.heap.size ≤ b) : ∀ ad, a = some ad → l ≠ [] → ad.block ≠ b := by
  intro ad ha hn
  obtain ⟨b', off, e, hlt⟩ := h.sl.lt (by intro e; exact hn (List.map_eq_nil_iff.1 e))
  rw [ha] at e; injection e with e; subst e
  show b' ≠ b
  omega
end Go.Proofs.Ytomniiobaonloaa
