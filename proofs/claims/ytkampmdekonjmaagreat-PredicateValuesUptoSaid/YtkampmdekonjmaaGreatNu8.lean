/- Natural numbers: the specification's Read. -/
import Derived.Test.YtkampmdekonjmaaGreatNtV
import Derived.Test.YtkampmdekonjmaaGreatVE
import Derived.Test.YtkampmdekonjmaaGreatTy
import Derived.Shelf.Strings.Builder1
import Derived.Laws.BytesString
import Derived.Test.YtkampmdekonjmaaGreatNtH
namespace Go.Proofs.YtkampmdekonjmaaGreat
open Go.RowKit Go.V
set_option linter.unusedSimpArgs false
set_option linter.unusedVariables false
set_option maxRecDepth 20000

/-- the digits of a number, none for 0 -/
def dgz (n : Nat) : List UInt8 := if h : n = 0 then [] else dgz (n / 10) ++ [UInt8.ofNat (48 + n % 10)]
termination_by n
decreasing_by omega
def txt (n : Nat) : List UInt8 := if n = 0 then [48] else dgz n
theorem dgz_0 : dgz 0 = [] := by rw [dgz, dif_pos rfl]
theorem dgz_s (n : Nat) (h : n ≠ 0) : dgz n = dgz (n / 10) ++ [UInt8.ofNat (48 + n % 10)] := by rw [dgz, dif_neg h]
theorem dgz_len : ∀ (k n : Nat), n < 2 ^ k → (dgz n).length ≤ k
  | 0, n, h => by
    have : n = 0 := by simpa using h
    subst this; rw [dgz_0]; simp
  | k + 1, n, h => by
    by_cases h0 : n = 0
    · subst h0; rw [dgz_0]; simp
    · rw [dgz_s n h0, List.length_append]
      have := dgz_len k (n / 10) (by rw [Nat.pow_succ] at h; omega)
      simp; omega
theorem dgz_nil {n : Nat} : dgz n = [] ↔ n = 0 := by
  constructor
  · intro h
    rcases Nat.eq_zero_or_pos n with h0 | h0
    · exact h0
    · rw [dgz_s n (by omega)] at h; simp at h
  · rintro rfl; exact dgz_0
theorem u8_48 (x : Nat) (h : x < 10) : ((UInt8.ofNat (48 + x)).toNat : Int) = ((48 + x : Nat) : Int) := by
  have : (UInt8.ofNat (48 + x)).toNat = (48 + x) % 256 := by simp
  rw [this, Nat.mod_eq_of_lt (by omega)]
/-- one digit of a group of four -/
theorem dgz_step (V prev gr m : Nat) (hV : V = prev * 10000 + gr) (hg : gr < 10000) (hm : m < 4) :
    (V / 10 ^ m = 0 ↔ V / 10 ^ (m + 1) = 0 ∧ ¬ 10 ^ m ≤ gr) ∧ (V / 10 ^ m) % 10 = gr / 10 ^ m % 10 ∧ V / 10 ^ m / 10 = V / 10 ^ (m + 1) := by
  have e0 : V / 10 ^ m / 10 = V / 10 ^ (m + 1) := by rw [Nat.div_div_eq_div_mul, Nat.pow_succ]
  refine ⟨?_, ?_, e0⟩
  · match m, hm with
    | 0, _ => omega
    | 1, _ => omega
    | 2, _ => omega
    | 3, _ => omega
  · match m, hm with
    | 0, _ => omega
    | 1, _ => omega
    | 2, _ => omega
    | 3, _ => omega
theorem grp_val (A i : Nat) : A / 10000 ^ i = A / 10000 ^ (i + 1) * 10000 + A / 10000 ^ i % 10000 := by
  rw [Nat.pow_succ, ← Nat.div_div_eq_div_mul, Nat.mul_comm, Nat.div_add_mod]
theorem grp_len {A k e : Nat} (h : A / 10000 ^ k ≠ 0) (hA : A < 2 ^ e) : k < e := by
  have h1 : 10000 ^ k ≤ A := by
    refine Nat.le_of_not_lt (fun hlt => h (Nat.div_eq_of_lt hlt))
  have h2 : 2 ^ k ≤ 10000 ^ k := Nat.pow_le_pow_left (by decide) k
  exact (Nat.pow_lt_pow_iff_right (a := 2) (by decide)).1 (by omega)
end Go.Proofs.YtkampmdekonjmaaGreat
namespace Go.Proofs.YtkampmdekonjmaaGreat
open Go.RowKit Go.V Go.Shelf
set_option linter.unusedSimpArgs false
set_option linter.unusedVariables false
set_option maxRecDepth 20000

theorem own_sto2 {w w' : World} {B e size n b : Nat} {v : Value} {xs : List Value} (h : w.ownsRow B e size v n xs) (hs : Sto w w' b) (hne : v.ownBlock ≠ some b) : w'.ownsRow B e size v n xs := by
  refine ⟨h.1, ?_⟩
  rcases h.2 with hn | ⟨g, cap, cur, hv, hg, hh, r⟩
  · exact .inl hn
  · refine .inr ⟨g, cap, cur, hv, hg, ?_, r⟩
    have : g ≠ b := fun e => hne (by rw [hv, e]; rfl)
    rw [hs.block g this]; exact hh
theorem own_keep' {w w' : World} {B e size n : Nat} {v : Value} {xs : List Value} (h : w.ownsRow B e size v n xs) (hb : Below w.heap.size w w') : w'.ownsRow B e size v n xs := by
  refine ⟨h.1, ?_⟩
  rcases h.2 with hn | ⟨g, cap, cur, hv, hg, hh, r⟩
  · exact .inl hn
  · exact .inr ⟨g, cap, cur, hv, hg, by rw [hb.block g (Array.getElem?_eq_some_iff.1 hh).1]; exact hh, r⟩
theorem own_slice {w : World} {B e size n : Nat} {v : Value} {xs : List Value} (h : w.ownsRow B e size v n xs) : ∃ a c, v = .slice a n c := by
  rcases h.2 with ⟨h1, h2⟩ | ⟨g, cap, cur, hv, _⟩
  · exact ⟨none, 0, by rw [h1, h2]⟩
  · exact ⟨_, _, hv⟩
theorem own_cells {w : World} {B e size n : Nat} {v : Value} {xs : List Value} (h : w.ownsRow B e size v n xs) : v.cells = #[v] := by
  obtain ⟨a, c, rfl⟩ := own_slice h; rfl
theorem own_one {w : World} {B e size n : Nat} {v : Value} {xs : List Value} (h : w.ownsRow B e size v n xs) : v.oneCell' = true := by
  obtain ⟨a, c, rfl⟩ := own_slice h; rfl
theorem byteCell_one (l : List UInt8) : ∀ u ∈ Lib.byteCells l, u.oneCell' = true := by
  intro u hu
  simp only [Lib.byteCells, List.mem_map] at hu
  obtain ⟨x, _, rfl⟩ := hu
  rfl
end Go.Proofs.YtkampmdekonjmaaGreat
namespace Go.Proofs.YtkampmdekonjmaaGreat
open Go.RowKit Go.V
set_option linter.unusedSimpArgs false
set_option linter.unusedVariables false
set_option maxRecDepth 20000

/-- a function that returns this text -/
def RetS (w : World) (l : List UInt8) (e : Ending) (w' : World) : Prop := e = .returned (.string ⟨l.toArray⟩) ∧ Below w.heap.size w w'
theorem lat_snoc (GL : List Nat) (x i : Nat) : lat (GL ++ [x]) i = if i < GL.length then lat GL i else if i = GL.length then x else 0 := by
  unfold lat
  rw [List.getD_eq_getElem?_getD, List.getD_eq_getElem?_getD]
  by_cases h : i < GL.length
  · rw [if_pos h, List.getElem?_append_left h]
  · rw [if_neg h, List.getElem?_append_right (by omega)]
    by_cases h2 : i = GL.length
    · subst h2; simp
    · rw [if_neg h2, List.getElem?_eq_none (by simp; omega)]; rfl

theorem RD.grown2 {w w' : World} {a : Option Addr} {c : Nat} {l : List Nat} {row : Option Nat} (h : RD w a c l) (hg : w.grownBy w' row) (hne : ∀ ad, a = some ad → row ≠ some ad.block) : RD w' a c l := by
  refine ⟨?_, h.ok, h.cap⟩
  rcases h.sl with e | ⟨b', off, e, hc⟩
  · exact .inl e
  · by_cases hl : l = []
    · exact .inl (by rw [hl]; rfl)
    · refine .inr ⟨b', off, e, fun j v hv => ?_⟩
      have h1 := hc j v hv
      have h2 := World.block_lt_of_cell? w _ h1
      exact (World.cell?_of_block (w := w) (a := ⟨b', off + j, none⟩) (hg.block b' h2 (fun e' => hne _ e e'.symm))).trans h1

end Go.Proofs.YtkampmdekonjmaaGreat
namespace Go.Proofs.YtkampmdekonjmaaGreat
open Go.RowKit Go.V
set_option linter.unusedSimpArgs false
set_option linter.unusedVariables false
set_option maxRecDepth 20000

/-- these bytes as a string -/
def sB (l : List UInt8) : ByteArray := ⟨l.toArray⟩
theorem sB_size (l : List UInt8) : (sB l).size = l.length := by show (l.toArray).size = _; simp
theorem sB_app (a b : List UInt8) : sB a ++ sB b = sB (a ++ b) := by
  apply ByteArray.ext
  simp [sB]
theorem b2s_one {P : Program} (w : World) (b : Nat) (n : Int) (h : w.cell? ⟨b, 0, none⟩ = some (.int .u8 n)) : (Conv.bytesToString (.slice (some ⟨b, 0, none⟩) 1 1)).run P w = .ok (.string (sB [UInt8.ofNat n.toNat])) w := by
  have hl : (loadCells ⟨b, 0, none⟩ 1).run P w = .ok ([n].map (Value.int .u8)).toArray w := by
    have := tame_run P _ w _ (tame_loadCellsFrom (P := P) (w := w) (a := ⟨b, 0, none⟩) 1 0 #[] ⟨by rw [Addr.add_zero']; rw [h]; rfl, trivial⟩)
    simp only [rowV, cellV, Addr.add_zero', h] at this
    exact this
  exact run_bytesToString w _ 1 1 [n] hl

end Go.Proofs.YtkampmdekonjmaaGreat
namespace Go.Proofs.YtkampmdekonjmaaGreat
open Go.RowKit Go.V
set_option linter.unusedSimpArgs false
set_option linter.unusedVariables false
set_option maxRecDepth 20000

/-- the integer square root -/
def isq : Nat → Nat
  | 0 => 0
  | n + 1 => if (isq n + 1) * (isq n + 1) ≤ n + 1 then isq n + 1 else isq n
theorem isq_spec (n : Nat) : isq n * isq n ≤ n ∧ n < (isq n + 1) * (isq n + 1) := by
  induction n with
  | zero => simp [isq]
  | succ n ih =>
    unfold isq
    split
    · rename_i h
      refine ⟨h, ?_⟩
      have : (isq n + 1 + 1) * (isq n + 1 + 1) = (isq n + 1) * (isq n + 1) + 2 * (isq n + 1) + 1 := by
        rw [Nat.add_mul, Nat.mul_add, Nat.one_mul, Nat.mul_one]; omega
      omega
    · omega
theorem sq_lt {a b : Nat} (h : a * a < b * b) : a < b := by
  rcases Nat.lt_or_ge a b with h' | h'
  · exact h'
  · exact absurd (Nat.mul_le_mul h' h') (by omega)
theorem isq_uniq {n r : Nat} (h1 : r * r ≤ n) (h2 : n < (r + 1) * (r + 1)) : r = isq n := by
  obtain ⟨a, b⟩ := isq_spec n
  have c := sq_lt (Nat.lt_of_le_of_lt h1 b)
  have d := sq_lt (Nat.lt_of_le_of_lt a h2)
  omega
/-- a step of the approximation stays above the root -/
theorem newton_ge (a x : Nat) (hx : isq a ≤ x) (hp : 0 < x) : isq a ≤ (x + a / x) / 2 := by
  obtain ⟨h1, _⟩ := isq_spec a
  refine Nat.le_of_not_lt (fun hlt => ?_)
  generalize isq a = s at *
  have h3 := Nat.lt_mul_div_succ a hp
  generalize a / x = q at *
  have h2 : x + q ≤ 2 * s - 1 := by omega
  have h4 : x * (q + 1) ≤ x * (2 * s - x) := Nat.mul_le_mul_left _ (by omega)
  obtain ⟨d, hd⟩ : ∃ d, x = s + d := ⟨x - s, by omega⟩
  obtain ⟨e, he⟩ : ∃ e, s = e + d := ⟨s - d, by omega⟩
  have e1 : 2 * s - x = e := by omega
  rw [e1] at h4
  have e2 : x = e + 2 * d := by omega
  have h5 : (e + 2 * d) * e ≤ (e + d) * (e + d) := by
    rw [Nat.add_mul, Nat.add_mul, Nat.mul_add, Nat.mul_add, Nat.mul_comm d e]
    have : 2 * d * e = e * d + e * d := by rw [Nat.mul_comm e d, Nat.mul_assoc]; omega
    omega
  rw [← e2, ← he] at h5
  omega
/-- where the step does not go down, the root is there -/
theorem newton_end (a x : Nat) (hx : isq a ≤ x) (hp : 0 < x) (h : x ≤ (x + a / x) / 2) : x = isq a := by
  obtain ⟨_, h2⟩ := isq_spec a
  refine Nat.le_antisymm (Nat.le_of_not_lt (fun hlt => ?_)) hx
  have h3 : (isq a + 1) * (isq a + 1) ≤ x * x := Nat.mul_le_mul hlt hlt
  have h4 : a / x < x := by rw [Nat.div_lt_iff_lt_mul hp]; omega
  omega
theorem newton_start (a : Nat) : isq a < 2 ^ ((blen a + 1) / 2) := by
  obtain ⟨h1, _⟩ := isq_spec a
  refine sq_lt (Nat.lt_of_le_of_lt h1 ?_)
  rw [← Nat.pow_add]
  exact Nat.lt_of_lt_of_le (lt_blen a) (Nat.pow_le_pow_right (by decide) (by omega))
/-- what a square root returns -/
def SqPost (w : World) (A : Nat) (e : Ending) (w' : World) : Prop := ∃ a c a' c', e = .returned (.tuple #[.slice a (lim (isq A)).length c, .slice a' (lim (A - isq A * isq A)).length c']) ∧ RD w' a c (lim (isq A)) ∧ RD w' a' c' (lim (A - isq A * isq A)) ∧ Below w.heap.size w w'
theorem lim_len2 (e k : Nat) (h : e < 16 * k) : (lim (2 ^ e)).length ≤ k := lim_len k _ (by rw [pow_16]; exact Nat.pow_lt_pow_right (by decide) h)

theorem lim_add_len {x y k : Nat} (hx : (lim x).length ≤ k) (hy : (lim y).length ≤ k) : (lim (x + y)).length ≤ k + 1 := by
  refine lim_len _ _ ?_
  have h1 := val_lt _ (lim_ok x)
  have h2 := val_lt _ (lim_ok y)
  rw [val_lim] at h1 h2
  have h3 : 65536 ^ (lim x).length ≤ 65536 ^ k := Nat.pow_le_pow_right (by decide) hx
  have h4 : 65536 ^ (lim y).length ≤ 65536 ^ k := Nat.pow_le_pow_right (by decide) hy
  rw [Nat.pow_succ]
  omega

end Go.Proofs.YtkampmdekonjmaaGreat
namespace Go.Proofs.YtkampmdekonjmaaGreat
open Go.RowKit Go.V
set_option linter.unusedSimpArgs false
set_option linter.unusedVariables false
set_option maxRecDepth 20000

theorem RD.drop {w : World} {a : Option Addr} {c : Nat} {l : List Nat} (h : RD w a c l) {k : Nat} (hk : k < l.length) : RD w (a.map (·.add k)) (c - k) (l.drop k) := by
  refine ⟨?_, h.ok.drop k, by have := h.cap; rw [List.length_drop]; omega⟩
  have := h.sl.sub k l.length
  rw [List.take_of_length_le (by rw [List.length_drop, lmC_len]; omega), ← lmC_drop] at this
  exact this
theorem shift_left_val (A k s n : Nat) (hn : n = 16 * k + s) : val (List.replicate k 0 ++ lim (A * 2 ^ s)) = A * 2 ^ n := by
  rw [val_app, val_zeros, val_lim, List.length_replicate, Nat.zero_add, pow_16, hn, Nat.pow_add, Nat.mul_left_comm]

end Go.Proofs.YtkampmdekonjmaaGreat
namespace Go.Proofs.YtkampmdekonjmaaGreat
open Go.RowKit Go.V
set_option linter.unusedSimpArgs false
set_option linter.unusedVariables false
set_option maxRecDepth 20000

theorem shiftV_one (j : Nat) (hj : j ≤ 1048576) : shiftV 1 (j : Int) = 2 ^ j := by
  unfold shiftV
  rw [if_neg (by omega), if_neg (by omega), Int.toNat_natCast, Nat.one_mul]
theorem sq_self_le {r A : Nat} (h : r * r ≤ A) : r ≤ A := by
  rcases r with _ | r
  · omega
  · exact Nat.le_trans (Nat.le_mul_of_pos_left _ (by omega)) h
theorem sqrt_first (A t : Nat) (ht : t = (blen A - 1) / 2 + 1) : A < (0 + 2 ^ t) * (0 + 2 ^ t) := by
  rw [Nat.zero_add, ← Nat.pow_add]
  exact Nat.lt_of_lt_of_le (lt_blen A) (Nat.pow_le_pow_right (by decide) (by omega))
theorem lim_mul_len {x y k m : Nat} (hx : (lim x).length ≤ k) (hy : (lim y).length ≤ m) : (lim (x * y)).length ≤ k + m := by
  refine lim_len _ _ ?_
  have h1 := val_lt _ (lim_ok x)
  have h2 := val_lt _ (lim_ok y)
  rw [val_lim] at h1 h2
  have h3 : 65536 ^ (lim x).length ≤ 65536 ^ k := Nat.pow_le_pow_right (by decide) hx
  have h4 : 65536 ^ (lim y).length ≤ 65536 ^ m := Nat.pow_le_pow_right (by decide) hy
  rw [Nat.pow_add]
  exact Nat.mul_lt_mul'' (by omega) (by omega)
theorem sq_expand (r p : Nat) : r + 2 * p = r + p + p := by omega

end Go.Proofs.YtkampmdekonjmaaGreat
namespace Go.Proofs.YtkampmdekonjmaaGreat
open Go.RowKit Go.V
set_option linter.unusedSimpArgs false
set_option linter.unusedVariables false
set_option maxRecDepth 20000

def isD (c : UInt8) : Bool := decide (48 ≤ c.toNat) && decide (c.toNat ≤ 57)
/-- the number that digits say -/
def dv (l : List UInt8) : Nat := l.foldl (fun n c => n * 10 + (c.toNat - 48)) 0
def rdBad (l : List UInt8) : Bool := (decide (1 < l.length) && decide (l.getD 0 0 = 48)) || l.any (fun c => !isD c)
/-- what Read answers: the error, the limbs -/
def rdE (l : List UInt8) : Int := if l = [] then 10 else if 1000 < l.length then 4 else if rdBad l = true then 9 else 0
def rdL (l : List UInt8) : List Nat := if rdE l = 0 then lim (dv l) else []
def ReadPost (w : World) (l : List UInt8) (e : Ending) (w' : World) : Prop := ∃ a c, e = .returned (.tuple #[.slice a (rdL l).length c, .int .i64 (rdE l)]) ∧ RD w' a c (rdL l) ∧ Below w.heap.size w w'
theorem readErr {w w' : World} {l : List UInt8} {e : Ending} {n : Int} (hn : rdE l = n) (h0 : n ≠ 0) (he : e = .returned (.tuple #[.slice none 0 0, .int .i64 n])) (hE : Below w.heap.size w w') : ReadPost w l e w' := by
  have hL : rdL l = [] := by unfold rdL; rw [if_neg (by rw [hn]; exact h0)]
  refine ⟨none, 0, ?_, by rw [hL]; exact RD.nil _ _ _, hE⟩
  rw [hL, hn, he]; rfl
def ch (l : List UInt8) (k : Nat) : UInt8 := l.getD k 0
theorem dv_take (l : List UInt8) (i : Nat) (h : i < l.length) : dv (l.take (i + 1)) = dv (l.take i) * 10 + ((l.getD i 0).toNat - 48) := by
  unfold dv
  rw [List.take_succ_eq_append_getElem h, List.foldl_append]
  simp [List.getD_eq_getElem?_getD, List.getElem?_eq_getElem h]
theorem dv_lt (l : List UInt8) : ∀ i, i ≤ l.length → (∀ k, k < i → isD (l.getD k 0) = true) → dv (l.take i) < 10 ^ i
  | 0, _, _ => by simp [dv]
  | i + 1, h, hd => by
    have ih := dv_lt l i (by omega) (fun k hk => hd k (by omega))
    have hi := hd i (by omega)
    unfold isD at hi
    simp only [Bool.and_eq_true, decide_eq_true_eq] at hi
    rw [dv_take l i (by omega), Nat.pow_succ]
    omega
theorem dv_len (l : List UInt8) (i : Nat) (h : i ≤ l.length) (hd : ∀ k, k < i → isD (l.getD k 0) = true) : (lim (dv (l.take i))).length ≤ i := by
  refine lim_len _ _ (Nat.lt_of_lt_of_le (dv_lt l i h hd) (Nat.pow_le_pow_left (by decide) i))
theorem bad_at {l : List UInt8} {i : Nat} (h : i < l.length) (hb : isD (l.getD i 0) = false) : rdBad l = true := by
  unfold rdBad
  have : l.any (fun c => !isD c) = true := by
    rw [List.any_eq_true]
    refine ⟨l.getD i 0, ?_, by rw [hb]; rfl⟩
    rw [List.getD_eq_getElem?_getD, List.getElem?_eq_getElem h, Option.getD_some]
    exact List.getElem_mem h
  rw [this, Bool.or_true]
theorem bad_none {l : List UInt8} (h0 : ¬ (1 < l.length ∧ l.getD 0 0 = 48)) (hd : ∀ k, k < l.length → isD (l.getD k 0) = true) : rdBad l = false := by
  unfold rdBad
  have h1 : l.any (fun c => !isD c) = false := by
    rw [List.any_eq_false]
    intro c hc
    obtain ⟨k, hk, rfl⟩ := List.mem_iff_getElem.1 hc
    have := hd k hk
    rw [List.getD_eq_getElem?_getD, List.getElem?_eq_getElem hk, Option.getD_some] at this
    simp [this]
  rw [h1, Bool.or_false, Bool.and_eq_false_iff]
  by_cases h : 1 < l.length
  · right; exact decide_eq_false (fun h' => h0 ⟨h, h'⟩)
  · left; exact decide_eq_false h
theorem own_block2 {w : World} {base n : Nat} {e : TypeId} {v : Value} {xs : List Value} (h : w.ownsRow base e 1 v n xs) (hn : 0 < n) : ∃ g cap Z, v = .slice (some ⟨g, 0, none⟩) n cap ∧ base ≤ g ∧ Bx w g (xs ++ Z).toArray e ∧ cap ≤ maxLen ∧ n + Z.length = cap := by
  have hl := h.1
  rcases h.2 with ⟨_, h2⟩ | ⟨g, cap, cur, hv, hb, hg, hle, hm, hsz, ht⟩
  · omega
  · rw [Nat.mul_one] at ht hsz
    refine ⟨g, cap, cur.toList.drop n, hv, hb, ⟨?_⟩, hm, ?_⟩
    · rw [hg, ← ht, List.take_append_drop]
    · rw [List.length_drop]; simp [hsz]; omega
theorem own_of_blk {w : World} {base n g cap : Nat} {e : TypeId} {xs Z : List Value} (hB : Bx w g (xs ++ Z).toArray e) (hl : xs.length = n) (hc : n + Z.length = cap) (hm : cap ≤ maxLen) (hb : base ≤ g) : w.ownsRow base e 1 (.slice (some ⟨g, 0, none⟩) n cap) n xs := by
  refine ⟨by rw [Nat.mul_one]; exact hl, .inr ⟨g, cap, _, rfl, hb, hB.heap, by omega, hm, by simp; omega, ?_⟩⟩
  rw [Nat.mul_one, ← hl]
  simp
theorem read_step (ws O : List Nat) (k dg cy s : Nat) (hw : ws.length = k) (h : val ws + 65536 ^ k * cy = 10 * val (O.take k) + dg) (hs : s = cy + 10 * lat O k) : val (ws ++ [s % 65536]) + 65536 ^ (k + 1) * (s / 65536) = 10 * val (O.take (k + 1)) + dg := by
  rw [val_app, val_take' O k, hw, Nat.pow_succ]
  simp only [val, Nat.mul_zero, Nat.add_zero]
  generalize 65536 ^ k = P at *
  have e1 : P * (s % 65536) + P * 65536 * (s / 65536) = P * s := by rw [Nat.mul_assoc, ← Nat.mul_add, Nat.mod_add_div]
  have e2 : P * s = P * cy + P * (10 * lat O k) := by rw [hs, Nat.mul_add]
  have e3 : 10 * (val (O.take k) + P * lat O k) = 10 * val (O.take k) + P * (10 * lat O k) := by rw [Nat.mul_add, Nat.mul_left_comm]
  omega
theorem read_end (ws : List Nat) (N N' cy : Nat) (hok : Ok ws) (hw : ws.length = (lim N).length) (hcy : cy < 65536) (h : val ws + 65536 ^ (lim N).length * cy = N') (hN : N ≤ N') : lim N' = if cy = 0 then ws else ws ++ [cy] := by
  split
  · rename_i h0
    subst h0
    rw [Nat.mul_zero, Nat.add_zero] at h
    rw [← h, lim_val ws hok]
    rcases hl : (lim N).length with _ | k
    · have : ws = [] := List.length_eq_zero_iff.1 (by omega)
      subst this; rfl
    · refine nrm_full ws hok k (by omega) ?_
      have := val_len (lim N) (lim_ok N) k (by rw [nrm_lim]; exact hl)
      rw [val_lim] at this
      omega
  · rename_i h0
    have e : val (ws ++ [cy]) = N' := by rw [val_app, hw, ← h]; simp [val]
    rw [← e, lim_val _ (hok.app (Ok.cons hcy Ok.nil)), nrm_snoc _ _ h0]
theorem set_drop (ws O : List Nat) (k x : Nat) (hw : ws.length = k) (hk : k < O.length) : (ws ++ O.drop k).set k x = (ws ++ [x]) ++ O.drop (k + 1) := by
  have := set_win [] ws O [] k x hw hk
  simpa using this
theorem lat_drop2 (ws O : List Nat) (k : Nat) (hw : ws.length = k) (hk : k < O.length) : lat (ws ++ O.drop k) k = lat O k := by
  have := lat_win [] ws O [] k hw hk
  simpa using this

end Go.Proofs.YtkampmdekonjmaaGreat
namespace Go.Proofs.YtkampmdekonjmaaGreat
open Go.RowKit Go.V
set_option linter.unusedSimpArgs false
set_option linter.unusedVariables false
set_option maxRecDepth 20000

end Go.Proofs.YtkampmdekonjmaaGreat
