/- Natural numbers: the plain law of a long division's step. -/
import Derived.Test.YtomniiobaonloaaNtO
namespace Go.Proofs.Ytomniiobaonloaa
open Go.RowKit Go.V
set_option linter.unusedSimpArgs false
set_option linter.unusedVariables false

/-- the estimate is no less than the digit -/
theorem est_first (U V P H v1 low d : Nat) (hU : U = low + P * H) (hlow : low < P) (hV : v1 * P ≤ V) (hv : 0 < v1) (hd : d = H / v1) : U < (d + 1) * V := by
  have h1 : H < (d + 1) * v1 := by
    rw [hd, Nat.mul_comm]; exact Nat.lt_mul_div_succ H hv
  have h2 : (d + 1) * (v1 * P) ≤ (d + 1) * V := Nat.mul_le_mul_left _ hV
  have h3 : (H + 1) * P ≤ (d + 1) * v1 * P := Nat.mul_le_mul_right _ h1
  rw [Nat.mul_assoc] at h3
  rw [Nat.add_mul, Nat.one_mul, Nat.mul_comm H] at h3
  omega
/-- an estimate that is too great goes down -/
theorem est_next (U V W H v1 v2 u2 low d r : Nat) (hU : U = low + W * (H * 65536 + u2)) (hlow : low < W) (hV : (v1 * 65536 + v2) * W ≤ V) (hH : d * v1 + r = H) (hb : U < 65536 * V) (hu : U < (d + 1) * V)
    (h : 65536 ≤ d ∨ r * 65536 + u2 < d * v2) : 0 < d ∧ U < d * V := by
  by_cases h1 : 65536 ≤ d
  · exact ⟨by omega, Nat.lt_of_lt_of_le hb (Nat.mul_le_mul_right _ h1)⟩
  · rcases h with h | h
    · exact absurd h h1
    · have hd : 0 < d := by
        rcases d with _ | d
        · omega
        · omega
      refine ⟨hd, ?_⟩
      have e1 : d * (v1 * 65536 + v2) = (d * v1) * 65536 + d * v2 := by rw [Nat.mul_add, Nat.mul_assoc]
      have e2 : H * 65536 + u2 + 1 ≤ d * (v1 * 65536 + v2) := by rw [e1, ← hH, Nat.add_mul]; omega
      have e3 := Nat.mul_le_mul_right W e2
      have e4 := Nat.mul_le_mul_left d hV
      rw [Nat.mul_assoc] at e3
      rw [Nat.add_mul, Nat.one_mul, Nat.mul_comm (H * 65536 + u2)] at e3
      omega
theorem est_a (H u2 v1 : Nat) (h : 65536 * (v1 + 1) ≤ H) : 65536 * (v1 + 1) * 65536 ≤ H * 65536 + u2 := Nat.le_trans (Nat.mul_le_mul_right 65536 h) (Nat.le_add_right _ _)
theorem est_b (v1 v2 : Nat) (h : v2 < 65536) : v1 * 65536 + v2 + 1 ≤ (v1 + 1) * 65536 := by omega
/-- an estimate that stands is too great by one at most -/
theorem est_last (U V W H v1 v2 u1 u2 low vl d r : Nat) (hU : U = low + W * (H * 65536 + u2)) (hlow : low < W) (hV : V = vl + W * (v1 * 65536 + v2)) (hvl : vl < W) (hv : 0 < v1) (hv1 : v1 < 65536) (hv2 : v2 < 65536) (hu2 : u2 < 65536) (hH : d * v1 + r = H) (hb : U < 65536 * V)
    (h : 65536 ≤ r ∨ (d < 65536 ∧ d * v2 ≤ r * 65536 + u2)) : d < 65536 ∧ d * V ≤ U + V := by
  have hW : 0 < W := by omega
  have hd : d < 65536 := by
    rcases h with h | h
    · refine Nat.lt_of_not_le (fun hge => ?_)
      have a1 : 65536 * v1 ≤ d * v1 := Nat.mul_le_mul_right _ hge
      have a2 : 65536 * (v1 + 1) ≤ H := by omega
      have b3 := est_a H u2 v1 a2
      have a3 := Nat.mul_le_mul_left W b3
      have a4 : V < W * (v1 * 65536 + v2 + 1) := by
        have := Nat.mul_add W (v1 * 65536 + v2) 1
        omega
      have b5 := est_b v1 v2 hv2
      have a5 := Nat.mul_le_mul_left W b5
      have a6 : W * (65536 * (v1 + 1) * 65536) = 65536 * (W * ((v1 + 1) * 65536)) := by
        generalize v1 + 1 = X
        rw [Nat.mul_assoc 65536 X, Nat.mul_left_comm W 65536]
      omega
    · exact h.1
  refine ⟨hd, ?_⟩
  have h2 : d * v2 ≤ r * 65536 + u2 := by
    rcases h with h | h
    · have : d * v2 ≤ 65535 * 65535 := Nat.mul_le_mul (by omega) (by omega)
      omega
    · exact h.2
  have e1 : d * (v1 * 65536 + v2) = (d * v1) * 65536 + d * v2 := by rw [Nat.mul_add, Nat.mul_assoc]
  have e2 : d * (v1 * 65536 + v2) ≤ H * 65536 + u2 := by rw [e1, ← hH, Nat.add_mul]; omega
  have e3 := Nat.mul_le_mul_left W e2
  have e4 : d * V = d * vl + W * (d * (v1 * 65536 + v2)) := by rw [hV, Nat.mul_add, Nat.mul_left_comm]
  have e5 : d * vl ≤ 65536 * W := Nat.mul_le_mul (by omega) (by omega)
  have e6 : W * (1 * 65536) ≤ W * (v1 * 65536 + v2) := Nat.mul_le_mul_left _ (by omega)
  omega
/-- the digit, where the difference is not negative -/
theorem dig_right (U V us d : Nat) (h : us + d * V = U) (hu : U < (d + 1) * V) : us < V := by
  rw [Nat.add_mul] at hu; omega
/-- the digit, where it is negative: one less, and the divisor comes back -/
theorem dig_back (U V us us2 d cy T : Nat) (h : us + d * V = U + T) (hus : us < T) (hl : d * V ≤ U + V) (h2 : us2 + T * cy = us + V) (hus2 : us2 < T) (hVT : V < T) : 0 < d ∧ us2 + (d - 1) * V = U ∧ us2 < V := by
  rcases d with _ | d
  · omega
  · rw [Nat.add_sub_cancel, Nat.add_mul] at *
    refine ⟨by omega, ?_⟩
    rcases cy with _ | cy
    · omega
    · rcases cy with _ | cy
      · omega
      · have e : T * (cy + 1 + 1) = T * cy + T + T := by rw [Nat.mul_add, Nat.mul_add]; omega
        rw [e] at h2
        generalize T * cy = z at *
        omega
/-- what is left of the number, and the digits so far -/
theorem long_step (pre us u post : List Nat) (out : List Nat) (j d n V L0 : Nat) (hp : pre.length = j) (hlu : u.length = n + 1) (hlus : us.length = n + 1) (hz : val post = 0) (hj : j < out.length) (hinv : val (pre ++ u ++ post) + 65536 ^ (j + 1) * (val (out.drop (j + 1)) * V) = L0) (hd : val us + d * V = val u) :
    val (pre ++ us ++ post) + 65536 ^ j * (val ((out.set j d).drop j) * V) = L0 ∧ val ((pre ++ us ++ post).drop j) = val us := by
  have e1 : (out.set j d).drop j = d :: out.drop (j + 1) := by
    rw [List.drop_set, if_neg (by omega), Nat.sub_self, List.drop_eq_getElem_cons hj, List.set_cons_zero]
  have e2 : (pre ++ us ++ post).drop j = us ++ post := by
    rw [List.append_assoc, ← hp, List.drop_left]
  rw [e1, e2]
  simp only [val_app, List.length_append, hz, Nat.mul_zero, Nat.add_zero, val, hp] at hinv ⊢
  refine ⟨?_, trivial⟩
  rw [← hinv, ← hd, Nat.pow_succ, Nat.add_mul, Nat.mul_add, Nat.mul_add, Nat.mul_assoc 65536, Nat.mul_assoc (65536 ^ j) 65536]
  generalize 65536 ^ j = P
  generalize val (out.drop (j + 1)) * V = X
  omega
/-- a window's three greatest limbs -/
theorem win_top (u : List Nat) (k : Nat) (h : u.length = k + 3) : val u = val (u.take k) + 65536 ^ k * ((lat u (k + 2) * 65536 + lat u (k + 1)) * 65536 + lat u k) := by
  have e : u = u.take (k + 3) := by rw [List.take_of_length_le (by omega)]
  conv => lhs; rw [e]
  rw [val_take' u (k + 2), val_take' u (k + 1), val_take' u k, Nat.pow_succ 65536 (k + 1), Nat.pow_succ 65536 k]
  generalize 65536 ^ k = P
  generalize lat u (k + 2) = x
  generalize lat u (k + 1) = y
  generalize lat u k = z
  have e1 : (x * 65536 + y) * 65536 + z = z + 65536 * y + 65536 * 65536 * x := by omega
  rw [e1, Nat.mul_add P, Nat.mul_add P, Nat.mul_assoc P, Nat.mul_assoc P, Nat.mul_assoc P (65536 * 65536) x, ← Nat.add_assoc, ← Nat.add_assoc]
theorem win_top2 (u : List Nat) (k : Nat) (h : u.length = k + 3) (hok : Ok u) : ∃ low, val u = low + 65536 ^ (k + 1) * (lat u (k + 2) * 65536 + lat u (k + 1)) ∧ low < 65536 ^ (k + 1) := by
  refine ⟨val (u.take (k + 1)), ?_, val_take_lt u hok _⟩
  have e : u = u.take (k + 3) := by rw [List.take_of_length_le (by omega)]
  conv => lhs; rw [e]
  rw [val_take' u (k + 2), val_take' u (k + 1), Nat.pow_succ 65536 (k + 1)]
  generalize 65536 ^ (k + 1) = P
  have e1 : lat u (k + 2) * 65536 = 65536 * lat u (k + 2) := by omega
  rw [Nat.mul_add P, e1, Nat.mul_assoc P]
  omega
theorem div_top (v : List Nat) (k : Nat) (h : v.length = k + 2) : val v = val (v.take k) + 65536 ^ k * (lat v (k + 1) * 65536 + lat v k) ∧ lat v (k + 1) * 65536 ^ (k + 1) ≤ val v ∧ (lat v (k + 1) * 65536 + lat v k) * 65536 ^ k ≤ val v := by
  have e : v = v.take (k + 2) := by rw [List.take_of_length_le (by omega)]
  have e1 : val v = val (v.take k) + 65536 ^ k * lat v k + 65536 ^ (k + 1) * lat v (k + 1) := by
    conv => lhs; rw [e]
    rw [val_take' v (k + 1), val_take' v k]
  have e2 : 65536 ^ k * (lat v (k + 1) * 65536) = 65536 ^ (k + 1) * lat v (k + 1) := by
    rw [Nat.pow_succ, Nat.mul_assoc, Nat.mul_comm (lat v (k + 1))]
  refine ⟨?_, ?_, ?_⟩
  · rw [Nat.mul_add, e2]; omega
  · rw [Nat.mul_comm]; omega
  · rw [Nat.mul_comm, Nat.mul_add, e2]; omega
/-- the window and what stands above it -/
theorem win_zero (L : List Nat) (j n V : Nat) (hok : Ok L) (hj : j + n + 1 ≤ L.length) (h : val (L.drop (j + 1)) < V) (hV : V < 65536 ^ n) : val (L.drop (j + n + 1)) = 0 ∧ val ((L.drop j).take (n + 1)) < 65536 * V ∧ L = L.take j ++ (L.drop j).take (n + 1) ++ L.drop (j + n + 1) := by
  have e0 := val_drop' L j
  have h0 := lat_lt hok j
  have e1 := val_split (n + 1) (L.drop j)
  have e2 : (L.drop j).drop (n + 1) = L.drop (j + n + 1) := by rw [List.drop_drop]; congr 1
  rw [e2] at e1
  have e3 := Nat.pow_succ (n := 65536) (m := n)
  have hz : val (L.drop (j + n + 1)) = 0 := by
    refine Nat.eq_zero_of_not_pos (fun hp => ?_)
    have : 65536 ^ (n + 1) * 1 ≤ 65536 ^ (n + 1) * val (L.drop (j + n + 1)) := Nat.mul_le_mul_left _ hp
    omega
  refine ⟨hz, ?_, ?_⟩
  · rw [hz] at e1; omega
  · rw [List.append_assoc, ← e2, List.take_append_drop, List.take_append_drop]
end Go.Proofs.Ytomniiobaonloaa
