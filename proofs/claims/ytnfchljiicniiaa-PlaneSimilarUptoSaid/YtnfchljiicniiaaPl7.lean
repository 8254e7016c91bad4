/- Points: geometry. -/
import Derived.Test.YtnfchljiicniiaaPl3
namespace Go.Proofs.Ytnfchljiicniiaa
set_option linter.unusedSimpArgs false
set_option linter.unusedVariables false
theorem div_mul_self {x y : Rat} (h : ¬ y = 0) : x / y * y = x := Rat.div_mul_cancel h
section
variable {ax ay bx by' cx cy dx dy px py qx qy ox oy rx ry : Rat}
theorem foot_eq (h : ¬ (ax = bx ∧ ay = by')) : footT px py ax ay bx by' * pnorm ax ay bx by' = pdot ax ay bx by' ax ay px py := div_mul_self (pnorm_ne h)
theorem foot_on : pcross ax ay bx by' ax ay (footX px py ax ay bx by') (footY px py ax ay bx by') = 0 := by
  unfold footX footY pcross
  generalize footT px py ax ay bx by' = t
  grind
theorem foot_up (h : ¬ (ax = bx ∧ ay = by')) : pdot ax ay bx by' px py (footX px py ax ay bx by') (footY px py ax ay bx by') = 0 := by
  have ht := foot_eq (px := px) (py := py) h
  unfold footX footY
  generalize footT px py ax ay bx by' = t at ht ⊢
  unfold pdot pnorm at *
  grind
theorem mirror_up (h : ¬ (ax = bx ∧ ay = by')) : pdot ax ay bx by' px py (footX px py ax ay bx by' + (footX px py ax ay bx by' - px)) (footY px py ax ay bx by' + (footY px py ax ay bx by' - py)) = 0 := by
  have ht := foot_eq (px := px) (py := py) h
  unfold footX footY
  generalize footT px py ax ay bx by' = t at ht ⊢
  unfold pdot pnorm at *
  grind
theorem half_back (p f : Rat) : p + ((1 : Int) : Rat) / ((2 : Int) : Rat) * (f + (f - p) - p) = f := by
  have h1 : ((1 : Int) : Rat) = 1 := rfl
  have h2 : ((2 : Int) : Rat) = 2 := rfl
  rw [h1, h2]
  grind
theorem meet_on1 : pcross ax ay bx by' ax ay (ax + meetT ax ay bx by' cx cy dx dy * (bx - ax)) (ay + meetT ax ay bx by' cx cy dx dy * (by' - ay)) = 0 := by
  generalize meetT ax ay bx by' cx cy dx dy = t
  unfold pcross
  grind
theorem meet_on2 (h : ¬ pcross ax ay bx by' cx cy dx dy = 0) : pcross cx cy dx dy cx cy (ax + meetT ax ay bx by' cx cy dx dy * (bx - ax)) (ay + meetT ax ay bx by' cx cy dx dy * (by' - ay)) = 0 := by
  have ht : meetT ax ay bx by' cx cy dx dy * pcross ax ay bx by' cx cy dx dy = pcross ax ay cx cy cx cy dx dy := div_mul_self h
  generalize meetT ax ay bx by' cx cy dx dy = t at ht ⊢
  unfold pcross at *
  grind
theorem other_on : pcross px py qx qy px py (px + otherT px py qx qy ox oy * (qx - px)) (py + otherT px py qx qy ox oy * (qy - py)) = 0 := by
  generalize otherT px py qx qy ox oy = t
  unfold pcross
  grind
theorem other_norm (h : ¬ (px = qx ∧ py = qy)) : pnorm ox oy (px + otherT px py qx qy ox oy * (qx - px)) (py + otherT px py qx qy ox oy * (qy - py)) = pnorm ox oy px py := by
  have ht : otherT px py qx qy ox oy * pnorm px py qx qy = 2 * pdot px py ox oy px py qx qy := div_mul_self (pnorm_ne h)
  generalize otherT px py qx qy ox oy = t at ht ⊢
  unfold pdot pnorm at *
  have h2 : t * (t * ((qx - px) * (qx - px) + (qy - py) * (qy - py))) = t * (2 * ((ox - px) * (qx - px) + (oy - py) * (qy - py))) := by rw [ht]
  grind
theorem center_norm1 (h : ¬ pcross ax ay bx by' ax ay cx cy = 0) : pnorm (ax + cenX ax ay bx by' cx cy) (ay + cenY ax ay bx by' cx cy) ax ay = pnorm (ax + cenX ax ay bx by' cx cy) (ay + cenY ax ay bx by' cx cy) bx by' := by
  have h1 : cenX ax ay bx by' cx cy * (2 * pcross ax ay bx by' ax ay cx cy) = pnorm ax ay bx by' * (cy - ay) - pnorm ax ay cx cy * (by' - ay) := div_mul_self (two_mul_ne h)
  have h2 : cenY ax ay bx by' cx cy * (2 * pcross ax ay bx by' ax ay cx cy) = pnorm ax ay cx cy * (bx - ax) - pnorm ax ay bx by' * (cx - ax) := div_mul_self (two_mul_ne h)
  generalize cenX ax ay bx by' cx cy = x at h1 ⊢
  generalize cenY ax ay bx by' cx cy = y at h2 ⊢
  have key : pcross ax ay bx by' ax ay cx cy * (2 * (x * (bx - ax) + y * (by' - ay)) - pnorm ax ay bx by') = 0 := by
    unfold pcross pnorm at *
    grind
  have := (Rat.mul_eq_zero.1 key).resolve_left h
  unfold pnorm at *
  grind
theorem center_norm2 (h : ¬ pcross ax ay bx by' ax ay cx cy = 0) : pnorm (ax + cenX ax ay bx by' cx cy) (ay + cenY ax ay bx by' cx cy) ax ay = pnorm (ax + cenX ax ay bx by' cx cy) (ay + cenY ax ay bx by' cx cy) cx cy := by
  have h1 : cenX ax ay bx by' cx cy * (2 * pcross ax ay bx by' ax ay cx cy) = pnorm ax ay bx by' * (cy - ay) - pnorm ax ay cx cy * (by' - ay) := div_mul_self (two_mul_ne h)
  have h2 : cenY ax ay bx by' cx cy * (2 * pcross ax ay bx by' ax ay cx cy) = pnorm ax ay cx cy * (bx - ax) - pnorm ax ay bx by' * (cx - ax) := div_mul_self (two_mul_ne h)
  generalize cenX ax ay bx by' cx cy = x at h1 ⊢
  generalize cenY ax ay bx by' cx cy = y at h2 ⊢
  have key : pcross ax ay bx by' ax ay cx cy * (2 * (x * (cx - ax) + y * (cy - ay)) - pnorm ax ay cx cy) = 0 := by
    unfold pcross pnorm at *
    grind
  have := (Rat.mul_eq_zero.1 key).resolve_left h
  unfold pnorm at *
  grind
theorem oncircle_norm (t : Rat) : pnorm ox oy (ax + ocS ox oy ax ay t * 1) (ay + ocS ox oy ax ay t * t) = pnorm ox oy ax ay := by
  have hs : ocS ox oy ax ay t * (1 * 1 + t * t) = 2 * ((ox - ax) * 1 + (oy - ay) * t) := div_mul_self (one_sq_ne t)
  generalize ocS ox oy ax ay t = s at hs ⊢
  have h2 : s * (s * (1 * 1 + t * t)) = s * (2 * ((ox - ax) * 1 + (oy - ay) * t)) := by rw [hs]
  unfold pnorm
  grind
/-! ### roots -/
theorem mkRat_nn (n d : Nat) : 0 ≤ mkRat (n : Int) d := by
  by_cases hd : d = 0
  · subst hd; rw [Rat.mkRat_zero]; exact Rat.le_refl
  · rw [← Rat.num_nonneg]
    have := Rat.num_mkRat n d
    grind
theorem qroot_nonneg (d : Rat) : 0 ≤ qroot d := mkRat_nn _ _
theorem qroot_sq {d : Rat} (h : isSq d = true) : qroot d * qroot d = d := by
  rw [isSq_iff] at h
  obtain ⟨h0, h1, h2⟩ := h
  unfold qroot
  rw [Rat.mkRat_mul_mkRat, h2]
  have e : ((isq d.num.natAbs : Nat) : Int) * ((isq d.num.natAbs : Nat) : Int) = d.num := by
    have : ((isq d.num.natAbs * isq d.num.natAbs : Nat) : Int) = (d.num.natAbs : Int) := by rw [h1]
    rw [Int.natCast_mul] at this
    omega
  rw [e, Rat.mkRat_self]
theorem root_ok {d : Rat} (h : rootE d = 0) : isSq d = true := by
  unfold rootE at h
  split at h
  · cases h
  · split at h
    · assumption
    · cases h
theorem pnorm_nonneg : 0 ≤ pnorm ax ay bx by' := by
  have hs : ∀ z : Rat, 0 ≤ z * z := fun z => by
    rcases qtri z 0 with h | rfl | h
    · have h1 : 0 < -z := by grind
      have := Rat.mul_pos h1 h1
      grind
    · rw [Rat.zero_mul]; exact Rat.le_refl
    · exact Rat.le_of_lt (Rat.mul_pos h h)
  unfold pnorm
  have h1 := hs (bx - ax)
  have h2 := hs (by' - ay)
  grind
theorem qsg_nn {x : Rat} (h : 0 ≤ x) : ¬ qsg x < 0 := by
  unfold qsg
  rcases qtri x 0 with h' | rfl | h'
  · exact absurd h' (Rat.not_lt.2 h)
  · decide
  · rw [qsg_pos h']; decide
theorem qsg_np {x : Rat} (h : x ≤ 0) : ¬ 0 < qsg x := by
  unfold qsg
  rcases qtri x 0 with h' | rfl | h'
  · rw [qsg_neg h']; decide
  · decide
  · exact absurd h' (Rat.not_lt.2 h)
theorem on_line (t : Rat) : pcross ax ay bx by' ax ay (ax + t * (bx - ax)) (ay + t * (by' - ay)) = 0 := by
  unfold pcross
  grind
theorem cut_norm {t : Rat} (h : ¬ (ax = bx ∧ ay = by')) (ht : (t - cutM ax ay bx by' ox oy) * (t - cutM ax ay bx by' ox oy) = cutD ax ay bx by' ox oy px py) :
    pnorm ox oy (ax + t * (bx - ax)) (ay + t * (by' - ay)) = pnorm ox oy px py := by
  have hN := pnorm_ne h
  have hm : cutM ax ay bx by' ox oy * pnorm ax ay bx by' = pdot ax ay bx by' ax ay ox oy := div_mul_self hN
  unfold cutD at ht
  generalize cutM ax ay bx by' ox oy = m at *
  have hd : (pnorm ax ay ox oy - pnorm ox oy px py) / pnorm ax ay bx by' * pnorm ax ay bx by' = pnorm ax ay ox oy - pnorm ox oy px py := div_mul_self hN
  generalize (pnorm ax ay ox oy - pnorm ox oy px py) / pnorm ax ay bx by' = e at *
  have h1 : (t - m) * (t - m) * pnorm ax ay bx by' = (m * m - e) * pnorm ax ay bx by' := by rw [ht]
  have h2 : t * (m * pnorm ax ay bx by') = t * pdot ax ay bx by' ax ay ox oy := by rw [hm]
  unfold pnorm pdot at *
  grind
theorem cut_dot (m h : Rat) (hh : 0 ≤ h) : 0 ≤ pdot ax ay bx by' (ax + (m + -h) * (bx - ax)) (ay + (m + -h) * (by' - ay)) (ax + (m + h) * (bx - ax)) (ay + (m + h) * (by' - ay)) := by
  have hN := pnorm_nonneg (ax := ax) (ay := ay) (bx := bx) (by' := by')
  have := Rat.mul_nonneg hh hN
  unfold pdot
  unfold pnorm at this
  grind
theorem int_norm1 {m h : Rat} (hm : h * h = pnorm ox oy px py / pnorm ox oy qx qy - m * m) (h0 : ¬ (ox = qx ∧ oy = qy)) :
    pnorm ox oy (ox + m * (qx - ox) + h * -(qy - oy)) (oy + m * (qy - oy) + h * (qx - ox)) = pnorm ox oy px py := by
  have hN := pnorm_ne h0
  have hd : pnorm ox oy px py / pnorm ox oy qx qy * pnorm ox oy qx qy = pnorm ox oy px py := div_mul_self hN
  generalize pnorm ox oy px py / pnorm ox oy qx qy = e at *
  generalize pnorm ox oy px py = F at *
  have h1 : h * h * pnorm ox oy qx qy = (e - m * m) * pnorm ox oy qx qy := by rw [hm]
  unfold pnorm at *
  grind
theorem int_norm2 {h : Rat} (hm : h * h = pnorm ox oy px py / pnorm ox oy qx qy - intM ox oy px py qx qy rx ry * intM ox oy px py qx qy rx ry) (h0 : ¬ (ox = qx ∧ oy = qy)) :
    pnorm qx qy (ox + intM ox oy px py qx qy rx ry * (qx - ox) + h * -(qy - oy)) (oy + intM ox oy px py qx qy rx ry * (qy - oy) + h * (qx - ox)) = pnorm qx qy rx ry := by
  have hN := pnorm_ne h0
  have hd : pnorm ox oy px py / pnorm ox oy qx qy * pnorm ox oy qx qy = pnorm ox oy px py := div_mul_self hN
  have hM : intM ox oy px py qx qy rx ry * (2 * pnorm ox oy qx qy) = pnorm ox oy qx qy + pnorm ox oy px py - pnorm qx qy rx ry := div_mul_self (two_mul_ne hN)
  generalize intM ox oy px py qx qy rx ry = m at *
  generalize pnorm ox oy px py / pnorm ox oy qx qy = e at *
  generalize pnorm ox oy px py = F at *
  generalize pnorm qx qy rx ry = T at *
  have h1 : h * h * pnorm ox oy qx qy = (e - m * m) * pnorm ox oy qx qy := by rw [hm]
  unfold pnorm at *
  grind
theorem int_cross (m h : Rat) (hh : 0 ≤ h) : 0 ≤ pcross ox oy qx qy ox oy (ox + m * (qx - ox) + h * -(qy - oy)) (oy + m * (qy - oy) + h * (qx - ox)) := by
  have hN := pnorm_nonneg (ax := ox) (ay := oy) (bx := qx) (by' := qy)
  have := Rat.mul_nonneg hh hN
  unfold pcross
  unfold pnorm at this
  grind
theorem int_cross' (m h : Rat) (hh : 0 ≤ h) : pcross ox oy qx qy ox oy (ox + m * (qx - ox) + -h * -(qy - oy)) (oy + m * (qy - oy) + -h * (qx - ox)) ≤ 0 := by
  have hN := pnorm_nonneg (ax := ox) (ay := oy) (bx := qx) (by' := qy)
  have := Rat.mul_nonneg hh hN
  unfold pcross
  unfold pnorm at this
  grind
theorem int_foot (m h : Rat) (h0 : ¬ (ox = qx ∧ oy = qy)) : footT (ox + m * (qx - ox) + h * -(qy - oy)) (oy + m * (qy - oy) + h * (qx - ox)) ox oy qx qy = m := by
  have hN := pnorm_ne h0
  have ht := foot_eq (px := ox + m * (qx - ox) + h * -(qy - oy)) (py := oy + m * (qy - oy) + h * (qx - ox)) h0
  generalize footT (ox + m * (qx - ox) + h * -(qy - oy)) (oy + m * (qy - oy) + h * (qx - ox)) ox oy qx qy = t at *
  have key : (t - m) * pnorm ox oy qx qy = 0 := by
    unfold pdot pnorm at *
    grind
  have := (Rat.mul_eq_zero.1 key).resolve_right hN
  grind
theorem int_image (m h : Rat) (h0 : ¬ (ox = qx ∧ oy = qy)) :
    footX (ox + m * (qx - ox) + h * -(qy - oy)) (oy + m * (qy - oy) + h * (qx - ox)) ox oy qx qy + (footX (ox + m * (qx - ox) + h * -(qy - oy)) (oy + m * (qy - oy) + h * (qx - ox)) ox oy qx qy - (ox + m * (qx - ox) + h * -(qy - oy))) = ox + m * (qx - ox) + -h * -(qy - oy) ∧
    footY (ox + m * (qx - ox) + h * -(qy - oy)) (oy + m * (qy - oy) + h * (qx - ox)) ox oy qx qy + (footY (ox + m * (qx - ox) + h * -(qy - oy)) (oy + m * (qy - oy) + h * (qx - ox)) ox oy qx qy - (oy + m * (qy - oy) + h * (qx - ox))) = oy + m * (qy - oy) + -h * (qx - ox) := by
  unfold footX footY
  rw [int_foot m h h0]
  exact ⟨by grind, by grind⟩
end
end Go.Proofs.Ytnfchljiicniiaa
