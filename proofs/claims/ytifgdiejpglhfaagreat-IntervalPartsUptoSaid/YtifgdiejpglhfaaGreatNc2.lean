/- Natural numbers: the contracts of Shift. -/
import Derived.Test.YtifgdiejpglhfaaGreatNc1
namespace Go.Proofs.YtifgdiejpglhfaaGreat
open Go Go.RowKit Go.V
set_option linter.unusedSimpArgs false
set_option linter.unusedVariables false
set_option maxRecDepth 20000
def f_shift : List At → Option (List At)
  | [.u l, .n z] => if 0 ≤ z ∧ z ≤ 400 then some [na (val l * 2 ^ z.toNat)] else none
  | _ => none
theorem ok_shift {P : Program} {f L : Nat}
    (h : ∀ l a c N w, RD w a c l → l.length ≤ L → Calls P f #[.slice a l.length c, .int .i64 N] w (RetN w (lim (shiftV (val l) N)))) : Ct.ok P f { args := [[.u], [.n]], res := [[.u]], F := f_shift, L := L, A := 1, B := 26 } := by
  intro s w vs als r hs hr hsz hF
  obtain ⟨a1, a2, v, u, rfl, rfl, h1, h2⟩ := vs2 hr
  obtain ⟨l, a, c, rfl, rfl, r1⟩ := repV_u.1 h1
  obtain ⟨z, rfl, rfl⟩ := repV_n.1 h2
  have hF' : (if 0 ≤ z ∧ z ≤ 400 then some [na (val l * 2 ^ z.toNat)] else none) = some r := hF
  split at hF'
  · rename_i hz
    injection hF' with hF'; subst hF'
    have s1 : l.length ≤ s := hsz (.u l) (by simp)
    have hv : shiftV (val l) z = val l * 2 ^ z.toNat := by unfold shiftV; rw [if_neg (by omega), if_neg (by omega)]
    have := h l a c z w r1 (Nat.le_trans s1 hs)
    rw [hv] at this
    refine this.mono ?_
    intro e w' hret
    obtain ⟨v, he, hv, hE⟩ := hret.rep
    refine ret1 rfl he hv (fun x hx => ?_) hE
    simp at hx; subst hx
    simp only [na, At.sz]
    have hb : val l * 2 ^ z.toNat < 65536 ^ (s + 26) := by
      have h1 : val l < 65536 ^ s := Nat.lt_of_lt_of_le (val_lt l r1.ok) (Nat.pow_le_pow_right (by decide) s1)
      have h2' : ∀ k, z.toNat ≤ 16 * k → 2 ^ z.toNat ≤ 65536 ^ k := fun k hk => by rw [pow_16]; exact Nat.pow_le_pow_right (by decide) hk
      have h2 := h2' 26 (by omega)
      rw [Nat.pow_add]
      exact Nat.lt_of_lt_of_le (Nat.mul_lt_mul_of_pos_right h1 (Nat.pow_pos (by decide))) (Nat.mul_le_mul_left _ h2)
    have := lim_len (s + 26) _ hb
    omega
  · cases hF'
def ct_nshift : Ct := { args := [[.u], [.n]], res := [[.u]], F := f_shift, L := 100000000000, A := 1, B := 26 }
theorem ok_nshift : ct_nshift.ok Tryz.prog 116 := ok_shift (fun l a c N w hr hl => shift_any l a c N w hr hl)
def ct_rshift : Ct := { args := [[.u], [.n]], res := [[.u]], F := f_shift, L := 99999999999, A := 1, B := 26 }
theorem ok_rshift : ct_rshift.ok Tryz.prog 122 := ok_shift (fun l a c N w hr hl => shiftR_any l a c N w hr (by unfold lenS; omega))
end Go.Proofs.YtifgdiejpglhfaaGreat
