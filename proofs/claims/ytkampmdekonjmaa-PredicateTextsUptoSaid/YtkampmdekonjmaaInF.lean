/- Integers: Read. -/
import Derived.Test.YtkampmdekonjmaaIn5
import Derived.Test.YtkampmdekonjmaaIn9
import Derived.Test.YtkampmdekonjmaaNu8
namespace Go.Proofs.Ytkampmdekonjmaa
open Go.RowKit Go.V
set_option linter.unusedSimpArgs false
set_option linter.unusedVariables false
set_option maxRecDepth 20000
theorem bs_extI (s : ByteArray) : bs (s.extract 1 s.size) = (bs s).drop 1 := by
  unfold bs
  rw [ByteArray.data_extract, Array.toList_extract]
  have : s.size = s.data.toList.length := by rw [Array.length_toList]; rfl
  rw [List.extract_eq_take_drop, this, List.take_of_length_le (by simp)]
theorem rdL_lenI (l : List UInt8) : (rdL l).length ≤ 1000 := by
  unfold rdL
  split
  · rename_i h
    unfold rdE at h
    split at h
    · cases h
    · split at h
      · cases h
      · rename_i h1
        split at h
        · cases h
        · rename_i hb
          have hd : ∀ k, k < l.length → isD (ch l k) = true := by
            intro k hk
            cases hc : isD (ch l k) with
            | true => rfl
            | false => exact absurd (bad_at hk hc) hb
          have := dv_len l l.length (Nat.le_refl _) hd
          rw [List.take_length] at this
          omega
  · simp
/-- does a minus come first? -/
def izn (l : List UInt8) : Bool := decide (0 < l.length ∧ ((ch l 0).toNat : Int) = 45)
/-- what is behind it -/
def izd (l : List UInt8) : List UInt8 := if izn l = true then l.drop 1 else l
def izE (l : List UInt8) : Int := if ¬ rdE (izd l) = 0 then rdE (izd l) else if izn l = true ∧ (rdL (izd l)).length = 0 then 9 else 0
def izV (l : List UInt8) : Int := if izE l = 0 then iv (izn l) (dv (izd l)) else 0
def IReadPost (w : World) (l : List UInt8) (e : Ending) (w' : World) : Prop := ∃ a c, e = .returned (.tuple #[iR (izV l) a c, .int .i64 (izE l)]) ∧ RD w' a c (lim (izV l).natAbs) ∧ Below w.heap.size w w'
theorem iR0 : iR 0 none 0 = .agg #[.bool false, .slice none 0 0] := by unfold iR; rw [show ((0 : Int).natAbs) = 0 from rfl, lim_zero]; rfl
theorem ireadErr {w w' : World} {l : List UInt8} {e : Ending} (h0 : izE l ≠ 0) (he : e = .returned (.tuple #[.agg #[.bool false, .slice none 0 0], .int .i64 (izE l)])) (hE : Below w.heap.size w w') : IReadPost w l e w' := by
  have hv : izV l = 0 := by unfold izV; rw [if_neg h0]
  refine ⟨none, 0, ?_, ?_, hE⟩
  · rw [hv, iR0, he]
  · rw [hv, show ((0 : Int).natAbs) = 0 from rfl, lim_zero]; exact RD.nil _ _ _
end Go.Proofs.Ytkampmdekonjmaa
