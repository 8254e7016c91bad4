/- Integers: the numerals. -/
import Derived.Test.YtkampmdekonjmaaGreatIn6
import Derived.Test.YtkampmdekonjmaaGreatIn4
namespace Go.Proofs.YtkampmdekonjmaaGreat
open Go.RowKit Go.V
set_option linter.unusedSimpArgs false
set_option linter.unusedVariables false
set_option maxRecDepth 20000
theorem ba_cons2 (l : List UInt8) : (⟨#[45]⟩ : ByteArray) ++ ⟨#[]⟩ ++ ⟨l.toArray⟩ = ⟨(45 :: l).toArray⟩ := by
  apply ByteArray.ext
  rw [ByteArray.data_append, ByteArray.data_append]
  simp
def itxt (z : Int) : List UInt8 := if z < 0 then 45 :: txt z.natAbs else txt z.natAbs
theorem ba_cons (l : List UInt8) : (⟨#[45]⟩ : ByteArray) ++ ⟨l.toArray⟩ = ⟨(45 :: l).toArray⟩ := by
  apply ByteArray.ext
  rw [ByteArray.data_append]
  simp
theorem txt_len (l : List Nat) (h : Ok l) (hl : l.length ≤ 100000) : (txt (val l)).length ≤ 1600001 := by
  unfold txt
  split
  · simp
  · have h2 : val l < 2 ^ (16 * l.length) := by rw [Nat.pow_mul]; exact val_lt l h
    have := dgz_len (16 * l.length) (val l) h2
    omega
end Go.Proofs.YtkampmdekonjmaaGreat
