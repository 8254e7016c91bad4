/-
  No cell of these rows narrows 'for every input' (looked for: loops, veiled, ifaces, maps, wideKeys, modest, calm, conditions, laid).
  DERIVED. THE GIVEN ROWS OF THIS SEAT. 5 by the template 'for every input the law returns true; each argument reads behind the call as it read before'; 0 by the template 'total and deterministic' (their statements: YtkampmdekonjmaaTotals.lean).
  GIVEN WITH THE SEED: the statements are not yours to turn. If you find one false, say at which input.
  Laid BY PROGRAM, IN A SANDBOX (cutbox-rows.mjs): the forced cells as the released guide's own fill.sh prints them over the translation e1400ecb56dd82fd… (all of the seat's roots in one cut). By AI agents, Wed Nov 11 2026. No macro, syntax, notation, axiom, sorry.
-/
import Derived.Test.YtkampmdekonjmaaChecked
import GoSem.Claim
import GoSem.ClaimJoined
import GoSem.ClaimMapViews
import Derived.JoinedTies
import Derived.KernelRfl
namespace Go.Proofs.Ytkampmdekonjmaa
/- THE CELL 'sum', in the pinned program and in every row, IS THE sha256 OF THE DUMP (.gsa) THAT YtkampmdekonjmaaProg.lean LOADS. Nothing in Lean hashes anything: it is a label: what it is worth is what the hold of that sum in a sandbox is worth. -/
noncomputable def Try.pinned : Pinned := { name := "ytkampmdekonjmaa", sum := "e1400ecb56dd82fd44ff2ac93cbf1512c57cead4aac00c13cf5a8c0f85a40b23", checked := Try.checked }
namespace Rows
def none {H : Type} : Left H := { results := [], args := [] }

/-- 'geoproverlaw14.PredicateRights': WHATEVER THE INPUT: true; the input reads as it did. -/
def predicateRightsSpec : ChangeSpec := { name := "predicateRights", fn := fun _ => fun
  | [d1, d2] => { results := [.lit (.bool true)], args := [d1, d2] }
  | _ => none }
def predicateRightsRow : OpenClaim := { program := "ytkampmdekonjmaa", sum := "e1400ecb56dd82fd44ff2ac93cbf1512c57cead4aac00c13cf5a8c0f85a40b23", func := "geoprover/geoproverlaw14.PredicateRights", spec := "predicateRights", unfollowed := true, recurses := true, apart := false }
def PredicateRightsSaid : Prop := predicateRightsRow.holds Try.pinned (OpenSpec.ofChange predicateRightsSpec)

/-- ITS FALSE NEIGHBOUR: 'it returns false'. Refute it at one input. -/
def predicateRightsWrong : ChangeSpec := { name := "predicateRights", fn := fun _ => fun
  | [d1, d2] => { results := [.lit (.bool false)], args := [d1, d2] }
  | _ => none }
def PredicateRightsWrongFalsely : Prop := predicateRightsRow.holds Try.pinned (OpenSpec.ofChange predicateRightsWrong)

/-- 'geoproverlaw14.PredicateTexts': WHATEVER THE INPUT: true; the input reads as it did. -/
def predicateTextsSpec : ChangeSpec := { name := "predicateTexts", fn := fun _ => fun
  | [d1, d2] => { results := [.lit (.bool true)], args := [d1, d2] }
  | _ => none }
def predicateTextsRow : OpenClaim := { program := "ytkampmdekonjmaa", sum := "e1400ecb56dd82fd44ff2ac93cbf1512c57cead4aac00c13cf5a8c0f85a40b23", func := "geoprover/geoproverlaw14.PredicateTexts", spec := "predicateTexts", inPlace := ["internal/abi.NoEscape", "internal/bytealg.MakeNoZero"], unfollowed := true, recurses := true, apart := false }
def PredicateTextsSaid : Prop := predicateTextsRow.holds Try.pinned (OpenSpec.ofChange predicateTextsSpec)

/-- ITS FALSE NEIGHBOUR: 'it returns false'. Refute it at one input. -/
def predicateTextsWrong : ChangeSpec := { name := "predicateTexts", fn := fun _ => fun
  | [d1, d2] => { results := [.lit (.bool false)], args := [d1, d2] }
  | _ => none }
def PredicateTextsWrongFalsely : Prop := predicateTextsRow.holds Try.pinned (OpenSpec.ofChange predicateTextsWrong)

/-- 'geoproverlaw14.PredicateSimilar': WHATEVER THE INPUT: true; the input reads as it did. -/
def predicateSimilarSpec : ChangeSpec := { name := "predicateSimilar", fn := fun _ => fun
  | [d1, d2, d3] => { results := [.lit (.bool true)], args := [d1, d2, d3] }
  | _ => none }
def predicateSimilarRow : OpenClaim := { program := "ytkampmdekonjmaa", sum := "e1400ecb56dd82fd44ff2ac93cbf1512c57cead4aac00c13cf5a8c0f85a40b23", func := "geoprover/geoproverlaw14.PredicateSimilar", spec := "predicateSimilar", unfollowed := true, recurses := true, apart := false }
def PredicateSimilarSaid : Prop := predicateSimilarRow.holds Try.pinned (OpenSpec.ofChange predicateSimilarSpec)

/-- ITS FALSE NEIGHBOUR: 'it returns false'. Refute it at one input. -/
def predicateSimilarWrong : ChangeSpec := { name := "predicateSimilar", fn := fun _ => fun
  | [d1, d2, d3] => { results := [.lit (.bool false)], args := [d1, d2, d3] }
  | _ => none }
def PredicateSimilarWrongFalsely : Prop := predicateSimilarRow.holds Try.pinned (OpenSpec.ofChange predicateSimilarWrong)

/-- 'geoproverlaw14.PredicateSymmetric': WHATEVER THE INPUT: true; the input reads as it did. -/
def predicateSymmetricSpec : ChangeSpec := { name := "predicateSymmetric", fn := fun _ => fun
  | [d] => { results := [.lit (.bool true)], args := [d] }
  | _ => none }
def predicateSymmetricRow : OpenClaim := { program := "ytkampmdekonjmaa", sum := "e1400ecb56dd82fd44ff2ac93cbf1512c57cead4aac00c13cf5a8c0f85a40b23", func := "geoprover/geoproverlaw14.PredicateSymmetric", spec := "predicateSymmetric", unfollowed := true, recurses := true, apart := false }
def PredicateSymmetricSaid : Prop := predicateSymmetricRow.holds Try.pinned (OpenSpec.ofChange predicateSymmetricSpec)

/-- ITS FALSE NEIGHBOUR: 'it returns false'. Refute it at one input. -/
def predicateSymmetricWrong : ChangeSpec := { name := "predicateSymmetric", fn := fun _ => fun
  | [d] => { results := [.lit (.bool false)], args := [d] }
  | _ => none }
def PredicateSymmetricWrongFalsely : Prop := predicateSymmetricRow.holds Try.pinned (OpenSpec.ofChange predicateSymmetricWrong)

/-- 'geoproverlaw14.PredicateMakes': WHATEVER THE INPUT: true; the input reads as it did. -/
def predicateMakesSpec : ChangeSpec := { name := "predicateMakes", fn := fun _ => fun
  | [d1, d2] => { results := [.lit (.bool true)], args := [d1, d2] }
  | _ => none }
def predicateMakesRow : OpenClaim := { program := "ytkampmdekonjmaa", sum := "e1400ecb56dd82fd44ff2ac93cbf1512c57cead4aac00c13cf5a8c0f85a40b23", func := "geoprover/geoproverlaw14.PredicateMakes", spec := "predicateMakes", unfollowed := true, recurses := true, apart := false }
def PredicateMakesSaid : Prop := predicateMakesRow.holds Try.pinned (OpenSpec.ofChange predicateMakesSpec)

/-- ITS FALSE NEIGHBOUR: 'it returns false'. Refute it at one input. -/
def predicateMakesWrong : ChangeSpec := { name := "predicateMakes", fn := fun _ => fun
  | [d1, d2] => { results := [.lit (.bool false)], args := [d1, d2] }
  | _ => none }
def PredicateMakesWrongFalsely : Prop := predicateMakesRow.holds Try.pinned (OpenSpec.ofChange predicateMakesWrong)

/- THE SECOND FORM. 'bulk': how many values and letters a reading holds, each counted each time it is reached (what is shared counts as often as it is met; a slice's spare places count too). A statement '..UptoSaid' is the law's where the arguments, and the package variables that the reading takes, are together of bulk at most 1048576: NARROWER than '..Said'. Prove '..Said' where nothing that the law and all that it calls make is longer than what came in: it says more and counts as full. Else prove '..UptoSaid'. A law counts once. -/
mutual
def uptoBulk {H : Type} : DataW H → Nat
  | .lit (.string bytes) => bytes.length + 1
  | .lit _ => 1
  | .nil => 1
  | .ptr d => uptoBulk d + 1
  | .slice elems spare => uptoBulkAll elems + uptoBulkAll spare + 1
  | .agg parts => uptoBulkAll parts + 1
  | .iface _ d => uptoBulk d + 1
  | .map entries => uptoBulkEntries entries + 1
  | .held _ => 1
def uptoBulkAll {H : Type} : List (DataW H) → Nat
  | [] => 0
  | d :: r => uptoBulk d + uptoBulkAll r
def uptoBulkEntries {H : Type} : List (Lit × DataW H) → Nat
  | [] => 0
  | x :: r => uptoBulkEntry x + uptoBulkEntries r
def uptoBulkEntry {H : Type} : Lit × DataW H → Nat
  | (.string bytes, d) => bytes.length + uptoBulk d + 1
  | (_, d) => uptoBulk d + 1
 end
def uptoSmall : (H : Type) → List (DataW H) → Bool := fun _ ds => decide (uptoBulkAll ds ≤ 1048576)
def OpenSpec.upto (s : _root_.Go.ChangeSpec) : _root_.Go.OpenSpec := { _root_.Go.OpenSpec.ofChange s with cond := some uptoSmall }

/-- 'geoproverlaw14.PredicateRights', WHERE WHAT IT READS IS OF BULK AT MOST 1048576: true; the input reads as it did. -/
def predicateRightsUptoRow : OpenClaim := { program := "ytkampmdekonjmaa", sum := "e1400ecb56dd82fd44ff2ac93cbf1512c57cead4aac00c13cf5a8c0f85a40b23", func := "geoprover/geoproverlaw14.PredicateRights", spec := "predicateRights", unfollowed := true, recurses := true, apart := false, narrowed := true }
def PredicateRightsUptoSaid : Prop := predicateRightsUptoRow.holds Try.pinned (OpenSpec.upto predicateRightsSpec)

/-- 'geoproverlaw14.PredicateTexts', WHERE WHAT IT READS IS OF BULK AT MOST 1048576: true; the input reads as it did. -/
def predicateTextsUptoRow : OpenClaim := { program := "ytkampmdekonjmaa", sum := "e1400ecb56dd82fd44ff2ac93cbf1512c57cead4aac00c13cf5a8c0f85a40b23", func := "geoprover/geoproverlaw14.PredicateTexts", spec := "predicateTexts", inPlace := ["internal/abi.NoEscape", "internal/bytealg.MakeNoZero"], unfollowed := true, recurses := true, apart := false, narrowed := true }
def PredicateTextsUptoSaid : Prop := predicateTextsUptoRow.holds Try.pinned (OpenSpec.upto predicateTextsSpec)

/-- 'geoproverlaw14.PredicateSimilar', WHERE WHAT IT READS IS OF BULK AT MOST 1048576: true; the input reads as it did. -/
def predicateSimilarUptoRow : OpenClaim := { program := "ytkampmdekonjmaa", sum := "e1400ecb56dd82fd44ff2ac93cbf1512c57cead4aac00c13cf5a8c0f85a40b23", func := "geoprover/geoproverlaw14.PredicateSimilar", spec := "predicateSimilar", unfollowed := true, recurses := true, apart := false, narrowed := true }
def PredicateSimilarUptoSaid : Prop := predicateSimilarUptoRow.holds Try.pinned (OpenSpec.upto predicateSimilarSpec)

/-- 'geoproverlaw14.PredicateSymmetric', WHERE WHAT IT READS IS OF BULK AT MOST 1048576: true; the input reads as it did. -/
def predicateSymmetricUptoRow : OpenClaim := { program := "ytkampmdekonjmaa", sum := "e1400ecb56dd82fd44ff2ac93cbf1512c57cead4aac00c13cf5a8c0f85a40b23", func := "geoprover/geoproverlaw14.PredicateSymmetric", spec := "predicateSymmetric", unfollowed := true, recurses := true, apart := false, narrowed := true }
def PredicateSymmetricUptoSaid : Prop := predicateSymmetricUptoRow.holds Try.pinned (OpenSpec.upto predicateSymmetricSpec)

/-- 'geoproverlaw14.PredicateMakes', WHERE WHAT IT READS IS OF BULK AT MOST 1048576: true; the input reads as it did. -/
def predicateMakesUptoRow : OpenClaim := { program := "ytkampmdekonjmaa", sum := "e1400ecb56dd82fd44ff2ac93cbf1512c57cead4aac00c13cf5a8c0f85a40b23", func := "geoprover/geoproverlaw14.PredicateMakes", spec := "predicateMakes", unfollowed := true, recurses := true, apart := false, narrowed := true }
def PredicateMakesUptoSaid : Prop := predicateMakesUptoRow.holds Try.pinned (OpenSpec.upto predicateMakesSpec)

end Rows
end Go.Proofs.Ytkampmdekonjmaa
