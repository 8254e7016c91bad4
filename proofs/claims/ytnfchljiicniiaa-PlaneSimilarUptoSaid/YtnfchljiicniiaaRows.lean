/-
  No cell of these rows narrows 'for every input' (looked for: loops, veiled, ifaces, maps, wideKeys, modest, calm, conditions, laid).
  DERIVED. THE GIVEN ROWS OF THIS SEAT. 5 by the template 'for every input the law returns true; each argument reads behind the call as it read before'; 0 by the template 'total and deterministic' (their statements: YtnfchljiicniiaaTotals.lean).
  GIVEN WITH THE SEED: the statements are not yours to turn. If you find one false, say at which input.
  Laid BY PROGRAM, IN A SANDBOX (cutbox-rows.mjs): the forced cells as the released guide's own fill.sh prints them over the translation 62cbc5f5ca13eb0b… (all of the seat's roots in one cut). By AI agents, Wed Nov 11 2026. No macro, syntax, notation, axiom, sorry.
-/
import Derived.Test.YtnfchljiicniiaaChecked
import GoSem.Claim
import GoSem.ClaimJoined
import GoSem.ClaimMapViews
import Derived.JoinedTies
import Derived.KernelRfl
namespace Go.Proofs.Ytnfchljiicniiaa
/- THE CELL 'sum', in the pinned program and in every row, IS THE sha256 OF THE DUMP (.gsa) THAT YtnfchljiicniiaaProg.lean LOADS. Nothing in Lean hashes anything: it is a label: what it is worth is what the hold of that sum in a sandbox is worth. -/
noncomputable def Try.pinned : Pinned := { name := "ytnfchljiicniiaa", sum := "62cbc5f5ca13eb0bf7227185137955d3e3316b74cc2a32e350dbedf3eab07733", checked := Try.checked }
namespace Rows
def none {H : Type} : Left H := { results := [], args := [] }

/-- 'geoproverlaw13.PlaneVectors': WHATEVER THE INPUT: true; the input reads as it did. -/
def planeVectorsSpec : ChangeSpec := { name := "planeVectors", fn := fun _ => fun
  | [d] => { results := [.lit (.bool true)], args := [d] }
  | _ => none }
def planeVectorsRow : OpenClaim := { program := "ytnfchljiicniiaa", sum := "62cbc5f5ca13eb0bf7227185137955d3e3316b74cc2a32e350dbedf3eab07733", func := "geoprover/geoproverlaw13.PlaneVectors", spec := "planeVectors", unfollowed := true, recurses := true, apart := false }
def PlaneVectorsSaid : Prop := planeVectorsRow.holds Try.pinned (OpenSpec.ofChange planeVectorsSpec)

/-- ITS FALSE NEIGHBOUR: 'it returns false'. Refute it at one input. -/
def planeVectorsWrong : ChangeSpec := { name := "planeVectors", fn := fun _ => fun
  | [d] => { results := [.lit (.bool false)], args := [d] }
  | _ => none }
def PlaneVectorsWrongFalsely : Prop := planeVectorsRow.holds Try.pinned (OpenSpec.ofChange planeVectorsWrong)

/-- 'geoproverlaw13.PlanePoints': WHATEVER THE INPUT: true; the input reads as it did. -/
def planePointsSpec : ChangeSpec := { name := "planePoints", fn := fun _ => fun
  | [d] => { results := [.lit (.bool true)], args := [d] }
  | _ => none }
def planePointsRow : OpenClaim := { program := "ytnfchljiicniiaa", sum := "62cbc5f5ca13eb0bf7227185137955d3e3316b74cc2a32e350dbedf3eab07733", func := "geoprover/geoproverlaw13.PlanePoints", spec := "planePoints", unfollowed := true, recurses := true, apart := false }
def PlanePointsSaid : Prop := planePointsRow.holds Try.pinned (OpenSpec.ofChange planePointsSpec)

/-- ITS FALSE NEIGHBOUR: 'it returns false'. Refute it at one input. -/
def planePointsWrong : ChangeSpec := { name := "planePoints", fn := fun _ => fun
  | [d] => { results := [.lit (.bool false)], args := [d] }
  | _ => none }
def PlanePointsWrongFalsely : Prop := planePointsRow.holds Try.pinned (OpenSpec.ofChange planePointsWrong)

/-- 'geoproverlaw13.PlaneHypotheses': WHATEVER THE INPUT: true; the input reads as it did. -/
def planeHypothesesSpec : ChangeSpec := { name := "planeHypotheses", fn := fun _ => fun
  | [d] => { results := [.lit (.bool true)], args := [d] }
  | _ => none }
def planeHypothesesRow : OpenClaim := { program := "ytnfchljiicniiaa", sum := "62cbc5f5ca13eb0bf7227185137955d3e3316b74cc2a32e350dbedf3eab07733", func := "geoprover/geoproverlaw13.PlaneHypotheses", spec := "planeHypotheses", unfollowed := true, recurses := true, apart := false }
def PlaneHypothesesSaid : Prop := planeHypothesesRow.holds Try.pinned (OpenSpec.ofChange planeHypothesesSpec)

/-- ITS FALSE NEIGHBOUR: 'it returns false'. Refute it at one input. -/
def planeHypothesesWrong : ChangeSpec := { name := "planeHypotheses", fn := fun _ => fun
  | [d] => { results := [.lit (.bool false)], args := [d] }
  | _ => none }
def PlaneHypothesesWrongFalsely : Prop := planeHypothesesRow.holds Try.pinned (OpenSpec.ofChange planeHypothesesWrong)

/-- 'geoproverlaw13.PlaneBranches': WHATEVER THE INPUT: true; the input reads as it did. -/
def planeBranchesSpec : ChangeSpec := { name := "planeBranches", fn := fun _ => fun
  | [d] => { results := [.lit (.bool true)], args := [d] }
  | _ => none }
def planeBranchesRow : OpenClaim := { program := "ytnfchljiicniiaa", sum := "62cbc5f5ca13eb0bf7227185137955d3e3316b74cc2a32e350dbedf3eab07733", func := "geoprover/geoproverlaw13.PlaneBranches", spec := "planeBranches", unfollowed := true, recurses := true, apart := false }
def PlaneBranchesSaid : Prop := planeBranchesRow.holds Try.pinned (OpenSpec.ofChange planeBranchesSpec)

/-- ITS FALSE NEIGHBOUR: 'it returns false'. Refute it at one input. -/
def planeBranchesWrong : ChangeSpec := { name := "planeBranches", fn := fun _ => fun
  | [d] => { results := [.lit (.bool false)], args := [d] }
  | _ => none }
def PlaneBranchesWrongFalsely : Prop := planeBranchesRow.holds Try.pinned (OpenSpec.ofChange planeBranchesWrong)

/-- 'geoproverlaw13.PlaneSimilar': WHATEVER THE INPUT: true; the input reads as it did. -/
def planeSimilarSpec : ChangeSpec := { name := "planeSimilar", fn := fun _ => fun
  | [d] => { results := [.lit (.bool true)], args := [d] }
  | _ => none }
def planeSimilarRow : OpenClaim := { program := "ytnfchljiicniiaa", sum := "62cbc5f5ca13eb0bf7227185137955d3e3316b74cc2a32e350dbedf3eab07733", func := "geoprover/geoproverlaw13.PlaneSimilar", spec := "planeSimilar", unfollowed := true, recurses := true, apart := false }
def PlaneSimilarSaid : Prop := planeSimilarRow.holds Try.pinned (OpenSpec.ofChange planeSimilarSpec)

/-- ITS FALSE NEIGHBOUR: 'it returns false'. Refute it at one input. -/
def planeSimilarWrong : ChangeSpec := { name := "planeSimilar", fn := fun _ => fun
  | [d] => { results := [.lit (.bool false)], args := [d] }
  | _ => none }
def PlaneSimilarWrongFalsely : Prop := planeSimilarRow.holds Try.pinned (OpenSpec.ofChange planeSimilarWrong)

/- THE SECOND FORM. 'bulk': how many values and letters a reading holds, each counted each time it is reached (what is shared counts as often as it is met; a slice's spare places count too). A statement '..UptoSaid' is the law's where the arguments, and the package variables that the reading takes, are together of bulk at most 1048576: NARROWER than '..Said'. Prove '..Said' where nothing that the law and all that it calls make is longer than what came in: it says more and counts as full. Else prove '..UptoSaid'. A law counts once. -/
mutual
def uptoBulk {H : Type} : DataW H → Nat
  | .lit (.string bytes) => bytes.length + 1
  | .lit _ => 1
  | .nil => 1
  | .ptr d => uptoBulk d + 1
  | .slice elems spare => uptoBulkAll elems + uptoBulkAll spare + 1
  | .agg parts => uptoBulkAll parts + 1
  | .iface _ d => uptoBulk d + 1
  | .map entries => uptoBulkEntries entries + 1
  | .held _ => 1
def uptoBulkAll {H : Type} : List (DataW H) → Nat
  | [] => 0
  | d :: r => uptoBulk d + uptoBulkAll r
def uptoBulkEntries {H : Type} : List (Lit × DataW H) → Nat
  | [] => 0
  | x :: r => uptoBulkEntry x + uptoBulkEntries r
def uptoBulkEntry {H : Type} : Lit × DataW H → Nat
  | (.string bytes, d) => bytes.length + uptoBulk d + 1
  | (_, d) => uptoBulk d + 1
 end
def uptoSmall : (H : Type) → List (DataW H) → Bool := fun _ ds => decide (uptoBulkAll ds ≤ 1048576)
def OpenSpec.upto (s : _root_.Go.ChangeSpec) : _root_.Go.OpenSpec := { _root_.Go.OpenSpec.ofChange s with cond := some uptoSmall }

/-- 'geoproverlaw13.PlaneVectors', WHERE WHAT IT READS IS OF BULK AT MOST 1048576: true; the input reads as it did. -/
def planeVectorsUptoRow : OpenClaim := { program := "ytnfchljiicniiaa", sum := "62cbc5f5ca13eb0bf7227185137955d3e3316b74cc2a32e350dbedf3eab07733", func := "geoprover/geoproverlaw13.PlaneVectors", spec := "planeVectors", unfollowed := true, recurses := true, apart := false, narrowed := true }
def PlaneVectorsUptoSaid : Prop := planeVectorsUptoRow.holds Try.pinned (OpenSpec.upto planeVectorsSpec)

/-- 'geoproverlaw13.PlanePoints', WHERE WHAT IT READS IS OF BULK AT MOST 1048576: true; the input reads as it did. -/
def planePointsUptoRow : OpenClaim := { program := "ytnfchljiicniiaa", sum := "62cbc5f5ca13eb0bf7227185137955d3e3316b74cc2a32e350dbedf3eab07733", func := "geoprover/geoproverlaw13.PlanePoints", spec := "planePoints", unfollowed := true, recurses := true, apart := false, narrowed := true }
def PlanePointsUptoSaid : Prop := planePointsUptoRow.holds Try.pinned (OpenSpec.upto planePointsSpec)

/-- 'geoproverlaw13.PlaneHypotheses', WHERE WHAT IT READS IS OF BULK AT MOST 1048576: true; the input reads as it did. -/
def planeHypothesesUptoRow : OpenClaim := { program := "ytnfchljiicniiaa", sum := "62cbc5f5ca13eb0bf7227185137955d3e3316b74cc2a32e350dbedf3eab07733", func := "geoprover/geoproverlaw13.PlaneHypotheses", spec := "planeHypotheses", unfollowed := true, recurses := true, apart := false, narrowed := true }
def PlaneHypothesesUptoSaid : Prop := planeHypothesesUptoRow.holds Try.pinned (OpenSpec.upto planeHypothesesSpec)

/-- 'geoproverlaw13.PlaneBranches', WHERE WHAT IT READS IS OF BULK AT MOST 1048576: true; the input reads as it did. -/
def planeBranchesUptoRow : OpenClaim := { program := "ytnfchljiicniiaa", sum := "62cbc5f5ca13eb0bf7227185137955d3e3316b74cc2a32e350dbedf3eab07733", func := "geoprover/geoproverlaw13.PlaneBranches", spec := "planeBranches", unfollowed := true, recurses := true, apart := false, narrowed := true }
def PlaneBranchesUptoSaid : Prop := planeBranchesUptoRow.holds Try.pinned (OpenSpec.upto planeBranchesSpec)

/-- 'geoproverlaw13.PlaneSimilar', WHERE WHAT IT READS IS OF BULK AT MOST 1048576: true; the input reads as it did. -/
def planeSimilarUptoRow : OpenClaim := { program := "ytnfchljiicniiaa", sum := "62cbc5f5ca13eb0bf7227185137955d3e3316b74cc2a32e350dbedf3eab07733", func := "geoprover/geoproverlaw13.PlaneSimilar", spec := "planeSimilar", unfollowed := true, recurses := true, apart := false, narrowed := true }
def PlaneSimilarUptoSaid : Prop := planeSimilarUptoRow.holds Try.pinned (OpenSpec.upto planeSimilarSpec)

end Rows
end Go.Proofs.Ytnfchljiicniiaa
