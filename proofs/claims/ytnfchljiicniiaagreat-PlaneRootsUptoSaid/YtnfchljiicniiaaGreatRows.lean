/-
  No cell of these rows narrows 'for every input' (looked for: loops, veiled, ifaces, maps, wideKeys, modest, calm, conditions, laid).
  DERIVED. THE GIVEN ROWS OF THIS SEAT. 3 by the template 'for every input the law returns true; each argument reads behind the call as it read before'; 0 by the template 'total and deterministic' (their statements: YtnfchljiicniiaaGreatTotals.lean).
  GIVEN WITH THE SEED: the statements are not yours to turn. If you find one false, say at which input.
  Laid BY PROGRAM, IN A SANDBOX (cutbox-rows.mjs): the forced cells as the released guide's own fill.sh prints them over the translation 70adf7aee60b4a68… (all of the seat's roots in one cut). By AI agents, Wed Nov 11 2026. No macro, syntax, notation, axiom, sorry.
-/
import Derived.Test.YtnfchljiicniiaaGreatChecked
import GoSem.Claim
import GoSem.ClaimJoined
import GoSem.ClaimMapViews
import Derived.JoinedTies
import Derived.KernelRfl
namespace Go.Proofs.YtnfchljiicniiaaGreat
/- THE CELL 'sum', in the pinned program and in every row, IS THE sha256 OF THE DUMP (.gsa) THAT YtnfchljiicniiaaGreatProg.lean LOADS. Nothing in Lean hashes anything: it is a label: what it is worth is what the hold of that sum in a sandbox is worth. -/
noncomputable def Tryz.pinned : Pinned := { name := "ytnfchljiicniiaagreat", sum := "70adf7aee60b4a685a8aaa69e7af6e27ccec8aa1095d0d65d6eee741501622a0", checked := Tryz.checked }
namespace Rows
def none {H : Type} : Left H := { results := [], args := [] }

/-- 'geoproverlaw13.PlaneLines': WHATEVER THE INPUT: true; the input reads as it did. -/
def planeLinesSpec : ChangeSpec := { name := "planeLines", fn := fun _ => fun
  | [d] => { results := [.lit (.bool true)], args := [d] }
  | _ => none }
def planeLinesRow : OpenClaim := { program := "ytnfchljiicniiaagreat", sum := "70adf7aee60b4a685a8aaa69e7af6e27ccec8aa1095d0d65d6eee741501622a0", func := "geoprover/geoproverlaw13.PlaneLines", spec := "planeLines", unfollowed := true, recurses := true, apart := false }
def PlaneLinesSaid : Prop := planeLinesRow.holds Tryz.pinned (OpenSpec.ofChange planeLinesSpec)

/-- ITS FALSE NEIGHBOUR: 'it returns false'. Refute it at one input. -/
def planeLinesWrong : ChangeSpec := { name := "planeLines", fn := fun _ => fun
  | [d] => { results := [.lit (.bool false)], args := [d] }
  | _ => none }
def PlaneLinesWrongFalsely : Prop := planeLinesRow.holds Tryz.pinned (OpenSpec.ofChange planeLinesWrong)

/-- 'geoproverlaw13.PlaneCircles': WHATEVER THE INPUT: true; the input reads as it did. -/
def planeCirclesSpec : ChangeSpec := { name := "planeCircles", fn := fun _ => fun
  | [d] => { results := [.lit (.bool true)], args := [d] }
  | _ => none }
def planeCirclesRow : OpenClaim := { program := "ytnfchljiicniiaagreat", sum := "70adf7aee60b4a685a8aaa69e7af6e27ccec8aa1095d0d65d6eee741501622a0", func := "geoprover/geoproverlaw13.PlaneCircles", spec := "planeCircles", unfollowed := true, recurses := true, apart := false }
def PlaneCirclesSaid : Prop := planeCirclesRow.holds Tryz.pinned (OpenSpec.ofChange planeCirclesSpec)

/-- ITS FALSE NEIGHBOUR: 'it returns false'. Refute it at one input. -/
def planeCirclesWrong : ChangeSpec := { name := "planeCircles", fn := fun _ => fun
  | [d] => { results := [.lit (.bool false)], args := [d] }
  | _ => none }
def PlaneCirclesWrongFalsely : Prop := planeCirclesRow.holds Tryz.pinned (OpenSpec.ofChange planeCirclesWrong)

/-- 'geoproverlaw13.PlaneRoots': WHATEVER THE INPUT: true; the input reads as it did. -/
def planeRootsSpec : ChangeSpec := { name := "planeRoots", fn := fun _ => fun
  | [d] => { results := [.lit (.bool true)], args := [d] }
  | _ => none }
def planeRootsRow : OpenClaim := { program := "ytnfchljiicniiaagreat", sum := "70adf7aee60b4a685a8aaa69e7af6e27ccec8aa1095d0d65d6eee741501622a0", func := "geoprover/geoproverlaw13.PlaneRoots", spec := "planeRoots", unfollowed := true, recurses := true, apart := false }
def PlaneRootsSaid : Prop := planeRootsRow.holds Tryz.pinned (OpenSpec.ofChange planeRootsSpec)

/-- ITS FALSE NEIGHBOUR: 'it returns false'. Refute it at one input. -/
def planeRootsWrong : ChangeSpec := { name := "planeRoots", fn := fun _ => fun
  | [d] => { results := [.lit (.bool false)], args := [d] }
  | _ => none }
def PlaneRootsWrongFalsely : Prop := planeRootsRow.holds Tryz.pinned (OpenSpec.ofChange planeRootsWrong)

/- THE SECOND FORM. 'bulk': how many values and letters a reading holds, each counted each time it is reached (what is shared counts as often as it is met; a slice's spare places count too). A statement '..UptoSaid' is the law's where the arguments, and the package variables that the reading takes, are together of bulk at most 1048576: NARROWER than '..Said'. Prove '..Said' where nothing that the law and all that it calls make is longer than what came in: it says more and counts as full. Else prove '..UptoSaid'. A law counts once. -/
mutual
def uptoBulk {H : Type} : DataW H → Nat
  | .lit (.string bytes) => bytes.length + 1
  | .lit _ => 1
  | .nil => 1
  | .ptr d => uptoBulk d + 1
  | .slice elems spare => uptoBulkAll elems + uptoBulkAll spare + 1
  | .agg parts => uptoBulkAll parts + 1
  | .iface _ d => uptoBulk d + 1
  | .map entries => uptoBulkEntries entries + 1
  | .held _ => 1
def uptoBulkAll {H : Type} : List (DataW H) → Nat
  | [] => 0
  | d :: r => uptoBulk d + uptoBulkAll r
def uptoBulkEntries {H : Type} : List (Lit × DataW H) → Nat
  | [] => 0
  | x :: r => uptoBulkEntry x + uptoBulkEntries r
def uptoBulkEntry {H : Type} : Lit × DataW H → Nat
  | (.string bytes, d) => bytes.length + uptoBulk d + 1
  | (_, d) => uptoBulk d + 1
 end
def uptoSmall : (H : Type) → List (DataW H) → Bool := fun _ ds => decide (uptoBulkAll ds ≤ 1048576)
def OpenSpec.upto (s : _root_.Go.ChangeSpec) : _root_.Go.OpenSpec := { _root_.Go.OpenSpec.ofChange s with cond := some uptoSmall }

/-- 'geoproverlaw13.PlaneLines', WHERE WHAT IT READS IS OF BULK AT MOST 1048576: true; the input reads as it did. -/
def planeLinesUptoRow : OpenClaim := { program := "ytnfchljiicniiaagreat", sum := "70adf7aee60b4a685a8aaa69e7af6e27ccec8aa1095d0d65d6eee741501622a0", func := "geoprover/geoproverlaw13.PlaneLines", spec := "planeLines", unfollowed := true, recurses := true, apart := false, narrowed := true }
def PlaneLinesUptoSaid : Prop := planeLinesUptoRow.holds Tryz.pinned (OpenSpec.upto planeLinesSpec)

/-- 'geoproverlaw13.PlaneCircles', WHERE WHAT IT READS IS OF BULK AT MOST 1048576: true; the input reads as it did. -/
def planeCirclesUptoRow : OpenClaim := { program := "ytnfchljiicniiaagreat", sum := "70adf7aee60b4a685a8aaa69e7af6e27ccec8aa1095d0d65d6eee741501622a0", func := "geoprover/geoproverlaw13.PlaneCircles", spec := "planeCircles", unfollowed := true, recurses := true, apart := false, narrowed := true }
def PlaneCirclesUptoSaid : Prop := planeCirclesUptoRow.holds Tryz.pinned (OpenSpec.upto planeCirclesSpec)

/-- 'geoproverlaw13.PlaneRoots', WHERE WHAT IT READS IS OF BULK AT MOST 1048576: true; the input reads as it did. -/
def planeRootsUptoRow : OpenClaim := { program := "ytnfchljiicniiaagreat", sum := "70adf7aee60b4a685a8aaa69e7af6e27ccec8aa1095d0d65d6eee741501622a0", func := "geoprover/geoproverlaw13.PlaneRoots", spec := "planeRoots", unfollowed := true, recurses := true, apart := false, narrowed := true }
def PlaneRootsUptoSaid : Prop := planeRootsUptoRow.holds Tryz.pinned (OpenSpec.upto planeRootsSpec)

end Rows
end Go.Proofs.YtnfchljiicniiaaGreat
