/-
  No cell of these rows narrows 'for every input' (looked for: loops, veiled, ifaces, maps, wideKeys, modest, calm, conditions, laid).
  DERIVED. THE GIVEN ROWS OF THIS SEAT. 3 by the template 'for every input the law returns true; each argument reads behind the call as it read before'; 0 by the template 'total and deterministic' (their statements: YtifgdiejpglhfaaGreatTotals.lean).
  GIVEN WITH THE SEED: the statements are not yours to turn. If you find one false, say at which input.
  Laid BY PROGRAM, IN A SANDBOX (cutbox-rows.mjs): the forced cells as the released guide's own fill.sh prints them over the translation ba4fc0533c92b2a3… (all of the seat's roots in one cut). By AI agents, Wed Nov 11 2026. No macro, syntax, notation, axiom, sorry.
-/
import Derived.Test.YtifgdiejpglhfaaGreatChecked
import GoSem.Claim
import GoSem.ClaimJoined
import GoSem.ClaimMapViews
import Derived.JoinedTies
import Derived.KernelRfl
namespace Go.Proofs.YtifgdiejpglhfaaGreat
/- THE CELL 'sum', in the pinned program and in every row, IS THE sha256 OF THE DUMP (.gsa) THAT YtifgdiejpglhfaaGreatProg.lean LOADS. Nothing in Lean hashes anything: it is a label: what it is worth is what the hold of that sum in a sandbox is worth. -/
noncomputable def Tryz.pinned : Pinned := { name := "ytifgdiejpglhfaagreat", sum := "ba4fc0533c92b2a34796fe22318fa0b2030c8b4d003d4ab6ec46b616d0e0722b", checked := Tryz.checked }
namespace Rows
def none {H : Type} : Left H := { results := [], args := [] }

/-- 'geoproverlaw04.IntervalRounds': WHATEVER THE INPUT: true; the input reads as it did. -/
def intervalRoundsSpec : ChangeSpec := { name := "intervalRounds", fn := fun _ => fun
  | [d1, d2] => { results := [.lit (.bool true)], args := [d1, d2] }
  | _ => none }
def intervalRoundsRow : OpenClaim := { program := "ytifgdiejpglhfaagreat", sum := "ba4fc0533c92b2a34796fe22318fa0b2030c8b4d003d4ab6ec46b616d0e0722b", func := "geoprover/geoproverlaw04.IntervalRounds", spec := "intervalRounds", unfollowed := true, recurses := true, apart := false }
def IntervalRoundsSaid : Prop := intervalRoundsRow.holds Tryz.pinned (OpenSpec.ofChange intervalRoundsSpec)

/-- ITS FALSE NEIGHBOUR: 'it returns false'. Refute it at one input. -/
def intervalRoundsWrong : ChangeSpec := { name := "intervalRounds", fn := fun _ => fun
  | [d1, d2] => { results := [.lit (.bool false)], args := [d1, d2] }
  | _ => none }
def IntervalRoundsWrongFalsely : Prop := intervalRoundsRow.holds Tryz.pinned (OpenSpec.ofChange intervalRoundsWrong)

/-- 'geoproverlaw04.IntervalParts': WHATEVER THE INPUT: true; the input reads as it did. -/
def intervalPartsSpec : ChangeSpec := { name := "intervalParts", fn := fun _ => fun
  | [d1, d2, d3] => { results := [.lit (.bool true)], args := [d1, d2, d3] }
  | _ => none }
def intervalPartsRow : OpenClaim := { program := "ytifgdiejpglhfaagreat", sum := "ba4fc0533c92b2a34796fe22318fa0b2030c8b4d003d4ab6ec46b616d0e0722b", func := "geoprover/geoproverlaw04.IntervalParts", spec := "intervalParts", unfollowed := true, recurses := true, apart := false }
def IntervalPartsSaid : Prop := intervalPartsRow.holds Tryz.pinned (OpenSpec.ofChange intervalPartsSpec)

/-- ITS FALSE NEIGHBOUR: 'it returns false'. Refute it at one input. -/
def intervalPartsWrong : ChangeSpec := { name := "intervalParts", fn := fun _ => fun
  | [d1, d2, d3] => { results := [.lit (.bool false)], args := [d1, d2, d3] }
  | _ => none }
def IntervalPartsWrongFalsely : Prop := intervalPartsRow.holds Tryz.pinned (OpenSpec.ofChange intervalPartsWrong)

/-- 'geoproverlaw04.IntervalAdds': WHATEVER THE INPUT: true; the input reads as it did. -/
def intervalAddsSpec : ChangeSpec := { name := "intervalAdds", fn := fun _ => fun
  | [d1, d2] => { results := [.lit (.bool true)], args := [d1, d2] }
  | _ => none }
def intervalAddsRow : OpenClaim := { program := "ytifgdiejpglhfaagreat", sum := "ba4fc0533c92b2a34796fe22318fa0b2030c8b4d003d4ab6ec46b616d0e0722b", func := "geoprover/geoproverlaw04.IntervalAdds", spec := "intervalAdds", unfollowed := true, recurses := true, apart := false }
def IntervalAddsSaid : Prop := intervalAddsRow.holds Tryz.pinned (OpenSpec.ofChange intervalAddsSpec)

/-- ITS FALSE NEIGHBOUR: 'it returns false'. Refute it at one input. -/
def intervalAddsWrong : ChangeSpec := { name := "intervalAdds", fn := fun _ => fun
  | [d1, d2] => { results := [.lit (.bool false)], args := [d1, d2] }
  | _ => none }
def IntervalAddsWrongFalsely : Prop := intervalAddsRow.holds Tryz.pinned (OpenSpec.ofChange intervalAddsWrong)

/- THE SECOND FORM. 'bulk': how many values and letters a reading holds, each counted each time it is reached (what is shared counts as often as it is met; a slice's spare places count too). A statement '..UptoSaid' is the law's where the arguments, and the package variables that the reading takes, are together of bulk at most 1048576: NARROWER than '..Said'. Prove '..Said' where nothing that the law and all that it calls make is longer than what came in: it says more and counts as full. Else prove '..UptoSaid'. A law counts once. -/
mutual
def uptoBulk {H : Type} : DataW H → Nat
  | .lit (.string bytes) => bytes.length + 1
  | .lit _ => 1
  | .nil => 1
  | .ptr d => uptoBulk d + 1
  | .slice elems spare => uptoBulkAll elems + uptoBulkAll spare + 1
  | .agg parts => uptoBulkAll parts + 1
  | .iface _ d => uptoBulk d + 1
  | .map entries => uptoBulkEntries entries + 1
  | .held _ => 1
def uptoBulkAll {H : Type} : List (DataW H) → Nat
  | [] => 0
  | d :: r => uptoBulk d + uptoBulkAll r
def uptoBulkEntries {H : Type} : List (Lit × DataW H) → Nat
  | [] => 0
  | x :: r => uptoBulkEntry x + uptoBulkEntries r
def uptoBulkEntry {H : Type} : Lit × DataW H → Nat
  | (.string bytes, d) => bytes.length + uptoBulk d + 1
  | (_, d) => uptoBulk d + 1
 end
def uptoSmall : (H : Type) → List (DataW H) → Bool := fun _ ds => decide (uptoBulkAll ds ≤ 1048576)
def OpenSpec.upto (s : _root_.Go.ChangeSpec) : _root_.Go.OpenSpec := { _root_.Go.OpenSpec.ofChange s with cond := some uptoSmall }

/-- 'geoproverlaw04.IntervalRounds', WHERE WHAT IT READS IS OF BULK AT MOST 1048576: true; the input reads as it did. -/
def intervalRoundsUptoRow : OpenClaim := { program := "ytifgdiejpglhfaagreat", sum := "ba4fc0533c92b2a34796fe22318fa0b2030c8b4d003d4ab6ec46b616d0e0722b", func := "geoprover/geoproverlaw04.IntervalRounds", spec := "intervalRounds", unfollowed := true, recurses := true, apart := false, narrowed := true }
def IntervalRoundsUptoSaid : Prop := intervalRoundsUptoRow.holds Tryz.pinned (OpenSpec.upto intervalRoundsSpec)

/-- 'geoproverlaw04.IntervalParts', WHERE WHAT IT READS IS OF BULK AT MOST 1048576: true; the input reads as it did. -/
def intervalPartsUptoRow : OpenClaim := { program := "ytifgdiejpglhfaagreat", sum := "ba4fc0533c92b2a34796fe22318fa0b2030c8b4d003d4ab6ec46b616d0e0722b", func := "geoprover/geoproverlaw04.IntervalParts", spec := "intervalParts", unfollowed := true, recurses := true, apart := false, narrowed := true }
def IntervalPartsUptoSaid : Prop := intervalPartsUptoRow.holds Tryz.pinned (OpenSpec.upto intervalPartsSpec)

/-- 'geoproverlaw04.IntervalAdds', WHERE WHAT IT READS IS OF BULK AT MOST 1048576: true; the input reads as it did. -/
def intervalAddsUptoRow : OpenClaim := { program := "ytifgdiejpglhfaagreat", sum := "ba4fc0533c92b2a34796fe22318fa0b2030c8b4d003d4ab6ec46b616d0e0722b", func := "geoprover/geoproverlaw04.IntervalAdds", spec := "intervalAdds", unfollowed := true, recurses := true, apart := false, narrowed := true }
def IntervalAddsUptoSaid : Prop := intervalAddsUptoRow.holds Tryz.pinned (OpenSpec.upto intervalAddsSpec)

end Rows
end Go.Proofs.YtifgdiejpglhfaaGreat
