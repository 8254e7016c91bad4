/-
  No cell of these rows narrows 'for every input' (looked for: loops, veiled, ifaces, maps, wideKeys, modest, calm, conditions, laid).
  DERIVED. THE GIVEN ROWS OF THIS SEAT. 9 by the template 'for every input the law returns true; each argument reads behind the call as it read before'; 0 by the template 'total and deterministic' (their statements: YtomniiobaonloaaTotals.lean).
  GIVEN WITH THE SEED: the statements are not yours to turn. If you find one false, say at which input.
  Laid BY PROGRAM, IN A SANDBOX (cutbox-rows.mjs): the forced cells as the released guide's own fill.sh prints them over the translation 7d0686bc7b2c03b4… (all of the seat's roots in one cut). By AI agents, Wed Nov 11 2026. No macro, syntax, notation, axiom, sorry.
-/
import Derived.Test.YtomniiobaonloaaChecked
import GoSem.Claim
import GoSem.ClaimJoined
import GoSem.ClaimMapViews
import Derived.JoinedTies
import Derived.KernelRfl
namespace Go.Proofs.Ytomniiobaonloaa
/- THE CELL 'sum', in the pinned program and in every row, IS THE sha256 OF THE DUMP (.gsa) THAT YtomniiobaonloaaProg.lean LOADS. Nothing in Lean hashes anything: it is a label: what it is worth is what the hold of that sum in a sandbox is worth. -/
noncomputable def Try.pinned : Pinned := { name := "ytomniiobaonloaa", sum := "7d0686bc7b2c03b4811a14ef24a527addecbb61d263698a067b39023cace8744", checked := Try.checked }
namespace Rows
def none {H : Type} : Left H := { results := [], args := [] }

/-- 'geoproverlaw01.NaturalForms': WHATEVER THE INPUT: true; the input reads as it did. -/
def naturalFormsSpec : ChangeSpec := { name := "naturalForms", fn := fun _ => fun
  | [d1, d2, d3] => { results := [.lit (.bool true)], args := [d1, d2, d3] }
  | _ => none }
def naturalFormsRow : OpenClaim := { program := "ytomniiobaonloaa", sum := "7d0686bc7b2c03b4811a14ef24a527addecbb61d263698a067b39023cace8744", func := "geoprover/geoproverlaw01.NaturalForms", spec := "naturalForms", unfollowed := true, recurses := true, apart := false }
def NaturalFormsSaid : Prop := naturalFormsRow.holds Try.pinned (OpenSpec.ofChange naturalFormsSpec)

/-- ITS FALSE NEIGHBOUR: 'it returns false'. Refute it at one input. -/
def naturalFormsWrong : ChangeSpec := { name := "naturalForms", fn := fun _ => fun
  | [d1, d2, d3] => { results := [.lit (.bool false)], args := [d1, d2, d3] }
  | _ => none }
def NaturalFormsWrongFalsely : Prop := naturalFormsRow.holds Try.pinned (OpenSpec.ofChange naturalFormsWrong)

/-- 'geoproverlaw01.NaturalDivides': WHATEVER THE INPUT: true; the input reads as it did. -/
def naturalDividesSpec : ChangeSpec := { name := "naturalDivides", fn := fun _ => fun
  | [d1, d2] => { results := [.lit (.bool true)], args := [d1, d2] }
  | _ => none }
def naturalDividesRow : OpenClaim := { program := "ytomniiobaonloaa", sum := "7d0686bc7b2c03b4811a14ef24a527addecbb61d263698a067b39023cace8744", func := "geoprover/geoproverlaw01.NaturalDivides", spec := "naturalDivides", unfollowed := true, recurses := true, apart := false }
def NaturalDividesSaid : Prop := naturalDividesRow.holds Try.pinned (OpenSpec.ofChange naturalDividesSpec)

/-- ITS FALSE NEIGHBOUR: 'it returns false'. Refute it at one input. -/
def naturalDividesWrong : ChangeSpec := { name := "naturalDivides", fn := fun _ => fun
  | [d1, d2] => { results := [.lit (.bool false)], args := [d1, d2] }
  | _ => none }
def NaturalDividesWrongFalsely : Prop := naturalDividesRow.holds Try.pinned (OpenSpec.ofChange naturalDividesWrong)

/-- 'geoproverlaw01.NaturalGcds': WHATEVER THE INPUT: true; the input reads as it did. -/
def naturalGcdsSpec : ChangeSpec := { name := "naturalGcds", fn := fun _ => fun
  | [d1, d2] => { results := [.lit (.bool true)], args := [d1, d2] }
  | _ => none }
def naturalGcdsRow : OpenClaim := { program := "ytomniiobaonloaa", sum := "7d0686bc7b2c03b4811a14ef24a527addecbb61d263698a067b39023cace8744", func := "geoprover/geoproverlaw01.NaturalGcds", spec := "naturalGcds", unfollowed := true, recurses := true, apart := false }
def NaturalGcdsSaid : Prop := naturalGcdsRow.holds Try.pinned (OpenSpec.ofChange naturalGcdsSpec)

/-- ITS FALSE NEIGHBOUR: 'it returns false'. Refute it at one input. -/
def naturalGcdsWrong : ChangeSpec := { name := "naturalGcds", fn := fun _ => fun
  | [d1, d2] => { results := [.lit (.bool false)], args := [d1, d2] }
  | _ => none }
def NaturalGcdsWrongFalsely : Prop := naturalGcdsRow.holds Try.pinned (OpenSpec.ofChange naturalGcdsWrong)

/-- 'geoproverlaw01.NaturalQuotients': WHATEVER THE INPUT: true; the input reads as it did. -/
def naturalQuotientsSpec : ChangeSpec := { name := "naturalQuotients", fn := fun _ => fun
  | [d1, d2, d3] => { results := [.lit (.bool true)], args := [d1, d2, d3] }
  | _ => none }
def naturalQuotientsRow : OpenClaim := { program := "ytomniiobaonloaa", sum := "7d0686bc7b2c03b4811a14ef24a527addecbb61d263698a067b39023cace8744", func := "geoprover/geoproverlaw01.NaturalQuotients", spec := "naturalQuotients", unfollowed := true, recurses := true, apart := false }
def NaturalQuotientsSaid : Prop := naturalQuotientsRow.holds Try.pinned (OpenSpec.ofChange naturalQuotientsSpec)

/-- ITS FALSE NEIGHBOUR: 'it returns false'. Refute it at one input. -/
def naturalQuotientsWrong : ChangeSpec := { name := "naturalQuotients", fn := fun _ => fun
  | [d1, d2, d3] => { results := [.lit (.bool false)], args := [d1, d2, d3] }
  | _ => none }
def NaturalQuotientsWrongFalsely : Prop := naturalQuotientsRow.holds Try.pinned (OpenSpec.ofChange naturalQuotientsWrong)

/-- 'geoproverlaw01.NaturalAdds': WHATEVER THE INPUT: true; the input reads as it did. -/
def naturalAddsSpec : ChangeSpec := { name := "naturalAdds", fn := fun _ => fun
  | [d1, d2] => { results := [.lit (.bool true)], args := [d1, d2] }
  | _ => none }
def naturalAddsRow : OpenClaim := { program := "ytomniiobaonloaa", sum := "7d0686bc7b2c03b4811a14ef24a527addecbb61d263698a067b39023cace8744", func := "geoprover/geoproverlaw01.NaturalAdds", spec := "naturalAdds", unfollowed := true, recurses := true, apart := false }
def NaturalAddsSaid : Prop := naturalAddsRow.holds Try.pinned (OpenSpec.ofChange naturalAddsSpec)

/-- ITS FALSE NEIGHBOUR: 'it returns false'. Refute it at one input. -/
def naturalAddsWrong : ChangeSpec := { name := "naturalAdds", fn := fun _ => fun
  | [d1, d2] => { results := [.lit (.bool false)], args := [d1, d2] }
  | _ => none }
def NaturalAddsWrongFalsely : Prop := naturalAddsRow.holds Try.pinned (OpenSpec.ofChange naturalAddsWrong)

/-- 'geoproverlaw01.NaturalRing': WHATEVER THE INPUT: true; the input reads as it did. -/
def naturalRingSpec : ChangeSpec := { name := "naturalRing", fn := fun _ => fun
  | [d1, d2, d3] => { results := [.lit (.bool true)], args := [d1, d2, d3] }
  | _ => none }
def naturalRingRow : OpenClaim := { program := "ytomniiobaonloaa", sum := "7d0686bc7b2c03b4811a14ef24a527addecbb61d263698a067b39023cace8744", func := "geoprover/geoproverlaw01.NaturalRing", spec := "naturalRing", unfollowed := true, recurses := true, apart := false }
def NaturalRingSaid : Prop := naturalRingRow.holds Try.pinned (OpenSpec.ofChange naturalRingSpec)

/-- ITS FALSE NEIGHBOUR: 'it returns false'. Refute it at one input. -/
def naturalRingWrong : ChangeSpec := { name := "naturalRing", fn := fun _ => fun
  | [d1, d2, d3] => { results := [.lit (.bool false)], args := [d1, d2, d3] }
  | _ => none }
def NaturalRingWrongFalsely : Prop := naturalRingRow.holds Try.pinned (OpenSpec.ofChange naturalRingWrong)

/-- 'geoproverlaw01.NaturalReads': WHATEVER THE INPUT: true; the input reads as it did. -/
def naturalReadsSpec : ChangeSpec := { name := "naturalReads", fn := fun _ => fun
  | [d1, d2] => { results := [.lit (.bool true)], args := [d1, d2] }
  | _ => none }
def naturalReadsRow : OpenClaim := { program := "ytomniiobaonloaa", sum := "7d0686bc7b2c03b4811a14ef24a527addecbb61d263698a067b39023cace8744", func := "geoprover/geoproverlaw01.NaturalReads", spec := "naturalReads", inPlace := ["internal/abi.NoEscape"], unfollowed := true, recurses := true, apart := false }
def NaturalReadsSaid : Prop := naturalReadsRow.holds Try.pinned (OpenSpec.ofChange naturalReadsSpec)

/-- ITS FALSE NEIGHBOUR: 'it returns false'. Refute it at one input. -/
def naturalReadsWrong : ChangeSpec := { name := "naturalReads", fn := fun _ => fun
  | [d1, d2] => { results := [.lit (.bool false)], args := [d1, d2] }
  | _ => none }
def NaturalReadsWrongFalsely : Prop := naturalReadsRow.holds Try.pinned (OpenSpec.ofChange naturalReadsWrong)

/-- 'geoproverlaw01.NaturalRoots': WHATEVER THE INPUT: true; the input reads as it did. -/
def naturalRootsSpec : ChangeSpec := { name := "naturalRoots", fn := fun _ => fun
  | [d1, d2] => { results := [.lit (.bool true)], args := [d1, d2] }
  | _ => none }
def naturalRootsRow : OpenClaim := { program := "ytomniiobaonloaa", sum := "7d0686bc7b2c03b4811a14ef24a527addecbb61d263698a067b39023cace8744", func := "geoprover/geoproverlaw01.NaturalRoots", spec := "naturalRoots", unfollowed := true, recurses := true, apart := false }
def NaturalRootsSaid : Prop := naturalRootsRow.holds Try.pinned (OpenSpec.ofChange naturalRootsSpec)

/-- ITS FALSE NEIGHBOUR: 'it returns false'. Refute it at one input. -/
def naturalRootsWrong : ChangeSpec := { name := "naturalRoots", fn := fun _ => fun
  | [d1, d2] => { results := [.lit (.bool false)], args := [d1, d2] }
  | _ => none }
def NaturalRootsWrongFalsely : Prop := naturalRootsRow.holds Try.pinned (OpenSpec.ofChange naturalRootsWrong)

/-- 'geoproverlaw01.NaturalBack': WHATEVER THE INPUT: true; the input reads as it did. -/
def naturalBackSpec : ChangeSpec := { name := "naturalBack", fn := fun _ => fun
  | [d1, d2] => { results := [.lit (.bool true)], args := [d1, d2] }
  | _ => none }
def naturalBackRow : OpenClaim := { program := "ytomniiobaonloaa", sum := "7d0686bc7b2c03b4811a14ef24a527addecbb61d263698a067b39023cace8744", func := "geoprover/geoproverlaw01.NaturalBack", spec := "naturalBack", inPlace := ["internal/abi.NoEscape"], unfollowed := true, recurses := true, apart := false }
def NaturalBackSaid : Prop := naturalBackRow.holds Try.pinned (OpenSpec.ofChange naturalBackSpec)

/-- ITS FALSE NEIGHBOUR: 'it returns false'. Refute it at one input. -/
def naturalBackWrong : ChangeSpec := { name := "naturalBack", fn := fun _ => fun
  | [d1, d2] => { results := [.lit (.bool false)], args := [d1, d2] }
  | _ => none }
def NaturalBackWrongFalsely : Prop := naturalBackRow.holds Try.pinned (OpenSpec.ofChange naturalBackWrong)

/- THE SECOND FORM. 'bulk': how many values and letters a reading holds, each counted each time it is reached (what is shared counts as often as it is met; a slice's spare places count too). A statement '..UptoSaid' is the law's where the arguments, and the package variables that the reading takes, are together of bulk at most 1048576: NARROWER than '..Said'. Prove '..Said' where nothing that the law and all that it calls make is longer than what came in: it says more and counts as full. Else prove '..UptoSaid'. A law counts once. -/
mutual
def uptoBulk {H : Type} : DataW H → Nat
  | .lit (.string bytes) => bytes.length + 1
  | .lit _ => 1
  | .nil => 1
  | .ptr d => uptoBulk d + 1
  | .slice elems spare => uptoBulkAll elems + uptoBulkAll spare + 1
  | .agg parts => uptoBulkAll parts + 1
  | .iface _ d => uptoBulk d + 1
  | .map entries => uptoBulkEntries entries + 1
  | .held _ => 1
def uptoBulkAll {H : Type} : List (DataW H) → Nat
  | [] => 0
  | d :: r => uptoBulk d + uptoBulkAll r
def uptoBulkEntries {H : Type} : List (Lit × DataW H) → Nat
  | [] => 0
  | x :: r => uptoBulkEntry x + uptoBulkEntries r
def uptoBulkEntry {H : Type} : Lit × DataW H → Nat
  | (.string bytes, d) => bytes.length + uptoBulk d + 1
  | (_, d) => uptoBulk d + 1
 end
def uptoSmall : (H : Type) → List (DataW H) → Bool := fun _ ds => decide (uptoBulkAll ds ≤ 1048576)
def OpenSpec.upto (s : _root_.Go.ChangeSpec) : _root_.Go.OpenSpec := { _root_.Go.OpenSpec.ofChange s with cond := some uptoSmall }

/-- 'geoproverlaw01.NaturalForms', WHERE WHAT IT READS IS OF BULK AT MOST 1048576: true; the input reads as it did. -/
def naturalFormsUptoRow : OpenClaim := { program := "ytomniiobaonloaa", sum := "7d0686bc7b2c03b4811a14ef24a527addecbb61d263698a067b39023cace8744", func := "geoprover/geoproverlaw01.NaturalForms", spec := "naturalForms", unfollowed := true, recurses := true, apart := false, narrowed := true }
def NaturalFormsUptoSaid : Prop := naturalFormsUptoRow.holds Try.pinned (OpenSpec.upto naturalFormsSpec)

/-- 'geoproverlaw01.NaturalDivides', WHERE WHAT IT READS IS OF BULK AT MOST 1048576: true; the input reads as it did. -/
def naturalDividesUptoRow : OpenClaim := { program := "ytomniiobaonloaa", sum := "7d0686bc7b2c03b4811a14ef24a527addecbb61d263698a067b39023cace8744", func := "geoprover/geoproverlaw01.NaturalDivides", spec := "naturalDivides", unfollowed := true, recurses := true, apart := false, narrowed := true }
def NaturalDividesUptoSaid : Prop := naturalDividesUptoRow.holds Try.pinned (OpenSpec.upto naturalDividesSpec)

/-- 'geoproverlaw01.NaturalGcds', WHERE WHAT IT READS IS OF BULK AT MOST 1048576: true; the input reads as it did. -/
def naturalGcdsUptoRow : OpenClaim := { program := "ytomniiobaonloaa", sum := "7d0686bc7b2c03b4811a14ef24a527addecbb61d263698a067b39023cace8744", func := "geoprover/geoproverlaw01.NaturalGcds", spec := "naturalGcds", unfollowed := true, recurses := true, apart := false, narrowed := true }
def NaturalGcdsUptoSaid : Prop := naturalGcdsUptoRow.holds Try.pinned (OpenSpec.upto naturalGcdsSpec)

/-- 'geoproverlaw01.NaturalQuotients', WHERE WHAT IT READS IS OF BULK AT MOST 1048576: true; the input reads as it did. -/
def naturalQuotientsUptoRow : OpenClaim := { program := "ytomniiobaonloaa", sum := "7d0686bc7b2c03b4811a14ef24a527addecbb61d263698a067b39023cace8744", func := "geoprover/geoproverlaw01.NaturalQuotients", spec := "naturalQuotients", unfollowed := true, recurses := true, apart := false, narrowed := true }
def NaturalQuotientsUptoSaid : Prop := naturalQuotientsUptoRow.holds Try.pinned (OpenSpec.upto naturalQuotientsSpec)

/-- 'geoproverlaw01.NaturalAdds', WHERE WHAT IT READS IS OF BULK AT MOST 1048576: true; the input reads as it did. -/
def naturalAddsUptoRow : OpenClaim := { program := "ytomniiobaonloaa", sum := "7d0686bc7b2c03b4811a14ef24a527addecbb61d263698a067b39023cace8744", func := "geoprover/geoproverlaw01.NaturalAdds", spec := "naturalAdds", unfollowed := true, recurses := true, apart := false, narrowed := true }
def NaturalAddsUptoSaid : Prop := naturalAddsUptoRow.holds Try.pinned (OpenSpec.upto naturalAddsSpec)

/-- 'geoproverlaw01.NaturalRing', WHERE WHAT IT READS IS OF BULK AT MOST 1048576: true; the input reads as it did. -/
def naturalRingUptoRow : OpenClaim := { program := "ytomniiobaonloaa", sum := "7d0686bc7b2c03b4811a14ef24a527addecbb61d263698a067b39023cace8744", func := "geoprover/geoproverlaw01.NaturalRing", spec := "naturalRing", unfollowed := true, recurses := true, apart := false, narrowed := true }
def NaturalRingUptoSaid : Prop := naturalRingUptoRow.holds Try.pinned (OpenSpec.upto naturalRingSpec)

/-- 'geoproverlaw01.NaturalReads', WHERE WHAT IT READS IS OF BULK AT MOST 1048576: true; the input reads as it did. -/
def naturalReadsUptoRow : OpenClaim := { program := "ytomniiobaonloaa", sum := "7d0686bc7b2c03b4811a14ef24a527addecbb61d263698a067b39023cace8744", func := "geoprover/geoproverlaw01.NaturalReads", spec := "naturalReads", inPlace := ["internal/abi.NoEscape"], unfollowed := true, recurses := true, apart := false, narrowed := true }
def NaturalReadsUptoSaid : Prop := naturalReadsUptoRow.holds Try.pinned (OpenSpec.upto naturalReadsSpec)

/-- 'geoproverlaw01.NaturalRoots', WHERE WHAT IT READS IS OF BULK AT MOST 1048576: true; the input reads as it did. -/
def naturalRootsUptoRow : OpenClaim := { program := "ytomniiobaonloaa", sum := "7d0686bc7b2c03b4811a14ef24a527addecbb61d263698a067b39023cace8744", func := "geoprover/geoproverlaw01.NaturalRoots", spec := "naturalRoots", unfollowed := true, recurses := true, apart := false, narrowed := true }
def NaturalRootsUptoSaid : Prop := naturalRootsUptoRow.holds Try.pinned (OpenSpec.upto naturalRootsSpec)

/-- 'geoproverlaw01.NaturalBack', WHERE WHAT IT READS IS OF BULK AT MOST 1048576: true; the input reads as it did. -/
def naturalBackUptoRow : OpenClaim := { program := "ytomniiobaonloaa", sum := "7d0686bc7b2c03b4811a14ef24a527addecbb61d263698a067b39023cace8744", func := "geoprover/geoproverlaw01.NaturalBack", spec := "naturalBack", inPlace := ["internal/abi.NoEscape"], unfollowed := true, recurses := true, apart := false, narrowed := true }
def NaturalBackUptoSaid : Prop := naturalBackUptoRow.holds Try.pinned (OpenSpec.upto naturalBackSpec)

end Rows
end Go.Proofs.Ytomniiobaonloaa
