/-
  No cell of these rows narrows 'for every input' (looked for: loops, veiled, ifaces, maps, wideKeys, modest, calm, conditions, laid).
  DERIVED. THE GIVEN ROWS OF THIS SEAT. 7 by the template 'for every input the law returns true; each argument reads behind the call as it read before'; 0 by the template 'total and deterministic' (their statements: YtocdcpkdcljabaaTotals.lean).
  GIVEN WITH THE SEED: the statements are not yours to turn. If you find one false, say at which input.
  Laid BY PROGRAM, IN A SANDBOX (cutbox-rows.mjs): the forced cells as the released guide's own fill.sh prints them over the translation c5f2b037c95eaeab… (all of the seat's roots in one cut). By AI agents, Wed Nov 11 2026. No macro, syntax, notation, axiom, sorry.
-/
import Derived.Test.YtocdcpkdcljabaaChecked
import GoSem.Claim
import GoSem.ClaimJoined
import GoSem.ClaimMapViews
import Derived.JoinedTies
import Derived.KernelRfl
namespace Go.Proofs.Ytocdcpkdcljabaa
/- THE CELL 'sum', in the pinned program and in every row, IS THE sha256 OF THE DUMP (.gsa) THAT YtocdcpkdcljabaaProg.lean LOADS. Nothing in Lean hashes anything: it is a label: what it is worth is what the hold of that sum in a sandbox is worth. -/
noncomputable def Try.pinned : Pinned := { name := "ytocdcpkdcljabaa", sum := "c5f2b037c95eaeabd1097e91c0a04199945f8ce2150286b1179a55b31c012f4c", checked := Try.checked }
namespace Rows
def none {H : Type} : Left H := { results := [], args := [] }

/-- 'geoproverlaw02.IntegerForms': WHATEVER THE INPUT: true; the input reads as it did. -/
def integerFormsSpec : ChangeSpec := { name := "integerForms", fn := fun _ => fun
  | [d1, d2, d3] => { results := [.lit (.bool true)], args := [d1, d2, d3] }
  | _ => none }
def integerFormsRow : OpenClaim := { program := "ytocdcpkdcljabaa", sum := "c5f2b037c95eaeabd1097e91c0a04199945f8ce2150286b1179a55b31c012f4c", func := "geoprover/geoproverlaw02.IntegerForms", spec := "integerForms", unfollowed := true, recurses := true, apart := false }
def IntegerFormsSaid : Prop := integerFormsRow.holds Try.pinned (OpenSpec.ofChange integerFormsSpec)

/-- ITS FALSE NEIGHBOUR: 'it returns false'. Refute it at one input. -/
def integerFormsWrong : ChangeSpec := { name := "integerForms", fn := fun _ => fun
  | [d1, d2, d3] => { results := [.lit (.bool false)], args := [d1, d2, d3] }
  | _ => none }
def IntegerFormsWrongFalsely : Prop := integerFormsRow.holds Try.pinned (OpenSpec.ofChange integerFormsWrong)

/-- 'geoproverlaw02.IntegerDivides': WHATEVER THE INPUT: true; the input reads as it did. -/
def integerDividesSpec : ChangeSpec := { name := "integerDivides", fn := fun _ => fun
  | [d1, d2] => { results := [.lit (.bool true)], args := [d1, d2] }
  | _ => none }
def integerDividesRow : OpenClaim := { program := "ytocdcpkdcljabaa", sum := "c5f2b037c95eaeabd1097e91c0a04199945f8ce2150286b1179a55b31c012f4c", func := "geoprover/geoproverlaw02.IntegerDivides", spec := "integerDivides", unfollowed := true, recurses := true, apart := false }
def IntegerDividesSaid : Prop := integerDividesRow.holds Try.pinned (OpenSpec.ofChange integerDividesSpec)

/-- ITS FALSE NEIGHBOUR: 'it returns false'. Refute it at one input. -/
def integerDividesWrong : ChangeSpec := { name := "integerDivides", fn := fun _ => fun
  | [d1, d2] => { results := [.lit (.bool false)], args := [d1, d2] }
  | _ => none }
def IntegerDividesWrongFalsely : Prop := integerDividesRow.holds Try.pinned (OpenSpec.ofChange integerDividesWrong)

/-- 'geoproverlaw02.IntegerAdds': WHATEVER THE INPUT: true; the input reads as it did. -/
def integerAddsSpec : ChangeSpec := { name := "integerAdds", fn := fun _ => fun
  | [d1, d2] => { results := [.lit (.bool true)], args := [d1, d2] }
  | _ => none }
def integerAddsRow : OpenClaim := { program := "ytocdcpkdcljabaa", sum := "c5f2b037c95eaeabd1097e91c0a04199945f8ce2150286b1179a55b31c012f4c", func := "geoprover/geoproverlaw02.IntegerAdds", spec := "integerAdds", unfollowed := true, recurses := true, apart := false }
def IntegerAddsSaid : Prop := integerAddsRow.holds Try.pinned (OpenSpec.ofChange integerAddsSpec)

/-- ITS FALSE NEIGHBOUR: 'it returns false'. Refute it at one input. -/
def integerAddsWrong : ChangeSpec := { name := "integerAdds", fn := fun _ => fun
  | [d1, d2] => { results := [.lit (.bool false)], args := [d1, d2] }
  | _ => none }
def IntegerAddsWrongFalsely : Prop := integerAddsRow.holds Try.pinned (OpenSpec.ofChange integerAddsWrong)

/-- 'geoproverlaw02.IntegerOrder': WHATEVER THE INPUT: true; the input reads as it did. -/
def integerOrderSpec : ChangeSpec := { name := "integerOrder", fn := fun _ => fun
  | [d1, d2, d3] => { results := [.lit (.bool true)], args := [d1, d2, d3] }
  | _ => none }
def integerOrderRow : OpenClaim := { program := "ytocdcpkdcljabaa", sum := "c5f2b037c95eaeabd1097e91c0a04199945f8ce2150286b1179a55b31c012f4c", func := "geoprover/geoproverlaw02.IntegerOrder", spec := "integerOrder", unfollowed := true, recurses := true, apart := false }
def IntegerOrderSaid : Prop := integerOrderRow.holds Try.pinned (OpenSpec.ofChange integerOrderSpec)

/-- ITS FALSE NEIGHBOUR: 'it returns false'. Refute it at one input. -/
def integerOrderWrong : ChangeSpec := { name := "integerOrder", fn := fun _ => fun
  | [d1, d2, d3] => { results := [.lit (.bool false)], args := [d1, d2, d3] }
  | _ => none }
def IntegerOrderWrongFalsely : Prop := integerOrderRow.holds Try.pinned (OpenSpec.ofChange integerOrderWrong)

/-- 'geoproverlaw02.IntegerRing': WHATEVER THE INPUT: true; the input reads as it did. -/
def integerRingSpec : ChangeSpec := { name := "integerRing", fn := fun _ => fun
  | [d1, d2, d3] => { results := [.lit (.bool true)], args := [d1, d2, d3] }
  | _ => none }
def integerRingRow : OpenClaim := { program := "ytocdcpkdcljabaa", sum := "c5f2b037c95eaeabd1097e91c0a04199945f8ce2150286b1179a55b31c012f4c", func := "geoprover/geoproverlaw02.IntegerRing", spec := "integerRing", unfollowed := true, recurses := true, apart := false }
def IntegerRingSaid : Prop := integerRingRow.holds Try.pinned (OpenSpec.ofChange integerRingSpec)

/-- ITS FALSE NEIGHBOUR: 'it returns false'. Refute it at one input. -/
def integerRingWrong : ChangeSpec := { name := "integerRing", fn := fun _ => fun
  | [d1, d2, d3] => { results := [.lit (.bool false)], args := [d1, d2, d3] }
  | _ => none }
def IntegerRingWrongFalsely : Prop := integerRingRow.holds Try.pinned (OpenSpec.ofChange integerRingWrong)

/-- 'geoproverlaw02.IntegerReads': WHATEVER THE INPUT: true; the input reads as it did. -/
def integerReadsSpec : ChangeSpec := { name := "integerReads", fn := fun _ => fun
  | [d1, d2] => { results := [.lit (.bool true)], args := [d1, d2] }
  | _ => none }
def integerReadsRow : OpenClaim := { program := "ytocdcpkdcljabaa", sum := "c5f2b037c95eaeabd1097e91c0a04199945f8ce2150286b1179a55b31c012f4c", func := "geoprover/geoproverlaw02.IntegerReads", spec := "integerReads", inPlace := ["internal/abi.NoEscape"], unfollowed := true, recurses := true, apart := false }
def IntegerReadsSaid : Prop := integerReadsRow.holds Try.pinned (OpenSpec.ofChange integerReadsSpec)

/-- ITS FALSE NEIGHBOUR: 'it returns false'. Refute it at one input. -/
def integerReadsWrong : ChangeSpec := { name := "integerReads", fn := fun _ => fun
  | [d1, d2] => { results := [.lit (.bool false)], args := [d1, d2] }
  | _ => none }
def IntegerReadsWrongFalsely : Prop := integerReadsRow.holds Try.pinned (OpenSpec.ofChange integerReadsWrong)

/-- 'geoproverlaw02.IntegerBack': WHATEVER THE INPUT: true; the input reads as it did. -/
def integerBackSpec : ChangeSpec := { name := "integerBack", fn := fun _ => fun
  | [d1, d2] => { results := [.lit (.bool true)], args := [d1, d2] }
  | _ => none }
def integerBackRow : OpenClaim := { program := "ytocdcpkdcljabaa", sum := "c5f2b037c95eaeabd1097e91c0a04199945f8ce2150286b1179a55b31c012f4c", func := "geoprover/geoproverlaw02.IntegerBack", spec := "integerBack", inPlace := ["internal/abi.NoEscape"], unfollowed := true, recurses := true, apart := false }
def IntegerBackSaid : Prop := integerBackRow.holds Try.pinned (OpenSpec.ofChange integerBackSpec)

/-- ITS FALSE NEIGHBOUR: 'it returns false'. Refute it at one input. -/
def integerBackWrong : ChangeSpec := { name := "integerBack", fn := fun _ => fun
  | [d1, d2] => { results := [.lit (.bool false)], args := [d1, d2] }
  | _ => none }
def IntegerBackWrongFalsely : Prop := integerBackRow.holds Try.pinned (OpenSpec.ofChange integerBackWrong)

/- THE SECOND FORM. 'bulk': how many values and letters a reading holds, each counted each time it is reached (what is shared counts as often as it is met; a slice's spare places count too). A statement '..UptoSaid' is the law's where the arguments, and the package variables that the reading takes, are together of bulk at most 1048576: NARROWER than '..Said'. Prove '..Said' where nothing that the law and all that it calls make is longer than what came in: it says more and counts as full. Else prove '..UptoSaid'. A law counts once. -/
mutual
def uptoBulk {H : Type} : DataW H → Nat
  | .lit (.string bytes) => bytes.length + 1
  | .lit _ => 1
  | .nil => 1
  | .ptr d => uptoBulk d + 1
  | .slice elems spare => uptoBulkAll elems + uptoBulkAll spare + 1
  | .agg parts => uptoBulkAll parts + 1
  | .iface _ d => uptoBulk d + 1
  | .map entries => uptoBulkEntries entries + 1
  | .held _ => 1
def uptoBulkAll {H : Type} : List (DataW H) → Nat
  | [] => 0
  | d :: r => uptoBulk d + uptoBulkAll r
def uptoBulkEntries {H : Type} : List (Lit × DataW H) → Nat
  | [] => 0
  | x :: r => uptoBulkEntry x + uptoBulkEntries r
def uptoBulkEntry {H : Type} : Lit × DataW H → Nat
  | (.string bytes, d) => bytes.length + uptoBulk d + 1
  | (_, d) => uptoBulk d + 1
 end
def uptoSmall : (H : Type) → List (DataW H) → Bool := fun _ ds => decide (uptoBulkAll ds ≤ 1048576)
def OpenSpec.upto (s : _root_.Go.ChangeSpec) : _root_.Go.OpenSpec := { _root_.Go.OpenSpec.ofChange s with cond := some uptoSmall }

/-- 'geoproverlaw02.IntegerForms', WHERE WHAT IT READS IS OF BULK AT MOST 1048576: true; the input reads as it did. -/
def integerFormsUptoRow : OpenClaim := { program := "ytocdcpkdcljabaa", sum := "c5f2b037c95eaeabd1097e91c0a04199945f8ce2150286b1179a55b31c012f4c", func := "geoprover/geoproverlaw02.IntegerForms", spec := "integerForms", unfollowed := true, recurses := true, apart := false, narrowed := true }
def IntegerFormsUptoSaid : Prop := integerFormsUptoRow.holds Try.pinned (OpenSpec.upto integerFormsSpec)

/-- 'geoproverlaw02.IntegerDivides', WHERE WHAT IT READS IS OF BULK AT MOST 1048576: true; the input reads as it did. -/
def integerDividesUptoRow : OpenClaim := { program := "ytocdcpkdcljabaa", sum := "c5f2b037c95eaeabd1097e91c0a04199945f8ce2150286b1179a55b31c012f4c", func := "geoprover/geoproverlaw02.IntegerDivides", spec := "integerDivides", unfollowed := true, recurses := true, apart := false, narrowed := true }
def IntegerDividesUptoSaid : Prop := integerDividesUptoRow.holds Try.pinned (OpenSpec.upto integerDividesSpec)

/-- 'geoproverlaw02.IntegerAdds', WHERE WHAT IT READS IS OF BULK AT MOST 1048576: true; the input reads as it did. -/
def integerAddsUptoRow : OpenClaim := { program := "ytocdcpkdcljabaa", sum := "c5f2b037c95eaeabd1097e91c0a04199945f8ce2150286b1179a55b31c012f4c", func := "geoprover/geoproverlaw02.IntegerAdds", spec := "integerAdds", unfollowed := true, recurses := true, apart := false, narrowed := true }
def IntegerAddsUptoSaid : Prop := integerAddsUptoRow.holds Try.pinned (OpenSpec.upto integerAddsSpec)

/-- 'geoproverlaw02.IntegerOrder', WHERE WHAT IT READS IS OF BULK AT MOST 1048576: true; the input reads as it did. -/
def integerOrderUptoRow : OpenClaim := { program := "ytocdcpkdcljabaa", sum := "c5f2b037c95eaeabd1097e91c0a04199945f8ce2150286b1179a55b31c012f4c", func := "geoprover/geoproverlaw02.IntegerOrder", spec := "integerOrder", unfollowed := true, recurses := true, apart := false, narrowed := true }
def IntegerOrderUptoSaid : Prop := integerOrderUptoRow.holds Try.pinned (OpenSpec.upto integerOrderSpec)

/-- 'geoproverlaw02.IntegerRing', WHERE WHAT IT READS IS OF BULK AT MOST 1048576: true; the input reads as it did. -/
def integerRingUptoRow : OpenClaim := { program := "ytocdcpkdcljabaa", sum := "c5f2b037c95eaeabd1097e91c0a04199945f8ce2150286b1179a55b31c012f4c", func := "geoprover/geoproverlaw02.IntegerRing", spec := "integerRing", unfollowed := true, recurses := true, apart := false, narrowed := true }
def IntegerRingUptoSaid : Prop := integerRingUptoRow.holds Try.pinned (OpenSpec.upto integerRingSpec)

/-- 'geoproverlaw02.IntegerReads', WHERE WHAT IT READS IS OF BULK AT MOST 1048576: true; the input reads as it did. -/
def integerReadsUptoRow : OpenClaim := { program := "ytocdcpkdcljabaa", sum := "c5f2b037c95eaeabd1097e91c0a04199945f8ce2150286b1179a55b31c012f4c", func := "geoprover/geoproverlaw02.IntegerReads", spec := "integerReads", inPlace := ["internal/abi.NoEscape"], unfollowed := true, recurses := true, apart := false, narrowed := true }
def IntegerReadsUptoSaid : Prop := integerReadsUptoRow.holds Try.pinned (OpenSpec.upto integerReadsSpec)

/-- 'geoproverlaw02.IntegerBack', WHERE WHAT IT READS IS OF BULK AT MOST 1048576: true; the input reads as it did. -/
def integerBackUptoRow : OpenClaim := { program := "ytocdcpkdcljabaa", sum := "c5f2b037c95eaeabd1097e91c0a04199945f8ce2150286b1179a55b31c012f4c", func := "geoprover/geoproverlaw02.IntegerBack", spec := "integerBack", inPlace := ["internal/abi.NoEscape"], unfollowed := true, recurses := true, apart := false, narrowed := true }
def IntegerBackUptoSaid : Prop := integerBackUptoRow.holds Try.pinned (OpenSpec.upto integerBackSpec)

end Rows
end Go.Proofs.Ytocdcpkdcljabaa
