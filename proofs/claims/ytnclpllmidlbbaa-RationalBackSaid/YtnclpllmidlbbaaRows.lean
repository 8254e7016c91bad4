/-
  No cell of these rows narrows 'for every input' (looked for: loops, veiled, ifaces, maps, wideKeys, modest, calm, conditions, laid).
  DERIVED. THE GIVEN ROWS OF THIS SEAT. 8 by the template 'for every input the law returns true; each argument reads behind the call as it read before'; 0 by the template 'total and deterministic' (their statements: YtnclpllmidlbbaaTotals.lean).
  GIVEN WITH THE SEED: the statements are not yours to turn. If you find one false, say at which input.
  Laid BY PROGRAM, IN A SANDBOX (cutbox-rows.mjs): the forced cells as the released guide's own fill.sh prints them over the translation e63ce02e0c24d50c… (all of the seat's roots in one cut). By AI agents, Wed Nov 11 2026. No macro, syntax, notation, axiom, sorry.
-/
import Derived.Test.YtnclpllmidlbbaaChecked
import GoSem.Claim
import GoSem.ClaimJoined
import GoSem.ClaimMapViews
import Derived.JoinedTies
import Derived.KernelRfl
namespace Go.Proofs.Ytnclpllmidlbbaa
/- THE CELL 'sum', in the pinned program and in every row, IS THE sha256 OF THE DUMP (.gsa) THAT YtnclpllmidlbbaaProg.lean LOADS. Nothing in Lean hashes anything: it is a label: what it is worth is what the hold of that sum in a sandbox is worth. -/
noncomputable def Try.pinned : Pinned := { name := "ytnclpllmidlbbaa", sum := "e63ce02e0c24d50c287fc9990017d46ef37d9a8d29eb688ee0a081275531ae7c", checked := Try.checked }
namespace Rows
def none {H : Type} : Left H := { results := [], args := [] }

/-- 'geoproverlaw03.RationalMakes': WHATEVER THE INPUT: true; the input reads as it did. -/
def rationalMakesSpec : ChangeSpec := { name := "rationalMakes", fn := fun _ => fun
  | [d1, d2, d3] => { results := [.lit (.bool true)], args := [d1, d2, d3] }
  | _ => none }
def rationalMakesRow : OpenClaim := { program := "ytnclpllmidlbbaa", sum := "e63ce02e0c24d50c287fc9990017d46ef37d9a8d29eb688ee0a081275531ae7c", func := "geoprover/geoproverlaw03.RationalMakes", spec := "rationalMakes", unfollowed := true, recurses := true, apart := false }
def RationalMakesSaid : Prop := rationalMakesRow.holds Try.pinned (OpenSpec.ofChange rationalMakesSpec)

/-- ITS FALSE NEIGHBOUR: 'it returns false'. Refute it at one input. -/
def rationalMakesWrong : ChangeSpec := { name := "rationalMakes", fn := fun _ => fun
  | [d1, d2, d3] => { results := [.lit (.bool false)], args := [d1, d2, d3] }
  | _ => none }
def RationalMakesWrongFalsely : Prop := rationalMakesRow.holds Try.pinned (OpenSpec.ofChange rationalMakesWrong)

/-- 'geoproverlaw03.RationalRoots': WHATEVER THE INPUT: true; the input reads as it did. -/
def rationalRootsSpec : ChangeSpec := { name := "rationalRoots", fn := fun _ => fun
  | [d] => { results := [.lit (.bool true)], args := [d] }
  | _ => none }
def rationalRootsRow : OpenClaim := { program := "ytnclpllmidlbbaa", sum := "e63ce02e0c24d50c287fc9990017d46ef37d9a8d29eb688ee0a081275531ae7c", func := "geoprover/geoproverlaw03.RationalRoots", spec := "rationalRoots", unfollowed := true, recurses := true, apart := false }
def RationalRootsSaid : Prop := rationalRootsRow.holds Try.pinned (OpenSpec.ofChange rationalRootsSpec)

/-- ITS FALSE NEIGHBOUR: 'it returns false'. Refute it at one input. -/
def rationalRootsWrong : ChangeSpec := { name := "rationalRoots", fn := fun _ => fun
  | [d] => { results := [.lit (.bool false)], args := [d] }
  | _ => none }
def RationalRootsWrongFalsely : Prop := rationalRootsRow.holds Try.pinned (OpenSpec.ofChange rationalRootsWrong)

/-- 'geoproverlaw03.RationalForms': WHATEVER THE INPUT: true; the input reads as it did. -/
def rationalFormsSpec : ChangeSpec := { name := "rationalForms", fn := fun _ => fun
  | [d1, d2] => { results := [.lit (.bool true)], args := [d1, d2] }
  | _ => none }
def rationalFormsRow : OpenClaim := { program := "ytnclpllmidlbbaa", sum := "e63ce02e0c24d50c287fc9990017d46ef37d9a8d29eb688ee0a081275531ae7c", func := "geoprover/geoproverlaw03.RationalForms", spec := "rationalForms", unfollowed := true, recurses := true, apart := false }
def RationalFormsSaid : Prop := rationalFormsRow.holds Try.pinned (OpenSpec.ofChange rationalFormsSpec)

/-- ITS FALSE NEIGHBOUR: 'it returns false'. Refute it at one input. -/
def rationalFormsWrong : ChangeSpec := { name := "rationalForms", fn := fun _ => fun
  | [d1, d2] => { results := [.lit (.bool false)], args := [d1, d2] }
  | _ => none }
def RationalFormsWrongFalsely : Prop := rationalFormsRow.holds Try.pinned (OpenSpec.ofChange rationalFormsWrong)

/-- 'geoproverlaw03.RationalAdds': WHATEVER THE INPUT: true; the input reads as it did. -/
def rationalAddsSpec : ChangeSpec := { name := "rationalAdds", fn := fun _ => fun
  | [d1, d2] => { results := [.lit (.bool true)], args := [d1, d2] }
  | _ => none }
def rationalAddsRow : OpenClaim := { program := "ytnclpllmidlbbaa", sum := "e63ce02e0c24d50c287fc9990017d46ef37d9a8d29eb688ee0a081275531ae7c", func := "geoprover/geoproverlaw03.RationalAdds", spec := "rationalAdds", unfollowed := true, recurses := true, apart := false }
def RationalAddsSaid : Prop := rationalAddsRow.holds Try.pinned (OpenSpec.ofChange rationalAddsSpec)

/-- ITS FALSE NEIGHBOUR: 'it returns false'. Refute it at one input. -/
def rationalAddsWrong : ChangeSpec := { name := "rationalAdds", fn := fun _ => fun
  | [d1, d2] => { results := [.lit (.bool false)], args := [d1, d2] }
  | _ => none }
def RationalAddsWrongFalsely : Prop := rationalAddsRow.holds Try.pinned (OpenSpec.ofChange rationalAddsWrong)

/-- 'geoproverlaw03.RationalField': WHATEVER THE INPUT: true; the input reads as it did. -/
def rationalFieldSpec : ChangeSpec := { name := "rationalField", fn := fun _ => fun
  | [d1, d2, d3] => { results := [.lit (.bool true)], args := [d1, d2, d3] }
  | _ => none }
def rationalFieldRow : OpenClaim := { program := "ytnclpllmidlbbaa", sum := "e63ce02e0c24d50c287fc9990017d46ef37d9a8d29eb688ee0a081275531ae7c", func := "geoprover/geoproverlaw03.RationalField", spec := "rationalField", unfollowed := true, recurses := true, apart := false }
def RationalFieldSaid : Prop := rationalFieldRow.holds Try.pinned (OpenSpec.ofChange rationalFieldSpec)

/-- ITS FALSE NEIGHBOUR: 'it returns false'. Refute it at one input. -/
def rationalFieldWrong : ChangeSpec := { name := "rationalField", fn := fun _ => fun
  | [d1, d2, d3] => { results := [.lit (.bool false)], args := [d1, d2, d3] }
  | _ => none }
def RationalFieldWrongFalsely : Prop := rationalFieldRow.holds Try.pinned (OpenSpec.ofChange rationalFieldWrong)

/-- 'geoproverlaw03.RationalOrder': WHATEVER THE INPUT: true; the input reads as it did. -/
def rationalOrderSpec : ChangeSpec := { name := "rationalOrder", fn := fun _ => fun
  | [d1, d2, d3] => { results := [.lit (.bool true)], args := [d1, d2, d3] }
  | _ => none }
def rationalOrderRow : OpenClaim := { program := "ytnclpllmidlbbaa", sum := "e63ce02e0c24d50c287fc9990017d46ef37d9a8d29eb688ee0a081275531ae7c", func := "geoprover/geoproverlaw03.RationalOrder", spec := "rationalOrder", unfollowed := true, recurses := true, apart := false }
def RationalOrderSaid : Prop := rationalOrderRow.holds Try.pinned (OpenSpec.ofChange rationalOrderSpec)

/-- ITS FALSE NEIGHBOUR: 'it returns false'. Refute it at one input. -/
def rationalOrderWrong : ChangeSpec := { name := "rationalOrder", fn := fun _ => fun
  | [d1, d2, d3] => { results := [.lit (.bool false)], args := [d1, d2, d3] }
  | _ => none }
def RationalOrderWrongFalsely : Prop := rationalOrderRow.holds Try.pinned (OpenSpec.ofChange rationalOrderWrong)

/-- 'geoproverlaw03.RationalReads': WHATEVER THE INPUT: true; the input reads as it did. -/
def rationalReadsSpec : ChangeSpec := { name := "rationalReads", fn := fun _ => fun
  | [d1, d2] => { results := [.lit (.bool true)], args := [d1, d2] }
  | _ => none }
def rationalReadsRow : OpenClaim := { program := "ytnclpllmidlbbaa", sum := "e63ce02e0c24d50c287fc9990017d46ef37d9a8d29eb688ee0a081275531ae7c", func := "geoprover/geoproverlaw03.RationalReads", spec := "rationalReads", inPlace := ["internal/bytealg.IndexByteString", "internal/bytealg.IndexString", "internal/abi.NoEscape"], unfollowed := true, recurses := true, named := ["internal/bytealg.MaxLen"], apart := false }
def RationalReadsSaid : Prop := rationalReadsRow.holds Try.pinned (OpenSpec.ofChange rationalReadsSpec)

/-- ITS FALSE NEIGHBOUR: 'it returns false'. Refute it at one input. -/
def rationalReadsWrong : ChangeSpec := { name := "rationalReads", fn := fun _ => fun
  | [d1, d2] => { results := [.lit (.bool false)], args := [d1, d2] }
  | _ => none }
def RationalReadsWrongFalsely : Prop := rationalReadsRow.holds Try.pinned (OpenSpec.ofChange rationalReadsWrong)

/-- 'geoproverlaw03.RationalBack': WHATEVER THE INPUT: true; the input reads as it did. -/
def rationalBackSpec : ChangeSpec := { name := "rationalBack", fn := fun _ => fun
  | [d] => { results := [.lit (.bool true)], args := [d] }
  | _ => none }
def rationalBackRow : OpenClaim := { program := "ytnclpllmidlbbaa", sum := "e63ce02e0c24d50c287fc9990017d46ef37d9a8d29eb688ee0a081275531ae7c", func := "geoprover/geoproverlaw03.RationalBack", spec := "rationalBack", inPlace := ["internal/abi.NoEscape", "internal/bytealg.IndexByteString", "internal/bytealg.IndexString"], unfollowed := true, recurses := true, named := ["internal/bytealg.MaxLen"], apart := false }
def RationalBackSaid : Prop := rationalBackRow.holds Try.pinned (OpenSpec.ofChange rationalBackSpec)

/-- ITS FALSE NEIGHBOUR: 'it returns false'. Refute it at one input. -/
def rationalBackWrong : ChangeSpec := { name := "rationalBack", fn := fun _ => fun
  | [d] => { results := [.lit (.bool false)], args := [d] }
  | _ => none }
def RationalBackWrongFalsely : Prop := rationalBackRow.holds Try.pinned (OpenSpec.ofChange rationalBackWrong)

/- THE SECOND FORM. 'bulk': how many values and letters a reading holds, each counted each time it is reached (what is shared counts as often as it is met; a slice's spare places count too). A statement '..UptoSaid' is the law's where the arguments, and the package variables that the reading takes, are together of bulk at most 1048576: NARROWER than '..Said'. Prove '..Said' where nothing that the law and all that it calls make is longer than what came in: it says more and counts as full. Else prove '..UptoSaid'. A law counts once. -/
mutual
def uptoBulk {H : Type} : DataW H → Nat
  | .lit (.string bytes) => bytes.length + 1
  | .lit _ => 1
  | .nil => 1
  | .ptr d => uptoBulk d + 1
  | .slice elems spare => uptoBulkAll elems + uptoBulkAll spare + 1
  | .agg parts => uptoBulkAll parts + 1
  | .iface _ d => uptoBulk d + 1
  | .map entries => uptoBulkEntries entries + 1
  | .held _ => 1
def uptoBulkAll {H : Type} : List (DataW H) → Nat
  | [] => 0
  | d :: r => uptoBulk d + uptoBulkAll r
def uptoBulkEntries {H : Type} : List (Lit × DataW H) → Nat
  | [] => 0
  | x :: r => uptoBulkEntry x + uptoBulkEntries r
def uptoBulkEntry {H : Type} : Lit × DataW H → Nat
  | (.string bytes, d) => bytes.length + uptoBulk d + 1
  | (_, d) => uptoBulk d + 1
 end
def uptoSmall : (H : Type) → List (DataW H) → Bool := fun _ ds => decide (uptoBulkAll ds ≤ 1048576)
def OpenSpec.upto (s : _root_.Go.ChangeSpec) : _root_.Go.OpenSpec := { _root_.Go.OpenSpec.ofChange s with cond := some uptoSmall }

/-- 'geoproverlaw03.RationalMakes', WHERE WHAT IT READS IS OF BULK AT MOST 1048576: true; the input reads as it did. -/
def rationalMakesUptoRow : OpenClaim := { program := "ytnclpllmidlbbaa", sum := "e63ce02e0c24d50c287fc9990017d46ef37d9a8d29eb688ee0a081275531ae7c", func := "geoprover/geoproverlaw03.RationalMakes", spec := "rationalMakes", unfollowed := true, recurses := true, apart := false, narrowed := true }
def RationalMakesUptoSaid : Prop := rationalMakesUptoRow.holds Try.pinned (OpenSpec.upto rationalMakesSpec)

/-- 'geoproverlaw03.RationalRoots', WHERE WHAT IT READS IS OF BULK AT MOST 1048576: true; the input reads as it did. -/
def rationalRootsUptoRow : OpenClaim := { program := "ytnclpllmidlbbaa", sum := "e63ce02e0c24d50c287fc9990017d46ef37d9a8d29eb688ee0a081275531ae7c", func := "geoprover/geoproverlaw03.RationalRoots", spec := "rationalRoots", unfollowed := true, recurses := true, apart := false, narrowed := true }
def RationalRootsUptoSaid : Prop := rationalRootsUptoRow.holds Try.pinned (OpenSpec.upto rationalRootsSpec)

/-- 'geoproverlaw03.RationalForms', WHERE WHAT IT READS IS OF BULK AT MOST 1048576: true; the input reads as it did. -/
def rationalFormsUptoRow : OpenClaim := { program := "ytnclpllmidlbbaa", sum := "e63ce02e0c24d50c287fc9990017d46ef37d9a8d29eb688ee0a081275531ae7c", func := "geoprover/geoproverlaw03.RationalForms", spec := "rationalForms", unfollowed := true, recurses := true, apart := false, narrowed := true }
def RationalFormsUptoSaid : Prop := rationalFormsUptoRow.holds Try.pinned (OpenSpec.upto rationalFormsSpec)

/-- 'geoproverlaw03.RationalAdds', WHERE WHAT IT READS IS OF BULK AT MOST 1048576: true; the input reads as it did. -/
def rationalAddsUptoRow : OpenClaim := { program := "ytnclpllmidlbbaa", sum := "e63ce02e0c24d50c287fc9990017d46ef37d9a8d29eb688ee0a081275531ae7c", func := "geoprover/geoproverlaw03.RationalAdds", spec := "rationalAdds", unfollowed := true, recurses := true, apart := false, narrowed := true }
def RationalAddsUptoSaid : Prop := rationalAddsUptoRow.holds Try.pinned (OpenSpec.upto rationalAddsSpec)

/-- 'geoproverlaw03.RationalField', WHERE WHAT IT READS IS OF BULK AT MOST 1048576: true; the input reads as it did. -/
def rationalFieldUptoRow : OpenClaim := { program := "ytnclpllmidlbbaa", sum := "e63ce02e0c24d50c287fc9990017d46ef37d9a8d29eb688ee0a081275531ae7c", func := "geoprover/geoproverlaw03.RationalField", spec := "rationalField", unfollowed := true, recurses := true, apart := false, narrowed := true }
def RationalFieldUptoSaid : Prop := rationalFieldUptoRow.holds Try.pinned (OpenSpec.upto rationalFieldSpec)

/-- 'geoproverlaw03.RationalOrder', WHERE WHAT IT READS IS OF BULK AT MOST 1048576: true; the input reads as it did. -/
def rationalOrderUptoRow : OpenClaim := { program := "ytnclpllmidlbbaa", sum := "e63ce02e0c24d50c287fc9990017d46ef37d9a8d29eb688ee0a081275531ae7c", func := "geoprover/geoproverlaw03.RationalOrder", spec := "rationalOrder", unfollowed := true, recurses := true, apart := false, narrowed := true }
def RationalOrderUptoSaid : Prop := rationalOrderUptoRow.holds Try.pinned (OpenSpec.upto rationalOrderSpec)

/-- 'geoproverlaw03.RationalReads', WHERE WHAT IT READS IS OF BULK AT MOST 1048576: true; the input reads as it did. -/
def rationalReadsUptoRow : OpenClaim := { program := "ytnclpllmidlbbaa", sum := "e63ce02e0c24d50c287fc9990017d46ef37d9a8d29eb688ee0a081275531ae7c", func := "geoprover/geoproverlaw03.RationalReads", spec := "rationalReads", inPlace := ["internal/bytealg.IndexByteString", "internal/bytealg.IndexString", "internal/abi.NoEscape"], unfollowed := true, recurses := true, named := ["internal/bytealg.MaxLen"], apart := false, narrowed := true }
def RationalReadsUptoSaid : Prop := rationalReadsUptoRow.holds Try.pinned (OpenSpec.upto rationalReadsSpec)

/-- 'geoproverlaw03.RationalBack', WHERE WHAT IT READS IS OF BULK AT MOST 1048576: true; the input reads as it did. -/
def rationalBackUptoRow : OpenClaim := { program := "ytnclpllmidlbbaa", sum := "e63ce02e0c24d50c287fc9990017d46ef37d9a8d29eb688ee0a081275531ae7c", func := "geoprover/geoproverlaw03.RationalBack", spec := "rationalBack", inPlace := ["internal/abi.NoEscape", "internal/bytealg.IndexByteString", "internal/bytealg.IndexString"], unfollowed := true, recurses := true, named := ["internal/bytealg.MaxLen"], apart := false, narrowed := true }
def RationalBackUptoSaid : Prop := rationalBackUptoRow.holds Try.pinned (OpenSpec.upto rationalBackSpec)

end Rows
end Go.Proofs.Ytnclpllmidlbbaa
