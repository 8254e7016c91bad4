/- Facts about points, in numbers. -/
import Derived.Test.YtkampmdekonjmaaPl1
import Derived.Test.YtkampmdekonjmaaFcN
namespace Go.Proofs.Ytkampmdekonjmaa
open Go Go.RowKit Go.V
set_option linter.unusedSimpArgs false
set_option linter.unusedVariables false
set_option maxRecDepth 20000
abbrev PT := Rat × Rat
def crP (a b c d : PT) : Rat := pcross a.1 a.2 b.1 b.2 c.1 c.2 d.1 d.2
def dtP (a b c d : PT) : Rat := pdot a.1 a.2 b.1 b.2 c.1 c.2 d.1 d.2
def nmP (a b : PT) : Rat := pnorm a.1 a.2 b.1 b.2
def lnP (a b c d e f g h : PT) : Rat := crP a b c d * dtP e f g h - crP e f g h * dtP a b c d
/-- the values of a fact -/
def fVals (k : Int) (p : Nat → PT) (r : Rat) : List Rat :=
  if k = 1 then [crP (p 0) (p 1) (p 0) (p 2)] else
  if k = 2 then [crP (p 0) (p 1) (p 2) (p 3)] else
  if k = 3 then [dtP (p 0) (p 1) (p 2) (p 3)] else
  if k = 4 then [nmP (p 0) (p 1) - nmP (p 2) (p 3)] else
  if k = 5 then [(p 1).1 + (p 2).1 - 2 * (p 0).1, (p 1).2 + (p 2).2 - 2 * (p 0).2] else
  if k = 6 then [lnP (p 1) (p 0) (p 1) (p 2) (p 3) (p 0) (p 3) (p 2)] else
  if k = 7 then [lnP (p 0) (p 1) (p 2) (p 3) (p 4) (p 5) (p 6) (p 7)] else
  if k = 8 then [(p 0).1 - (p 1).1, (p 0).2 - (p 1).2] else
  [nmP (p 0) (p 1) - r * nmP (p 2) (p 3)]
def fHolds (k : Int) (p : Nat → PT) (r : Rat) : Bool := (fVals k p r).all fun x => decide (x = 0)
end Go.Proofs.Ytkampmdekonjmaa
