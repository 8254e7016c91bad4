/- Facts: how many arguments. -/
import Derived.Test.YtkampmdekonjmaaEv8
namespace Go.Proofs.Ytkampmdekonjmaa
/-- how many arguments -/
def fAr (k : Int) : Nat := if k = 8 then 2 else if k = 1 ∨ k = 5 then 3 else if k = 2 ∨ k = 3 ∨ k = 4 ∨ k = 6 ∨ k = 9 then 4 else if k = 7 then 8 else 0
end Go.Proofs.Ytkampmdekonjmaa
