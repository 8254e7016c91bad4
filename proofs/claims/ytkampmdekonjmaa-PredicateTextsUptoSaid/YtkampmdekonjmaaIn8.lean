/- Integers: division of the reference; Gcd. -/
import Derived.Test.YtkampmdekonjmaaIn7
namespace Go.Proofs.Ytkampmdekonjmaa
open Go.RowKit Go.V
set_option linter.unusedSimpArgs false
set_option linter.unusedVariables false
set_option maxRecDepth 20000
end Go.Proofs.Ytkampmdekonjmaa
