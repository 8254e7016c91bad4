/- Facts: Right of the specification. -/
import Derived.Test.YtkampmdekonjmaaFc1
namespace Go.Proofs.Ytkampmdekonjmaa
open Go Go.RowKit Go.V
set_option linter.unusedSimpArgs false
set_option linter.unusedVariables false
set_option maxRecDepth 20000
end Go.Proofs.Ytkampmdekonjmaa
