/- Facts: the laws' arguments; PredicateRights. -/
import Derived.Test.YtkampmdekonjmaaFc3
import Derived.Test.YtkampmdekonjmaaRt2
namespace Go.Proofs.Ytkampmdekonjmaa
open Go Go.RowKit Go.V Go.ChangeMaps
set_option linter.unusedSimpArgs false
set_option linter.unusedVariables false
set_option maxRecDepth 20000

end Go.Proofs.Ytkampmdekonjmaa
