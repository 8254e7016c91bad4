/- Integers: the numerals. -/
import Derived.Test.YtifgdiejpglhfaaGreatIn6
import Derived.Test.YtifgdiejpglhfaaGreatIn4
namespace Go.Proofs.YtifgdiejpglhfaaGreat
open Go.RowKit Go.V
set_option linter.unusedSimpArgs false
set_option linter.unusedVariables false
set_option maxRecDepth 20000
end Go.Proofs.YtifgdiejpglhfaaGreat
