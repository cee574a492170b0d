/- Classes of runes and word motions. -/
import Derived.Test.YtgcdgkiefbbhkaaRune
import Derived.WalkLawsBesides
set_option linter.unusedSimpArgs false
set_option linter.unusedVariables false
namespace Go.Proofs.Ytgcdgkiefbbhkaa
open Go.RowKit Go.G6
set_option maxHeartbeats 400000
set_option maxRecDepth 10000
end Go.Proofs.Ytgcdgkiefbbhkaa
