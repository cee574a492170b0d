/- A rune read out of bytes, by the reference (printed by genread.py). -/
import Derived.Test.YtdfpjchneofndaaRead
import Derived.Deep.DeepCutAuto
set_option linter.unusedSimpArgs false
set_option linter.unusedVariables false
namespace Go.Proofs.Ytdfpjchneofndaa
open Go.RowKit Go.G6
set_option maxHeartbeats 30000000
set_option maxRecDepth 10000
end Go.Proofs.Ytdfpjchneofndaa
