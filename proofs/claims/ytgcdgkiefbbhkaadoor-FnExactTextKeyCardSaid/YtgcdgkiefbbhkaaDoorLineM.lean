/- Lines that are made anew (printed by genline.py). -/
import Derived.Test.YtgcdgkiefbbhkaaDoorText
import Derived.Test.YtgcdgkiefbbhkaaDoorCopy
import Derived.Test.YtgcdgkiefbbhkaaDoorWords
import Derived.Deep.RegionHeld3
import Derived.Lib.MinMax
import Derived.Deep.DeepCutAuto
set_option linter.unusedSimpArgs false
set_option linter.unusedVariables false
namespace Go.G6
open Go.RowKit
def lineText (d : LineD) : ByteArray := if lineOk d then textOf d.Text else ByteArray.empty
theorem own_line0 (lo : Nat) (w : World) : Own lo w [] [.slice none 0 0, .int .i64 0] line0 := own_Line (d := line0) (own_nil _ _) (by simp [I64, line0])
theorem I64_nat {n : Nat} (h : n ≤ 1000000000) : I64 (n : Int) := by unfold I64; omega
end Go.G6
namespace Go.Proofs.YtgcdgkiefbbhkaaDoor
open Go.RowKit Go.G6
set_option maxHeartbeats 1600000
set_option maxRecDepth 10000
end Go.Proofs.YtgcdgkiefbbhkaaDoor
