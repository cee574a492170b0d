/- Copies of slices. -/
import Derived.Test.YtodbnphofjpmeaaProg
import Derived.Test.YtodbnphofjpmeaaApp
set_option linter.unusedSimpArgs false
set_option linter.unusedVariables false
namespace Go.Proofs.Ytodbnphofjpmeaa
open Go.RowKit Go.G6
set_option maxHeartbeats 800000
set_option maxRecDepth 10000
theorem info_int : (Try.prog.info? 3).map (fun i => (i.zero, i.size, i.bytes)) = some (some (.int .i64 0), 1, 8) := by kernel_rfl
theorem info_byte : (Try.prog.info? 5).map (fun i => (i.zero, i.size, i.bytes)) = some (some (.int .u8 0), 1, 1) := by kernel_rfl
theorem info_str : (Try.prog.info? 9).map (fun i => (i.zero, i.size, i.bytes)) = some (some (.string ByteArray.empty), 1, 16) := by kernel_rfl
end Go.Proofs.Ytodbnphofjpmeaa
