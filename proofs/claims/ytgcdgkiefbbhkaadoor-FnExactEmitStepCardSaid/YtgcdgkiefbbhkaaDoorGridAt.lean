/- One cell. -/
import Derived.Test.YtgcdgkiefbbhkaaDoorGridS
set_option linter.unusedSimpArgs false
set_option linter.unusedVariables false
namespace Go.G6
open Go.RowKit
def gridIn (d : GridD) (x y : Int) : Bool := decide (0 ≤ x ∧ x ≤ d.W - 1) && decide (0 ≤ y ∧ y ≤ d.H - 1)
def gridAt (d : GridD) (x y : Int) : Int := if gridOk d && gridIn d x y then d.Cells.getD (y * d.W + x).toNat 0 else 0
theorem gridOk_shape {d : GridD} (h : gridOk d = true) : (2 ≤ d.W ∧ d.W ≤ 200) ∧ (1 ≤ d.H ∧ d.H ≤ 200) ∧ d.W * d.H ≤ 8000 ∧ (d.Cells.length : Int) = d.W * d.H := by
  simp only [gridOk, gridShape, Bool.and_eq_true, decide_eq_true_eq] at h; omega
theorem gridOk_pos {d : GridD} (h : gridOk d = true) : (0 ≤ d.X ∧ d.X ≤ d.W - 1) ∧ (0 ≤ d.Y ∧ d.Y ≤ d.H - 1) ∧ (d.Wrap = true → d.X = d.W - 1) := by
  simp only [gridOk, gridPos, Bool.and_eq_true, decide_eq_true_eq] at h; exact h.1.2
theorem cell_in {x y W H : Int} (hW : 0 < W) (h1 : 0 ≤ x) (h2 : x ≤ W - 1) (h3 : 0 ≤ y) (h4 : y ≤ H - 1) : 0 ≤ y * W ∧ y * W + x < W * H := by
  have a := Int.mul_nonneg h3 (show 0 ≤ W by omega)
  have b : (y + 1) * W ≤ H * W := Int.mul_le_mul_of_nonneg_right (by omega) (by omega)
  rw [Int.add_mul, Int.mul_comm H W] at b
  omega
end Go.G6
namespace Go.Proofs.YtgcdgkiefbbhkaaDoor
open Go.RowKit Go.G6
set_option maxHeartbeats 1600000
set_option maxRecDepth 10000
end Go.Proofs.YtgcdgkiefbbhkaaDoor
