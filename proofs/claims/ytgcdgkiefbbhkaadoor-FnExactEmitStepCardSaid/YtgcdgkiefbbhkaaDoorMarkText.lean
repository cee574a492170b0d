/- The text of a mark. -/
import Derived.Test.YtgcdgkiefbbhkaaDoorProg
import Derived.Test.YtgcdgkiefbbhkaaDoorTypes
import Derived.BigQuiet
set_option linter.unusedSimpArgs false
set_option linter.unusedVariables false
namespace Go.G6
open Go.RowKit
theorem keep_cell {w5 W W' : World} {p : Addr} {v : Value} (hb : Below W.heap.size W W') (h1 : Below w5.heap.size w5 W) (hA : W.cell? p = some v) (l1 : p.block < w5.heap.size) : W'.cell? p = some v :=
  (hb.cell (by have := h1.size; omega)).trans hA
theorem digits_zero : digitsOf 0 = [] := by rw [digitsOf]; simp
theorem digits_len : ∀ (n k : Nat), k < 10 ^ n → (digitsOf k).length ≤ n
  | 0, k, h => by have : k = 0 := by simpa using h
                  subst this; rw [digitsOf]; simp
  | n + 1, k, h => by
    rw [digitsOf]
    split
    · simp
    · have := digits_len n (k / 10) (by rw [Nat.div_lt_iff_lt_mul (by omega)]; rwa [Nat.pow_succ] at h)
      simp; omega
theorem markText_le {k : Nat} (h : k ≤ 1152921504606846976) : (markText k).size ≤ maxLen := by
  have h1 := digits_len 19 k (by omega)
  have : (markText k).size = (109 :: (if k = 0 then [48] else digitsOf k)).length := by simp [markText, ByteArray.size]
  rw [this]
  unfold maxLen
  split <;> simp <;> omega
end Go.G6
namespace Go.Proofs.YtgcdgkiefbbhkaaDoor
open Go.RowKit Go.G6
set_option maxHeartbeats 1600000
set_option maxRecDepth 10000
end Go.Proofs.YtgcdgkiefbbhkaaDoor
