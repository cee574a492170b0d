/- Two runes exchanged. -/
import Derived.Test.YtdfpjchneofndaaLineM
import Derived.Test.YtdfpjchneofndaaLate
set_option linter.unusedSimpArgs false
set_option linter.unusedVariables false
namespace Go.G6
open Go.RowKit Rep
def lineSwapOk (d : LineD) : Bool := lineOk d && decide (2 ≤ d.Text.length) && decide (d.At ≠ 0)
def swapK (d : LineD) : Nat := min d.At.toNat (d.Text.length - 1)
def swapL (xs : List Int) (k : Nat) : List Int := (xs.set (k - 1) (xs.getD k 0)).set k (xs.getD (k - 1) 0)
def swapD (d : LineD) : LineD := ⟨swapL d.Text (swapK d), ((swapK d + 1 : Nat) : Int)⟩
def lineSwap (d : LineD) : LineD := if lineSwapOk d then swapD d else line0
theorem swapL_eq {xs : List Int} {k : Nat} (h1 : 1 ≤ k) (h2 : k < xs.length) : swapL xs k = xs.take (k - 1) ++ (xs.take (k + 1)).drop k ++ (xs.take k).drop (k - 1) ++ xs.drop (k + 1) := by
  have e1 : xs.getD k 0 = xs[k] := by simp [List.getD, h2]
  have e2 : xs.getD (k - 1) 0 = xs[k - 1] := by simp [List.getD, show k - 1 < xs.length by omega]
  have f1 : (xs.take (k + 1)).drop k = [xs[k]] := by
    rw [List.take_succ_eq_append_getElem h2, List.drop_append, List.drop_of_length_le (by simp; omega)]
    simp [List.length_take, Nat.min_eq_left (Nat.le_of_lt h2)]
  have f2 : (xs.take k).drop (k - 1) = [xs[k - 1]] := by
    have h3 : k - 1 < xs.length := by omega
    have := List.take_succ_eq_append_getElem h3
    rw [show k - 1 + 1 = k by omega] at this
    rw [this, List.drop_append, List.drop_of_length_le (by simp; omega)]
    simp [List.length_take, Nat.min_eq_left (Nat.le_of_lt h3)]
  rw [swapL, e1, e2, f1, f2]
  apply List.ext_getElem?
  intro j
  have l1 : (xs.take (k - 1)).length = k - 1 := by rw [List.length_take]; omega
  by_cases ha : j < k - 1
  · rw [List.getElem?_set_ne (by omega), List.getElem?_set_ne (by omega), List.append_assoc, List.append_assoc, List.getElem?_append_left (by omega), List.getElem?_take, if_pos ha]
  · by_cases hb : j = k - 1
    · subst hb
      rw [List.getElem?_set_ne (by omega), List.getElem?_set_self (by omega), List.append_assoc, List.append_assoc, List.getElem?_append_right (by omega), l1]
      simp
    · by_cases hc : j = k
      · subst hc
        rw [List.getElem?_set_self (by simp; omega), List.append_assoc, List.append_assoc, List.getElem?_append_right (by omega), l1]
        rw [show j - (j - 1) = 1 by omega]
        simp
      · rw [List.getElem?_set_ne (by omega), List.getElem?_set_ne (by omega), List.append_assoc, List.append_assoc, List.getElem?_append_right (by omega), l1]
        rw [show j - (k - 1) = (j - (k + 1)) + 1 + 1 by omega]
        simp only [List.cons_append, List.nil_append, List.getElem?_cons_succ, List.getElem?_drop]
        rw [show k + 1 + (j - (k + 1)) = j by omega]
theorem swapL_len (xs : List Int) (k : Nat) : (swapL xs k).length = xs.length := by simp [swapL]
theorem lineSwap_top (d : LineD) (h : d.Text.length ≤ 1048576) : 1 + (lineSwap d).nkv ≤ topK := by
  rw [line_nkv]; unfold lineSwap topK; split
  · show 1 + (swapL d.Text (swapK d)).length ≤ _
    rw [swapL_len]; omega
  · simp [line0]
end Go.G6
