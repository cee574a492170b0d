/- What the functions compute, in plain Lean. -/
import Derived.Test.YtcflijclpjnoiaaTypes
set_option linter.unusedSimpArgs false
set_option linter.unusedVariables false
namespace Go.G6
def inB (n lo hi : Int) : Bool := decide (lo ≤ n ∧ n ≤ hi)
def runeOk (r : Int) : Bool := decide (0 ≤ r ∧ r ≤ 1114111 ∧ ¬(55296 ≤ r ∧ r ≤ 57343))
def printable (r : Int) : Bool := decide (0 ≤ r ∧ r ≤ 1114111 ∧ ¬(55296 ≤ r ∧ r ≤ 57343) ∧ 32 ≤ r ∧ ¬(127 ≤ r ∧ r ≤ 159))
def typed (r : Int) : Bool := printable r || decide (r = 9 ∨ r = 10)
def allTyped (l : List Int) : Bool := l.all typed
def lineOk (l : LineD) : Bool := decide (l.Text.length ≤ 400) && allTyped l.Text && decide (0 ≤ l.At ∧ l.At ≤ l.Text.length)
theorem drop_all {α : Type} (p : α → Bool) (xs : List α) (k : Nat) (h : k < xs.length) : (xs.drop k).all p = (p xs[k] && (xs.drop (k+1)).all p) := by
  rw [List.drop_eq_getElem_cons h]; rfl
end Go.G6
