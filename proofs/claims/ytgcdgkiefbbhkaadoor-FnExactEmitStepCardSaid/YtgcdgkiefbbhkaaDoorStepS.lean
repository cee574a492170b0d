/- Moving the cursor by as few bytes as possible: the reference. -/
import Derived.Test.YtgcdgkiefbbhkaaDoorStepD
set_option linter.unusedSimpArgs false
set_option linter.unusedVariables false
namespace Go.Proofs.YtgcdgkiefbbhkaaDoor
open Go.RowKit Go.G6
set_option maxHeartbeats 3000000
set_option maxRecDepth 10000
theorem s_l10Shorter {w : World} {b1 b2 : List Nat} {a1 a2 : Option Addr} {l1 l2 c1 c2 : Nat} {xs ys : List UInt8} (h1 : Slc w b1 a1 l1 c1 xs) (ok : Bool) (h2 : Slc w b2 a2 l2 c2 ys) :
    Calls Tryd.prog 38 #[.slice a1 l1 c1, .bool ok, .slice a2 l2 c2] w fun e w' => (∃ a l c bs, e = .returned (.slice a l c) ∧ Slc w' bs a l c (shorter xs ok ys)) ∧ w' = w := by
  obtain rfl := h1.len_eq
  obtain rfl := h2.len_eq
  have m1 := h1.max
  have m2 := h2.max
  have H1 := hid h1; have H2 := hid h2
  clear h1 h2
  cases ok
  · go_enter Tryd.func38, Tryd.ntmps38
    go_wp2
    go_ret
    exact ⟨⟨_, _, _, _, rfl, by rw [shorter_no]; exact H2.out⟩, rfl⟩
  by_cases hle : xs.length ≤ ys.length
  · have HL := hid hle
    have hle' : (xs.length : Int) ≤ (ys.length : Int) := by omega
    clear hle
    go_enter Tryd.func38, Tryd.ntmps38
    go_wp2
    go_ret
    exact ⟨⟨_, _, _, _, rfl, by rw [shorter_yes HL.out]; exact H1.out⟩, rfl⟩
  · have HL := hid hle
    have hle' : ¬ (xs.length : Int) ≤ (ys.length : Int) := by omega
    clear hle
    go_enter Tryd.func38, Tryd.ntmps38
    go_wp2
    go_ret
    exact ⟨⟨_, _, _, rfl, _, by rw [shorter_not _ HL.out]; exact H2.out⟩, rfl⟩
end Go.Proofs.YtgcdgkiefbbhkaaDoor
