/- Keys. -/
import Derived.Test.YtgcdgkiefbbhkaaDoorWords
set_option linter.unusedSimpArgs false
set_option linter.unusedVariables false
namespace Go.Proofs.YtgcdgkiefbbhkaaDoor
open Go.RowKit Go.G6
set_option maxHeartbeats 800000
set_option maxRecDepth 10000
theorem i_KeyOk {w : World} {bs : List Nat} {cs : List Value} {d : KeyD} (h : Rep.pt w bs cs d) :
    Calls Tryd.prog 30 #[.agg cs.toArray] w fun e w' => e = .returned (.bool (keyOk d)) ∧ Below w.heap.size w w' := by
  obtain ⟨rfl, rfl, h0, h1⟩ := open_Key h
  go_enter Tryd.func30, Tryd.ntmps30
  go_wp2_with (first | (go_at_call 49; refine (i_printable _ _).mono ?_; rintro e w' ⟨rfl, rfl⟩) | (go_at_call 50; refine (i_isLower _ _).mono ?_; rintro e w' ⟨rfl, rfl⟩) | (go_at_call 33; refine (i_in _ _ _ _).mono ?_; rintro e w' ⟨rfl, rfl⟩))
  all_goals (go_ret; exact ⟨ret_bool (by grind [inB, keyOk]), (Below.refl _ _).alloc (Nat.le_refl _) _⟩)
theorem s_KeyOk {w : World} {bs : List Nat} {cs : List Value} {d : KeyD} (h : Rep.pt w bs cs d) :
    Calls Tryd.prog 27 #[.agg cs.toArray] w fun e w' => e = .returned (.bool (keyOk d)) ∧ Below w.heap.size w w' := by
  obtain ⟨rfl, rfl, h0, h1⟩ := open_Key h
  go_enter Tryd.func27, Tryd.ntmps27
  go_wp2_with (first | (go_at_call 47; refine (s_printable _ _).mono ?_; rintro e w' ⟨rfl, rfl⟩))
  all_goals (go_ret; exact ⟨ret_bool (by grind [keyOk]), (Below.refl _ _).alloc (Nat.le_refl _) _⟩)
end Go.Proofs.YtgcdgkiefbbhkaaDoor
