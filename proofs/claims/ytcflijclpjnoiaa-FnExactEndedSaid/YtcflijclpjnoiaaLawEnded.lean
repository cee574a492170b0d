/- The law on Ended. -/
import Derived.Test.YtcflijclpjnoiaaHelpT
import Derived.Test.YtcflijclpjnoiaaSign
import Derived.Deep.RegionHeld3
set_option linter.unusedSimpArgs false
set_option linter.unusedVariables false
namespace Go.Proofs.Ytcflijclpjnoiaa
open Go.RowKit Go.G6
set_option maxRecDepth 10000
set_option maxHeartbeats 4000000 in
theorem lawEnded {w : World}  (d_0 : ByteArray) (h0_0 : d_0.size ≤ maxLen) :
    Calls Try.prog 3 #[.string d_0] w fun e w' => e = .returned (.bool true) ∧ Below w.heap.size w w' := by
  go_enter Try.func3, Try.ntmps3
  have Hb : Hid (Below w.heap.size w w) := hid (Below.refl _ _)
  by_cases hn_0 : (d_0.size : Int) ≤ 1048576
  rotate_left
  · go_wp2
    go_ret
    exact ⟨rfl, by repeat (first | exact Below.refl _ _ | refine Below.alloc ?_ (by first | omega | (simp; done) | (simp; omega)) _)⟩
  have HN_0 : Hid (d_0.size ≤ 1048576) := hid (by omega)
  go_wp2_with fail
  refine (s_Ended  d_0 (by have := HN_0.out; unfold maxLen; omega) (by have := HN_0.out; omega) _).mono ?_
  rintro e w1 ⟨rfl, hb⟩
  have hz1 := hb.size; try simp at hz1
  have hp : Below w.heap.size w w1 := below_call (by repeat (first | exact Below.refl _ _ | refine Below.alloc ?_ (by first | omega | (simp; done) | (simp; omega)) _)) hb
  replace Hb := hid (Hb.out.trans (hp.mono Hb.out.size))
  clear hb hp
  go_wp2_with fail
  refine (i_Ended  d_0 (by have := HN_0.out; unfold maxLen; omega) (by have := HN_0.out; omega) _).mono ?_
  rintro e w2 ⟨rfl, hb⟩
  have hz2 := hb.size; try simp at hz2
  have hp : Below w1.heap.size w1 w2 := below_call (by repeat (first | exact Below.refl _ _ | refine Below.alloc ?_ (by first | omega | (simp; done) | (simp; omega)) _)) hb
  replace Hb := hid (Hb.out.trans (hp.mono Hb.out.size))
  clear hb hp
  go_wp2
  go_ret
  exact ⟨rfl, Hb.out⟩
end Go.Proofs.Ytcflijclpjnoiaa
