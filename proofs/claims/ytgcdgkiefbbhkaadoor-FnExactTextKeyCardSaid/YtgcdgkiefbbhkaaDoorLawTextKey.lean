/- The law on TextKey. -/
import Derived.Test.YtgcdgkiefbbhkaaDoorHelpT
import Derived.Test.YtgcdgkiefbbhkaaDoorKeyTs
import Derived.Deep.RegionHeld3
import Derived.Deep.DeepCutAuto
set_option linter.unusedSimpArgs false
set_option linter.unusedVariables false
namespace Go.Proofs.YtgcdgkiefbbhkaaDoor
open Go.RowKit Go.G6
set_option maxRecDepth 10000
theorem boxN {w : World} {b : Nat} {c : Array Value} {t : TypeId} (hb : b = w.heap.size) : Box (w.alloc (.cells c t)) b c := by subst hb; exact box_new _ _ _
set_option maxHeartbeats 4000000 in
theorem lawTextKey {w : World}  (d_0 : ByteArray) (h0_0 : d_0.size ≤ maxLen) (hm : ∃ m, w.cell? ⟨laysS_ren.g 1, 0, none⟩ = some (.int .i64 m)) :
    Calls Tryd.prog 3 #[.string d_0] w fun e w' => e = .returned (.bool true) ∧ Below w.heap.size w w' := by
  have HM := hid hm; clear hm
  go_enter Tryd.func3, Tryd.ntmps3
  have Hb : Hid (Below w.heap.size w w) := hid (Below.refl _ _)
  by_cases hn_0 : (d_0.size : Int) ≤ 1048576
  rotate_left
  · go_wp2
    go_ret
    exact ⟨rfl, by repeat (first | exact Below.refl _ _ | refine Below.alloc ?_ (by first | omega | (simp; done) | (simp; omega)) _)⟩
  have HN_0 : Hid (d_0.size ≤ 1048576) := hid (by omega)
  go_wp2_with fail
  refine (s_TextKey  d_0 (by have := HN_0.out; unfold maxLen; omega) _).mono ?_
  rintro e w1 ⟨cs_w0, bs_w0, rfl, hO0, hb⟩
  have hz1 := hb.size; try simp at hz1
  have hp : Below w.heap.size w w1 := below_call (by repeat (first | exact Below.refl _ _ | refine Below.alloc ?_ (by first | omega | (simp; done) | (simp; omega)) _)) hb
  replace Hb := hid (Hb.out.trans (hp.mono Hb.out.size))
  obtain ⟨rfl, rfl, h0_w0, h1_w0⟩ := open_Key hO0.1
  clear hb hp
  go_wp2_with fail
  refine (i_TextKey  d_0 (by have := HN_0.out; unfold maxLen; omega) _ (mlk HM.out (by repeat (first | exact Hb.out | refine Below.alloc ?_ (by have := Hb.out.size; first | omega | (simp; done) | (simp; omega)) _)))).mono ?_
  rintro e w2 ⟨cs_g0, bs_g0, rfl, hO0, hb⟩
  have hz2 := hb.size; try simp at hz2
  have hp : Below w1.heap.size w1 w2 := below_call (by repeat (first | exact Below.refl _ _ | refine Below.alloc ?_ (by first | omega | (simp; done) | (simp; omega)) _)) hb
  have B_w0 : Box w2 (w1.heap.size) #[.int .i64 (textKey d_0).1.Kind, .int .i64 (textKey d_0).1.R] := Box.below hb (by first | omega | (simp; done) | (simp; omega)) (by repeat (first | exact B_w0 | (apply boxN; (focus (first | omega | (simp; done) | (simp; omega)))) | (apply Box.alloc; rotate_left; (focus (first | omega | (simp; done) | (simp; omega))))))
  have L_w0 : w1.heap.size < w2.heap.size := (by first | omega | (simp; done) | (simp; omega))
  replace Hb := hid (Hb.out.trans (hp.mono Hb.out.size))
  obtain ⟨rfl, rfl, h0_g0, h1_g0⟩ := open_Key hO0.1
  clear hb hp
  try unfold Box at B_w0
  go_wp2_with fail
  refine (eqKey (mk_Key (d := (textKey d_0).1) h0_g0 h1_g0) (mk_Key (d := (textKey d_0).1) h0_w0 h1_w0)).mono ?_
  rintro e w3 ⟨rfl, hb⟩
  have hz3 := hb.size; try simp at hz3
  have hp : Below w2.heap.size w2 w3 := below_call (by repeat (first | exact Below.refl _ _ | refine Below.alloc ?_ (by first | omega | (simp; done) | (simp; omega)) _)) hb
  replace B_w0 : Box w3 (w1.heap.size) #[.int .i64 (textKey d_0).1.Kind, .int .i64 (textKey d_0).1.R] := Box.below hb (by first | omega | (simp; done) | (simp; omega)) (by repeat (first | exact B_w0 | (apply boxN; (focus (first | omega | (simp; done) | (simp; omega)))) | (apply Box.alloc; rotate_left; (focus (first | omega | (simp; done) | (simp; omega))))))
  replace L_w0 : w1.heap.size < w3.heap.size := (by first | omega | (simp; done) | (simp; omega))
  have B_g0 : Box w3 (w2.heap.size) #[.int .i64 (textKey d_0).1.Kind, .int .i64 (textKey d_0).1.R] := Box.below hb (by first | omega | (simp; done) | (simp; omega)) (by repeat (first | exact B_g0 | (apply boxN; (focus (first | omega | (simp; done) | (simp; omega)))) | (apply Box.alloc; rotate_left; (focus (first | omega | (simp; done) | (simp; omega))))))
  have L_g0 : w2.heap.size < w3.heap.size := (by first | omega | (simp; done) | (simp; omega))
  replace Hb := hid (Hb.out.trans (hp.mono Hb.out.size))
  clear hb hp
  try unfold Box at B_w0
  try unfold Box at B_g0
  try unfold Box at B_w0
  try unfold Box at B_g0
  go_wp2
  go_ret
  exact ⟨rfl, Hb.out⟩
end Go.Proofs.YtgcdgkiefbbhkaaDoor
