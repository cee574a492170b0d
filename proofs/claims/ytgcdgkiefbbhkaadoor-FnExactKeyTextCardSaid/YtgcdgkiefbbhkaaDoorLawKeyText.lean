/- The law on KeyText. -/
import Derived.Test.YtgcdgkiefbbhkaaDoorHelpT
import Derived.Test.YtgcdgkiefbbhkaaDoorKeyTx
import Derived.Deep.RegionHeld3
import Derived.Deep.DeepCutAuto
set_option linter.unusedSimpArgs false
set_option linter.unusedVariables false
namespace Go.Proofs.YtgcdgkiefbbhkaaDoor
open Go.RowKit Go.G6
set_option maxRecDepth 10000
theorem boxN {w : World} {b : Nat} {c : Array Value} {t : TypeId} (hb : b = w.heap.size) : Box (w.alloc (.cells c t)) b c := by subst hb; exact box_new _ _ _
set_option maxHeartbeats 4000000 in
theorem lawKeyText {w : World} {bs_0 : List Nat} {cs_0 : List Value} {d_0 : KeyD} (g_0 : Rep.pt w bs_0 cs_0 d_0) (hm : ∃ m, w.cell? ⟨laysS_ren.g 1, 0, none⟩ = some (.int .i64 m)) :
    Calls Tryd.prog 4 #[.agg cs_0.toArray] w fun e w' => e = .returned (.bool true) ∧ Below w.heap.size w w' := by
  have G_0 := hid g_0
  obtain ⟨rfl, rfl, h0_0, h1_0⟩ := open_Key g_0
  clear g_0
  have HM := hid hm; clear hm
  go_enter Tryd.func4, Tryd.ntmps4
  have Hb : Hid (Below w.heap.size w w) := hid (Below.refl _ _)
  go_wp2_with fail
  refine (toKey (grow G_0.out ?_)).mono ?_
  · (repeat (first | exact Hb.out | refine Below.alloc ?_ (by have := Hb.out.size; first | omega | (simp; done) | (simp; omega)) _))
  rintro e w1 ⟨cs_t10, bs_t10, rfl, hO, hb⟩
  have hz1 := hb.size; try simp at hz1
  have hp : Below w.heap.size w w1 := below_call (by repeat (first | exact Below.refl _ _ | refine Below.alloc ?_ (by first | omega | (simp; done) | (simp; omega)) _)) hb
  have B_0 : Box w1 (w.heap.size) #[.int .i64 d_0.Kind, .int .i64 d_0.R] := Box.below hb (by first | omega | (simp; done) | (simp; omega)) (by repeat (first | exact B_0 | (apply boxN; (focus (first | omega | (simp; done) | (simp; omega)))) | (apply Box.alloc; rotate_left; (focus (first | omega | (simp; done) | (simp; omega))))))
  have L_0 : w.heap.size < w1.heap.size := (by first | omega | (simp; done) | (simp; omega))
  replace Hb := hid (Hb.out.trans (hp.mono Hb.out.size))
  obtain ⟨rfl, rfl, h0_t10, h1_t10⟩ := open_Key hO.1
  clear hb hp hO
  try unfold Box at B_0
  go_wp2_with fail
  refine (s_KeyText (mk_Key (d := d_0) h0_t10 h1_t10)  ).mono ?_
  rintro e w2 ⟨rfl, hb⟩
  have hz2 := hb.size; try simp at hz2
  have hp : Below w1.heap.size w1 w2 := below_call (by repeat (first | exact Below.refl _ _ | refine Below.alloc ?_ (by first | omega | (simp; done) | (simp; omega)) _)) hb
  replace B_0 : Box w2 (w.heap.size) #[.int .i64 d_0.Kind, .int .i64 d_0.R] := Box.below hb (by first | omega | (simp; done) | (simp; omega)) (by repeat (first | exact B_0 | (apply boxN; (focus (first | omega | (simp; done) | (simp; omega)))) | (apply Box.alloc; rotate_left; (focus (first | omega | (simp; done) | (simp; omega))))))
  replace L_0 : w.heap.size < w2.heap.size := (by first | omega | (simp; done) | (simp; omega))
  replace Hb := hid (Hb.out.trans (hp.mono Hb.out.size))
  clear hb hp
  try unfold Box at B_0
  go_wp2_with fail
  refine (toKey (grow G_0.out ?_)).mono ?_
  · (repeat (first | exact Hb.out | refine Below.alloc ?_ (by have := Hb.out.size; first | omega | (simp; done) | (simp; omega)) _))
  rintro e w3 ⟨cs_t20, bs_t20, rfl, hO, hb⟩
  have hz3 := hb.size; try simp at hz3
  have hp : Below w2.heap.size w2 w3 := below_call (by repeat (first | exact Below.refl _ _ | refine Below.alloc ?_ (by first | omega | (simp; done) | (simp; omega)) _)) hb
  replace B_0 : Box w3 (w.heap.size) #[.int .i64 d_0.Kind, .int .i64 d_0.R] := Box.below hb (by first | omega | (simp; done) | (simp; omega)) (by repeat (first | exact B_0 | (apply boxN; (focus (first | omega | (simp; done) | (simp; omega)))) | (apply Box.alloc; rotate_left; (focus (first | omega | (simp; done) | (simp; omega))))))
  replace L_0 : w.heap.size < w3.heap.size := (by first | omega | (simp; done) | (simp; omega))
  replace Hb := hid (Hb.out.trans (hp.mono Hb.out.size))
  obtain ⟨rfl, rfl, h0_t20, h1_t20⟩ := open_Key hO.1
  clear hb hp hO
  try unfold Box at B_0
  go_wp2_with fail
  refine (i_KeyText (mk_Key (d := d_0) h0_t20 h1_t20)  (mlk HM.out (by repeat (first | exact Hb.out | refine Below.alloc ?_ (by have := Hb.out.size; first | omega | (simp; done) | (simp; omega)) _)))).mono ?_
  rintro e w4 ⟨rfl, hb⟩
  have hz4 := hb.size; try simp at hz4
  have hp : Below w3.heap.size w3 w4 := below_call (by repeat (first | exact Below.refl _ _ | refine Below.alloc ?_ (by first | omega | (simp; done) | (simp; omega)) _)) hb
  replace B_0 : Box w4 (w.heap.size) #[.int .i64 d_0.Kind, .int .i64 d_0.R] := Box.below hb (by first | omega | (simp; done) | (simp; omega)) (by repeat (first | exact B_0 | (apply boxN; (focus (first | omega | (simp; done) | (simp; omega)))) | (apply Box.alloc; rotate_left; (focus (first | omega | (simp; done) | (simp; omega))))))
  replace L_0 : w.heap.size < w4.heap.size := (by first | omega | (simp; done) | (simp; omega))
  replace Hb := hid (Hb.out.trans (hp.mono Hb.out.size))
  clear hb hp
  try unfold Box at B_0
  try unfold Box at B_0
  go_wp2
  go_ret
  exact ⟨rfl, Hb.out⟩
end Go.Proofs.YtgcdgkiefbbhkaaDoor
