/- The law on ByteKey. -/
import Derived.Test.YtcflijclpjnoiaaHelpT
import Derived.Test.YtcflijclpjnoiaaKey
import Derived.Deep.RegionHeld3
set_option linter.unusedSimpArgs false
set_option linter.unusedVariables false
namespace Go.Proofs.Ytcflijclpjnoiaa
open Go.RowKit Go.G6
set_option maxRecDepth 10000
set_option maxHeartbeats 4000000 in
theorem lawByteKey {w : World}  (d_0 : Int) (h0_0 : I64 d_0) :
    Calls Try.prog 5 #[.int .i64 d_0] w fun e w' => e = .returned (.bool true) ∧ Below w.heap.size w w' := by
  go_enter Try.func5, Try.ntmps5
  have Hb : Hid (Below w.heap.size w w) := hid (Below.refl _ _)
  go_wp2_with fail
  refine (s_ByteKey  d_0 h0_0 _).mono ?_
  rintro e w1 ⟨cs_w0, bs_w0, rfl, hO0, hb⟩
  have hz1 := hb.size; try simp at hz1
  have hp : Below w.heap.size w w1 := below_call (by repeat (first | exact Below.refl _ _ | refine Below.alloc ?_ (by first | omega | (simp; done) | (simp; omega)) _)) hb
  replace Hb := hid (Hb.out.trans (hp.mono Hb.out.size))
  obtain ⟨rfl, rfl, h0_w0, h1_w0⟩ := open_Key hO0.1
  clear hb hp
  go_wp2_with fail
  refine (i_ByteKey  d_0 h0_0 _).mono ?_
  rintro e w2 ⟨cs_g0, bs_g0, rfl, hO0, hb⟩
  have hz2 := hb.size; try simp at hz2
  have hp : Below w1.heap.size w1 w2 := below_call (by repeat (first | exact Below.refl _ _ | refine Below.alloc ?_ (by first | omega | (simp; done) | (simp; omega)) _)) hb
  have B_w0 : Box w2 (w1.heap.size) #[.int .i64 (byteKey d_0).Kind, .int .i64 (byteKey d_0).R] := Box.below hb (by first | omega | (simp; done) | (simp; omega)) (by first | exact B_w0 | exact Box.alloc B_w0 (by first | omega | (simp; done) | (simp; omega)) _ | exact Box.alloc (Box.alloc B_w0 (by first | omega | (simp; done) | (simp; omega)) _) (by first | omega | (simp; done) | (simp; omega)) _ | exact box_new _ _ _ | exact Box.alloc (box_new _ _ _) (by first | omega | (simp; done) | (simp; omega)) _ | exact Box.alloc (Box.alloc (box_new _ _ _) (by first | omega | (simp; done) | (simp; omega)) _) (by first | omega | (simp; done) | (simp; omega)) _)
  have L_w0 : w1.heap.size < w2.heap.size := (by first | omega | (simp; done) | (simp; omega))
  replace Hb := hid (Hb.out.trans (hp.mono Hb.out.size))
  obtain ⟨rfl, rfl, h0_g0, h1_g0⟩ := open_Key hO0.1
  clear hb hp
  try unfold Box at B_w0
  go_wp2_with fail
  refine (eqKey (mk_Key (d := (byteKey d_0)) h0_g0 h1_g0) (mk_Key (d := (byteKey d_0)) h0_w0 h1_w0)).mono ?_
  rintro e w3 ⟨rfl, hb⟩
  have hz3 := hb.size; try simp at hz3
  have hp : Below w2.heap.size w2 w3 := below_call (by repeat (first | exact Below.refl _ _ | refine Below.alloc ?_ (by first | omega | (simp; done) | (simp; omega)) _)) hb
  replace B_w0 : Box w3 (w1.heap.size) #[.int .i64 (byteKey d_0).Kind, .int .i64 (byteKey d_0).R] := Box.below hb (by first | omega | (simp; done) | (simp; omega)) (by first | exact B_w0 | exact Box.alloc B_w0 (by first | omega | (simp; done) | (simp; omega)) _ | exact Box.alloc (Box.alloc B_w0 (by first | omega | (simp; done) | (simp; omega)) _) (by first | omega | (simp; done) | (simp; omega)) _ | exact box_new _ _ _ | exact Box.alloc (box_new _ _ _) (by first | omega | (simp; done) | (simp; omega)) _ | exact Box.alloc (Box.alloc (box_new _ _ _) (by first | omega | (simp; done) | (simp; omega)) _) (by first | omega | (simp; done) | (simp; omega)) _)
  replace L_w0 : w1.heap.size < w3.heap.size := (by first | omega | (simp; done) | (simp; omega))
  have B_g0 : Box w3 (w2.heap.size) #[.int .i64 (byteKey d_0).Kind, .int .i64 (byteKey d_0).R] := Box.below hb (by first | omega | (simp; done) | (simp; omega)) (by first | exact B_g0 | exact Box.alloc B_g0 (by first | omega | (simp; done) | (simp; omega)) _ | exact Box.alloc (Box.alloc B_g0 (by first | omega | (simp; done) | (simp; omega)) _) (by first | omega | (simp; done) | (simp; omega)) _ | exact box_new _ _ _ | exact Box.alloc (box_new _ _ _) (by first | omega | (simp; done) | (simp; omega)) _ | exact Box.alloc (Box.alloc (box_new _ _ _) (by first | omega | (simp; done) | (simp; omega)) _) (by first | omega | (simp; done) | (simp; omega)) _)
  have L_g0 : w2.heap.size < w3.heap.size := (by first | omega | (simp; done) | (simp; omega))
  replace Hb := hid (Hb.out.trans (hp.mono Hb.out.size))
  clear hb hp
  try unfold Box at B_w0
  try unfold Box at B_g0
  try unfold Box at B_w0
  try unfold Box at B_g0
  go_wp2
  go_ret
  exact ⟨rfl, Hb.out⟩
end Go.Proofs.Ytcflijclpjnoiaa
