/- The law on KeyBytes. -/
import Derived.Test.YtodbnphofjpmeaaHelpT
import Derived.Test.YtodbnphofjpmeaaKeyM
import Derived.Deep.RegionHeld3
set_option linter.unusedSimpArgs false
set_option linter.unusedVariables false
namespace Go.Proofs.Ytodbnphofjpmeaa
open Go.RowKit Go.G6
set_option maxRecDepth 10000
set_option maxHeartbeats 4000000 in
theorem lawKeyBytes {w : World} {bs_0 : List Nat} {cs_0 : List Value} {d_0 : KeyD} (g_0 : Rep.pt w bs_0 cs_0 d_0) :
    Calls Try.prog 9 #[.agg cs_0.toArray] w fun e w' => e = .returned (.bool true) ∧ Below w.heap.size w w' := by
  have G_0 := hid g_0
  obtain ⟨rfl, rfl, h0_0, h1_0⟩ := open_Key g_0
  clear g_0
  go_enter Try.func9, Try.ntmps9
  have Hb : Hid (Below w.heap.size w w) := hid (Below.refl _ _)
  go_wp2_with fail
  refine (toKey (grow G_0.out ?_)).mono ?_
  · (repeat (first | exact Hb.out | refine Below.alloc ?_ (by have := Hb.out.size; first | omega | (simp; done) | (simp; omega)) _))
  rintro e w1 ⟨cs_t10, bs_t10, rfl, hO, hb⟩
  have hz1 := hb.size; try simp at hz1
  have hp : Below w.heap.size w w1 := below_call (by repeat (first | exact Below.refl _ _ | refine Below.alloc ?_ (by first | omega | (simp; done) | (simp; omega)) _)) hb
  have B_0 : Box w1 (w.heap.size) #[.int .i64 d_0.Kind, .int .i64 d_0.R] := Box.below hb (by first | omega | (simp; done) | (simp; omega)) (by first | exact B_0 | exact Box.alloc B_0 (by first | omega | (simp; done) | (simp; omega)) _ | exact Box.alloc (Box.alloc B_0 (by first | omega | (simp; done) | (simp; omega)) _) (by first | omega | (simp; done) | (simp; omega)) _ | exact box_new _ _ _ | exact Box.alloc (box_new _ _ _) (by first | omega | (simp; done) | (simp; omega)) _ | exact Box.alloc (Box.alloc (box_new _ _ _) (by first | omega | (simp; done) | (simp; omega)) _) (by first | omega | (simp; done) | (simp; omega)) _)
  have L_0 : w.heap.size < w1.heap.size := (by first | omega | (simp; done) | (simp; omega))
  replace Hb := hid (Hb.out.trans (hp.mono Hb.out.size))
  obtain ⟨rfl, rfl, h0_t10, h1_t10⟩ := open_Key hO.1
  clear hb hp hO
  try unfold Box at B_0
  go_wp2_with fail
  refine (s_KeyBytes (mk_Key (d := d_0) h0_t10 h1_t10)  ).mono ?_
  rintro e w2 ⟨a0_w0, l0_w0, k0_w0, bs_w0, rfl, hO0, hb⟩
  have hz2 := hb.size; try simp at hz2
  have hp : Below w1.heap.size w1 w2 := below_call (by repeat (first | exact Below.refl _ _ | refine Below.alloc ?_ (by first | omega | (simp; done) | (simp; omega)) _)) hb
  replace B_0 : Box w2 (w.heap.size) #[.int .i64 d_0.Kind, .int .i64 d_0.R] := Box.below hb (by first | omega | (simp; done) | (simp; omega)) (by first | exact B_0 | exact Box.alloc B_0 (by first | omega | (simp; done) | (simp; omega)) _ | exact Box.alloc (Box.alloc B_0 (by first | omega | (simp; done) | (simp; omega)) _) (by first | omega | (simp; done) | (simp; omega)) _ | exact box_new _ _ _ | exact Box.alloc (box_new _ _ _) (by first | omega | (simp; done) | (simp; omega)) _ | exact Box.alloc (Box.alloc (box_new _ _ _) (by first | omega | (simp; done) | (simp; omega)) _) (by first | omega | (simp; done) | (simp; omega)) _)
  replace L_0 : w.heap.size < w2.heap.size := (by first | omega | (simp; done) | (simp; omega))
  replace Hb := hid (Hb.out.trans (hp.mono Hb.out.size))
  have P0_w0 := hid (pt_slice.1 hO0)
  have R0_w0 : Hid (∀ x ∈ bs_w0, 0 ≤ x ∧ x < w2.heap.size) := hid (fun x hx => by have := P0_w0.out.lts x hx; exact this)
  clear hb hp
  try unfold Box at B_0
  go_wp2_with fail
  refine (toKey (grow G_0.out ?_)).mono ?_
  · (repeat (first | exact Hb.out | refine Below.alloc ?_ (by have := Hb.out.size; first | omega | (simp; done) | (simp; omega)) _))
  rintro e w3 ⟨cs_t20, bs_t20, rfl, hO, hb⟩
  have hz3 := hb.size; try simp at hz3
  have hp : Below w2.heap.size w2 w3 := below_call (by repeat (first | exact Below.refl _ _ | refine Below.alloc ?_ (by first | omega | (simp; done) | (simp; omega)) _)) hb
  replace B_0 : Box w3 (w.heap.size) #[.int .i64 d_0.Kind, .int .i64 d_0.R] := Box.below hb (by first | omega | (simp; done) | (simp; omega)) (by first | exact B_0 | exact Box.alloc B_0 (by first | omega | (simp; done) | (simp; omega)) _ | exact Box.alloc (Box.alloc B_0 (by first | omega | (simp; done) | (simp; omega)) _) (by first | omega | (simp; done) | (simp; omega)) _ | exact box_new _ _ _ | exact Box.alloc (box_new _ _ _) (by first | omega | (simp; done) | (simp; omega)) _ | exact Box.alloc (Box.alloc (box_new _ _ _) (by first | omega | (simp; done) | (simp; omega)) _) (by first | omega | (simp; done) | (simp; omega)) _)
  replace L_0 : w.heap.size < w3.heap.size := (by first | omega | (simp; done) | (simp; omega))
  replace P0_w0 := hid (P0_w0.out.grow hp)
  replace Hb := hid (Hb.out.trans (hp.mono Hb.out.size))
  obtain ⟨rfl, rfl, h0_t20, h1_t20⟩ := open_Key hO.1
  clear hb hp hO
  try unfold Box at B_0
  go_wp2_with fail
  refine (i_KeyBytesS (mk_Key (d := d_0) h0_t20 h1_t20)  ).mono ?_
  rintro e w4 ⟨a0_g0, l0_g0, k0_g0, bs_g0, rfl, hO0, hb⟩
  have hz4 := hb.size; try simp at hz4
  have hp : Below w3.heap.size w3 w4 := below_call (by repeat (first | exact Below.refl _ _ | refine Below.alloc ?_ (by first | omega | (simp; done) | (simp; omega)) _)) hb
  replace B_0 : Box w4 (w.heap.size) #[.int .i64 d_0.Kind, .int .i64 d_0.R] := Box.below hb (by first | omega | (simp; done) | (simp; omega)) (by first | exact B_0 | exact Box.alloc B_0 (by first | omega | (simp; done) | (simp; omega)) _ | exact Box.alloc (Box.alloc B_0 (by first | omega | (simp; done) | (simp; omega)) _) (by first | omega | (simp; done) | (simp; omega)) _ | exact box_new _ _ _ | exact Box.alloc (box_new _ _ _) (by first | omega | (simp; done) | (simp; omega)) _ | exact Box.alloc (Box.alloc (box_new _ _ _) (by first | omega | (simp; done) | (simp; omega)) _) (by first | omega | (simp; done) | (simp; omega)) _)
  replace L_0 : w.heap.size < w4.heap.size := (by first | omega | (simp; done) | (simp; omega))
  replace P0_w0 := hid (P0_w0.out.grow hp)
  replace Hb := hid (Hb.out.trans (hp.mono Hb.out.size))
  have P0_g0 := hid hO0
  have R0_g0 : Hid (∀ x ∈ bs_g0, w3.heap.size ≤ x ∧ x < w4.heap.size) := hid (fun x hx => by have := P0_g0.out.lts x hx; refine ⟨?_, this.2⟩; have := this.1; first | omega | (simp at this; omega))
  clear hb hp
  try unfold Box at B_0
  go_wp2_with fail
  refine (eqByteS (Slc.grow P0_g0.out.slc ?_) (Slc.grow P0_w0.out ?_)).mono ?_
  · repeat (first | exact Below.refl _ _ | refine Below.alloc ?_ (by first | omega | (simp; done) | (simp; omega)) _)
  · repeat (first | exact Below.refl _ _ | refine Below.alloc ?_ (by first | omega | (simp; done) | (simp; omega)) _)
  rintro e w5 ⟨rfl, hb⟩
  have hz5 := hb.size; try simp at hz5
  have hp : Below w4.heap.size w4 w5 := below_call (by repeat (first | exact Below.refl _ _ | refine Below.alloc ?_ (by first | omega | (simp; done) | (simp; omega)) _)) hb
  replace B_0 : Box w5 (w.heap.size) #[.int .i64 d_0.Kind, .int .i64 d_0.R] := Box.below hb (by first | omega | (simp; done) | (simp; omega)) (by first | exact B_0 | exact Box.alloc B_0 (by first | omega | (simp; done) | (simp; omega)) _ | exact Box.alloc (Box.alloc B_0 (by first | omega | (simp; done) | (simp; omega)) _) (by first | omega | (simp; done) | (simp; omega)) _ | exact box_new _ _ _ | exact Box.alloc (box_new _ _ _) (by first | omega | (simp; done) | (simp; omega)) _ | exact Box.alloc (Box.alloc (box_new _ _ _) (by first | omega | (simp; done) | (simp; omega)) _) (by first | omega | (simp; done) | (simp; omega)) _)
  replace L_0 : w.heap.size < w5.heap.size := (by first | omega | (simp; done) | (simp; omega))
  replace P0_w0 := hid (P0_w0.out.grow hp)
  replace P0_g0 := hid (P0_g0.out.grow hp)
  replace Hb := hid (Hb.out.trans (hp.mono Hb.out.size))
  clear hb hp
  try unfold Box at B_0
  try unfold Box at B_0
  have HK_g0 : Hid (1 + Mk.nE ((keyB d_0)) ≤ topK) := hid (by have h2 := keyB_len d_0; rw [show Mk.nE (keyB d_0) = (keyB d_0).length from nL_const _ _ fun _ => rfl]; unfold topK; omega)
  go_wp2_with fail
  refine (markByteS P0_g0.out (1) HK_g0.out).mono ?_
  rintro e w6 ⟨rfl, hO0, hT⟩
  have hz6 := hT.size
  replace B_0 : Box w6 (w.heap.size) #[.int .i64 d_0.Kind, .int .i64 d_0.R] := Box.tch hT (by omega) (fun hm => by have := R0_g0.out _ hm; omega) B_0
  replace L_0 : w.heap.size < w6.heap.size := by omega
  replace P0_w0 := hid (P0_w0.out.tch hT (fun x hx hm => by have := R0_w0.out x hx; have := R0_g0.out x hm; omega))
  replace Hb := hid (Hb.out.trans (hT.below Hb.out.size (fun x hm => by have := R0_g0.out x hm; omega)))
  replace P0_g0 := hid hO0
  clear hT hO0
  try unfold Box at B_0
  go_wp2_with fail
  refine (heldByteS (xs := (keyB d_0)) (1) (Slc.grow P0_g0.out.slc ?_) (by have := HK_g0.out; omega)).mono ?_
  · repeat (first | exact Below.refl _ _ | refine Below.alloc ?_ (by first | omega | (simp; done) | (simp; omega)) _)
  rintro e w7 ⟨rfl, hb⟩
  have hz7 := hb.size; try simp at hz7
  have hp : Below w6.heap.size w6 w7 := below_call (by repeat (first | exact Below.refl _ _ | refine Below.alloc ?_ (by first | omega | (simp; done) | (simp; omega)) _)) hb
  replace B_0 : Box w7 (w.heap.size) #[.int .i64 d_0.Kind, .int .i64 d_0.R] := Box.below hb (by first | omega | (simp; done) | (simp; omega)) (by first | exact B_0 | exact Box.alloc B_0 (by first | omega | (simp; done) | (simp; omega)) _ | exact Box.alloc (Box.alloc B_0 (by first | omega | (simp; done) | (simp; omega)) _) (by first | omega | (simp; done) | (simp; omega)) _ | exact box_new _ _ _ | exact Box.alloc (box_new _ _ _) (by first | omega | (simp; done) | (simp; omega)) _ | exact Box.alloc (Box.alloc (box_new _ _ _) (by first | omega | (simp; done) | (simp; omega)) _) (by first | omega | (simp; done) | (simp; omega)) _)
  replace L_0 : w.heap.size < w7.heap.size := (by first | omega | (simp; done) | (simp; omega))
  replace P0_w0 := hid (P0_w0.out.grow hp)
  replace P0_g0 := hid (P0_g0.out.grow hp)
  replace Hb := hid (Hb.out.trans (hp.mono Hb.out.size))
  clear hb hp
  try unfold Box at B_0
  try unfold Box at B_0
  try unfold Box at B_0
  go_wp2_with fail
  refine (toKey (grow G_0.out ?_)).mono ?_
  · (repeat (first | exact Hb.out | refine Below.alloc ?_ (by have := Hb.out.size; first | omega | (simp; done) | (simp; omega)) _))
  rintro e w8 ⟨cs_t30, bs_t30, rfl, hO, hb⟩
  have hz8 := hb.size; try simp at hz8
  have hp : Below w7.heap.size w7 w8 := below_call (by repeat (first | exact Below.refl _ _ | refine Below.alloc ?_ (by first | omega | (simp; done) | (simp; omega)) _)) hb
  replace B_0 : Box w8 (w.heap.size) #[.int .i64 d_0.Kind, .int .i64 d_0.R] := Box.below hb (by first | omega | (simp; done) | (simp; omega)) (by first | exact B_0 | exact Box.alloc B_0 (by first | omega | (simp; done) | (simp; omega)) _ | exact Box.alloc (Box.alloc B_0 (by first | omega | (simp; done) | (simp; omega)) _) (by first | omega | (simp; done) | (simp; omega)) _ | exact box_new _ _ _ | exact Box.alloc (box_new _ _ _) (by first | omega | (simp; done) | (simp; omega)) _ | exact Box.alloc (Box.alloc (box_new _ _ _) (by first | omega | (simp; done) | (simp; omega)) _) (by first | omega | (simp; done) | (simp; omega)) _)
  replace L_0 : w.heap.size < w8.heap.size := (by first | omega | (simp; done) | (simp; omega))
  replace P0_w0 := hid (P0_w0.out.grow hp)
  replace P0_g0 := hid (P0_g0.out.grow hp)
  replace Hb := hid (Hb.out.trans (hp.mono Hb.out.size))
  obtain ⟨rfl, rfl, h0_t30, h1_t30⟩ := open_Key hO.1
  clear hb hp hO
  try unfold Box at B_0
  go_wp2_with fail
  refine (i_KeyBytesS (mk_Key (d := d_0) h0_t30 h1_t30)  ).mono ?_
  rintro e w9 ⟨a0_h0, l0_h0, k0_h0, bs_h0, rfl, hO0, hb⟩
  have hz9 := hb.size; try simp at hz9
  have hp : Below w8.heap.size w8 w9 := below_call (by repeat (first | exact Below.refl _ _ | refine Below.alloc ?_ (by first | omega | (simp; done) | (simp; omega)) _)) hb
  replace B_0 : Box w9 (w.heap.size) #[.int .i64 d_0.Kind, .int .i64 d_0.R] := Box.below hb (by first | omega | (simp; done) | (simp; omega)) (by first | exact B_0 | exact Box.alloc B_0 (by first | omega | (simp; done) | (simp; omega)) _ | exact Box.alloc (Box.alloc B_0 (by first | omega | (simp; done) | (simp; omega)) _) (by first | omega | (simp; done) | (simp; omega)) _ | exact box_new _ _ _ | exact Box.alloc (box_new _ _ _) (by first | omega | (simp; done) | (simp; omega)) _ | exact Box.alloc (Box.alloc (box_new _ _ _) (by first | omega | (simp; done) | (simp; omega)) _) (by first | omega | (simp; done) | (simp; omega)) _)
  replace L_0 : w.heap.size < w9.heap.size := (by first | omega | (simp; done) | (simp; omega))
  replace P0_w0 := hid (P0_w0.out.grow hp)
  replace P0_g0 := hid (P0_g0.out.grow hp)
  replace Hb := hid (Hb.out.trans (hp.mono Hb.out.size))
  have P0_h0 := hid hO0
  have R0_h0 : Hid (∀ x ∈ bs_h0, w8.heap.size ≤ x ∧ x < w9.heap.size) := hid (fun x hx => by have := P0_h0.out.lts x hx; refine ⟨?_, this.2⟩; have := this.1; first | omega | (simp at this; omega))
  clear hb hp
  try unfold Box at B_0
  go_wp2_with fail
  refine (eqByteS (Slc.grow P0_h0.out.slc ?_) (Slc.grow P0_w0.out ?_)).mono ?_
  · repeat (first | exact Below.refl _ _ | refine Below.alloc ?_ (by first | omega | (simp; done) | (simp; omega)) _)
  · repeat (first | exact Below.refl _ _ | refine Below.alloc ?_ (by first | omega | (simp; done) | (simp; omega)) _)
  rintro e w10 ⟨rfl, hb⟩
  have hz10 := hb.size; try simp at hz10
  have hp : Below w9.heap.size w9 w10 := below_call (by repeat (first | exact Below.refl _ _ | refine Below.alloc ?_ (by first | omega | (simp; done) | (simp; omega)) _)) hb
  replace B_0 : Box w10 (w.heap.size) #[.int .i64 d_0.Kind, .int .i64 d_0.R] := Box.below hb (by first | omega | (simp; done) | (simp; omega)) (by first | exact B_0 | exact Box.alloc B_0 (by first | omega | (simp; done) | (simp; omega)) _ | exact Box.alloc (Box.alloc B_0 (by first | omega | (simp; done) | (simp; omega)) _) (by first | omega | (simp; done) | (simp; omega)) _ | exact box_new _ _ _ | exact Box.alloc (box_new _ _ _) (by first | omega | (simp; done) | (simp; omega)) _ | exact Box.alloc (Box.alloc (box_new _ _ _) (by first | omega | (simp; done) | (simp; omega)) _) (by first | omega | (simp; done) | (simp; omega)) _)
  replace L_0 : w.heap.size < w10.heap.size := (by first | omega | (simp; done) | (simp; omega))
  replace P0_w0 := hid (P0_w0.out.grow hp)
  replace P0_g0 := hid (P0_g0.out.grow hp)
  replace P0_h0 := hid (P0_h0.out.grow hp)
  replace Hb := hid (Hb.out.trans (hp.mono Hb.out.size))
  clear hb hp
  try unfold Box at B_0
  try unfold Box at B_0
  go_wp2_with fail
  refine (heldByteS (xs := (keyB d_0)) (1) (Slc.grow P0_g0.out.slc ?_) (by have := HK_g0.out; omega)).mono ?_
  · repeat (first | exact Below.refl _ _ | refine Below.alloc ?_ (by first | omega | (simp; done) | (simp; omega)) _)
  rintro e w11 ⟨rfl, hb⟩
  have hz11 := hb.size; try simp at hz11
  have hp : Below w10.heap.size w10 w11 := below_call (by repeat (first | exact Below.refl _ _ | refine Below.alloc ?_ (by first | omega | (simp; done) | (simp; omega)) _)) hb
  replace B_0 : Box w11 (w.heap.size) #[.int .i64 d_0.Kind, .int .i64 d_0.R] := Box.below hb (by first | omega | (simp; done) | (simp; omega)) (by first | exact B_0 | exact Box.alloc B_0 (by first | omega | (simp; done) | (simp; omega)) _ | exact Box.alloc (Box.alloc B_0 (by first | omega | (simp; done) | (simp; omega)) _) (by first | omega | (simp; done) | (simp; omega)) _ | exact box_new _ _ _ | exact Box.alloc (box_new _ _ _) (by first | omega | (simp; done) | (simp; omega)) _ | exact Box.alloc (Box.alloc (box_new _ _ _) (by first | omega | (simp; done) | (simp; omega)) _) (by first | omega | (simp; done) | (simp; omega)) _)
  replace L_0 : w.heap.size < w11.heap.size := (by first | omega | (simp; done) | (simp; omega))
  replace P0_w0 := hid (P0_w0.out.grow hp)
  replace P0_g0 := hid (P0_g0.out.grow hp)
  replace P0_h0 := hid (P0_h0.out.grow hp)
  replace Hb := hid (Hb.out.trans (hp.mono Hb.out.size))
  clear hb hp
  try unfold Box at B_0
  try unfold Box at B_0
  try unfold Box at B_0
  go_wp2
  go_ret
  exact ⟨rfl, Hb.out⟩
end Go.Proofs.Ytodbnphofjpmeaa
