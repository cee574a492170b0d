/- The law on LineOf. -/
import Derived.Test.YtndhhongkigikaaHelpT
import Derived.Test.YtndhhongkigikaaRunes
import Derived.Deep.RegionHeld3
import Derived.Deep.DeepCutAuto
set_option linter.unusedSimpArgs false
set_option linter.unusedVariables false
namespace Go.Proofs.Ytndhhongkigikaa
open Go.RowKit Go.G6
set_option maxRecDepth 10000
theorem boxN {w : World} {b : Nat} {c : Array Value} {t : TypeId} (hb : b = w.heap.size) : Box (w.alloc (.cells c t)) b c := by subst hb; exact box_new _ _ _
set_option maxHeartbeats 4000000 in
theorem lawLineOf {w : World}  (d_0 : ByteArray) (h0_0 : d_0.size ≤ maxLen) :
    Calls Try.prog 12 #[.string d_0] w fun e w' => e = .returned (.bool true) ∧ Below w.heap.size w w' := by
  go_enter Try.func12, Try.ntmps12
  have Hb : Hid (Below w.heap.size w w) := hid (Below.refl _ _)
  by_cases hn_0 : (d_0.size : Int) ≤ 1048576
  rotate_left
  · go_wp2
    go_ret
    exact ⟨rfl, by repeat (first | exact Below.refl _ _ | refine Below.alloc ?_ (by first | omega | (simp; done) | (simp; omega)) _)⟩
  have HN_0 : Hid (d_0.size ≤ 1048576) := hid (by omega)
  go_wp2_with fail
  refine (s_LineOf  d_0 (by have := HN_0.out; unfold maxLen; omega) ).mono ?_
  rintro e w1 ⟨cs_w0, bs_w0, rfl, hO0, hlow, hb⟩
  have hz1 := hb.size; try simp at hz1
  have hp : Below w.heap.size w w1 := below_call (by repeat (first | exact Below.refl _ _ | refine Below.alloc ?_ (by first | omega | (simp; done) | (simp; omega)) _)) hb
  replace Hb := hid (Hb.out.trans (hp.mono Hb.out.size))
  obtain ⟨a0_w0, l0_w0, k0_w0, rfl, h0_w0, h1_w0⟩ := open_Line hO0
  have P0_w0 := hid h0_w0
  have R0_w0 : Hid (∀ x ∈ bs_w0, 0 ≤ x ∧ x < w1.heap.size) := hid (fun x hx => by have := P0_w0.out.lts x hx; exact this)
  clear hb hp
  go_wp2_with fail
  refine (i_LineOf  d_0 (by have := HN_0.out; unfold maxLen; omega) ).mono ?_
  rintro e w2 ⟨cs_g0, bs_g0, rfl, hO0, hb⟩
  have hz2 := hb.size; try simp at hz2
  have hp : Below w1.heap.size w1 w2 := below_call (by repeat (first | exact Below.refl _ _ | refine Below.alloc ?_ (by first | omega | (simp; done) | (simp; omega)) _)) hb
  have B_w0 : Box w2 (w1.heap.size) #[.slice a0_w0 l0_w0 k0_w0, .int .i64 (lineOf d_0).At] := Box.below hb (by first | omega | (simp; done) | (simp; omega)) (by repeat (first | exact B_w0 | (apply boxN; (focus (first | omega | (simp; done) | (simp; omega)))) | (apply Box.alloc; rotate_left; (focus (first | omega | (simp; done) | (simp; omega))))))
  have L_w0 : w1.heap.size < w2.heap.size := (by first | omega | (simp; done) | (simp; omega))
  replace P0_w0 := hid (P0_w0.out.grow hp)
  replace Hb := hid (Hb.out.trans (hp.mono Hb.out.size))
  obtain ⟨a0_g0, l0_g0, k0_g0, rfl, h0_g0, h1_g0⟩ := open_Line hO0.1
  have P0_g0 := hid (parts_Line hO0 h0_g0)
  have R0_g0 : Hid (∀ x ∈ bs_g0, w1.heap.size + 1 ≤ x ∧ x < w2.heap.size) := hid (fun x hx => by have := P0_g0.out.lts x hx; refine ⟨?_, this.2⟩; have := this.1; first | omega | (simp at this; omega))
  clear hb hp
  try unfold Box at B_w0
  go_wp2_with fail
  refine (eqLine (mk_Line (d := (lineOf d_0)) (Slc.grow P0_g0.out.slc ?_) h1_g0) (mk_Line (d := (lineOf d_0)) (Slc.grow P0_w0.out ?_) h1_w0)).mono ?_
  · repeat (first | exact Below.refl _ _ | refine Below.alloc ?_ (by first | omega | (simp; done) | (simp; omega)) _)
  · repeat (first | exact Below.refl _ _ | refine Below.alloc ?_ (by first | omega | (simp; done) | (simp; omega)) _)
  rintro e w3 ⟨rfl, hb⟩
  have hz3 := hb.size; try simp at hz3
  have hp : Below w2.heap.size w2 w3 := below_call (by repeat (first | exact Below.refl _ _ | refine Below.alloc ?_ (by first | omega | (simp; done) | (simp; omega)) _)) hb
  replace B_w0 : Box w3 (w1.heap.size) #[.slice a0_w0 l0_w0 k0_w0, .int .i64 (lineOf d_0).At] := Box.below hb (by first | omega | (simp; done) | (simp; omega)) (by repeat (first | exact B_w0 | (apply boxN; (focus (first | omega | (simp; done) | (simp; omega)))) | (apply Box.alloc; rotate_left; (focus (first | omega | (simp; done) | (simp; omega))))))
  replace L_w0 : w1.heap.size < w3.heap.size := (by first | omega | (simp; done) | (simp; omega))
  have B_g0 : Box w3 (w2.heap.size) #[.slice a0_g0 l0_g0 k0_g0, .int .i64 (lineOf d_0).At] := Box.below hb (by first | omega | (simp; done) | (simp; omega)) (by repeat (first | exact B_g0 | (apply boxN; (focus (first | omega | (simp; done) | (simp; omega)))) | (apply Box.alloc; rotate_left; (focus (first | omega | (simp; done) | (simp; omega))))))
  have L_g0 : w2.heap.size < w3.heap.size := (by first | omega | (simp; done) | (simp; omega))
  replace P0_w0 := hid (P0_w0.out.grow hp)
  replace P0_g0 := hid (P0_g0.out.grow hp)
  replace Hb := hid (Hb.out.trans (hp.mono Hb.out.size))
  clear hb hp
  try unfold Box at B_w0
  try unfold Box at B_g0
  try unfold Box at B_w0
  try unfold Box at B_g0
  have HK_g0 : Hid (1 + ((lineOf d_0)).nkv ≤ topK) := hid (by exact lineOf_top _)
  go_wp2_with fail
  refine (markLine (d := (lineOf d_0)) P0_g0.out  (1) HK_g0.out).mono ?_
  rintro e w4 ⟨rfl, hO0, hT⟩
  have hz4 := hT.size
  replace B_w0 : Box w4 (w1.heap.size) #[.slice a0_w0 l0_w0 k0_w0, .int .i64 (lineOf d_0).At] := Box.tch hT (by omega) (fun hm => by have := R0_g0.out _ hm; omega) B_w0
  replace L_w0 : w1.heap.size < w4.heap.size := by omega
  replace B_g0 : Box w4 (w2.heap.size) #[.slice a0_g0 l0_g0 k0_g0, .int .i64 (lineOf d_0).At] := Box.tch hT (by omega) (fun hm => by have := R0_g0.out _ hm; omega) B_g0
  replace L_g0 : w2.heap.size < w4.heap.size := by omega
  replace P0_w0 := hid (P0_w0.out.tch hT (fun x hx hm => by have := R0_w0.out x hx; have := R0_g0.out x hm; omega))
  replace Hb := hid (Hb.out.trans (hT.below Hb.out.size (fun x hm => by have := R0_g0.out x hm; omega)))
  replace P0_g0 := hid hO0
  clear hT hO0
  try unfold Box at B_w0
  try unfold Box at B_g0
  go_wp2_with fail
  refine (heldLine (d := (lineOf d_0)) (1) (mk_Line (d := (((lineOf d_0)).mkv (1))) (Slc.grow P0_g0.out.slc ?_) h1_g0) (by have := HK_g0.out; omega)).mono ?_
  · repeat (first | exact Below.refl _ _ | refine Below.alloc ?_ (by first | omega | (simp; done) | (simp; omega)) _)
  rintro e w5 ⟨rfl, hb⟩
  have hz5 := hb.size; try simp at hz5
  have hp : Below w4.heap.size w4 w5 := below_call (by repeat (first | exact Below.refl _ _ | refine Below.alloc ?_ (by first | omega | (simp; done) | (simp; omega)) _)) hb
  replace B_w0 : Box w5 (w1.heap.size) #[.slice a0_w0 l0_w0 k0_w0, .int .i64 (lineOf d_0).At] := Box.below hb (by first | omega | (simp; done) | (simp; omega)) (by repeat (first | exact B_w0 | (apply boxN; (focus (first | omega | (simp; done) | (simp; omega)))) | (apply Box.alloc; rotate_left; (focus (first | omega | (simp; done) | (simp; omega))))))
  replace L_w0 : w1.heap.size < w5.heap.size := (by first | omega | (simp; done) | (simp; omega))
  replace B_g0 : Box w5 (w2.heap.size) #[.slice a0_g0 l0_g0 k0_g0, .int .i64 (lineOf d_0).At] := Box.below hb (by first | omega | (simp; done) | (simp; omega)) (by repeat (first | exact B_g0 | (apply boxN; (focus (first | omega | (simp; done) | (simp; omega)))) | (apply Box.alloc; rotate_left; (focus (first | omega | (simp; done) | (simp; omega))))))
  replace L_g0 : w2.heap.size < w5.heap.size := (by first | omega | (simp; done) | (simp; omega))
  replace P0_w0 := hid (P0_w0.out.grow hp)
  replace P0_g0 := hid (P0_g0.out.grow hp)
  replace Hb := hid (Hb.out.trans (hp.mono Hb.out.size))
  clear hb hp
  try unfold Box at B_w0
  try unfold Box at B_g0
  try unfold Box at B_w0
  try unfold Box at B_g0
  try unfold Box at B_w0
  try unfold Box at B_g0
  go_wp2_with fail
  refine (i_LineOf  d_0 (by have := HN_0.out; unfold maxLen; omega) ).mono ?_
  rintro e w6 ⟨cs_h0, bs_h0, rfl, hO0, hb⟩
  have hz6 := hb.size; try simp at hz6
  have hp : Below w5.heap.size w5 w6 := below_call (by repeat (first | exact Below.refl _ _ | refine Below.alloc ?_ (by first | omega | (simp; done) | (simp; omega)) _)) hb
  replace B_w0 : Box w6 (w1.heap.size) #[.slice a0_w0 l0_w0 k0_w0, .int .i64 (lineOf d_0).At] := Box.below hb (by first | omega | (simp; done) | (simp; omega)) (by repeat (first | exact B_w0 | (apply boxN; (focus (first | omega | (simp; done) | (simp; omega)))) | (apply Box.alloc; rotate_left; (focus (first | omega | (simp; done) | (simp; omega))))))
  replace L_w0 : w1.heap.size < w6.heap.size := (by first | omega | (simp; done) | (simp; omega))
  replace B_g0 : Box w6 (w2.heap.size) #[.slice a0_g0 l0_g0 k0_g0, .int .i64 (lineOf d_0).At] := Box.below hb (by first | omega | (simp; done) | (simp; omega)) (by repeat (first | exact B_g0 | (apply boxN; (focus (first | omega | (simp; done) | (simp; omega)))) | (apply Box.alloc; rotate_left; (focus (first | omega | (simp; done) | (simp; omega))))))
  replace L_g0 : w2.heap.size < w6.heap.size := (by first | omega | (simp; done) | (simp; omega))
  replace P0_w0 := hid (P0_w0.out.grow hp)
  replace P0_g0 := hid (P0_g0.out.grow hp)
  replace Hb := hid (Hb.out.trans (hp.mono Hb.out.size))
  obtain ⟨a0_h0, l0_h0, k0_h0, rfl, h0_h0, h1_h0⟩ := open_Line hO0.1
  have P0_h0 := hid (parts_Line hO0 h0_h0)
  have R0_h0 : Hid (∀ x ∈ bs_h0, w5.heap.size ≤ x ∧ x < w6.heap.size) := hid (fun x hx => by have := P0_h0.out.lts x hx; refine ⟨?_, this.2⟩; have := this.1; first | omega | (simp at this; omega))
  clear hb hp
  try unfold Box at B_w0
  try unfold Box at B_g0
  go_wp2_with fail
  refine (eqLine (mk_Line (d := (lineOf d_0)) (Slc.grow P0_h0.out.slc ?_) h1_h0) (mk_Line (d := (lineOf d_0)) (Slc.grow P0_w0.out ?_) h1_w0)).mono ?_
  · repeat (first | exact Below.refl _ _ | refine Below.alloc ?_ (by first | omega | (simp; done) | (simp; omega)) _)
  · repeat (first | exact Below.refl _ _ | refine Below.alloc ?_ (by first | omega | (simp; done) | (simp; omega)) _)
  rintro e w7 ⟨rfl, hb⟩
  have hz7 := hb.size; try simp at hz7
  have hp : Below w6.heap.size w6 w7 := below_call (by repeat (first | exact Below.refl _ _ | refine Below.alloc ?_ (by first | omega | (simp; done) | (simp; omega)) _)) hb
  replace B_w0 : Box w7 (w1.heap.size) #[.slice a0_w0 l0_w0 k0_w0, .int .i64 (lineOf d_0).At] := Box.below hb (by first | omega | (simp; done) | (simp; omega)) (by repeat (first | exact B_w0 | (apply boxN; (focus (first | omega | (simp; done) | (simp; omega)))) | (apply Box.alloc; rotate_left; (focus (first | omega | (simp; done) | (simp; omega))))))
  replace L_w0 : w1.heap.size < w7.heap.size := (by first | omega | (simp; done) | (simp; omega))
  replace B_g0 : Box w7 (w2.heap.size) #[.slice a0_g0 l0_g0 k0_g0, .int .i64 (lineOf d_0).At] := Box.below hb (by first | omega | (simp; done) | (simp; omega)) (by repeat (first | exact B_g0 | (apply boxN; (focus (first | omega | (simp; done) | (simp; omega)))) | (apply Box.alloc; rotate_left; (focus (first | omega | (simp; done) | (simp; omega))))))
  replace L_g0 : w2.heap.size < w7.heap.size := (by first | omega | (simp; done) | (simp; omega))
  have B_h0 : Box w7 (w6.heap.size) #[.slice a0_h0 l0_h0 k0_h0, .int .i64 (lineOf d_0).At] := Box.below hb (by first | omega | (simp; done) | (simp; omega)) (by repeat (first | exact B_h0 | (apply boxN; (focus (first | omega | (simp; done) | (simp; omega)))) | (apply Box.alloc; rotate_left; (focus (first | omega | (simp; done) | (simp; omega))))))
  have L_h0 : w6.heap.size < w7.heap.size := (by first | omega | (simp; done) | (simp; omega))
  replace P0_w0 := hid (P0_w0.out.grow hp)
  replace P0_g0 := hid (P0_g0.out.grow hp)
  replace P0_h0 := hid (P0_h0.out.grow hp)
  replace Hb := hid (Hb.out.trans (hp.mono Hb.out.size))
  clear hb hp
  try unfold Box at B_w0
  try unfold Box at B_g0
  try unfold Box at B_h0
  try unfold Box at B_w0
  try unfold Box at B_g0
  try unfold Box at B_h0
  go_wp2_with fail
  refine (heldLine (d := (lineOf d_0)) (1) (mk_Line (d := (((lineOf d_0)).mkv (1))) (Slc.grow P0_g0.out.slc ?_) h1_g0) (by have := HK_g0.out; omega)).mono ?_
  · repeat (first | exact Below.refl _ _ | refine Below.alloc ?_ (by first | omega | (simp; done) | (simp; omega)) _)
  rintro e w8 ⟨rfl, hb⟩
  have hz8 := hb.size; try simp at hz8
  have hp : Below w7.heap.size w7 w8 := below_call (by repeat (first | exact Below.refl _ _ | refine Below.alloc ?_ (by first | omega | (simp; done) | (simp; omega)) _)) hb
  replace B_w0 : Box w8 (w1.heap.size) #[.slice a0_w0 l0_w0 k0_w0, .int .i64 (lineOf d_0).At] := Box.below hb (by first | omega | (simp; done) | (simp; omega)) (by repeat (first | exact B_w0 | (apply boxN; (focus (first | omega | (simp; done) | (simp; omega)))) | (apply Box.alloc; rotate_left; (focus (first | omega | (simp; done) | (simp; omega))))))
  replace L_w0 : w1.heap.size < w8.heap.size := (by first | omega | (simp; done) | (simp; omega))
  replace B_g0 : Box w8 (w2.heap.size) #[.slice a0_g0 l0_g0 k0_g0, .int .i64 (lineOf d_0).At] := Box.below hb (by first | omega | (simp; done) | (simp; omega)) (by repeat (first | exact B_g0 | (apply boxN; (focus (first | omega | (simp; done) | (simp; omega)))) | (apply Box.alloc; rotate_left; (focus (first | omega | (simp; done) | (simp; omega))))))
  replace L_g0 : w2.heap.size < w8.heap.size := (by first | omega | (simp; done) | (simp; omega))
  replace B_h0 : Box w8 (w6.heap.size) #[.slice a0_h0 l0_h0 k0_h0, .int .i64 (lineOf d_0).At] := Box.below hb (by first | omega | (simp; done) | (simp; omega)) (by repeat (first | exact B_h0 | (apply boxN; (focus (first | omega | (simp; done) | (simp; omega)))) | (apply Box.alloc; rotate_left; (focus (first | omega | (simp; done) | (simp; omega))))))
  replace L_h0 : w6.heap.size < w8.heap.size := (by first | omega | (simp; done) | (simp; omega))
  replace P0_w0 := hid (P0_w0.out.grow hp)
  replace P0_g0 := hid (P0_g0.out.grow hp)
  replace P0_h0 := hid (P0_h0.out.grow hp)
  replace Hb := hid (Hb.out.trans (hp.mono Hb.out.size))
  clear hb hp
  try unfold Box at B_w0
  try unfold Box at B_g0
  try unfold Box at B_h0
  try unfold Box at B_w0
  try unfold Box at B_g0
  try unfold Box at B_h0
  try unfold Box at B_w0
  try unfold Box at B_g0
  try unfold Box at B_h0
  go_wp2
  go_ret
  exact ⟨rfl, Hb.out⟩
end Go.Proofs.Ytndhhongkigikaa
