/- The law on VtNew. -/
import Derived.Test.YtmcfkmlbifhhjaaHelpT
import Derived.Test.YtmcfkmlbifhhjaaVt
import Derived.Deep.RegionHeld3
set_option linter.unusedSimpArgs false
set_option linter.unusedVariables false
namespace Go.Proofs.Ytmcfkmlbifhhjaa
open Go.RowKit Go.G6
set_option maxRecDepth 10000
theorem boxN {w : World} {b : Nat} {c : Array Value} {t : TypeId} (hb : b = w.heap.size) : Box (w.alloc (.cells c t)) b c := by subst hb; exact box_new _ _ _
set_option maxHeartbeats 4000000 in
theorem lawVtNew {w : World}  (d_0 : Int) (h0_0 : I64 d_0) (d_1 : Int) (h0_1 : I64 d_1) :
    Calls Try.prog 13 #[.int .i64 d_0, .int .i64 d_1] w fun e w' => e = .returned (.bool true) ∧ Below w.heap.size w w' := by
  go_enter Try.func13, Try.ntmps13
  have Hb : Hid (Below w.heap.size w w) := hid (Below.refl _ _)
  go_wp2_with fail
  refine (s_VtNew  d_0 h0_0 d_1 h0_1 _).mono ?_
  rintro e w1 ⟨cs_w0, bs_w0, rfl, hO0, hb⟩
  have hz1 := hb.size; try simp at hz1
  have hp : Below w.heap.size w w1 := below_call (by repeat (first | exact Below.refl _ _ | refine Below.alloc ?_ (by first | omega | (simp; done) | (simp; omega)) _)) hb
  replace Hb := hid (Hb.out.trans (hp.mono Hb.out.size))
  obtain ⟨b2_w0, b7_w0, b8_w0, a2_w0, l2_w0, k2_w0, a7_w0, l7_w0, k7_w0, a8_w0, l8_w0, k8_w0, rfl, rfl, h0_w0, h1_w0, h2_w0, h3_w0, h4_w0, h6_w0, h7_w0, h8_w0, h9_w0⟩ := open_Vt hO0.1
  have hP_w0 := parts_Vt hO0 h2_w0 h7_w0 h8_w0
  have P2_w0 := hid (hP_w0.1)
  have P7_w0 := hid (hP_w0.2.1)
  have P8_w0 := hid (hP_w0.2.2.1)
  have E2_7_w0 := hid (hP_w0.2.2.2.1)
  have E2_8_w0 := hid (hP_w0.2.2.2.2.1)
  have E7_8_w0 := hid (hP_w0.2.2.2.2.2)
  clear hP_w0
  have R2_w0 : Hid (∀ x ∈ b2_w0, w.heap.size ≤ x ∧ x < w1.heap.size) := hid (fun x hx => by have := P2_w0.out.lts x hx; refine ⟨?_, this.2⟩; have := this.1; first | omega | (simp at this; omega))
  have R7_w0 : Hid (∀ x ∈ b7_w0, w.heap.size ≤ x ∧ x < w1.heap.size) := hid (fun x hx => by have := P7_w0.out.lts x hx; refine ⟨?_, this.2⟩; have := this.1; first | omega | (simp at this; omega))
  have R8_w0 : Hid (∀ x ∈ b8_w0, w.heap.size ≤ x ∧ x < w1.heap.size) := hid (fun x hx => by have := P8_w0.out.lts x hx; refine ⟨?_, this.2⟩; have := this.1; first | omega | (simp at this; omega))
  clear hb hp
  go_wp2_with fail
  refine (i_VtNew  d_0 h0_0 d_1 h0_1 _).mono ?_
  rintro e w2 ⟨cs_g0, bs_g0, rfl, hO0, hb⟩
  have hz2 := hb.size; try simp at hz2
  have hp : Below w1.heap.size w1 w2 := below_call (by repeat (first | exact Below.refl _ _ | refine Below.alloc ?_ (by first | omega | (simp; done) | (simp; omega)) _)) hb
  have B_w0 : Box w2 (w1.heap.size) #[.int .i64 (vtNew d_0 d_1).Grid.W, .int .i64 (vtNew d_0 d_1).Grid.H, .slice a2_w0 l2_w0 k2_w0, .int .i64 (vtNew d_0 d_1).Grid.X, .int .i64 (vtNew d_0 d_1).Grid.Y, .bool (vtNew d_0 d_1).Grid.Wrap, .int .i64 (vtNew d_0 d_1).State, .slice a7_w0 l7_w0 k7_w0, .slice a8_w0 l8_w0 k8_w0, .int .i64 (vtNew d_0 d_1).Bells] := Box.below hb (by first | omega | (simp; done) | (simp; omega)) (by repeat (first | exact B_w0 | (apply boxN; (focus (first | omega | (simp; done) | (simp; omega)))) | (apply Box.alloc; rotate_left; (focus (first | omega | (simp; done) | (simp; omega))))))
  have L_w0 : w1.heap.size < w2.heap.size := (by first | omega | (simp; done) | (simp; omega))
  replace P2_w0 := hid (P2_w0.out.grow hp)
  replace P7_w0 := hid (P7_w0.out.grow hp)
  replace P8_w0 := hid (P8_w0.out.grow hp)
  replace Hb := hid (Hb.out.trans (hp.mono Hb.out.size))
  obtain ⟨b2_g0, b7_g0, b8_g0, a2_g0, l2_g0, k2_g0, a7_g0, l7_g0, k7_g0, a8_g0, l8_g0, k8_g0, rfl, rfl, h0_g0, h1_g0, h2_g0, h3_g0, h4_g0, h6_g0, h7_g0, h8_g0, h9_g0⟩ := open_Vt hO0.1
  have hP_g0 := parts_Vt hO0 h2_g0 h7_g0 h8_g0
  have P2_g0 := hid (hP_g0.1)
  have P7_g0 := hid (hP_g0.2.1)
  have P8_g0 := hid (hP_g0.2.2.1)
  have E2_7_g0 := hid (hP_g0.2.2.2.1)
  have E2_8_g0 := hid (hP_g0.2.2.2.2.1)
  have E7_8_g0 := hid (hP_g0.2.2.2.2.2)
  clear hP_g0
  have R2_g0 : Hid (∀ x ∈ b2_g0, w1.heap.size + 1 ≤ x ∧ x < w2.heap.size) := hid (fun x hx => by have := P2_g0.out.lts x hx; refine ⟨?_, this.2⟩; have := this.1; first | omega | (simp at this; omega))
  have R7_g0 : Hid (∀ x ∈ b7_g0, w1.heap.size + 1 ≤ x ∧ x < w2.heap.size) := hid (fun x hx => by have := P7_g0.out.lts x hx; refine ⟨?_, this.2⟩; have := this.1; first | omega | (simp at this; omega))
  have R8_g0 : Hid (∀ x ∈ b8_g0, w1.heap.size + 1 ≤ x ∧ x < w2.heap.size) := hid (fun x hx => by have := P8_g0.out.lts x hx; refine ⟨?_, this.2⟩; have := this.1; first | omega | (simp at this; omega))
  clear hb hp
  try unfold Box at B_w0
  go_wp2_with fail
  refine (eqVt (mk_Vt (d := (vtNew d_0 d_1)) h0_g0 h1_g0 (Slc.grow P2_g0.out.slc ?_) h3_g0 h4_g0 h6_g0 (Slc.grow P7_g0.out.slc ?_) (Slc.grow P8_g0.out.slc ?_) h9_g0) (mk_Vt (d := (vtNew d_0 d_1)) h0_w0 h1_w0 (Slc.grow P2_w0.out.slc ?_) h3_w0 h4_w0 h6_w0 (Slc.grow P7_w0.out.slc ?_) (Slc.grow P8_w0.out.slc ?_) h9_w0)).mono ?_
  · repeat (first | exact Below.refl _ _ | refine Below.alloc ?_ (by first | omega | (simp; done) | (simp; omega)) _)
  · repeat (first | exact Below.refl _ _ | refine Below.alloc ?_ (by first | omega | (simp; done) | (simp; omega)) _)
  · repeat (first | exact Below.refl _ _ | refine Below.alloc ?_ (by first | omega | (simp; done) | (simp; omega)) _)
  · repeat (first | exact Below.refl _ _ | refine Below.alloc ?_ (by first | omega | (simp; done) | (simp; omega)) _)
  · repeat (first | exact Below.refl _ _ | refine Below.alloc ?_ (by first | omega | (simp; done) | (simp; omega)) _)
  · repeat (first | exact Below.refl _ _ | refine Below.alloc ?_ (by first | omega | (simp; done) | (simp; omega)) _)
  rintro e w3 ⟨rfl, hb⟩
  have hz3 := hb.size; try simp at hz3
  have hp : Below w2.heap.size w2 w3 := below_call (by repeat (first | exact Below.refl _ _ | refine Below.alloc ?_ (by first | omega | (simp; done) | (simp; omega)) _)) hb
  replace B_w0 : Box w3 (w1.heap.size) #[.int .i64 (vtNew d_0 d_1).Grid.W, .int .i64 (vtNew d_0 d_1).Grid.H, .slice a2_w0 l2_w0 k2_w0, .int .i64 (vtNew d_0 d_1).Grid.X, .int .i64 (vtNew d_0 d_1).Grid.Y, .bool (vtNew d_0 d_1).Grid.Wrap, .int .i64 (vtNew d_0 d_1).State, .slice a7_w0 l7_w0 k7_w0, .slice a8_w0 l8_w0 k8_w0, .int .i64 (vtNew d_0 d_1).Bells] := Box.below hb (by first | omega | (simp; done) | (simp; omega)) (by repeat (first | exact B_w0 | (apply boxN; (focus (first | omega | (simp; done) | (simp; omega)))) | (apply Box.alloc; rotate_left; (focus (first | omega | (simp; done) | (simp; omega))))))
  replace L_w0 : w1.heap.size < w3.heap.size := (by first | omega | (simp; done) | (simp; omega))
  have B_g0 : Box w3 (w2.heap.size) #[.int .i64 (vtNew d_0 d_1).Grid.W, .int .i64 (vtNew d_0 d_1).Grid.H, .slice a2_g0 l2_g0 k2_g0, .int .i64 (vtNew d_0 d_1).Grid.X, .int .i64 (vtNew d_0 d_1).Grid.Y, .bool (vtNew d_0 d_1).Grid.Wrap, .int .i64 (vtNew d_0 d_1).State, .slice a7_g0 l7_g0 k7_g0, .slice a8_g0 l8_g0 k8_g0, .int .i64 (vtNew d_0 d_1).Bells] := Box.below hb (by first | omega | (simp; done) | (simp; omega)) (by repeat (first | exact B_g0 | (apply boxN; (focus (first | omega | (simp; done) | (simp; omega)))) | (apply Box.alloc; rotate_left; (focus (first | omega | (simp; done) | (simp; omega))))))
  have L_g0 : w2.heap.size < w3.heap.size := (by first | omega | (simp; done) | (simp; omega))
  replace P2_w0 := hid (P2_w0.out.grow hp)
  replace P7_w0 := hid (P7_w0.out.grow hp)
  replace P8_w0 := hid (P8_w0.out.grow hp)
  replace P2_g0 := hid (P2_g0.out.grow hp)
  replace P7_g0 := hid (P7_g0.out.grow hp)
  replace P8_g0 := hid (P8_g0.out.grow hp)
  replace Hb := hid (Hb.out.trans (hp.mono Hb.out.size))
  clear hb hp
  try unfold Box at B_w0
  try unfold Box at B_g0
  try unfold Box at B_w0
  try unfold Box at B_g0
  have HK_g0 : Hid (1 + ((vtNew d_0 d_1)).nkv ≤ topK) := hid (by exact vtNew_top _ _)
  go_wp2_with fail
  replace P2_g0 := hid (P2_g0.out.mono (lo' := 0) (Nat.zero_le _))
  replace P7_g0 := hid (P7_g0.out.mono (lo' := 0) (Nat.zero_le _))
  replace P8_g0 := hid (P8_g0.out.mono (lo' := 0) (Nat.zero_le _))
  refine (markVt (d := (vtNew d_0 d_1)) P2_g0.out P7_g0.out P8_g0.out E2_7_g0.out E2_8_g0.out E7_8_g0.out (1) HK_g0.out).mono ?_
  rintro e w4 ⟨rfl, hO2, hO7, hO8, hT⟩
  have hz4 := hT.size
  replace B_w0 : Box w4 (w1.heap.size) #[.int .i64 (vtNew d_0 d_1).Grid.W, .int .i64 (vtNew d_0 d_1).Grid.H, .slice a2_w0 l2_w0 k2_w0, .int .i64 (vtNew d_0 d_1).Grid.X, .int .i64 (vtNew d_0 d_1).Grid.Y, .bool (vtNew d_0 d_1).Grid.Wrap, .int .i64 (vtNew d_0 d_1).State, .slice a7_w0 l7_w0 k7_w0, .slice a8_w0 l8_w0 k8_w0, .int .i64 (vtNew d_0 d_1).Bells] := Box.tch hT (by omega) (fun hm => (List.mem_append.1 hm).elim (fun hm => by have := R2_g0.out _ hm; omega) (fun hm => (List.mem_append.1 hm).elim (fun hm => by have := R7_g0.out _ hm; omega) (fun hm => by have := R8_g0.out _ hm; omega))) B_w0
  replace L_w0 : w1.heap.size < w4.heap.size := by omega
  replace B_g0 : Box w4 (w2.heap.size) #[.int .i64 (vtNew d_0 d_1).Grid.W, .int .i64 (vtNew d_0 d_1).Grid.H, .slice a2_g0 l2_g0 k2_g0, .int .i64 (vtNew d_0 d_1).Grid.X, .int .i64 (vtNew d_0 d_1).Grid.Y, .bool (vtNew d_0 d_1).Grid.Wrap, .int .i64 (vtNew d_0 d_1).State, .slice a7_g0 l7_g0 k7_g0, .slice a8_g0 l8_g0 k8_g0, .int .i64 (vtNew d_0 d_1).Bells] := Box.tch hT (by omega) (fun hm => (List.mem_append.1 hm).elim (fun hm => by have := R2_g0.out _ hm; omega) (fun hm => (List.mem_append.1 hm).elim (fun hm => by have := R7_g0.out _ hm; omega) (fun hm => by have := R8_g0.out _ hm; omega))) B_g0
  replace L_g0 : w2.heap.size < w4.heap.size := by omega
  replace P2_w0 := hid (P2_w0.out.tch hT (fun x hx hm => (List.mem_append.1 hm).elim (fun hm => by have := R2_w0.out x hx; have := R2_g0.out x hm; omega) (fun hm => (List.mem_append.1 hm).elim (fun hm => by have := R2_w0.out x hx; have := R7_g0.out x hm; omega) (fun hm => by have := R2_w0.out x hx; have := R8_g0.out x hm; omega))))
  replace P7_w0 := hid (P7_w0.out.tch hT (fun x hx hm => (List.mem_append.1 hm).elim (fun hm => by have := R7_w0.out x hx; have := R2_g0.out x hm; omega) (fun hm => (List.mem_append.1 hm).elim (fun hm => by have := R7_w0.out x hx; have := R7_g0.out x hm; omega) (fun hm => by have := R7_w0.out x hx; have := R8_g0.out x hm; omega))))
  replace P8_w0 := hid (P8_w0.out.tch hT (fun x hx hm => (List.mem_append.1 hm).elim (fun hm => by have := R8_w0.out x hx; have := R2_g0.out x hm; omega) (fun hm => (List.mem_append.1 hm).elim (fun hm => by have := R8_w0.out x hx; have := R7_g0.out x hm; omega) (fun hm => by have := R8_w0.out x hx; have := R8_g0.out x hm; omega))))
  replace Hb := hid (Hb.out.trans (hT.below Hb.out.size (fun x hm => (List.mem_append.1 hm).elim (fun hm => by have := R2_g0.out x hm; omega) (fun hm => (List.mem_append.1 hm).elim (fun hm => by have := R7_g0.out x hm; omega) (fun hm => by have := R8_g0.out x hm; omega)))))
  replace P2_g0 := hid hO2
  replace P7_g0 := hid hO7
  replace P8_g0 := hid hO8
  clear hT hO2 hO7 hO8
  try unfold Box at B_w0
  try unfold Box at B_g0
  go_wp2_with fail
  refine (heldVt (d := (vtNew d_0 d_1)) (1) (mk_Vt (d := (((vtNew d_0 d_1)).mkv (1))) h0_g0 h1_g0 (Slc.grow P2_g0.out.slc ?_) h3_g0 h4_g0 h6_g0 (Slc.grow P7_g0.out.slc ?_) (Slc.grow P8_g0.out.slc ?_) h9_g0) (by have := HK_g0.out; omega)).mono ?_
  · repeat (first | exact Below.refl _ _ | refine Below.alloc ?_ (by first | omega | (simp; done) | (simp; omega)) _)
  · repeat (first | exact Below.refl _ _ | refine Below.alloc ?_ (by first | omega | (simp; done) | (simp; omega)) _)
  · repeat (first | exact Below.refl _ _ | refine Below.alloc ?_ (by first | omega | (simp; done) | (simp; omega)) _)
  rintro e w5 ⟨rfl, hb⟩
  have hz5 := hb.size; try simp at hz5
  have hp : Below w4.heap.size w4 w5 := below_call (by repeat (first | exact Below.refl _ _ | refine Below.alloc ?_ (by first | omega | (simp; done) | (simp; omega)) _)) hb
  replace B_w0 : Box w5 (w1.heap.size) #[.int .i64 (vtNew d_0 d_1).Grid.W, .int .i64 (vtNew d_0 d_1).Grid.H, .slice a2_w0 l2_w0 k2_w0, .int .i64 (vtNew d_0 d_1).Grid.X, .int .i64 (vtNew d_0 d_1).Grid.Y, .bool (vtNew d_0 d_1).Grid.Wrap, .int .i64 (vtNew d_0 d_1).State, .slice a7_w0 l7_w0 k7_w0, .slice a8_w0 l8_w0 k8_w0, .int .i64 (vtNew d_0 d_1).Bells] := Box.below hb (by first | omega | (simp; done) | (simp; omega)) (by repeat (first | exact B_w0 | (apply boxN; (focus (first | omega | (simp; done) | (simp; omega)))) | (apply Box.alloc; rotate_left; (focus (first | omega | (simp; done) | (simp; omega))))))
  replace L_w0 : w1.heap.size < w5.heap.size := (by first | omega | (simp; done) | (simp; omega))
  replace B_g0 : Box w5 (w2.heap.size) #[.int .i64 (vtNew d_0 d_1).Grid.W, .int .i64 (vtNew d_0 d_1).Grid.H, .slice a2_g0 l2_g0 k2_g0, .int .i64 (vtNew d_0 d_1).Grid.X, .int .i64 (vtNew d_0 d_1).Grid.Y, .bool (vtNew d_0 d_1).Grid.Wrap, .int .i64 (vtNew d_0 d_1).State, .slice a7_g0 l7_g0 k7_g0, .slice a8_g0 l8_g0 k8_g0, .int .i64 (vtNew d_0 d_1).Bells] := Box.below hb (by first | omega | (simp; done) | (simp; omega)) (by repeat (first | exact B_g0 | (apply boxN; (focus (first | omega | (simp; done) | (simp; omega)))) | (apply Box.alloc; rotate_left; (focus (first | omega | (simp; done) | (simp; omega))))))
  replace L_g0 : w2.heap.size < w5.heap.size := (by first | omega | (simp; done) | (simp; omega))
  replace P2_w0 := hid (P2_w0.out.grow hp)
  replace P7_w0 := hid (P7_w0.out.grow hp)
  replace P8_w0 := hid (P8_w0.out.grow hp)
  replace P2_g0 := hid (P2_g0.out.grow hp)
  replace P7_g0 := hid (P7_g0.out.grow hp)
  replace P8_g0 := hid (P8_g0.out.grow hp)
  replace Hb := hid (Hb.out.trans (hp.mono Hb.out.size))
  clear hb hp
  try unfold Box at B_w0
  try unfold Box at B_g0
  try unfold Box at B_w0
  try unfold Box at B_g0
  try unfold Box at B_w0
  try unfold Box at B_g0
  go_wp2_with fail
  refine (i_VtNew  d_0 h0_0 d_1 h0_1 _).mono ?_
  rintro e w6 ⟨cs_h0, bs_h0, rfl, hO0, hb⟩
  have hz6 := hb.size; try simp at hz6
  have hp : Below w5.heap.size w5 w6 := below_call (by repeat (first | exact Below.refl _ _ | refine Below.alloc ?_ (by first | omega | (simp; done) | (simp; omega)) _)) hb
  replace B_w0 : Box w6 (w1.heap.size) #[.int .i64 (vtNew d_0 d_1).Grid.W, .int .i64 (vtNew d_0 d_1).Grid.H, .slice a2_w0 l2_w0 k2_w0, .int .i64 (vtNew d_0 d_1).Grid.X, .int .i64 (vtNew d_0 d_1).Grid.Y, .bool (vtNew d_0 d_1).Grid.Wrap, .int .i64 (vtNew d_0 d_1).State, .slice a7_w0 l7_w0 k7_w0, .slice a8_w0 l8_w0 k8_w0, .int .i64 (vtNew d_0 d_1).Bells] := Box.below hb (by first | omega | (simp; done) | (simp; omega)) (by repeat (first | exact B_w0 | (apply boxN; (focus (first | omega | (simp; done) | (simp; omega)))) | (apply Box.alloc; rotate_left; (focus (first | omega | (simp; done) | (simp; omega))))))
  replace L_w0 : w1.heap.size < w6.heap.size := (by first | omega | (simp; done) | (simp; omega))
  replace B_g0 : Box w6 (w2.heap.size) #[.int .i64 (vtNew d_0 d_1).Grid.W, .int .i64 (vtNew d_0 d_1).Grid.H, .slice a2_g0 l2_g0 k2_g0, .int .i64 (vtNew d_0 d_1).Grid.X, .int .i64 (vtNew d_0 d_1).Grid.Y, .bool (vtNew d_0 d_1).Grid.Wrap, .int .i64 (vtNew d_0 d_1).State, .slice a7_g0 l7_g0 k7_g0, .slice a8_g0 l8_g0 k8_g0, .int .i64 (vtNew d_0 d_1).Bells] := Box.below hb (by first | omega | (simp; done) | (simp; omega)) (by repeat (first | exact B_g0 | (apply boxN; (focus (first | omega | (simp; done) | (simp; omega)))) | (apply Box.alloc; rotate_left; (focus (first | omega | (simp; done) | (simp; omega))))))
  replace L_g0 : w2.heap.size < w6.heap.size := (by first | omega | (simp; done) | (simp; omega))
  replace P2_w0 := hid (P2_w0.out.grow hp)
  replace P7_w0 := hid (P7_w0.out.grow hp)
  replace P8_w0 := hid (P8_w0.out.grow hp)
  replace P2_g0 := hid (P2_g0.out.grow hp)
  replace P7_g0 := hid (P7_g0.out.grow hp)
  replace P8_g0 := hid (P8_g0.out.grow hp)
  replace Hb := hid (Hb.out.trans (hp.mono Hb.out.size))
  obtain ⟨b2_h0, b7_h0, b8_h0, a2_h0, l2_h0, k2_h0, a7_h0, l7_h0, k7_h0, a8_h0, l8_h0, k8_h0, rfl, rfl, h0_h0, h1_h0, h2_h0, h3_h0, h4_h0, h6_h0, h7_h0, h8_h0, h9_h0⟩ := open_Vt hO0.1
  have hP_h0 := parts_Vt hO0 h2_h0 h7_h0 h8_h0
  have P2_h0 := hid (hP_h0.1)
  have P7_h0 := hid (hP_h0.2.1)
  have P8_h0 := hid (hP_h0.2.2.1)
  have E2_7_h0 := hid (hP_h0.2.2.2.1)
  have E2_8_h0 := hid (hP_h0.2.2.2.2.1)
  have E7_8_h0 := hid (hP_h0.2.2.2.2.2)
  clear hP_h0
  have R2_h0 : Hid (∀ x ∈ b2_h0, w5.heap.size ≤ x ∧ x < w6.heap.size) := hid (fun x hx => by have := P2_h0.out.lts x hx; refine ⟨?_, this.2⟩; have := this.1; first | omega | (simp at this; omega))
  have R7_h0 : Hid (∀ x ∈ b7_h0, w5.heap.size ≤ x ∧ x < w6.heap.size) := hid (fun x hx => by have := P7_h0.out.lts x hx; refine ⟨?_, this.2⟩; have := this.1; first | omega | (simp at this; omega))
  have R8_h0 : Hid (∀ x ∈ b8_h0, w5.heap.size ≤ x ∧ x < w6.heap.size) := hid (fun x hx => by have := P8_h0.out.lts x hx; refine ⟨?_, this.2⟩; have := this.1; first | omega | (simp at this; omega))
  clear hb hp
  try unfold Box at B_w0
  try unfold Box at B_g0
  go_wp2_with fail
  refine (eqVt (mk_Vt (d := (vtNew d_0 d_1)) h0_h0 h1_h0 (Slc.grow P2_h0.out.slc ?_) h3_h0 h4_h0 h6_h0 (Slc.grow P7_h0.out.slc ?_) (Slc.grow P8_h0.out.slc ?_) h9_h0) (mk_Vt (d := (vtNew d_0 d_1)) h0_w0 h1_w0 (Slc.grow P2_w0.out.slc ?_) h3_w0 h4_w0 h6_w0 (Slc.grow P7_w0.out.slc ?_) (Slc.grow P8_w0.out.slc ?_) h9_w0)).mono ?_
  · repeat (first | exact Below.refl _ _ | refine Below.alloc ?_ (by first | omega | (simp; done) | (simp; omega)) _)
  · repeat (first | exact Below.refl _ _ | refine Below.alloc ?_ (by first | omega | (simp; done) | (simp; omega)) _)
  · repeat (first | exact Below.refl _ _ | refine Below.alloc ?_ (by first | omega | (simp; done) | (simp; omega)) _)
  · repeat (first | exact Below.refl _ _ | refine Below.alloc ?_ (by first | omega | (simp; done) | (simp; omega)) _)
  · repeat (first | exact Below.refl _ _ | refine Below.alloc ?_ (by first | omega | (simp; done) | (simp; omega)) _)
  · repeat (first | exact Below.refl _ _ | refine Below.alloc ?_ (by first | omega | (simp; done) | (simp; omega)) _)
  rintro e w7 ⟨rfl, hb⟩
  have hz7 := hb.size; try simp at hz7
  have hp : Below w6.heap.size w6 w7 := below_call (by repeat (first | exact Below.refl _ _ | refine Below.alloc ?_ (by first | omega | (simp; done) | (simp; omega)) _)) hb
  replace B_w0 : Box w7 (w1.heap.size) #[.int .i64 (vtNew d_0 d_1).Grid.W, .int .i64 (vtNew d_0 d_1).Grid.H, .slice a2_w0 l2_w0 k2_w0, .int .i64 (vtNew d_0 d_1).Grid.X, .int .i64 (vtNew d_0 d_1).Grid.Y, .bool (vtNew d_0 d_1).Grid.Wrap, .int .i64 (vtNew d_0 d_1).State, .slice a7_w0 l7_w0 k7_w0, .slice a8_w0 l8_w0 k8_w0, .int .i64 (vtNew d_0 d_1).Bells] := Box.below hb (by first | omega | (simp; done) | (simp; omega)) (by repeat (first | exact B_w0 | (apply boxN; (focus (first | omega | (simp; done) | (simp; omega)))) | (apply Box.alloc; rotate_left; (focus (first | omega | (simp; done) | (simp; omega))))))
  replace L_w0 : w1.heap.size < w7.heap.size := (by first | omega | (simp; done) | (simp; omega))
  replace B_g0 : Box w7 (w2.heap.size) #[.int .i64 (vtNew d_0 d_1).Grid.W, .int .i64 (vtNew d_0 d_1).Grid.H, .slice a2_g0 l2_g0 k2_g0, .int .i64 (vtNew d_0 d_1).Grid.X, .int .i64 (vtNew d_0 d_1).Grid.Y, .bool (vtNew d_0 d_1).Grid.Wrap, .int .i64 (vtNew d_0 d_1).State, .slice a7_g0 l7_g0 k7_g0, .slice a8_g0 l8_g0 k8_g0, .int .i64 (vtNew d_0 d_1).Bells] := Box.below hb (by first | omega | (simp; done) | (simp; omega)) (by repeat (first | exact B_g0 | (apply boxN; (focus (first | omega | (simp; done) | (simp; omega)))) | (apply Box.alloc; rotate_left; (focus (first | omega | (simp; done) | (simp; omega))))))
  replace L_g0 : w2.heap.size < w7.heap.size := (by first | omega | (simp; done) | (simp; omega))
  have B_h0 : Box w7 (w6.heap.size) #[.int .i64 (vtNew d_0 d_1).Grid.W, .int .i64 (vtNew d_0 d_1).Grid.H, .slice a2_h0 l2_h0 k2_h0, .int .i64 (vtNew d_0 d_1).Grid.X, .int .i64 (vtNew d_0 d_1).Grid.Y, .bool (vtNew d_0 d_1).Grid.Wrap, .int .i64 (vtNew d_0 d_1).State, .slice a7_h0 l7_h0 k7_h0, .slice a8_h0 l8_h0 k8_h0, .int .i64 (vtNew d_0 d_1).Bells] := Box.below hb (by first | omega | (simp; done) | (simp; omega)) (by repeat (first | exact B_h0 | (apply boxN; (focus (first | omega | (simp; done) | (simp; omega)))) | (apply Box.alloc; rotate_left; (focus (first | omega | (simp; done) | (simp; omega))))))
  have L_h0 : w6.heap.size < w7.heap.size := (by first | omega | (simp; done) | (simp; omega))
  replace P2_w0 := hid (P2_w0.out.grow hp)
  replace P7_w0 := hid (P7_w0.out.grow hp)
  replace P8_w0 := hid (P8_w0.out.grow hp)
  replace P2_g0 := hid (P2_g0.out.grow hp)
  replace P7_g0 := hid (P7_g0.out.grow hp)
  replace P8_g0 := hid (P8_g0.out.grow hp)
  replace P2_h0 := hid (P2_h0.out.grow hp)
  replace P7_h0 := hid (P7_h0.out.grow hp)
  replace P8_h0 := hid (P8_h0.out.grow hp)
  replace Hb := hid (Hb.out.trans (hp.mono Hb.out.size))
  clear hb hp
  try unfold Box at B_w0
  try unfold Box at B_g0
  try unfold Box at B_h0
  try unfold Box at B_w0
  try unfold Box at B_g0
  try unfold Box at B_h0
  go_wp2_with fail
  refine (heldVt (d := (vtNew d_0 d_1)) (1) (mk_Vt (d := (((vtNew d_0 d_1)).mkv (1))) h0_g0 h1_g0 (Slc.grow P2_g0.out.slc ?_) h3_g0 h4_g0 h6_g0 (Slc.grow P7_g0.out.slc ?_) (Slc.grow P8_g0.out.slc ?_) h9_g0) (by have := HK_g0.out; omega)).mono ?_
  · repeat (first | exact Below.refl _ _ | refine Below.alloc ?_ (by first | omega | (simp; done) | (simp; omega)) _)
  · repeat (first | exact Below.refl _ _ | refine Below.alloc ?_ (by first | omega | (simp; done) | (simp; omega)) _)
  · repeat (first | exact Below.refl _ _ | refine Below.alloc ?_ (by first | omega | (simp; done) | (simp; omega)) _)
  rintro e w8 ⟨rfl, hb⟩
  have hz8 := hb.size; try simp at hz8
  have hp : Below w7.heap.size w7 w8 := below_call (by repeat (first | exact Below.refl _ _ | refine Below.alloc ?_ (by first | omega | (simp; done) | (simp; omega)) _)) hb
  replace B_w0 : Box w8 (w1.heap.size) #[.int .i64 (vtNew d_0 d_1).Grid.W, .int .i64 (vtNew d_0 d_1).Grid.H, .slice a2_w0 l2_w0 k2_w0, .int .i64 (vtNew d_0 d_1).Grid.X, .int .i64 (vtNew d_0 d_1).Grid.Y, .bool (vtNew d_0 d_1).Grid.Wrap, .int .i64 (vtNew d_0 d_1).State, .slice a7_w0 l7_w0 k7_w0, .slice a8_w0 l8_w0 k8_w0, .int .i64 (vtNew d_0 d_1).Bells] := Box.below hb (by first | omega | (simp; done) | (simp; omega)) (by repeat (first | exact B_w0 | (apply boxN; (focus (first | omega | (simp; done) | (simp; omega)))) | (apply Box.alloc; rotate_left; (focus (first | omega | (simp; done) | (simp; omega))))))
  replace L_w0 : w1.heap.size < w8.heap.size := (by first | omega | (simp; done) | (simp; omega))
  replace B_g0 : Box w8 (w2.heap.size) #[.int .i64 (vtNew d_0 d_1).Grid.W, .int .i64 (vtNew d_0 d_1).Grid.H, .slice a2_g0 l2_g0 k2_g0, .int .i64 (vtNew d_0 d_1).Grid.X, .int .i64 (vtNew d_0 d_1).Grid.Y, .bool (vtNew d_0 d_1).Grid.Wrap, .int .i64 (vtNew d_0 d_1).State, .slice a7_g0 l7_g0 k7_g0, .slice a8_g0 l8_g0 k8_g0, .int .i64 (vtNew d_0 d_1).Bells] := Box.below hb (by first | omega | (simp; done) | (simp; omega)) (by repeat (first | exact B_g0 | (apply boxN; (focus (first | omega | (simp; done) | (simp; omega)))) | (apply Box.alloc; rotate_left; (focus (first | omega | (simp; done) | (simp; omega))))))
  replace L_g0 : w2.heap.size < w8.heap.size := (by first | omega | (simp; done) | (simp; omega))
  replace B_h0 : Box w8 (w6.heap.size) #[.int .i64 (vtNew d_0 d_1).Grid.W, .int .i64 (vtNew d_0 d_1).Grid.H, .slice a2_h0 l2_h0 k2_h0, .int .i64 (vtNew d_0 d_1).Grid.X, .int .i64 (vtNew d_0 d_1).Grid.Y, .bool (vtNew d_0 d_1).Grid.Wrap, .int .i64 (vtNew d_0 d_1).State, .slice a7_h0 l7_h0 k7_h0, .slice a8_h0 l8_h0 k8_h0, .int .i64 (vtNew d_0 d_1).Bells] := Box.below hb (by first | omega | (simp; done) | (simp; omega)) (by repeat (first | exact B_h0 | (apply boxN; (focus (first | omega | (simp; done) | (simp; omega)))) | (apply Box.alloc; rotate_left; (focus (first | omega | (simp; done) | (simp; omega))))))
  replace L_h0 : w6.heap.size < w8.heap.size := (by first | omega | (simp; done) | (simp; omega))
  replace P2_w0 := hid (P2_w0.out.grow hp)
  replace P7_w0 := hid (P7_w0.out.grow hp)
  replace P8_w0 := hid (P8_w0.out.grow hp)
  replace P2_g0 := hid (P2_g0.out.grow hp)
  replace P7_g0 := hid (P7_g0.out.grow hp)
  replace P8_g0 := hid (P8_g0.out.grow hp)
  replace P2_h0 := hid (P2_h0.out.grow hp)
  replace P7_h0 := hid (P7_h0.out.grow hp)
  replace P8_h0 := hid (P8_h0.out.grow hp)
  replace Hb := hid (Hb.out.trans (hp.mono Hb.out.size))
  clear hb hp
  try unfold Box at B_w0
  try unfold Box at B_g0
  try unfold Box at B_h0
  try unfold Box at B_w0
  try unfold Box at B_g0
  try unfold Box at B_h0
  try unfold Box at B_w0
  try unfold Box at B_g0
  try unfold Box at B_h0
  go_wp2
  go_ret
  exact ⟨rfl, Hb.out⟩
end Go.Proofs.Ytmcfkmlbifhhjaa
