/- The law on VtOk. -/
import Derived.Test.YtffinfpnmohnaaaHelpT
import Derived.Test.YtffinfpnmohnaaaVtOk
import Derived.Deep.RegionHeld3
import Derived.Deep.DeepCutAuto
set_option linter.unusedSimpArgs false
set_option linter.unusedVariables false
namespace Go.Proofs.Ytffinfpnmohnaaa
open Go.RowKit Go.G6
set_option maxRecDepth 10000
theorem boxN {w : World} {b : Nat} {c : Array Value} {t : TypeId} (hb : b = w.heap.size) : Box (w.alloc (.cells c t)) b c := by subst hb; exact box_new _ _ _
set_option maxHeartbeats 4000000 in
theorem lawVtOk {w : World} {bs_0 : List Nat} {cs_0 : List Value} {d_0 : VtD} (g_0 : Rep.pt w bs_0 cs_0 d_0) :
    Calls Try.prog 5 #[.agg cs_0.toArray] w fun e w' => e = .returned (.bool true) ∧ Below w.heap.size w w' := by
  have G_0 := hid g_0
  obtain ⟨b2_0, b7_0, b8_0, a2_0, l2_0, k2_0, a7_0, l7_0, k7_0, a8_0, l8_0, k8_0, rfl, rfl, h0_0, h1_0, h2_0, h3_0, h4_0, h6_0, h7_0, h8_0, h9_0⟩ := open_Vt g_0
  clear g_0
  go_enter Try.func5, Try.ntmps5
  have Hb : Hid (Below w.heap.size w w) := hid (Below.refl _ _)
  go_wp2_with fail
  refine (szVt (1048576) (grow G_0.out ?_) (by omega) (by omega)).mono ?_
  · (repeat (first | exact Hb.out | refine Below.alloc ?_ (by have := Hb.out.size; first | omega | (simp; done) | (simp; omega)) _))
  rintro e w1 ⟨rfl, hb⟩
  have hz1 := hb.size; try simp at hz1
  have hp : Below w.heap.size w w1 := below_call (by repeat (first | exact Below.refl _ _ | refine Below.alloc ?_ (by first | omega | (simp; done) | (simp; omega)) _)) hb
  have B_0 : Box w1 (w.heap.size) #[.int .i64 d_0.Grid.W, .int .i64 d_0.Grid.H, .slice a2_0 l2_0 k2_0, .int .i64 d_0.Grid.X, .int .i64 d_0.Grid.Y, .bool d_0.Grid.Wrap, .int .i64 d_0.State, .slice a7_0 l7_0 k7_0, .slice a8_0 l8_0 k8_0, .int .i64 d_0.Bells] := Box.below hb (by first | omega | (simp; done) | (simp; omega)) (by repeat (first | exact B_0 | (apply boxN; (focus (first | omega | (simp; done) | (simp; omega)))) | (apply Box.alloc; rotate_left; (focus (first | omega | (simp; done) | (simp; omega))))))
  have L_0 : w.heap.size < w1.heap.size := (by first | omega | (simp; done) | (simp; omega))
  replace Hb := hid (Hb.out.trans (hp.mono Hb.out.size))
  clear hb hp
  by_cases hn_0 : (Cnt.cnt d_0 : Int) ≤ 1048576
  rotate_left
  · rw [szr_neg (by omega)]
    go_wp2
    go_ret
    exact ⟨rfl, Hb.out⟩
  rw [szr_pos hn_0]
  have HN_0 : Hid (Cnt.cnt d_0 ≤ 1048576) := hid (by omega)
  try unfold Box at B_0
  go_wp2_with fail
  refine (toVt (grow G_0.out ?_) (by have := HN_0.out; first | omega | (simp only [cnt_ints, cnt_bytes] at this; omega))).mono ?_
  · (repeat (first | exact Hb.out | refine Below.alloc ?_ (by have := Hb.out.size; first | omega | (simp; done) | (simp; omega)) _))
  rintro e w2 ⟨cs_t10, bs_t10, rfl, hO, hb⟩
  have hz2 := hb.size; try simp at hz2
  have hp : Below w1.heap.size w1 w2 := below_call (by repeat (first | exact Below.refl _ _ | refine Below.alloc ?_ (by first | omega | (simp; done) | (simp; omega)) _)) hb
  replace B_0 : Box w2 (w.heap.size) #[.int .i64 d_0.Grid.W, .int .i64 d_0.Grid.H, .slice a2_0 l2_0 k2_0, .int .i64 d_0.Grid.X, .int .i64 d_0.Grid.Y, .bool d_0.Grid.Wrap, .int .i64 d_0.State, .slice a7_0 l7_0 k7_0, .slice a8_0 l8_0 k8_0, .int .i64 d_0.Bells] := Box.below hb (by first | omega | (simp; done) | (simp; omega)) (by repeat (first | exact B_0 | (apply boxN; (focus (first | omega | (simp; done) | (simp; omega)))) | (apply Box.alloc; rotate_left; (focus (first | omega | (simp; done) | (simp; omega))))))
  replace L_0 : w.heap.size < w2.heap.size := (by first | omega | (simp; done) | (simp; omega))
  replace Hb := hid (Hb.out.trans (hp.mono Hb.out.size))
  obtain ⟨b2_t10, b7_t10, b8_t10, a2_t10, l2_t10, k2_t10, a7_t10, l7_t10, k7_t10, a8_t10, l8_t10, k8_t10, rfl, rfl, h0_t10, h1_t10, h2_t10, h3_t10, h4_t10, h6_t10, h7_t10, h8_t10, h9_t10⟩ := open_Vt hO.1
  have hP_t10 := parts_Vt hO h2_t10 h7_t10 h8_t10
  have P2_t10 := hid (hP_t10.1)
  have P7_t10 := hid (hP_t10.2.1)
  have P8_t10 := hid (hP_t10.2.2.1)
  have E2_7_t10 := hid (hP_t10.2.2.2.1)
  have E2_8_t10 := hid (hP_t10.2.2.2.2.1)
  have E7_8_t10 := hid (hP_t10.2.2.2.2.2)
  clear hP_t10
  have R2_t10 : Hid (∀ x ∈ b2_t10, w1.heap.size ≤ x ∧ x < w2.heap.size) := hid (fun x hx => by have := P2_t10.out.lts x hx; refine ⟨?_, this.2⟩; have := this.1; first | omega | (simp at this; omega))
  have R7_t10 : Hid (∀ x ∈ b7_t10, w1.heap.size ≤ x ∧ x < w2.heap.size) := hid (fun x hx => by have := P7_t10.out.lts x hx; refine ⟨?_, this.2⟩; have := this.1; first | omega | (simp at this; omega))
  have R8_t10 : Hid (∀ x ∈ b8_t10, w1.heap.size ≤ x ∧ x < w2.heap.size) := hid (fun x hx => by have := P8_t10.out.lts x hx; refine ⟨?_, this.2⟩; have := this.1; first | omega | (simp at this; omega))
  clear hb hp hO
  try unfold Box at B_0
  go_wp2_with fail
  refine (s_VtOk (mk_Vt (d := d_0) h0_t10 h1_t10 (Slc.grow P2_t10.out.slc ?_) h3_t10 h4_t10 h6_t10 (Slc.grow P7_t10.out.slc ?_) (Slc.grow P8_t10.out.slc ?_) h9_t10)  ).mono ?_
  · repeat (first | exact Below.refl _ _ | refine Below.alloc ?_ (by first | omega | (simp; done) | (simp; omega)) _)
  · repeat (first | exact Below.refl _ _ | refine Below.alloc ?_ (by first | omega | (simp; done) | (simp; omega)) _)
  · repeat (first | exact Below.refl _ _ | refine Below.alloc ?_ (by first | omega | (simp; done) | (simp; omega)) _)
  rintro e w3 ⟨rfl, hb⟩
  have hz3 := hb.size; try simp at hz3
  have hp : Below w2.heap.size w2 w3 := below_call (by repeat (first | exact Below.refl _ _ | refine Below.alloc ?_ (by first | omega | (simp; done) | (simp; omega)) _)) hb
  replace B_0 : Box w3 (w.heap.size) #[.int .i64 d_0.Grid.W, .int .i64 d_0.Grid.H, .slice a2_0 l2_0 k2_0, .int .i64 d_0.Grid.X, .int .i64 d_0.Grid.Y, .bool d_0.Grid.Wrap, .int .i64 d_0.State, .slice a7_0 l7_0 k7_0, .slice a8_0 l8_0 k8_0, .int .i64 d_0.Bells] := Box.below hb (by first | omega | (simp; done) | (simp; omega)) (by repeat (first | exact B_0 | (apply boxN; (focus (first | omega | (simp; done) | (simp; omega)))) | (apply Box.alloc; rotate_left; (focus (first | omega | (simp; done) | (simp; omega))))))
  replace L_0 : w.heap.size < w3.heap.size := (by first | omega | (simp; done) | (simp; omega))
  replace P2_t10 := hid (P2_t10.out.grow hp)
  replace P7_t10 := hid (P7_t10.out.grow hp)
  replace P8_t10 := hid (P8_t10.out.grow hp)
  replace Hb := hid (Hb.out.trans (hp.mono Hb.out.size))
  clear hb hp
  try unfold Box at B_0
  go_wp2_with fail
  refine (toVt (grow G_0.out ?_) (by have := HN_0.out; first | omega | (simp only [cnt_ints, cnt_bytes] at this; omega))).mono ?_
  · (repeat (first | exact Hb.out | refine Below.alloc ?_ (by have := Hb.out.size; first | omega | (simp; done) | (simp; omega)) _))
  rintro e w4 ⟨cs_x0, bs_x0, rfl, hO, hb⟩
  have hz4 := hb.size; try simp at hz4
  have hp : Below w3.heap.size w3 w4 := below_call (by repeat (first | exact Below.refl _ _ | refine Below.alloc ?_ (by first | omega | (simp; done) | (simp; omega)) _)) hb
  replace B_0 : Box w4 (w.heap.size) #[.int .i64 d_0.Grid.W, .int .i64 d_0.Grid.H, .slice a2_0 l2_0 k2_0, .int .i64 d_0.Grid.X, .int .i64 d_0.Grid.Y, .bool d_0.Grid.Wrap, .int .i64 d_0.State, .slice a7_0 l7_0 k7_0, .slice a8_0 l8_0 k8_0, .int .i64 d_0.Bells] := Box.below hb (by first | omega | (simp; done) | (simp; omega)) (by repeat (first | exact B_0 | (apply boxN; (focus (first | omega | (simp; done) | (simp; omega)))) | (apply Box.alloc; rotate_left; (focus (first | omega | (simp; done) | (simp; omega))))))
  replace L_0 : w.heap.size < w4.heap.size := (by first | omega | (simp; done) | (simp; omega))
  replace Hb := hid (Hb.out.trans (hp.mono Hb.out.size))
  obtain ⟨b2_x0, b7_x0, b8_x0, a2_x0, l2_x0, k2_x0, a7_x0, l7_x0, k7_x0, a8_x0, l8_x0, k8_x0, rfl, rfl, h0_x0, h1_x0, h2_x0, h3_x0, h4_x0, h6_x0, h7_x0, h8_x0, h9_x0⟩ := open_Vt hO.1
  have hP_x0 := parts_Vt hO h2_x0 h7_x0 h8_x0
  have P2_x0 := hid (hP_x0.1)
  have P7_x0 := hid (hP_x0.2.1)
  have P8_x0 := hid (hP_x0.2.2.1)
  have E2_7_x0 := hid (hP_x0.2.2.2.1)
  have E2_8_x0 := hid (hP_x0.2.2.2.2.1)
  have E7_8_x0 := hid (hP_x0.2.2.2.2.2)
  clear hP_x0
  have R2_x0 : Hid (∀ x ∈ b2_x0, w3.heap.size ≤ x ∧ x < w4.heap.size) := hid (fun x hx => by have := P2_x0.out.lts x hx; refine ⟨?_, this.2⟩; have := this.1; first | omega | (simp at this; omega))
  have R7_x0 : Hid (∀ x ∈ b7_x0, w3.heap.size ≤ x ∧ x < w4.heap.size) := hid (fun x hx => by have := P7_x0.out.lts x hx; refine ⟨?_, this.2⟩; have := this.1; first | omega | (simp at this; omega))
  have R8_x0 : Hid (∀ x ∈ b8_x0, w3.heap.size ≤ x ∧ x < w4.heap.size) := hid (fun x hx => by have := P8_x0.out.lts x hx; refine ⟨?_, this.2⟩; have := this.1; first | omega | (simp at this; omega))
  clear hb hp hO
  try unfold Box at B_0
  go_wp2_with fail
  refine (i_VtOk (mk_Vt (d := d_0) h0_x0 h1_x0 (Slc.grow P2_x0.out.slc ?_) h3_x0 h4_x0 h6_x0 (Slc.grow P7_x0.out.slc ?_) (Slc.grow P8_x0.out.slc ?_) h9_x0)  ).mono ?_
  · repeat (first | exact Below.refl _ _ | refine Below.alloc ?_ (by first | omega | (simp; done) | (simp; omega)) _)
  · repeat (first | exact Below.refl _ _ | refine Below.alloc ?_ (by first | omega | (simp; done) | (simp; omega)) _)
  · repeat (first | exact Below.refl _ _ | refine Below.alloc ?_ (by first | omega | (simp; done) | (simp; omega)) _)
  rintro e w5 ⟨rfl, hb⟩
  have hz5 := hb.size; try simp at hz5
  have hp : Below w4.heap.size w4 w5 := below_call (by repeat (first | exact Below.refl _ _ | refine Below.alloc ?_ (by first | omega | (simp; done) | (simp; omega)) _)) hb
  replace B_0 : Box w5 (w.heap.size) #[.int .i64 d_0.Grid.W, .int .i64 d_0.Grid.H, .slice a2_0 l2_0 k2_0, .int .i64 d_0.Grid.X, .int .i64 d_0.Grid.Y, .bool d_0.Grid.Wrap, .int .i64 d_0.State, .slice a7_0 l7_0 k7_0, .slice a8_0 l8_0 k8_0, .int .i64 d_0.Bells] := Box.below hb (by first | omega | (simp; done) | (simp; omega)) (by repeat (first | exact B_0 | (apply boxN; (focus (first | omega | (simp; done) | (simp; omega)))) | (apply Box.alloc; rotate_left; (focus (first | omega | (simp; done) | (simp; omega))))))
  replace L_0 : w.heap.size < w5.heap.size := (by first | omega | (simp; done) | (simp; omega))
  have B_x0 : Box w5 (w4.heap.size) #[.int .i64 d_0.Grid.W, .int .i64 d_0.Grid.H, .slice a2_x0 l2_x0 k2_x0, .int .i64 d_0.Grid.X, .int .i64 d_0.Grid.Y, .bool d_0.Grid.Wrap, .int .i64 d_0.State, .slice a7_x0 l7_x0 k7_x0, .slice a8_x0 l8_x0 k8_x0, .int .i64 d_0.Bells] := Box.below hb (by first | omega | (simp; done) | (simp; omega)) (by repeat (first | exact B_x0 | (apply boxN; (focus (first | omega | (simp; done) | (simp; omega)))) | (apply Box.alloc; rotate_left; (focus (first | omega | (simp; done) | (simp; omega))))))
  have L_x0 : w4.heap.size < w5.heap.size := (by first | omega | (simp; done) | (simp; omega))
  replace P2_x0 := hid (P2_x0.out.grow hp)
  replace P7_x0 := hid (P7_x0.out.grow hp)
  replace P8_x0 := hid (P8_x0.out.grow hp)
  replace Hb := hid (Hb.out.trans (hp.mono Hb.out.size))
  clear hb hp
  try unfold Box at B_0
  try unfold Box at B_x0
  try unfold Box at B_0
  try unfold Box at B_x0
  go_wp2_with fail
  go_region_held3 (fun W => Below w5.heap.size w5 W ∧ (∀ o, W.cell? ⟨w.heap.size, o, none⟩ = (#[.int .i64 d_0.Grid.W, .int .i64 d_0.Grid.H, .slice a2_0 l2_0 k2_0, .int .i64 d_0.Grid.X, .int .i64 d_0.Grid.Y, .bool d_0.Grid.Wrap, .int .i64 d_0.State, .slice a7_0 l7_0 k7_0, .slice a8_0 l8_0 k8_0, .int .i64 d_0.Bells] : Array Value)[o]?) ∧ (∀ o, W.cell? ⟨w4.heap.size, o, none⟩ = (#[.int .i64 d_0.Grid.W, .int .i64 d_0.Grid.H, .slice a2_x0 l2_x0 k2_x0, .int .i64 d_0.Grid.X, .int .i64 d_0.Grid.Y, .bool d_0.Grid.Wrap, .int .i64 d_0.State, .slice a7_x0 l7_x0 k7_x0, .slice a8_x0 l8_x0 k8_x0, .int .i64 d_0.Bells] : Array Value)[o]?)) (first | exact ⟨(Below.refl _ _).drew, B_0, B_x0⟩ | (go_split_ands; exact ⟨Below.trans (by assumption) (Below.mono hb2 (Below.size (by assumption))), keep_box hb2 (by assumption) (by assumption) (by omega), keep_box hb2 (by assumption) (by assumption) (by omega)⟩) | (go_split_ands; exact ⟨Below.trans (by assumption) (Below.mono hb1 (Below.size (by assumption))), keep_box hb1 (by assumption) (by assumption) (by omega), keep_box hb1 (by assumption) (by assumption) (by omega)⟩)) (first | (go_at_call 26; refine (toVt (grow G_0.out ?_) (by have := HN_0.out; first | omega | (simp only [cnt_ints, cnt_bytes] at this; omega))).mono ?_; (go_split_ands; exact Hb.out.trans (Below.mono (by assumption) Hb.out.size)); rintro e wa6 ⟨cs_e3, bs_e3, rfl, hO, hb1⟩; obtain ⟨b2_e3, b7_e3, b8_e3, a2_e3, l2_e3, k2_e3, a7_e3, l7_e3, k7_e3, a8_e3, l8_e3, k8_e3, rfl, rfl, h0_e3, h1_e3, h2_e3, h3_e3, h4_e3, h6_e3, h7_e3, h8_e3, h9_e3⟩ := open_Vt hO.1) | (go_at_call 28; refine (eqVt (mk_Vt (d := d_0) h0_x0 h1_x0 (Slc.grow P2_x0.out.slc ?_) h3_x0 h4_x0 h6_x0 (Slc.grow P7_x0.out.slc ?_) (Slc.grow P8_x0.out.slc ?_) h9_x0) hO.1).mono ?_; (go_split_ands; exact (by assumption)); (go_split_ands; exact (by assumption)); (go_split_ands; exact (by assumption)); rintro e w6 ⟨rfl, hb2⟩))
  have hp : Below w5.heap.size w5 w6 := by go_split_ands; assumption
  have hz6 := hp.size; try simp at hz6
  replace B_0 : Box w6 (w.heap.size) #[.int .i64 d_0.Grid.W, .int .i64 d_0.Grid.H, .slice a2_0 l2_0 k2_0, .int .i64 d_0.Grid.X, .int .i64 d_0.Grid.Y, .bool d_0.Grid.Wrap, .int .i64 d_0.State, .slice a7_0 l7_0 k7_0, .slice a8_0 l8_0 k8_0, .int .i64 d_0.Bells] := Box.below hp (by omega) B_0
  replace L_0 : w.heap.size < w6.heap.size := by omega
  replace B_x0 : Box w6 (w4.heap.size) #[.int .i64 d_0.Grid.W, .int .i64 d_0.Grid.H, .slice a2_x0 l2_x0 k2_x0, .int .i64 d_0.Grid.X, .int .i64 d_0.Grid.Y, .bool d_0.Grid.Wrap, .int .i64 d_0.State, .slice a7_x0 l7_x0 k7_x0, .slice a8_x0 l8_x0 k8_x0, .int .i64 d_0.Bells] := Box.below hp (by omega) B_x0
  replace L_x0 : w4.heap.size < w6.heap.size := by omega
  replace P2_x0 := hid (P2_x0.out.grow hp)
  replace P7_x0 := hid (P7_x0.out.grow hp)
  replace P8_x0 := hid (P8_x0.out.grow hp)
  replace Hb := hid (Hb.out.trans (hp.mono Hb.out.size))
  clear hp hb1 hb2 hO
  try unfold Box at B_0
  try unfold Box at B_x0
  go_wp2
  go_ret
  exact ⟨rfl, Hb.out⟩
end Go.Proofs.Ytffinfpnmohnaaa
