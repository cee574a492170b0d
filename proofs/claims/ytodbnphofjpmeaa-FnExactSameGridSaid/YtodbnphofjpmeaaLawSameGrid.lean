/- The law on SameGrid. -/
import Derived.Test.YtodbnphofjpmeaaHelpT
import Derived.Test.YtodbnphofjpmeaaSame
import Derived.Deep.RegionHeld3
set_option linter.unusedSimpArgs false
set_option linter.unusedVariables false
namespace Go.Proofs.Ytodbnphofjpmeaa
open Go.RowKit Go.G6
set_option maxRecDepth 10000
theorem boxN {w : World} {b : Nat} {c : Array Value} {t : TypeId} (hb : b = w.heap.size) : Box (w.alloc (.cells c t)) b c := by subst hb; exact box_new _ _ _
set_option maxHeartbeats 4000000 in
theorem lawSameGrid {w : World} {bs_0 : List Nat} {cs_0 : List Value} {d_0 : GridD} {bs_1 : List Nat} {cs_1 : List Value} {d_1 : GridD} (g_0 : Rep.pt w bs_0 cs_0 d_0) (g_1 : Rep.pt w bs_1 cs_1 d_1) :
    Calls Try.prog 3 #[.agg cs_0.toArray, .agg cs_1.toArray] w fun e w' => e = .returned (.bool true) ∧ Below w.heap.size w w' := by
  have G_0 := hid g_0
  obtain ⟨a2_0, l2_0, k2_0, rfl, h0_0, h1_0, h2_0, h3_0, h4_0⟩ := open_Grid g_0
  clear g_0
  have G_1 := hid g_1
  obtain ⟨a2_1, l2_1, k2_1, rfl, h0_1, h1_1, h2_1, h3_1, h4_1⟩ := open_Grid g_1
  clear g_1
  go_enter Try.func3, Try.ntmps3
  have Hb : Hid (Below w.heap.size w w) := hid (Below.refl _ _)
  go_wp2_with fail
  refine (szGrid (1048576) (grow G_0.out ?_) (by omega) (by omega)).mono ?_
  · (repeat (first | exact Hb.out | refine Below.alloc ?_ (by have := Hb.out.size; first | omega | (simp; done) | (simp; omega)) _))
  rintro e w1 ⟨rfl, hb⟩
  have hz1 := hb.size; try simp at hz1
  have hp : Below w.heap.size w w1 := below_call (by repeat (first | exact Below.refl _ _ | refine Below.alloc ?_ (by first | omega | (simp; done) | (simp; omega)) _)) hb
  have B_0 : Box w1 (w.heap.size) #[.int .i64 d_0.W, .int .i64 d_0.H, .slice a2_0 l2_0 k2_0, .int .i64 d_0.X, .int .i64 d_0.Y, .bool d_0.Wrap] := Box.below hb (by first | omega | (simp; done) | (simp; omega)) (by repeat (first | exact B_0 | (apply boxN; (focus (first | omega | (simp; done) | (simp; omega)))) | (apply Box.alloc; rotate_left; (focus (first | omega | (simp; done) | (simp; omega))))))
  have L_0 : w.heap.size < w1.heap.size := (by first | omega | (simp; done) | (simp; omega))
  have B_1 : Box w1 (w.heap.size + 1) #[.int .i64 d_1.W, .int .i64 d_1.H, .slice a2_1 l2_1 k2_1, .int .i64 d_1.X, .int .i64 d_1.Y, .bool d_1.Wrap] := Box.below hb (by first | omega | (simp; done) | (simp; omega)) (by repeat (first | exact B_1 | (apply boxN; (focus (first | omega | (simp; done) | (simp; omega)))) | (apply Box.alloc; rotate_left; (focus (first | omega | (simp; done) | (simp; omega))))))
  have L_1 : w.heap.size + 1 < w1.heap.size := (by first | omega | (simp; done) | (simp; omega))
  replace Hb := hid (Hb.out.trans (hp.mono Hb.out.size))
  clear hb hp
  by_cases hn_0 : (Cnt.cnt d_0 : Int) ≤ 1048576
  rotate_left
  · rw [szr_neg (by omega)]
    go_wp2
    go_ret
    exact ⟨rfl, Hb.out⟩
  rw [szr_pos hn_0]
  have HN_0 : Hid (Cnt.cnt d_0 ≤ 1048576) := hid (by omega)
  try unfold Box at B_0
  try unfold Box at B_1
  go_wp2_with fail
  refine (szGrid ((1048576 - (Cnt.cnt d_0 : Int))) (grow G_1.out ?_) (by omega) (by omega)).mono ?_
  · (repeat (first | exact Hb.out | refine Below.alloc ?_ (by have := Hb.out.size; first | omega | (simp; done) | (simp; omega)) _))
  rintro e w2 ⟨rfl, hb⟩
  have hz2 := hb.size; try simp at hz2
  have hp : Below w1.heap.size w1 w2 := below_call (by repeat (first | exact Below.refl _ _ | refine Below.alloc ?_ (by first | omega | (simp; done) | (simp; omega)) _)) hb
  replace B_0 : Box w2 (w.heap.size) #[.int .i64 d_0.W, .int .i64 d_0.H, .slice a2_0 l2_0 k2_0, .int .i64 d_0.X, .int .i64 d_0.Y, .bool d_0.Wrap] := Box.below hb (by first | omega | (simp; done) | (simp; omega)) (by repeat (first | exact B_0 | (apply boxN; (focus (first | omega | (simp; done) | (simp; omega)))) | (apply Box.alloc; rotate_left; (focus (first | omega | (simp; done) | (simp; omega))))))
  replace L_0 : w.heap.size < w2.heap.size := (by first | omega | (simp; done) | (simp; omega))
  replace B_1 : Box w2 (w.heap.size + 1) #[.int .i64 d_1.W, .int .i64 d_1.H, .slice a2_1 l2_1 k2_1, .int .i64 d_1.X, .int .i64 d_1.Y, .bool d_1.Wrap] := Box.below hb (by first | omega | (simp; done) | (simp; omega)) (by repeat (first | exact B_1 | (apply boxN; (focus (first | omega | (simp; done) | (simp; omega)))) | (apply Box.alloc; rotate_left; (focus (first | omega | (simp; done) | (simp; omega))))))
  replace L_1 : w.heap.size + 1 < w2.heap.size := (by first | omega | (simp; done) | (simp; omega))
  replace Hb := hid (Hb.out.trans (hp.mono Hb.out.size))
  clear hb hp
  by_cases hn_1 : (Cnt.cnt d_1 : Int) ≤ (1048576 - (Cnt.cnt d_0 : Int))
  rotate_left
  · rw [szr_neg (by omega)]
    go_wp2
    go_ret
    exact ⟨rfl, Hb.out⟩
  rw [szr_pos hn_1]
  have HN_1 : Hid (Cnt.cnt d_1 ≤ 1048576) := hid (by omega)
  try unfold Box at B_0
  try unfold Box at B_1
  go_wp2_with fail
  go_region_held3 (fun W => Below w2.heap.size w2 W ∧ (∀ o, W.cell? ⟨w.heap.size, o, none⟩ = (#[.int .i64 d_0.W, .int .i64 d_0.H, .slice a2_0 l2_0 k2_0, .int .i64 d_0.X, .int .i64 d_0.Y, .bool d_0.Wrap] : Array Value)[o]?) ∧ (∀ o, W.cell? ⟨w.heap.size + 1, o, none⟩ = (#[.int .i64 d_1.W, .int .i64 d_1.H, .slice a2_1 l2_1 k2_1, .int .i64 d_1.X, .int .i64 d_1.Y, .bool d_1.Wrap] : Array Value)[o]?)) (first | exact ⟨(Below.refl _ _).drew, B_0, B_1⟩ | (go_split_ands; exact ⟨Below.trans (by assumption) (Below.mono hb2 (Below.size (by assumption))), keep_box hb2 (by assumption) (by assumption) (by omega), keep_box hb2 (by assumption) (by assumption) (by omega)⟩) | (go_split_ands; exact ⟨Below.trans (by assumption) (Below.mono hb1 (Below.size (by assumption))), keep_box hb1 (by assumption) (by assumption) (by omega), keep_box hb1 (by assumption) (by assumption) (by omega)⟩)) (first | (go_at_call_of 17 a2_0; refine (toGrid (grow G_0.out ?_) (by have := HN_0.out; first | omega | (simp only [cnt_ints, cnt_bytes] at this; omega))).mono ?_; (go_split_ands; exact Hb.out.trans (Below.mono (by assumption) Hb.out.size)); rintro e wa_t20 ⟨cs_t20, bs_t20, rfl, hO_t20, hb1⟩; obtain ⟨a2_t20, l2_t20, k2_t20, rfl, h0_t20, h1_t20, h2_t20, h3_t20, h4_t20⟩ := open_Grid hO_t20.1) | (go_at_call_of 17 a2_1; refine (toGrid (grow G_1.out ?_) (by have := HN_1.out; first | omega | (simp only [cnt_ints, cnt_bytes] at this; omega))).mono ?_; (go_split_ands; exact Hb.out.trans (Below.mono (by assumption) Hb.out.size)); rintro e wa_t31 ⟨cs_t31, bs_t31, rfl, hO_t31, hb1⟩; obtain ⟨a2_t31, l2_t31, k2_t31, rfl, h0_t31, h1_t31, h2_t31, h3_t31, h4_t31⟩ := open_Grid hO_t31.1) | (go_at_call 16; refine (s_SameGrid (by repeat (first | exact hO_t20.1 | (apply grow; rotate_left; assumption))) (by repeat (first | exact hO_t31.1 | (apply grow; rotate_left; assumption)))  ).mono ?_; rintro e w3 ⟨rfl, hb2⟩; have hge3 := Below.size (by go_split_ands; assumption : Below w2.heap.size w2 _)))
  all_goals
    have hp : Below w2.heap.size w2 w3 := by go_split_ands; assumption
    have hz3 := hp.size; try simp at hz3
    replace B_0 : Box w3 (w.heap.size) #[.int .i64 d_0.W, .int .i64 d_0.H, .slice a2_0 l2_0 k2_0, .int .i64 d_0.X, .int .i64 d_0.Y, .bool d_0.Wrap] := Box.below hp (by omega) B_0
    replace L_0 : w.heap.size < w3.heap.size := by omega
    replace B_1 : Box w3 (w.heap.size + 1) #[.int .i64 d_1.W, .int .i64 d_1.H, .slice a2_1 l2_1 k2_1, .int .i64 d_1.X, .int .i64 d_1.Y, .bool d_1.Wrap] := Box.below hp (by omega) B_1
    replace L_1 : w.heap.size + 1 < w3.heap.size := by omega
    replace Hb := hid (Hb.out.trans (hp.mono Hb.out.size))
    clear hp hb2
    try unfold Box at B_0
    try unfold Box at B_1
    go_wp2_with fail
    refine (toGrid (grow G_0.out ?_) (by have := HN_0.out; first | omega | (simp only [cnt_ints, cnt_bytes] at this; omega))).mono ?_
    · (repeat (first | exact Hb.out | refine Below.alloc ?_ (by have := Hb.out.size; first | omega | (simp; done) | (simp; omega)) _))
    rintro e w4 ⟨cs_x0, bs_x0, rfl, hO, hb⟩
    have hz4 := hb.size; try simp at hz4
    have hp : Below w3.heap.size w3 w4 := below_call (by repeat (first | exact Below.refl _ _ | refine Below.alloc ?_ (by first | omega | (simp; done) | (simp; omega)) _)) hb
    replace B_0 : Box w4 (w.heap.size) #[.int .i64 d_0.W, .int .i64 d_0.H, .slice a2_0 l2_0 k2_0, .int .i64 d_0.X, .int .i64 d_0.Y, .bool d_0.Wrap] := Box.below hb (by first | omega | (simp; done) | (simp; omega)) (by repeat (first | exact B_0 | (apply boxN; (focus (first | omega | (simp; done) | (simp; omega)))) | (apply Box.alloc; rotate_left; (focus (first | omega | (simp; done) | (simp; omega))))))
    replace L_0 : w.heap.size < w4.heap.size := (by first | omega | (simp; done) | (simp; omega))
    replace B_1 : Box w4 (w.heap.size + 1) #[.int .i64 d_1.W, .int .i64 d_1.H, .slice a2_1 l2_1 k2_1, .int .i64 d_1.X, .int .i64 d_1.Y, .bool d_1.Wrap] := Box.below hb (by first | omega | (simp; done) | (simp; omega)) (by repeat (first | exact B_1 | (apply boxN; (focus (first | omega | (simp; done) | (simp; omega)))) | (apply Box.alloc; rotate_left; (focus (first | omega | (simp; done) | (simp; omega))))))
    replace L_1 : w.heap.size + 1 < w4.heap.size := (by first | omega | (simp; done) | (simp; omega))
    replace Hb := hid (Hb.out.trans (hp.mono Hb.out.size))
    obtain ⟨a2_x0, l2_x0, k2_x0, rfl, h0_x0, h1_x0, h2_x0, h3_x0, h4_x0⟩ := open_Grid hO.1
    have P2_x0 := hid (parts_Grid hO h2_x0)
    have R2_x0 : Hid (∀ x ∈ bs_x0, w3.heap.size ≤ x ∧ x < w4.heap.size) := hid (fun x hx => by have := P2_x0.out.lts x hx; refine ⟨?_, this.2⟩; have := this.1; first | omega | (simp at this; omega))
    clear hb hp hO
    try unfold Box at B_0
    try unfold Box at B_1
    go_wp2_with fail
    refine (toGrid (grow G_1.out ?_) (by have := HN_1.out; first | omega | (simp only [cnt_ints, cnt_bytes] at this; omega))).mono ?_
    · (repeat (first | exact Hb.out | refine Below.alloc ?_ (by have := Hb.out.size; first | omega | (simp; done) | (simp; omega)) _))
    rintro e w5 ⟨cs_x1, bs_x1, rfl, hO, hb⟩
    have hz5 := hb.size; try simp at hz5
    have hp : Below w4.heap.size w4 w5 := below_call (by repeat (first | exact Below.refl _ _ | refine Below.alloc ?_ (by first | omega | (simp; done) | (simp; omega)) _)) hb
    replace B_0 : Box w5 (w.heap.size) #[.int .i64 d_0.W, .int .i64 d_0.H, .slice a2_0 l2_0 k2_0, .int .i64 d_0.X, .int .i64 d_0.Y, .bool d_0.Wrap] := Box.below hb (by first | omega | (simp; done) | (simp; omega)) (by repeat (first | exact B_0 | (apply boxN; (focus (first | omega | (simp; done) | (simp; omega)))) | (apply Box.alloc; rotate_left; (focus (first | omega | (simp; done) | (simp; omega))))))
    replace L_0 : w.heap.size < w5.heap.size := (by first | omega | (simp; done) | (simp; omega))
    replace B_1 : Box w5 (w.heap.size + 1) #[.int .i64 d_1.W, .int .i64 d_1.H, .slice a2_1 l2_1 k2_1, .int .i64 d_1.X, .int .i64 d_1.Y, .bool d_1.Wrap] := Box.below hb (by first | omega | (simp; done) | (simp; omega)) (by repeat (first | exact B_1 | (apply boxN; (focus (first | omega | (simp; done) | (simp; omega)))) | (apply Box.alloc; rotate_left; (focus (first | omega | (simp; done) | (simp; omega))))))
    replace L_1 : w.heap.size + 1 < w5.heap.size := (by first | omega | (simp; done) | (simp; omega))
    have B_x0 : Box w5 (w4.heap.size) #[.int .i64 d_0.W, .int .i64 d_0.H, .slice a2_x0 l2_x0 k2_x0, .int .i64 d_0.X, .int .i64 d_0.Y, .bool d_0.Wrap] := Box.below hb (by first | omega | (simp; done) | (simp; omega)) (by repeat (first | exact B_x0 | (apply boxN; (focus (first | omega | (simp; done) | (simp; omega)))) | (apply Box.alloc; rotate_left; (focus (first | omega | (simp; done) | (simp; omega))))))
    have L_x0 : w4.heap.size < w5.heap.size := (by first | omega | (simp; done) | (simp; omega))
    replace P2_x0 := hid (P2_x0.out.grow hp)
    replace Hb := hid (Hb.out.trans (hp.mono Hb.out.size))
    obtain ⟨a2_x1, l2_x1, k2_x1, rfl, h0_x1, h1_x1, h2_x1, h3_x1, h4_x1⟩ := open_Grid hO.1
    have P2_x1 := hid (parts_Grid hO h2_x1)
    have R2_x1 : Hid (∀ x ∈ bs_x1, w4.heap.size + 1 ≤ x ∧ x < w5.heap.size) := hid (fun x hx => by have := P2_x1.out.lts x hx; refine ⟨?_, this.2⟩; have := this.1; first | omega | (simp at this; omega))
    clear hb hp hO
    try unfold Box at B_0
    try unfold Box at B_1
    try unfold Box at B_x0
    go_wp2_with fail
    refine (i_SameGrid (mk_Grid (d := d_0) h0_x0 h1_x0 (Slc.grow P2_x0.out.slc ?_) h3_x0 h4_x0) (mk_Grid (d := d_1) h0_x1 h1_x1 (Slc.grow P2_x1.out.slc ?_) h3_x1 h4_x1)  ).mono ?_
    · repeat (first | exact Below.refl _ _ | refine Below.alloc ?_ (by first | omega | (simp; done) | (simp; omega)) _)
    · repeat (first | exact Below.refl _ _ | refine Below.alloc ?_ (by first | omega | (simp; done) | (simp; omega)) _)
    rintro e w6 ⟨rfl, hb⟩
    have hz6 := hb.size; try simp at hz6
    have hp : Below w5.heap.size w5 w6 := below_call (by repeat (first | exact Below.refl _ _ | refine Below.alloc ?_ (by first | omega | (simp; done) | (simp; omega)) _)) hb
    replace B_0 : Box w6 (w.heap.size) #[.int .i64 d_0.W, .int .i64 d_0.H, .slice a2_0 l2_0 k2_0, .int .i64 d_0.X, .int .i64 d_0.Y, .bool d_0.Wrap] := Box.below hb (by first | omega | (simp; done) | (simp; omega)) (by repeat (first | exact B_0 | (apply boxN; (focus (first | omega | (simp; done) | (simp; omega)))) | (apply Box.alloc; rotate_left; (focus (first | omega | (simp; done) | (simp; omega))))))
    replace L_0 : w.heap.size < w6.heap.size := (by first | omega | (simp; done) | (simp; omega))
    replace B_1 : Box w6 (w.heap.size + 1) #[.int .i64 d_1.W, .int .i64 d_1.H, .slice a2_1 l2_1 k2_1, .int .i64 d_1.X, .int .i64 d_1.Y, .bool d_1.Wrap] := Box.below hb (by first | omega | (simp; done) | (simp; omega)) (by repeat (first | exact B_1 | (apply boxN; (focus (first | omega | (simp; done) | (simp; omega)))) | (apply Box.alloc; rotate_left; (focus (first | omega | (simp; done) | (simp; omega))))))
    replace L_1 : w.heap.size + 1 < w6.heap.size := (by first | omega | (simp; done) | (simp; omega))
    replace B_x0 : Box w6 (w4.heap.size) #[.int .i64 d_0.W, .int .i64 d_0.H, .slice a2_x0 l2_x0 k2_x0, .int .i64 d_0.X, .int .i64 d_0.Y, .bool d_0.Wrap] := Box.below hb (by first | omega | (simp; done) | (simp; omega)) (by repeat (first | exact B_x0 | (apply boxN; (focus (first | omega | (simp; done) | (simp; omega)))) | (apply Box.alloc; rotate_left; (focus (first | omega | (simp; done) | (simp; omega))))))
    replace L_x0 : w4.heap.size < w6.heap.size := (by first | omega | (simp; done) | (simp; omega))
    have B_x1 : Box w6 (w5.heap.size) #[.int .i64 d_1.W, .int .i64 d_1.H, .slice a2_x1 l2_x1 k2_x1, .int .i64 d_1.X, .int .i64 d_1.Y, .bool d_1.Wrap] := Box.below hb (by first | omega | (simp; done) | (simp; omega)) (by repeat (first | exact B_x1 | (apply boxN; (focus (first | omega | (simp; done) | (simp; omega)))) | (apply Box.alloc; rotate_left; (focus (first | omega | (simp; done) | (simp; omega))))))
    have L_x1 : w5.heap.size < w6.heap.size := (by first | omega | (simp; done) | (simp; omega))
    replace P2_x0 := hid (P2_x0.out.grow hp)
    replace P2_x1 := hid (P2_x1.out.grow hp)
    replace Hb := hid (Hb.out.trans (hp.mono Hb.out.size))
    clear hb hp
    try unfold Box at B_0
    try unfold Box at B_1
    try unfold Box at B_x0
    try unfold Box at B_x1
    try unfold Box at B_0
    try unfold Box at B_1
    try unfold Box at B_x0
    try unfold Box at B_x1
    go_wp2_with fail
    go_region_held3 (fun W => Below w6.heap.size w6 W ∧ (∀ o, W.cell? ⟨w.heap.size, o, none⟩ = (#[.int .i64 d_0.W, .int .i64 d_0.H, .slice a2_0 l2_0 k2_0, .int .i64 d_0.X, .int .i64 d_0.Y, .bool d_0.Wrap] : Array Value)[o]?) ∧ (∀ o, W.cell? ⟨w.heap.size + 1, o, none⟩ = (#[.int .i64 d_1.W, .int .i64 d_1.H, .slice a2_1 l2_1 k2_1, .int .i64 d_1.X, .int .i64 d_1.Y, .bool d_1.Wrap] : Array Value)[o]?) ∧ (∀ o, W.cell? ⟨w4.heap.size, o, none⟩ = (#[.int .i64 d_0.W, .int .i64 d_0.H, .slice a2_x0 l2_x0 k2_x0, .int .i64 d_0.X, .int .i64 d_0.Y, .bool d_0.Wrap] : Array Value)[o]?) ∧ (∀ o, W.cell? ⟨w5.heap.size, o, none⟩ = (#[.int .i64 d_1.W, .int .i64 d_1.H, .slice a2_x1 l2_x1 k2_x1, .int .i64 d_1.X, .int .i64 d_1.Y, .bool d_1.Wrap] : Array Value)[o]?)) (first | exact ⟨(Below.refl _ _).drew, B_0, B_1, B_x0, B_x1⟩ | (go_split_ands; exact ⟨Below.trans (by assumption) (Below.mono hb2 (Below.size (by assumption))), keep_box hb2 (by assumption) (by assumption) (by omega), keep_box hb2 (by assumption) (by assumption) (by omega), keep_box hb2 (by assumption) (by assumption) (by omega), keep_box hb2 (by assumption) (by assumption) (by omega)⟩) | (go_split_ands; exact ⟨Below.trans (by assumption) (Below.mono hb1 (Below.size (by assumption))), keep_box hb1 (by assumption) (by assumption) (by omega), keep_box hb1 (by assumption) (by assumption) (by omega), keep_box hb1 (by assumption) (by assumption) (by omega), keep_box hb1 (by assumption) (by assumption) (by omega)⟩)) (first | (go_at_call 17; refine (toGrid (grow G_0.out ?_) (by have := HN_0.out; first | omega | (simp only [cnt_ints, cnt_bytes] at this; omega))).mono ?_; (go_split_ands; exact Hb.out.trans (Below.mono (by assumption) Hb.out.size)); rintro e wa7 ⟨cs_e5, bs_e5, rfl, hO, hb1⟩; obtain ⟨a2_e5, l2_e5, k2_e5, rfl, h0_e5, h1_e5, h2_e5, h3_e5, h4_e5⟩ := open_Grid hO.1) | (go_at_call 19; refine (eqGrid (mk_Grid (d := d_0) h0_x0 h1_x0 (Slc.grow P2_x0.out.slc ?_) h3_x0 h4_x0) hO.1).mono ?_; (go_split_ands; exact (by assumption)); rintro e w7 ⟨rfl, hb2⟩))
    have hp : Below w6.heap.size w6 w7 := by go_split_ands; assumption
    have hz7 := hp.size; try simp at hz7
    replace B_0 : Box w7 (w.heap.size) #[.int .i64 d_0.W, .int .i64 d_0.H, .slice a2_0 l2_0 k2_0, .int .i64 d_0.X, .int .i64 d_0.Y, .bool d_0.Wrap] := Box.below hp (by omega) B_0
    replace L_0 : w.heap.size < w7.heap.size := by omega
    replace B_1 : Box w7 (w.heap.size + 1) #[.int .i64 d_1.W, .int .i64 d_1.H, .slice a2_1 l2_1 k2_1, .int .i64 d_1.X, .int .i64 d_1.Y, .bool d_1.Wrap] := Box.below hp (by omega) B_1
    replace L_1 : w.heap.size + 1 < w7.heap.size := by omega
    replace B_x0 : Box w7 (w4.heap.size) #[.int .i64 d_0.W, .int .i64 d_0.H, .slice a2_x0 l2_x0 k2_x0, .int .i64 d_0.X, .int .i64 d_0.Y, .bool d_0.Wrap] := Box.below hp (by omega) B_x0
    replace L_x0 : w4.heap.size < w7.heap.size := by omega
    replace B_x1 : Box w7 (w5.heap.size) #[.int .i64 d_1.W, .int .i64 d_1.H, .slice a2_x1 l2_x1 k2_x1, .int .i64 d_1.X, .int .i64 d_1.Y, .bool d_1.Wrap] := Box.below hp (by omega) B_x1
    replace L_x1 : w5.heap.size < w7.heap.size := by omega
    replace P2_x0 := hid (P2_x0.out.grow hp)
    replace P2_x1 := hid (P2_x1.out.grow hp)
    replace Hb := hid (Hb.out.trans (hp.mono Hb.out.size))
    clear hp hb1 hb2 hO
    try unfold Box at B_0
    try unfold Box at B_1
    try unfold Box at B_x0
    try unfold Box at B_x1
    go_wp2_with fail
    go_region_held3 (fun W => Below w7.heap.size w7 W ∧ (∀ o, W.cell? ⟨w.heap.size, o, none⟩ = (#[.int .i64 d_0.W, .int .i64 d_0.H, .slice a2_0 l2_0 k2_0, .int .i64 d_0.X, .int .i64 d_0.Y, .bool d_0.Wrap] : Array Value)[o]?) ∧ (∀ o, W.cell? ⟨w.heap.size + 1, o, none⟩ = (#[.int .i64 d_1.W, .int .i64 d_1.H, .slice a2_1 l2_1 k2_1, .int .i64 d_1.X, .int .i64 d_1.Y, .bool d_1.Wrap] : Array Value)[o]?) ∧ (∀ o, W.cell? ⟨w4.heap.size, o, none⟩ = (#[.int .i64 d_0.W, .int .i64 d_0.H, .slice a2_x0 l2_x0 k2_x0, .int .i64 d_0.X, .int .i64 d_0.Y, .bool d_0.Wrap] : Array Value)[o]?) ∧ (∀ o, W.cell? ⟨w5.heap.size, o, none⟩ = (#[.int .i64 d_1.W, .int .i64 d_1.H, .slice a2_x1 l2_x1 k2_x1, .int .i64 d_1.X, .int .i64 d_1.Y, .bool d_1.Wrap] : Array Value)[o]?)) (first | exact ⟨(Below.refl _ _).drew, B_0, B_1, B_x0, B_x1⟩ | (go_split_ands; exact ⟨Below.trans (by assumption) (Below.mono hb2 (Below.size (by assumption))), keep_box hb2 (by assumption) (by assumption) (by omega), keep_box hb2 (by assumption) (by assumption) (by omega), keep_box hb2 (by assumption) (by assumption) (by omega), keep_box hb2 (by assumption) (by assumption) (by omega)⟩) | (go_split_ands; exact ⟨Below.trans (by assumption) (Below.mono hb1 (Below.size (by assumption))), keep_box hb1 (by assumption) (by assumption) (by omega), keep_box hb1 (by assumption) (by assumption) (by omega), keep_box hb1 (by assumption) (by assumption) (by omega), keep_box hb1 (by assumption) (by assumption) (by omega)⟩)) (first | (go_at_call 17; refine (toGrid (grow G_1.out ?_) (by have := HN_1.out; first | omega | (simp only [cnt_ints, cnt_bytes] at this; omega))).mono ?_; (go_split_ands; exact Hb.out.trans (Below.mono (by assumption) Hb.out.size)); rintro e wa8 ⟨cs_e6, bs_e6, rfl, hO, hb1⟩; obtain ⟨a2_e6, l2_e6, k2_e6, rfl, h0_e6, h1_e6, h2_e6, h3_e6, h4_e6⟩ := open_Grid hO.1) | (go_at_call 19; refine (eqGrid (mk_Grid (d := d_1) h0_x1 h1_x1 (Slc.grow P2_x1.out.slc ?_) h3_x1 h4_x1) hO.1).mono ?_; (go_split_ands; exact (by assumption)); rintro e w8 ⟨rfl, hb2⟩))
    have hp : Below w7.heap.size w7 w8 := by go_split_ands; assumption
    have hz8 := hp.size; try simp at hz8
    replace B_0 : Box w8 (w.heap.size) #[.int .i64 d_0.W, .int .i64 d_0.H, .slice a2_0 l2_0 k2_0, .int .i64 d_0.X, .int .i64 d_0.Y, .bool d_0.Wrap] := Box.below hp (by omega) B_0
    replace L_0 : w.heap.size < w8.heap.size := by omega
    replace B_1 : Box w8 (w.heap.size + 1) #[.int .i64 d_1.W, .int .i64 d_1.H, .slice a2_1 l2_1 k2_1, .int .i64 d_1.X, .int .i64 d_1.Y, .bool d_1.Wrap] := Box.below hp (by omega) B_1
    replace L_1 : w.heap.size + 1 < w8.heap.size := by omega
    replace B_x0 : Box w8 (w4.heap.size) #[.int .i64 d_0.W, .int .i64 d_0.H, .slice a2_x0 l2_x0 k2_x0, .int .i64 d_0.X, .int .i64 d_0.Y, .bool d_0.Wrap] := Box.below hp (by omega) B_x0
    replace L_x0 : w4.heap.size < w8.heap.size := by omega
    replace B_x1 : Box w8 (w5.heap.size) #[.int .i64 d_1.W, .int .i64 d_1.H, .slice a2_x1 l2_x1 k2_x1, .int .i64 d_1.X, .int .i64 d_1.Y, .bool d_1.Wrap] := Box.below hp (by omega) B_x1
    replace L_x1 : w5.heap.size < w8.heap.size := by omega
    replace P2_x0 := hid (P2_x0.out.grow hp)
    replace P2_x1 := hid (P2_x1.out.grow hp)
    replace Hb := hid (Hb.out.trans (hp.mono Hb.out.size))
    clear hp hb1 hb2 hO
    try unfold Box at B_0
    try unfold Box at B_1
    try unfold Box at B_x0
    try unfold Box at B_x1
    go_wp2
    go_ret
    exact ⟨rfl, Hb.out⟩
end Go.Proofs.Ytodbnphofjpmeaa
