/- The law on RingPut. -/
import Derived.Test.YtgcdgkiefbbhkaaHelpR
import Derived.Test.YtgcdgkiefbbhkaaRingI
import Derived.Test.YtgcdgkiefbbhkaaRingJ
import Derived.Deep.RegionHeld3
import Derived.Deep.DeepCutAuto
set_option linter.unusedSimpArgs false
set_option linter.unusedVariables false
namespace Go.Proofs.Ytgcdgkiefbbhkaa
open Go.RowKit Go.G6
set_option maxRecDepth 10000
theorem boxN {w : World} {b : Nat} {c : Array Value} {t : TypeId} (hb : b = w.heap.size) : Box (w.alloc (.cells c t)) b c := by subst hb; exact box_new _ _ _
set_option maxHeartbeats 4000000 in
theorem lawRingPut {w : World} {bs_0 : List Nat} {cs_0 : List Value} {d_0 : RingD} {bs_1 : List Nat} {a0_1 : Option Addr} {l0_1 k0_1 : Nat} {d_1 : List Int} (g_0 : Rep.pt w bs_0 cs_0 d_0) (g_1 : Slc w bs_1 a0_1 l0_1 k0_1 d_1) (d_2 : Int) (h0_2 : I64 d_2) :
    Calls Try.prog 5 #[.agg cs_0.toArray, .slice a0_1 l0_1 k0_1, .int .i64 d_2] w fun e w' => e = .returned (.bool true) ∧ Below w.heap.size w w' := by
  have G_0 := hid g_0
  obtain ⟨a0_0, l0_0, k0_0, rfl, h0_0⟩ := open_Ring g_0
  clear g_0
  obtain rfl := g_1.len_eq
  have hm_1 := g_1.max
  have G_1 := hid g_1; clear g_1
  go_enter Try.func5, Try.ntmps5
  have Hb : Hid (Below w.heap.size w w) := hid (Below.refl _ _)
  by_cases hn_1 : (d_1.length : Int) ≤ 1048576
  rotate_left
  · go_wp2
    go_ret
    exact ⟨rfl, by repeat (first | exact Below.refl _ _ | refine Below.alloc ?_ (by first | omega | (simp; done) | (simp; omega)) _)⟩
  have HN_1 : Hid (Cnt.cnt d_1 ≤ 1048576) := hid (by first | (rw [cnt_ints]; omega) | (rw [cnt_bytes]; omega))
  go_wp2_with fail
  refine (szRing (1048576) (grow G_0.out ?_) (by omega) (by omega)).mono ?_
  · (repeat (first | exact Hb.out | refine Below.alloc ?_ (by have := Hb.out.size; first | omega | (simp; done) | (simp; omega)) _))
  rintro e w1 ⟨rfl, hb⟩
  have hz1 := hb.size; try simp at hz1
  have hp : Below w.heap.size w w1 := below_call (by repeat (first | exact Below.refl _ _ | refine Below.alloc ?_ (by first | omega | (simp; done) | (simp; omega)) _)) hb
  have B_0 : Box w1 (w.heap.size) #[.slice a0_0 l0_0 k0_0] := Box.below hb (by first | omega | (simp; done) | (simp; omega)) (by repeat (first | exact B_0 | (apply boxN; (focus (first | omega | (simp; done) | (simp; omega)))) | (apply Box.alloc; rotate_left; (focus (first | omega | (simp; done) | (simp; omega))))))
  have L_0 : w.heap.size < w1.heap.size := (by first | omega | (simp; done) | (simp; omega))
  replace Hb := hid (Hb.out.trans (hp.mono Hb.out.size))
  clear hb hp
  by_cases hn_0 : (Cnt.cnt d_0 : Int) ≤ 1048576
  rotate_left
  · rw [szr_neg (by omega)]
    go_wp2
    go_ret
    exact ⟨rfl, Hb.out⟩
  rw [szr_pos hn_0]
  have HN_0 : Hid (Cnt.cnt d_0 ≤ 1048576) := hid (by omega)
  try unfold Box at B_0
  go_wp2_with fail
  refine (toRing (grow G_0.out ?_) (by have := HN_0.out; first | omega | (simp only [cnt_ints, cnt_bytes] at this; omega))).mono ?_
  · (repeat (first | exact Hb.out | refine Below.alloc ?_ (by have := Hb.out.size; first | omega | (simp; done) | (simp; omega)) _))
  rintro e w2 ⟨cs_t10, bs_t10, rfl, hO, hb⟩
  have hz2 := hb.size; try simp at hz2
  have hp : Below w1.heap.size w1 w2 := below_call (by repeat (first | exact Below.refl _ _ | refine Below.alloc ?_ (by first | omega | (simp; done) | (simp; omega)) _)) hb
  replace B_0 : Box w2 (w.heap.size) #[.slice a0_0 l0_0 k0_0] := Box.below hb (by first | omega | (simp; done) | (simp; omega)) (by repeat (first | exact B_0 | (apply boxN; (focus (first | omega | (simp; done) | (simp; omega)))) | (apply Box.alloc; rotate_left; (focus (first | omega | (simp; done) | (simp; omega))))))
  replace L_0 : w.heap.size < w2.heap.size := (by first | omega | (simp; done) | (simp; omega))
  replace Hb := hid (Hb.out.trans (hp.mono Hb.out.size))
  obtain ⟨a0_t10, l0_t10, k0_t10, rfl, h0_t10⟩ := open_Ring hO.1
  have P0_t10 := hid (parts_Ring hO h0_t10)
  have R0_t10 : Hid (∀ x ∈ bs_t10, w1.heap.size ≤ x ∧ x < w2.heap.size) := hid (fun x hx => by have := P0_t10.out.lts x hx; refine ⟨?_, this.2⟩; have := this.1; first | omega | (simp at this; omega))
  clear hb hp hO
  try unfold Box at B_0
  go_wp2_with fail
  refine (toIntS (G_1.out.grow ?_) (by have := HN_1.out; first | omega | (simp only [cnt_ints, cnt_bytes] at this; omega))).mono ?_
  · (repeat (first | exact Hb.out | refine Below.alloc ?_ (by have := Hb.out.size; first | omega | (simp; done) | (simp; omega)) _))
  rintro e w3 ⟨a0_t11, l0_t11, k0_t11, bs_t11, rfl, hO, hb⟩
  have hz3 := hb.size; try simp at hz3
  have hp : Below w2.heap.size w2 w3 := below_call (by repeat (first | exact Below.refl _ _ | refine Below.alloc ?_ (by first | omega | (simp; done) | (simp; omega)) _)) hb
  replace B_0 : Box w3 (w.heap.size) #[.slice a0_0 l0_0 k0_0] := Box.below hb (by first | omega | (simp; done) | (simp; omega)) (by repeat (first | exact B_0 | (apply boxN; (focus (first | omega | (simp; done) | (simp; omega)))) | (apply Box.alloc; rotate_left; (focus (first | omega | (simp; done) | (simp; omega))))))
  replace L_0 : w.heap.size < w3.heap.size := (by first | omega | (simp; done) | (simp; omega))
  replace P0_t10 := hid (P0_t10.out.grow hp)
  replace Hb := hid (Hb.out.trans (hp.mono Hb.out.size))
  have P0_t11 := hid hO
  have R0_t11 : Hid (∀ x ∈ bs_t11, w2.heap.size ≤ x ∧ x < w3.heap.size) := hid (fun x hx => by have := P0_t11.out.lts x hx; refine ⟨?_, this.2⟩; have := this.1; first | omega | (simp at this; omega))
  clear hb hp hO
  try unfold Box at B_0
  go_wp2_with fail
  refine (s_RingPut (mk_Ring (d := d_0) (Slc.grow P0_t10.out.slc ?_)) (Slc.grow P0_t11.out.slc ?_) d_2 h0_2 ).mono ?_
  · repeat (first | exact Below.refl _ _ | refine Below.alloc ?_ (by first | omega | (simp; done) | (simp; omega)) _)
  · repeat (first | exact Below.refl _ _ | refine Below.alloc ?_ (by first | omega | (simp; done) | (simp; omega)) _)
  rintro e w4 ⟨cs_w0, bs_w0, rfl, hO0, hb⟩
  have hz4 := hb.size; try simp at hz4
  have hp : Below w3.heap.size w3 w4 := below_call (by repeat (first | exact Below.refl _ _ | refine Below.alloc ?_ (by first | omega | (simp; done) | (simp; omega)) _)) hb
  replace B_0 : Box w4 (w.heap.size) #[.slice a0_0 l0_0 k0_0] := Box.below hb (by first | omega | (simp; done) | (simp; omega)) (by repeat (first | exact B_0 | (apply boxN; (focus (first | omega | (simp; done) | (simp; omega)))) | (apply Box.alloc; rotate_left; (focus (first | omega | (simp; done) | (simp; omega))))))
  replace L_0 : w.heap.size < w4.heap.size := (by first | omega | (simp; done) | (simp; omega))
  replace P0_t10 := hid (P0_t10.out.grow hp)
  replace P0_t11 := hid (P0_t11.out.grow hp)
  replace Hb := hid (Hb.out.trans (hp.mono Hb.out.size))
  obtain ⟨a0_w0, l0_w0, k0_w0, rfl, h0_w0⟩ := open_Ring hO0.1
  have P0_w0 := hid (parts_Ring hO0 h0_w0)
  have R0_w0 : Hid (∀ x ∈ bs_w0, w3.heap.size ≤ x ∧ x < w4.heap.size) := hid (fun x hx => by have := P0_w0.out.lts x hx; refine ⟨?_, this.2⟩; have := this.1; first | omega | (simp at this; omega))
  clear hb hp
  try unfold Box at B_0
  go_wp2_with fail
  refine (toRing (grow G_0.out ?_) (by have := HN_0.out; first | omega | (simp only [cnt_ints, cnt_bytes] at this; omega))).mono ?_
  · (repeat (first | exact Hb.out | refine Below.alloc ?_ (by have := Hb.out.size; first | omega | (simp; done) | (simp; omega)) _))
  rintro e w5 ⟨cs_x0, bs_x0, rfl, hO, hb⟩
  have hz5 := hb.size; try simp at hz5
  have hp : Below w4.heap.size w4 w5 := below_call (by repeat (first | exact Below.refl _ _ | refine Below.alloc ?_ (by first | omega | (simp; done) | (simp; omega)) _)) hb
  replace B_0 : Box w5 (w.heap.size) #[.slice a0_0 l0_0 k0_0] := Box.below hb (by first | omega | (simp; done) | (simp; omega)) (by repeat (first | exact B_0 | (apply boxN; (focus (first | omega | (simp; done) | (simp; omega)))) | (apply Box.alloc; rotate_left; (focus (first | omega | (simp; done) | (simp; omega))))))
  replace L_0 : w.heap.size < w5.heap.size := (by first | omega | (simp; done) | (simp; omega))
  have B_w0 : Box w5 (w4.heap.size) #[.slice a0_w0 l0_w0 k0_w0] := Box.below hb (by first | omega | (simp; done) | (simp; omega)) (by repeat (first | exact B_w0 | (apply boxN; (focus (first | omega | (simp; done) | (simp; omega)))) | (apply Box.alloc; rotate_left; (focus (first | omega | (simp; done) | (simp; omega))))))
  have L_w0 : w4.heap.size < w5.heap.size := (by first | omega | (simp; done) | (simp; omega))
  replace P0_w0 := hid (P0_w0.out.grow hp)
  replace Hb := hid (Hb.out.trans (hp.mono Hb.out.size))
  obtain ⟨a0_x0, l0_x0, k0_x0, rfl, h0_x0⟩ := open_Ring hO.1
  have P0_x0 := hid (parts_Ring hO h0_x0)
  have R0_x0 : Hid (∀ x ∈ bs_x0, w4.heap.size + 1 ≤ x ∧ x < w5.heap.size) := hid (fun x hx => by have := P0_x0.out.lts x hx; refine ⟨?_, this.2⟩; have := this.1; first | omega | (simp at this; omega))
  clear hb hp hO
  try unfold Box at B_0
  try unfold Box at B_w0
  go_wp2_with fail
  refine (toIntS (G_1.out.grow ?_) (by have := HN_1.out; first | omega | (simp only [cnt_ints, cnt_bytes] at this; omega))).mono ?_
  · (repeat (first | exact Hb.out | refine Below.alloc ?_ (by have := Hb.out.size; first | omega | (simp; done) | (simp; omega)) _))
  rintro e w6 ⟨a0_x1, l0_x1, k0_x1, bs_x1, rfl, hO, hb⟩
  have hz6 := hb.size; try simp at hz6
  have hp : Below w5.heap.size w5 w6 := below_call (by repeat (first | exact Below.refl _ _ | refine Below.alloc ?_ (by first | omega | (simp; done) | (simp; omega)) _)) hb
  replace B_0 : Box w6 (w.heap.size) #[.slice a0_0 l0_0 k0_0] := Box.below hb (by first | omega | (simp; done) | (simp; omega)) (by repeat (first | exact B_0 | (apply boxN; (focus (first | omega | (simp; done) | (simp; omega)))) | (apply Box.alloc; rotate_left; (focus (first | omega | (simp; done) | (simp; omega))))))
  replace L_0 : w.heap.size < w6.heap.size := (by first | omega | (simp; done) | (simp; omega))
  replace B_w0 : Box w6 (w4.heap.size) #[.slice a0_w0 l0_w0 k0_w0] := Box.below hb (by first | omega | (simp; done) | (simp; omega)) (by repeat (first | exact B_w0 | (apply boxN; (focus (first | omega | (simp; done) | (simp; omega)))) | (apply Box.alloc; rotate_left; (focus (first | omega | (simp; done) | (simp; omega))))))
  replace L_w0 : w4.heap.size < w6.heap.size := (by first | omega | (simp; done) | (simp; omega))
  have B_x0 : Box w6 (w5.heap.size) #[.slice a0_x0 l0_x0 k0_x0] := Box.below hb (by first | omega | (simp; done) | (simp; omega)) (by repeat (first | exact B_x0 | (apply boxN; (focus (first | omega | (simp; done) | (simp; omega)))) | (apply Box.alloc; rotate_left; (focus (first | omega | (simp; done) | (simp; omega))))))
  have L_x0 : w5.heap.size < w6.heap.size := (by first | omega | (simp; done) | (simp; omega))
  replace P0_w0 := hid (P0_w0.out.grow hp)
  replace P0_x0 := hid (P0_x0.out.grow hp)
  replace Hb := hid (Hb.out.trans (hp.mono Hb.out.size))
  have P0_x1 := hid hO
  have R0_x1 : Hid (∀ x ∈ bs_x1, w5.heap.size + 1 ≤ x ∧ x < w6.heap.size) := hid (fun x hx => by have := P0_x1.out.lts x hx; refine ⟨?_, this.2⟩; have := this.1; first | omega | (simp at this; omega))
  clear hb hp hO
  try unfold Box at B_0
  try unfold Box at B_w0
  try unfold Box at B_x0
  go_wp2_with fail
  refine (i_RingPut (mk_Ring (d := d_0) (Slc.grow P0_x0.out.slc ?_)) (Slc.grow P0_x1.out.slc ?_) d_2 h0_2 ).mono ?_
  · repeat (first | exact Below.refl _ _ | refine Below.alloc ?_ (by first | omega | (simp; done) | (simp; omega)) _)
  · repeat (first | exact Below.refl _ _ | refine Below.alloc ?_ (by first | omega | (simp; done) | (simp; omega)) _)
  rintro e w7 ⟨cs_g0, bs_g0, rfl, hO0, hb⟩
  have hz7 := hb.size; try simp at hz7
  have hp : Below w6.heap.size w6 w7 := below_call (by repeat (first | exact Below.refl _ _ | refine Below.alloc ?_ (by first | omega | (simp; done) | (simp; omega)) _)) hb
  replace B_0 : Box w7 (w.heap.size) #[.slice a0_0 l0_0 k0_0] := Box.below hb (by first | omega | (simp; done) | (simp; omega)) (by repeat (first | exact B_0 | (apply boxN; (focus (first | omega | (simp; done) | (simp; omega)))) | (apply Box.alloc; rotate_left; (focus (first | omega | (simp; done) | (simp; omega))))))
  replace L_0 : w.heap.size < w7.heap.size := (by first | omega | (simp; done) | (simp; omega))
  replace B_w0 : Box w7 (w4.heap.size) #[.slice a0_w0 l0_w0 k0_w0] := Box.below hb (by first | omega | (simp; done) | (simp; omega)) (by repeat (first | exact B_w0 | (apply boxN; (focus (first | omega | (simp; done) | (simp; omega)))) | (apply Box.alloc; rotate_left; (focus (first | omega | (simp; done) | (simp; omega))))))
  replace L_w0 : w4.heap.size < w7.heap.size := (by first | omega | (simp; done) | (simp; omega))
  replace B_x0 : Box w7 (w5.heap.size) #[.slice a0_x0 l0_x0 k0_x0] := Box.below hb (by first | omega | (simp; done) | (simp; omega)) (by repeat (first | exact B_x0 | (apply boxN; (focus (first | omega | (simp; done) | (simp; omega)))) | (apply Box.alloc; rotate_left; (focus (first | omega | (simp; done) | (simp; omega))))))
  replace L_x0 : w5.heap.size < w7.heap.size := (by first | omega | (simp; done) | (simp; omega))
  replace P0_w0 := hid (P0_w0.out.grow hp)
  replace P0_x0 := hid (P0_x0.out.grow hp)
  replace P0_x1 := hid (P0_x1.out.grow hp)
  replace Hb := hid (Hb.out.trans (hp.mono Hb.out.size))
  obtain ⟨a0_g0, l0_g0, k0_g0, rfl, h0_g0⟩ := open_Ring hO0.1
  have P0_g0 := hid (parts_Ring hO0 h0_g0)
  have R0_g0 : Hid (∀ x ∈ bs_g0, w6.heap.size ≤ x ∧ x < w7.heap.size) := hid (fun x hx => by have := P0_g0.out.lts x hx; refine ⟨?_, this.2⟩; have := this.1; first | omega | (simp at this; omega))
  clear hb hp
  try unfold Box at B_0
  try unfold Box at B_w0
  try unfold Box at B_x0
  go_wp2_with fail
  refine (eqRing (mk_Ring (d := (ringPut d_0 d_1 d_2)) (Slc.grow P0_g0.out.slc ?_)) (mk_Ring (d := (ringPut d_0 d_1 d_2)) (Slc.grow P0_w0.out.slc ?_))).mono ?_
  · repeat (first | exact Below.refl _ _ | refine Below.alloc ?_ (by first | omega | (simp; done) | (simp; omega)) _)
  · repeat (first | exact Below.refl _ _ | refine Below.alloc ?_ (by first | omega | (simp; done) | (simp; omega)) _)
  rintro e w8 ⟨rfl, hb⟩
  have hz8 := hb.size; try simp at hz8
  have hp : Below w7.heap.size w7 w8 := below_call (by repeat (first | exact Below.refl _ _ | refine Below.alloc ?_ (by first | omega | (simp; done) | (simp; omega)) _)) hb
  replace B_0 : Box w8 (w.heap.size) #[.slice a0_0 l0_0 k0_0] := Box.below hb (by first | omega | (simp; done) | (simp; omega)) (by repeat (first | exact B_0 | (apply boxN; (focus (first | omega | (simp; done) | (simp; omega)))) | (apply Box.alloc; rotate_left; (focus (first | omega | (simp; done) | (simp; omega))))))
  replace L_0 : w.heap.size < w8.heap.size := (by first | omega | (simp; done) | (simp; omega))
  replace B_w0 : Box w8 (w4.heap.size) #[.slice a0_w0 l0_w0 k0_w0] := Box.below hb (by first | omega | (simp; done) | (simp; omega)) (by repeat (first | exact B_w0 | (apply boxN; (focus (first | omega | (simp; done) | (simp; omega)))) | (apply Box.alloc; rotate_left; (focus (first | omega | (simp; done) | (simp; omega))))))
  replace L_w0 : w4.heap.size < w8.heap.size := (by first | omega | (simp; done) | (simp; omega))
  replace B_x0 : Box w8 (w5.heap.size) #[.slice a0_x0 l0_x0 k0_x0] := Box.below hb (by first | omega | (simp; done) | (simp; omega)) (by repeat (first | exact B_x0 | (apply boxN; (focus (first | omega | (simp; done) | (simp; omega)))) | (apply Box.alloc; rotate_left; (focus (first | omega | (simp; done) | (simp; omega))))))
  replace L_x0 : w5.heap.size < w8.heap.size := (by first | omega | (simp; done) | (simp; omega))
  have B_g0 : Box w8 (w7.heap.size) #[.slice a0_g0 l0_g0 k0_g0] := Box.below hb (by first | omega | (simp; done) | (simp; omega)) (by repeat (first | exact B_g0 | (apply boxN; (focus (first | omega | (simp; done) | (simp; omega)))) | (apply Box.alloc; rotate_left; (focus (first | omega | (simp; done) | (simp; omega))))))
  have L_g0 : w7.heap.size < w8.heap.size := (by first | omega | (simp; done) | (simp; omega))
  replace P0_w0 := hid (P0_w0.out.grow hp)
  replace P0_x0 := hid (P0_x0.out.grow hp)
  replace P0_x1 := hid (P0_x1.out.grow hp)
  replace P0_g0 := hid (P0_g0.out.grow hp)
  replace Hb := hid (Hb.out.trans (hp.mono Hb.out.size))
  clear hb hp
  try unfold Box at B_0
  try unfold Box at B_w0
  try unfold Box at B_x0
  try unfold Box at B_g0
  try unfold Box at B_0
  try unfold Box at B_w0
  try unfold Box at B_x0
  try unfold Box at B_g0
  go_wp2_with fail
  go_region_held3 (fun W => Below w8.heap.size w8 W ∧ (∀ o, W.cell? ⟨w.heap.size, o, none⟩ = (#[.slice a0_0 l0_0 k0_0] : Array Value)[o]?) ∧ (∀ o, W.cell? ⟨w4.heap.size, o, none⟩ = (#[.slice a0_w0 l0_w0 k0_w0] : Array Value)[o]?) ∧ (∀ o, W.cell? ⟨w5.heap.size, o, none⟩ = (#[.slice a0_x0 l0_x0 k0_x0] : Array Value)[o]?) ∧ (∀ o, W.cell? ⟨w7.heap.size, o, none⟩ = (#[.slice a0_g0 l0_g0 k0_g0] : Array Value)[o]?)) (first | exact ⟨(Below.refl _ _).drew, B_0, B_w0, B_x0, B_g0⟩ | (go_split_ands; exact ⟨Below.trans (by assumption) (Below.mono hb2 (Below.size (by assumption))), keep_box hb2 (by assumption) (by assumption) (by omega), keep_box hb2 (by assumption) (by assumption) (by omega), keep_box hb2 (by assumption) (by assumption) (by omega), keep_box hb2 (by assumption) (by assumption) (by omega)⟩) | (go_split_ands; exact ⟨Below.trans (by assumption) (Below.mono hb1 (Below.size (by assumption))), keep_box hb1 (by assumption) (by assumption) (by omega), keep_box hb1 (by assumption) (by assumption) (by omega), keep_box hb1 (by assumption) (by assumption) (by omega), keep_box hb1 (by assumption) (by assumption) (by omega)⟩)) (first | (go_at_call 18; refine (toRing (grow G_0.out ?_) (by have := HN_0.out; first | omega | (simp only [cnt_ints, cnt_bytes] at this; omega))).mono ?_; (go_split_ands; exact Hb.out.trans (Below.mono (by assumption) Hb.out.size)); rintro e wa9 ⟨cs_e3, bs_e3, rfl, hO, hb1⟩; obtain ⟨a0_e3, l0_e3, k0_e3, rfl, h0_e3⟩ := open_Ring hO.1) | (go_at_call 21; refine (eqRing (mk_Ring (d := d_0) (Slc.grow P0_x0.out.slc ?_)) hO.1).mono ?_; (go_split_ands; exact (by assumption)); rintro e w9 ⟨rfl, hb2⟩))
  have hp : Below w8.heap.size w8 w9 := by go_split_ands; assumption
  have hz9 := hp.size; try simp at hz9
  replace B_0 : Box w9 (w.heap.size) #[.slice a0_0 l0_0 k0_0] := Box.below hp (by omega) B_0
  replace L_0 : w.heap.size < w9.heap.size := by omega
  replace B_w0 : Box w9 (w4.heap.size) #[.slice a0_w0 l0_w0 k0_w0] := Box.below hp (by omega) B_w0
  replace L_w0 : w4.heap.size < w9.heap.size := by omega
  replace B_x0 : Box w9 (w5.heap.size) #[.slice a0_x0 l0_x0 k0_x0] := Box.below hp (by omega) B_x0
  replace L_x0 : w5.heap.size < w9.heap.size := by omega
  replace B_g0 : Box w9 (w7.heap.size) #[.slice a0_g0 l0_g0 k0_g0] := Box.below hp (by omega) B_g0
  replace L_g0 : w7.heap.size < w9.heap.size := by omega
  replace P0_w0 := hid (P0_w0.out.grow hp)
  replace P0_x0 := hid (P0_x0.out.grow hp)
  replace P0_x1 := hid (P0_x1.out.grow hp)
  replace P0_g0 := hid (P0_g0.out.grow hp)
  replace Hb := hid (Hb.out.trans (hp.mono Hb.out.size))
  clear hp hb1 hb2 hO
  try unfold Box at B_0
  try unfold Box at B_w0
  try unfold Box at B_x0
  try unfold Box at B_g0
  go_wp2_with fail
  refine (toIntS (G_1.out.grow ?_) (by have := HN_1.out; first | omega | (simp only [cnt_ints, cnt_bytes] at this; omega))).mono ?_
  · (repeat (first | exact Hb.out | refine Below.alloc ?_ (by have := Hb.out.size; first | omega | (simp; done) | (simp; omega)) _))
  rintro e w10 ⟨a0_e4, l0_e4, k0_e4, bs_e4, rfl, hO, hb⟩
  have hz10 := hb.size; try simp at hz10
  have hp : Below w9.heap.size w9 w10 := below_call (by repeat (first | exact Below.refl _ _ | refine Below.alloc ?_ (by first | omega | (simp; done) | (simp; omega)) _)) hb
  replace B_0 : Box w10 (w.heap.size) #[.slice a0_0 l0_0 k0_0] := Box.below hb (by first | omega | (simp; done) | (simp; omega)) (by repeat (first | exact B_0 | (apply boxN; (focus (first | omega | (simp; done) | (simp; omega)))) | (apply Box.alloc; rotate_left; (focus (first | omega | (simp; done) | (simp; omega))))))
  replace L_0 : w.heap.size < w10.heap.size := (by first | omega | (simp; done) | (simp; omega))
  replace B_w0 : Box w10 (w4.heap.size) #[.slice a0_w0 l0_w0 k0_w0] := Box.below hb (by first | omega | (simp; done) | (simp; omega)) (by repeat (first | exact B_w0 | (apply boxN; (focus (first | omega | (simp; done) | (simp; omega)))) | (apply Box.alloc; rotate_left; (focus (first | omega | (simp; done) | (simp; omega))))))
  replace L_w0 : w4.heap.size < w10.heap.size := (by first | omega | (simp; done) | (simp; omega))
  replace B_x0 : Box w10 (w5.heap.size) #[.slice a0_x0 l0_x0 k0_x0] := Box.below hb (by first | omega | (simp; done) | (simp; omega)) (by repeat (first | exact B_x0 | (apply boxN; (focus (first | omega | (simp; done) | (simp; omega)))) | (apply Box.alloc; rotate_left; (focus (first | omega | (simp; done) | (simp; omega))))))
  replace L_x0 : w5.heap.size < w10.heap.size := (by first | omega | (simp; done) | (simp; omega))
  replace B_g0 : Box w10 (w7.heap.size) #[.slice a0_g0 l0_g0 k0_g0] := Box.below hb (by first | omega | (simp; done) | (simp; omega)) (by repeat (first | exact B_g0 | (apply boxN; (focus (first | omega | (simp; done) | (simp; omega)))) | (apply Box.alloc; rotate_left; (focus (first | omega | (simp; done) | (simp; omega))))))
  replace L_g0 : w7.heap.size < w10.heap.size := (by first | omega | (simp; done) | (simp; omega))
  replace P0_w0 := hid (P0_w0.out.grow hp)
  replace P0_x0 := hid (P0_x0.out.grow hp)
  replace P0_x1 := hid (P0_x1.out.grow hp)
  replace P0_g0 := hid (P0_g0.out.grow hp)
  replace Hb := hid (Hb.out.trans (hp.mono Hb.out.size))
  have P0_e4 := hid hO
  have R0_e4 : Hid (∀ x ∈ bs_e4, w9.heap.size ≤ x ∧ x < w10.heap.size) := hid (fun x hx => by have := P0_e4.out.lts x hx; refine ⟨?_, this.2⟩; have := this.1; first | omega | (simp at this; omega))
  clear hb hp hO
  try unfold Box at B_0
  try unfold Box at B_w0
  try unfold Box at B_x0
  try unfold Box at B_g0
  go_wp2_with fail
  refine (eqIntS (Slc.grow P0_x1.out.slc ?_) (Slc.grow P0_e4.out.slc ?_)).mono ?_
  · repeat (first | exact Below.refl _ _ | refine Below.alloc ?_ (by first | omega | (simp; done) | (simp; omega)) _)
  · repeat (first | exact Below.refl _ _ | refine Below.alloc ?_ (by first | omega | (simp; done) | (simp; omega)) _)
  rintro e w11 ⟨rfl, hb⟩
  have hz11 := hb.size; try simp at hz11
  have hp : Below w10.heap.size w10 w11 := below_call (by repeat (first | exact Below.refl _ _ | refine Below.alloc ?_ (by first | omega | (simp; done) | (simp; omega)) _)) hb
  replace B_0 : Box w11 (w.heap.size) #[.slice a0_0 l0_0 k0_0] := Box.below hb (by first | omega | (simp; done) | (simp; omega)) (by repeat (first | exact B_0 | (apply boxN; (focus (first | omega | (simp; done) | (simp; omega)))) | (apply Box.alloc; rotate_left; (focus (first | omega | (simp; done) | (simp; omega))))))
  replace L_0 : w.heap.size < w11.heap.size := (by first | omega | (simp; done) | (simp; omega))
  replace B_w0 : Box w11 (w4.heap.size) #[.slice a0_w0 l0_w0 k0_w0] := Box.below hb (by first | omega | (simp; done) | (simp; omega)) (by repeat (first | exact B_w0 | (apply boxN; (focus (first | omega | (simp; done) | (simp; omega)))) | (apply Box.alloc; rotate_left; (focus (first | omega | (simp; done) | (simp; omega))))))
  replace L_w0 : w4.heap.size < w11.heap.size := (by first | omega | (simp; done) | (simp; omega))
  replace B_x0 : Box w11 (w5.heap.size) #[.slice a0_x0 l0_x0 k0_x0] := Box.below hb (by first | omega | (simp; done) | (simp; omega)) (by repeat (first | exact B_x0 | (apply boxN; (focus (first | omega | (simp; done) | (simp; omega)))) | (apply Box.alloc; rotate_left; (focus (first | omega | (simp; done) | (simp; omega))))))
  replace L_x0 : w5.heap.size < w11.heap.size := (by first | omega | (simp; done) | (simp; omega))
  replace B_g0 : Box w11 (w7.heap.size) #[.slice a0_g0 l0_g0 k0_g0] := Box.below hb (by first | omega | (simp; done) | (simp; omega)) (by repeat (first | exact B_g0 | (apply boxN; (focus (first | omega | (simp; done) | (simp; omega)))) | (apply Box.alloc; rotate_left; (focus (first | omega | (simp; done) | (simp; omega))))))
  replace L_g0 : w7.heap.size < w11.heap.size := (by first | omega | (simp; done) | (simp; omega))
  replace P0_w0 := hid (P0_w0.out.grow hp)
  replace P0_x0 := hid (P0_x0.out.grow hp)
  replace P0_x1 := hid (P0_x1.out.grow hp)
  replace P0_g0 := hid (P0_g0.out.grow hp)
  replace P0_e4 := hid (P0_e4.out.grow hp)
  replace Hb := hid (Hb.out.trans (hp.mono Hb.out.size))
  clear hb hp
  try unfold Box at B_0
  try unfold Box at B_w0
  try unfold Box at B_x0
  try unfold Box at B_g0
  try unfold Box at B_0
  try unfold Box at B_w0
  try unfold Box at B_x0
  try unfold Box at B_g0
  have HK_x0 : Hid (1 + (d_0).nkv ≤ topK) := hid (by have h_0 := HN_0.out; have k_0 := nkv_le_Ring d_0; have h_1 := HN_1.out; have k_1 := nE_ints d_1; unfold topK; omega)
  go_wp2_with fail
  refine (markRing (d := d_0) P0_x0.out  (1) HK_x0.out).mono ?_
  rintro e w12 ⟨rfl, hO0, hT⟩
  have hz12 := hT.size
  replace B_0 : Box w12 (w.heap.size) #[.slice a0_0 l0_0 k0_0] := Box.tch hT (by omega) (fun hm => by have := R0_x0.out _ hm; omega) B_0
  replace L_0 : w.heap.size < w12.heap.size := by omega
  replace B_w0 : Box w12 (w4.heap.size) #[.slice a0_w0 l0_w0 k0_w0] := Box.tch hT (by omega) (fun hm => by have := R0_x0.out _ hm; omega) B_w0
  replace L_w0 : w4.heap.size < w12.heap.size := by omega
  replace B_x0 : Box w12 (w5.heap.size) #[.slice a0_x0 l0_x0 k0_x0] := Box.tch hT (by omega) (fun hm => by have := R0_x0.out _ hm; omega) B_x0
  replace L_x0 : w5.heap.size < w12.heap.size := by omega
  replace B_g0 : Box w12 (w7.heap.size) #[.slice a0_g0 l0_g0 k0_g0] := Box.tch hT (by omega) (fun hm => by have := R0_x0.out _ hm; omega) B_g0
  replace L_g0 : w7.heap.size < w12.heap.size := by omega
  replace P0_w0 := hid (P0_w0.out.tch hT (fun x hx hm => by have := R0_w0.out x hx; have := R0_x0.out x hm; omega))
  replace P0_x1 := hid (P0_x1.out.tch hT (fun x hx hm => by have := R0_x1.out x hx; have := R0_x0.out x hm; omega))
  replace P0_g0 := hid (P0_g0.out.tch hT (fun x hx hm => by have := R0_g0.out x hx; have := R0_x0.out x hm; omega))
  replace Hb := hid (Hb.out.trans (hT.below Hb.out.size (fun x hm => by have := R0_x0.out x hm; omega)))
  replace P0_x0 := hid hO0
  clear hT hO0
  try unfold Box at B_0
  try unfold Box at B_w0
  try unfold Box at B_x0
  try unfold Box at B_g0
  have HK_x1 : Hid (1 + (d_0).nkv + Mk.nE (d_1) ≤ topK) := hid (by have h_0 := HN_0.out; have k_0 := nkv_le_Ring d_0; have h_1 := HN_1.out; have k_1 := nE_ints d_1; unfold topK; omega)
  go_wp2_with fail
  refine (markIntS P0_x1.out (1 + (d_0).nkv) HK_x1.out).mono ?_
  rintro e w13 ⟨rfl, hO0, hT⟩
  have hz13 := hT.size
  replace B_0 : Box w13 (w.heap.size) #[.slice a0_0 l0_0 k0_0] := Box.tch hT (by omega) (fun hm => by have := R0_x1.out _ hm; omega) B_0
  replace L_0 : w.heap.size < w13.heap.size := by omega
  replace B_w0 : Box w13 (w4.heap.size) #[.slice a0_w0 l0_w0 k0_w0] := Box.tch hT (by omega) (fun hm => by have := R0_x1.out _ hm; omega) B_w0
  replace L_w0 : w4.heap.size < w13.heap.size := by omega
  replace B_x0 : Box w13 (w5.heap.size) #[.slice a0_x0 l0_x0 k0_x0] := Box.tch hT (by omega) (fun hm => by have := R0_x1.out _ hm; omega) B_x0
  replace L_x0 : w5.heap.size < w13.heap.size := by omega
  replace B_g0 : Box w13 (w7.heap.size) #[.slice a0_g0 l0_g0 k0_g0] := Box.tch hT (by omega) (fun hm => by have := R0_x1.out _ hm; omega) B_g0
  replace L_g0 : w7.heap.size < w13.heap.size := by omega
  replace P0_w0 := hid (P0_w0.out.tch hT (fun x hx hm => by have := R0_w0.out x hx; have := R0_x1.out x hm; omega))
  replace P0_x0 := hid (P0_x0.out.tch hT (fun x hx hm => by have := R0_x0.out x hx; have := R0_x1.out x hm; omega))
  replace P0_g0 := hid (P0_g0.out.tch hT (fun x hx hm => by have := R0_g0.out x hx; have := R0_x1.out x hm; omega))
  replace Hb := hid (Hb.out.trans (hT.below Hb.out.size (fun x hm => by have := R0_x1.out x hm; omega)))
  replace P0_x1 := hid hO0
  clear hT hO0
  try unfold Box at B_0
  try unfold Box at B_w0
  try unfold Box at B_x0
  try unfold Box at B_g0
  go_wp2_with fail
  refine (eqRing (mk_Ring (d := (ringPut d_0 d_1 d_2)) (Slc.grow P0_g0.out.slc ?_)) (mk_Ring (d := (ringPut d_0 d_1 d_2)) (Slc.grow P0_w0.out.slc ?_))).mono ?_
  · repeat (first | exact Below.refl _ _ | refine Below.alloc ?_ (by first | omega | (simp; done) | (simp; omega)) _)
  · repeat (first | exact Below.refl _ _ | refine Below.alloc ?_ (by first | omega | (simp; done) | (simp; omega)) _)
  rintro e w14 ⟨rfl, hb⟩
  have hz14 := hb.size; try simp at hz14
  have hp : Below w13.heap.size w13 w14 := below_call (by repeat (first | exact Below.refl _ _ | refine Below.alloc ?_ (by first | omega | (simp; done) | (simp; omega)) _)) hb
  replace B_0 : Box w14 (w.heap.size) #[.slice a0_0 l0_0 k0_0] := Box.below hb (by first | omega | (simp; done) | (simp; omega)) (by repeat (first | exact B_0 | (apply boxN; (focus (first | omega | (simp; done) | (simp; omega)))) | (apply Box.alloc; rotate_left; (focus (first | omega | (simp; done) | (simp; omega))))))
  replace L_0 : w.heap.size < w14.heap.size := (by first | omega | (simp; done) | (simp; omega))
  replace B_w0 : Box w14 (w4.heap.size) #[.slice a0_w0 l0_w0 k0_w0] := Box.below hb (by first | omega | (simp; done) | (simp; omega)) (by repeat (first | exact B_w0 | (apply boxN; (focus (first | omega | (simp; done) | (simp; omega)))) | (apply Box.alloc; rotate_left; (focus (first | omega | (simp; done) | (simp; omega))))))
  replace L_w0 : w4.heap.size < w14.heap.size := (by first | omega | (simp; done) | (simp; omega))
  replace B_x0 : Box w14 (w5.heap.size) #[.slice a0_x0 l0_x0 k0_x0] := Box.below hb (by first | omega | (simp; done) | (simp; omega)) (by repeat (first | exact B_x0 | (apply boxN; (focus (first | omega | (simp; done) | (simp; omega)))) | (apply Box.alloc; rotate_left; (focus (first | omega | (simp; done) | (simp; omega))))))
  replace L_x0 : w5.heap.size < w14.heap.size := (by first | omega | (simp; done) | (simp; omega))
  replace B_g0 : Box w14 (w7.heap.size) #[.slice a0_g0 l0_g0 k0_g0] := Box.below hb (by first | omega | (simp; done) | (simp; omega)) (by repeat (first | exact B_g0 | (apply boxN; (focus (first | omega | (simp; done) | (simp; omega)))) | (apply Box.alloc; rotate_left; (focus (first | omega | (simp; done) | (simp; omega))))))
  replace L_g0 : w7.heap.size < w14.heap.size := (by first | omega | (simp; done) | (simp; omega))
  replace P0_w0 := hid (P0_w0.out.grow hp)
  replace P0_x0 := hid (P0_x0.out.grow hp)
  replace P0_x1 := hid (P0_x1.out.grow hp)
  replace P0_g0 := hid (P0_g0.out.grow hp)
  replace Hb := hid (Hb.out.trans (hp.mono Hb.out.size))
  clear hb hp
  try unfold Box at B_0
  try unfold Box at B_w0
  try unfold Box at B_x0
  try unfold Box at B_g0
  try unfold Box at B_0
  try unfold Box at B_w0
  try unfold Box at B_x0
  try unfold Box at B_g0
  have HK_g0 : Hid (1 + ((ringPut d_0 d_1 d_2)).nkv ≤ topK) := hid (by exact ringPut_top _ _ _)
  go_wp2_with fail
  refine (markRing (d := (ringPut d_0 d_1 d_2)) P0_g0.out  (1) HK_g0.out).mono ?_
  rintro e w15 ⟨rfl, hO0, hT⟩
  have hz15 := hT.size
  replace B_0 : Box w15 (w.heap.size) #[.slice a0_0 l0_0 k0_0] := Box.tch hT (by omega) (fun hm => by have := R0_g0.out _ hm; omega) B_0
  replace L_0 : w.heap.size < w15.heap.size := by omega
  replace B_w0 : Box w15 (w4.heap.size) #[.slice a0_w0 l0_w0 k0_w0] := Box.tch hT (by omega) (fun hm => by have := R0_g0.out _ hm; omega) B_w0
  replace L_w0 : w4.heap.size < w15.heap.size := by omega
  replace B_x0 : Box w15 (w5.heap.size) #[.slice a0_x0 l0_x0 k0_x0] := Box.tch hT (by omega) (fun hm => by have := R0_g0.out _ hm; omega) B_x0
  replace L_x0 : w5.heap.size < w15.heap.size := by omega
  replace B_g0 : Box w15 (w7.heap.size) #[.slice a0_g0 l0_g0 k0_g0] := Box.tch hT (by omega) (fun hm => by have := R0_g0.out _ hm; omega) B_g0
  replace L_g0 : w7.heap.size < w15.heap.size := by omega
  replace P0_w0 := hid (P0_w0.out.tch hT (fun x hx hm => by have := R0_w0.out x hx; have := R0_g0.out x hm; omega))
  replace P0_x0 := hid (P0_x0.out.tch hT (fun x hx hm => by have := R0_x0.out x hx; have := R0_g0.out x hm; omega))
  replace P0_x1 := hid (P0_x1.out.tch hT (fun x hx hm => by have := R0_x1.out x hx; have := R0_g0.out x hm; omega))
  replace Hb := hid (Hb.out.trans (hT.below Hb.out.size (fun x hm => by have := R0_g0.out x hm; omega)))
  replace P0_g0 := hid hO0
  clear hT hO0
  try unfold Box at B_0
  try unfold Box at B_w0
  try unfold Box at B_x0
  try unfold Box at B_g0
  go_wp2_with fail
  refine (heldRing (d := (ringPut d_0 d_1 d_2)) (1) (mk_Ring (d := (((ringPut d_0 d_1 d_2)).mkv (1))) (Slc.grow P0_g0.out.slc ?_)) (by have := HK_g0.out; omega)).mono ?_
  · repeat (first | exact Below.refl _ _ | refine Below.alloc ?_ (by first | omega | (simp; done) | (simp; omega)) _)
  rintro e w16 ⟨rfl, hb⟩
  have hz16 := hb.size; try simp at hz16
  have hp : Below w15.heap.size w15 w16 := below_call (by repeat (first | exact Below.refl _ _ | refine Below.alloc ?_ (by first | omega | (simp; done) | (simp; omega)) _)) hb
  replace B_0 : Box w16 (w.heap.size) #[.slice a0_0 l0_0 k0_0] := Box.below hb (by first | omega | (simp; done) | (simp; omega)) (by repeat (first | exact B_0 | (apply boxN; (focus (first | omega | (simp; done) | (simp; omega)))) | (apply Box.alloc; rotate_left; (focus (first | omega | (simp; done) | (simp; omega))))))
  replace L_0 : w.heap.size < w16.heap.size := (by first | omega | (simp; done) | (simp; omega))
  replace B_w0 : Box w16 (w4.heap.size) #[.slice a0_w0 l0_w0 k0_w0] := Box.below hb (by first | omega | (simp; done) | (simp; omega)) (by repeat (first | exact B_w0 | (apply boxN; (focus (first | omega | (simp; done) | (simp; omega)))) | (apply Box.alloc; rotate_left; (focus (first | omega | (simp; done) | (simp; omega))))))
  replace L_w0 : w4.heap.size < w16.heap.size := (by first | omega | (simp; done) | (simp; omega))
  replace B_x0 : Box w16 (w5.heap.size) #[.slice a0_x0 l0_x0 k0_x0] := Box.below hb (by first | omega | (simp; done) | (simp; omega)) (by repeat (first | exact B_x0 | (apply boxN; (focus (first | omega | (simp; done) | (simp; omega)))) | (apply Box.alloc; rotate_left; (focus (first | omega | (simp; done) | (simp; omega))))))
  replace L_x0 : w5.heap.size < w16.heap.size := (by first | omega | (simp; done) | (simp; omega))
  replace B_g0 : Box w16 (w7.heap.size) #[.slice a0_g0 l0_g0 k0_g0] := Box.below hb (by first | omega | (simp; done) | (simp; omega)) (by repeat (first | exact B_g0 | (apply boxN; (focus (first | omega | (simp; done) | (simp; omega)))) | (apply Box.alloc; rotate_left; (focus (first | omega | (simp; done) | (simp; omega))))))
  replace L_g0 : w7.heap.size < w16.heap.size := (by first | omega | (simp; done) | (simp; omega))
  replace P0_w0 := hid (P0_w0.out.grow hp)
  replace P0_x0 := hid (P0_x0.out.grow hp)
  replace P0_x1 := hid (P0_x1.out.grow hp)
  replace P0_g0 := hid (P0_g0.out.grow hp)
  replace Hb := hid (Hb.out.trans (hp.mono Hb.out.size))
  clear hb hp
  try unfold Box at B_0
  try unfold Box at B_w0
  try unfold Box at B_x0
  try unfold Box at B_g0
  try unfold Box at B_0
  try unfold Box at B_w0
  try unfold Box at B_x0
  try unfold Box at B_g0
  try unfold Box at B_0
  try unfold Box at B_w0
  try unfold Box at B_x0
  try unfold Box at B_g0
  go_wp2_with fail
  refine (toRing (grow G_0.out ?_) (by have := HN_0.out; first | omega | (simp only [cnt_ints, cnt_bytes] at this; omega))).mono ?_
  · (repeat (first | exact Hb.out | refine Below.alloc ?_ (by have := Hb.out.size; first | omega | (simp; done) | (simp; omega)) _))
  rintro e w17 ⟨cs_t50, bs_t50, rfl, hO, hb⟩
  have hz17 := hb.size; try simp at hz17
  have hp : Below w16.heap.size w16 w17 := below_call (by repeat (first | exact Below.refl _ _ | refine Below.alloc ?_ (by first | omega | (simp; done) | (simp; omega)) _)) hb
  replace B_0 : Box w17 (w.heap.size) #[.slice a0_0 l0_0 k0_0] := Box.below hb (by first | omega | (simp; done) | (simp; omega)) (by repeat (first | exact B_0 | (apply boxN; (focus (first | omega | (simp; done) | (simp; omega)))) | (apply Box.alloc; rotate_left; (focus (first | omega | (simp; done) | (simp; omega))))))
  replace L_0 : w.heap.size < w17.heap.size := (by first | omega | (simp; done) | (simp; omega))
  replace B_w0 : Box w17 (w4.heap.size) #[.slice a0_w0 l0_w0 k0_w0] := Box.below hb (by first | omega | (simp; done) | (simp; omega)) (by repeat (first | exact B_w0 | (apply boxN; (focus (first | omega | (simp; done) | (simp; omega)))) | (apply Box.alloc; rotate_left; (focus (first | omega | (simp; done) | (simp; omega))))))
  replace L_w0 : w4.heap.size < w17.heap.size := (by first | omega | (simp; done) | (simp; omega))
  replace B_x0 : Box w17 (w5.heap.size) #[.slice a0_x0 l0_x0 k0_x0] := Box.below hb (by first | omega | (simp; done) | (simp; omega)) (by repeat (first | exact B_x0 | (apply boxN; (focus (first | omega | (simp; done) | (simp; omega)))) | (apply Box.alloc; rotate_left; (focus (first | omega | (simp; done) | (simp; omega))))))
  replace L_x0 : w5.heap.size < w17.heap.size := (by first | omega | (simp; done) | (simp; omega))
  replace B_g0 : Box w17 (w7.heap.size) #[.slice a0_g0 l0_g0 k0_g0] := Box.below hb (by first | omega | (simp; done) | (simp; omega)) (by repeat (first | exact B_g0 | (apply boxN; (focus (first | omega | (simp; done) | (simp; omega)))) | (apply Box.alloc; rotate_left; (focus (first | omega | (simp; done) | (simp; omega))))))
  replace L_g0 : w7.heap.size < w17.heap.size := (by first | omega | (simp; done) | (simp; omega))
  replace P0_w0 := hid (P0_w0.out.grow hp)
  replace P0_x0 := hid (P0_x0.out.grow hp)
  replace P0_x1 := hid (P0_x1.out.grow hp)
  replace P0_g0 := hid (P0_g0.out.grow hp)
  replace Hb := hid (Hb.out.trans (hp.mono Hb.out.size))
  obtain ⟨a0_t50, l0_t50, k0_t50, rfl, h0_t50⟩ := open_Ring hO.1
  have P0_t50 := hid (parts_Ring hO h0_t50)
  have R0_t50 : Hid (∀ x ∈ bs_t50, w16.heap.size ≤ x ∧ x < w17.heap.size) := hid (fun x hx => by have := P0_t50.out.lts x hx; refine ⟨?_, this.2⟩; have := this.1; first | omega | (simp at this; omega))
  clear hb hp hO
  try unfold Box at B_0
  try unfold Box at B_w0
  try unfold Box at B_x0
  try unfold Box at B_g0
  go_wp2_with fail
  refine (toIntS (G_1.out.grow ?_) (by have := HN_1.out; first | omega | (simp only [cnt_ints, cnt_bytes] at this; omega))).mono ?_
  · (repeat (first | exact Hb.out | refine Below.alloc ?_ (by have := Hb.out.size; first | omega | (simp; done) | (simp; omega)) _))
  rintro e w18 ⟨a0_t51, l0_t51, k0_t51, bs_t51, rfl, hO, hb⟩
  have hz18 := hb.size; try simp at hz18
  have hp : Below w17.heap.size w17 w18 := below_call (by repeat (first | exact Below.refl _ _ | refine Below.alloc ?_ (by first | omega | (simp; done) | (simp; omega)) _)) hb
  replace B_0 : Box w18 (w.heap.size) #[.slice a0_0 l0_0 k0_0] := Box.below hb (by first | omega | (simp; done) | (simp; omega)) (by repeat (first | exact B_0 | (apply boxN; (focus (first | omega | (simp; done) | (simp; omega)))) | (apply Box.alloc; rotate_left; (focus (first | omega | (simp; done) | (simp; omega))))))
  replace L_0 : w.heap.size < w18.heap.size := (by first | omega | (simp; done) | (simp; omega))
  replace B_w0 : Box w18 (w4.heap.size) #[.slice a0_w0 l0_w0 k0_w0] := Box.below hb (by first | omega | (simp; done) | (simp; omega)) (by repeat (first | exact B_w0 | (apply boxN; (focus (first | omega | (simp; done) | (simp; omega)))) | (apply Box.alloc; rotate_left; (focus (first | omega | (simp; done) | (simp; omega))))))
  replace L_w0 : w4.heap.size < w18.heap.size := (by first | omega | (simp; done) | (simp; omega))
  replace B_x0 : Box w18 (w5.heap.size) #[.slice a0_x0 l0_x0 k0_x0] := Box.below hb (by first | omega | (simp; done) | (simp; omega)) (by repeat (first | exact B_x0 | (apply boxN; (focus (first | omega | (simp; done) | (simp; omega)))) | (apply Box.alloc; rotate_left; (focus (first | omega | (simp; done) | (simp; omega))))))
  replace L_x0 : w5.heap.size < w18.heap.size := (by first | omega | (simp; done) | (simp; omega))
  replace B_g0 : Box w18 (w7.heap.size) #[.slice a0_g0 l0_g0 k0_g0] := Box.below hb (by first | omega | (simp; done) | (simp; omega)) (by repeat (first | exact B_g0 | (apply boxN; (focus (first | omega | (simp; done) | (simp; omega)))) | (apply Box.alloc; rotate_left; (focus (first | omega | (simp; done) | (simp; omega))))))
  replace L_g0 : w7.heap.size < w18.heap.size := (by first | omega | (simp; done) | (simp; omega))
  replace P0_w0 := hid (P0_w0.out.grow hp)
  replace P0_x0 := hid (P0_x0.out.grow hp)
  replace P0_x1 := hid (P0_x1.out.grow hp)
  replace P0_g0 := hid (P0_g0.out.grow hp)
  replace P0_t50 := hid (P0_t50.out.grow hp)
  replace Hb := hid (Hb.out.trans (hp.mono Hb.out.size))
  have P0_t51 := hid hO
  have R0_t51 : Hid (∀ x ∈ bs_t51, w17.heap.size ≤ x ∧ x < w18.heap.size) := hid (fun x hx => by have := P0_t51.out.lts x hx; refine ⟨?_, this.2⟩; have := this.1; first | omega | (simp at this; omega))
  clear hb hp hO
  try unfold Box at B_0
  try unfold Box at B_w0
  try unfold Box at B_x0
  try unfold Box at B_g0
  go_wp2_with fail
  refine (i_RingPut (mk_Ring (d := d_0) (Slc.grow P0_t50.out.slc ?_)) (Slc.grow P0_t51.out.slc ?_) d_2 h0_2 ).mono ?_
  · repeat (first | exact Below.refl _ _ | refine Below.alloc ?_ (by first | omega | (simp; done) | (simp; omega)) _)
  · repeat (first | exact Below.refl _ _ | refine Below.alloc ?_ (by first | omega | (simp; done) | (simp; omega)) _)
  rintro e w19 ⟨cs_h0, bs_h0, rfl, hO0, hb⟩
  have hz19 := hb.size; try simp at hz19
  have hp : Below w18.heap.size w18 w19 := below_call (by repeat (first | exact Below.refl _ _ | refine Below.alloc ?_ (by first | omega | (simp; done) | (simp; omega)) _)) hb
  replace B_0 : Box w19 (w.heap.size) #[.slice a0_0 l0_0 k0_0] := Box.below hb (by first | omega | (simp; done) | (simp; omega)) (by repeat (first | exact B_0 | (apply boxN; (focus (first | omega | (simp; done) | (simp; omega)))) | (apply Box.alloc; rotate_left; (focus (first | omega | (simp; done) | (simp; omega))))))
  replace L_0 : w.heap.size < w19.heap.size := (by first | omega | (simp; done) | (simp; omega))
  replace B_w0 : Box w19 (w4.heap.size) #[.slice a0_w0 l0_w0 k0_w0] := Box.below hb (by first | omega | (simp; done) | (simp; omega)) (by repeat (first | exact B_w0 | (apply boxN; (focus (first | omega | (simp; done) | (simp; omega)))) | (apply Box.alloc; rotate_left; (focus (first | omega | (simp; done) | (simp; omega))))))
  replace L_w0 : w4.heap.size < w19.heap.size := (by first | omega | (simp; done) | (simp; omega))
  replace B_x0 : Box w19 (w5.heap.size) #[.slice a0_x0 l0_x0 k0_x0] := Box.below hb (by first | omega | (simp; done) | (simp; omega)) (by repeat (first | exact B_x0 | (apply boxN; (focus (first | omega | (simp; done) | (simp; omega)))) | (apply Box.alloc; rotate_left; (focus (first | omega | (simp; done) | (simp; omega))))))
  replace L_x0 : w5.heap.size < w19.heap.size := (by first | omega | (simp; done) | (simp; omega))
  replace B_g0 : Box w19 (w7.heap.size) #[.slice a0_g0 l0_g0 k0_g0] := Box.below hb (by first | omega | (simp; done) | (simp; omega)) (by repeat (first | exact B_g0 | (apply boxN; (focus (first | omega | (simp; done) | (simp; omega)))) | (apply Box.alloc; rotate_left; (focus (first | omega | (simp; done) | (simp; omega))))))
  replace L_g0 : w7.heap.size < w19.heap.size := (by first | omega | (simp; done) | (simp; omega))
  replace P0_w0 := hid (P0_w0.out.grow hp)
  replace P0_x0 := hid (P0_x0.out.grow hp)
  replace P0_x1 := hid (P0_x1.out.grow hp)
  replace P0_g0 := hid (P0_g0.out.grow hp)
  replace P0_t50 := hid (P0_t50.out.grow hp)
  replace P0_t51 := hid (P0_t51.out.grow hp)
  replace Hb := hid (Hb.out.trans (hp.mono Hb.out.size))
  obtain ⟨a0_h0, l0_h0, k0_h0, rfl, h0_h0⟩ := open_Ring hO0.1
  have P0_h0 := hid (parts_Ring hO0 h0_h0)
  have R0_h0 : Hid (∀ x ∈ bs_h0, w18.heap.size ≤ x ∧ x < w19.heap.size) := hid (fun x hx => by have := P0_h0.out.lts x hx; refine ⟨?_, this.2⟩; have := this.1; first | omega | (simp at this; omega))
  clear hb hp
  try unfold Box at B_0
  try unfold Box at B_w0
  try unfold Box at B_x0
  try unfold Box at B_g0
  go_wp2_with fail
  refine (eqRing (mk_Ring (d := (ringPut d_0 d_1 d_2)) (Slc.grow P0_h0.out.slc ?_)) (mk_Ring (d := (ringPut d_0 d_1 d_2)) (Slc.grow P0_w0.out.slc ?_))).mono ?_
  · repeat (first | exact Below.refl _ _ | refine Below.alloc ?_ (by first | omega | (simp; done) | (simp; omega)) _)
  · repeat (first | exact Below.refl _ _ | refine Below.alloc ?_ (by first | omega | (simp; done) | (simp; omega)) _)
  rintro e w20 ⟨rfl, hb⟩
  have hz20 := hb.size; try simp at hz20
  have hp : Below w19.heap.size w19 w20 := below_call (by repeat (first | exact Below.refl _ _ | refine Below.alloc ?_ (by first | omega | (simp; done) | (simp; omega)) _)) hb
  replace B_0 : Box w20 (w.heap.size) #[.slice a0_0 l0_0 k0_0] := Box.below hb (by first | omega | (simp; done) | (simp; omega)) (by repeat (first | exact B_0 | (apply boxN; (focus (first | omega | (simp; done) | (simp; omega)))) | (apply Box.alloc; rotate_left; (focus (first | omega | (simp; done) | (simp; omega))))))
  replace L_0 : w.heap.size < w20.heap.size := (by first | omega | (simp; done) | (simp; omega))
  replace B_w0 : Box w20 (w4.heap.size) #[.slice a0_w0 l0_w0 k0_w0] := Box.below hb (by first | omega | (simp; done) | (simp; omega)) (by repeat (first | exact B_w0 | (apply boxN; (focus (first | omega | (simp; done) | (simp; omega)))) | (apply Box.alloc; rotate_left; (focus (first | omega | (simp; done) | (simp; omega))))))
  replace L_w0 : w4.heap.size < w20.heap.size := (by first | omega | (simp; done) | (simp; omega))
  replace B_x0 : Box w20 (w5.heap.size) #[.slice a0_x0 l0_x0 k0_x0] := Box.below hb (by first | omega | (simp; done) | (simp; omega)) (by repeat (first | exact B_x0 | (apply boxN; (focus (first | omega | (simp; done) | (simp; omega)))) | (apply Box.alloc; rotate_left; (focus (first | omega | (simp; done) | (simp; omega))))))
  replace L_x0 : w5.heap.size < w20.heap.size := (by first | omega | (simp; done) | (simp; omega))
  replace B_g0 : Box w20 (w7.heap.size) #[.slice a0_g0 l0_g0 k0_g0] := Box.below hb (by first | omega | (simp; done) | (simp; omega)) (by repeat (first | exact B_g0 | (apply boxN; (focus (first | omega | (simp; done) | (simp; omega)))) | (apply Box.alloc; rotate_left; (focus (first | omega | (simp; done) | (simp; omega))))))
  replace L_g0 : w7.heap.size < w20.heap.size := (by first | omega | (simp; done) | (simp; omega))
  have B_h0 : Box w20 (w19.heap.size) #[.slice a0_h0 l0_h0 k0_h0] := Box.below hb (by first | omega | (simp; done) | (simp; omega)) (by repeat (first | exact B_h0 | (apply boxN; (focus (first | omega | (simp; done) | (simp; omega)))) | (apply Box.alloc; rotate_left; (focus (first | omega | (simp; done) | (simp; omega))))))
  have L_h0 : w19.heap.size < w20.heap.size := (by first | omega | (simp; done) | (simp; omega))
  replace P0_w0 := hid (P0_w0.out.grow hp)
  replace P0_x0 := hid (P0_x0.out.grow hp)
  replace P0_x1 := hid (P0_x1.out.grow hp)
  replace P0_g0 := hid (P0_g0.out.grow hp)
  replace P0_h0 := hid (P0_h0.out.grow hp)
  replace Hb := hid (Hb.out.trans (hp.mono Hb.out.size))
  clear hb hp
  try unfold Box at B_0
  try unfold Box at B_w0
  try unfold Box at B_x0
  try unfold Box at B_g0
  try unfold Box at B_h0
  try unfold Box at B_0
  try unfold Box at B_w0
  try unfold Box at B_x0
  try unfold Box at B_g0
  try unfold Box at B_h0
  go_wp2_with fail
  refine (heldRing (d := (ringPut d_0 d_1 d_2)) (1) (mk_Ring (d := (((ringPut d_0 d_1 d_2)).mkv (1))) (Slc.grow P0_g0.out.slc ?_)) (by have := HK_g0.out; omega)).mono ?_
  · repeat (first | exact Below.refl _ _ | refine Below.alloc ?_ (by first | omega | (simp; done) | (simp; omega)) _)
  rintro e w21 ⟨rfl, hb⟩
  have hz21 := hb.size; try simp at hz21
  have hp : Below w20.heap.size w20 w21 := below_call (by repeat (first | exact Below.refl _ _ | refine Below.alloc ?_ (by first | omega | (simp; done) | (simp; omega)) _)) hb
  replace B_0 : Box w21 (w.heap.size) #[.slice a0_0 l0_0 k0_0] := Box.below hb (by first | omega | (simp; done) | (simp; omega)) (by repeat (first | exact B_0 | (apply boxN; (focus (first | omega | (simp; done) | (simp; omega)))) | (apply Box.alloc; rotate_left; (focus (first | omega | (simp; done) | (simp; omega))))))
  replace L_0 : w.heap.size < w21.heap.size := (by first | omega | (simp; done) | (simp; omega))
  replace B_w0 : Box w21 (w4.heap.size) #[.slice a0_w0 l0_w0 k0_w0] := Box.below hb (by first | omega | (simp; done) | (simp; omega)) (by repeat (first | exact B_w0 | (apply boxN; (focus (first | omega | (simp; done) | (simp; omega)))) | (apply Box.alloc; rotate_left; (focus (first | omega | (simp; done) | (simp; omega))))))
  replace L_w0 : w4.heap.size < w21.heap.size := (by first | omega | (simp; done) | (simp; omega))
  replace B_x0 : Box w21 (w5.heap.size) #[.slice a0_x0 l0_x0 k0_x0] := Box.below hb (by first | omega | (simp; done) | (simp; omega)) (by repeat (first | exact B_x0 | (apply boxN; (focus (first | omega | (simp; done) | (simp; omega)))) | (apply Box.alloc; rotate_left; (focus (first | omega | (simp; done) | (simp; omega))))))
  replace L_x0 : w5.heap.size < w21.heap.size := (by first | omega | (simp; done) | (simp; omega))
  replace B_g0 : Box w21 (w7.heap.size) #[.slice a0_g0 l0_g0 k0_g0] := Box.below hb (by first | omega | (simp; done) | (simp; omega)) (by repeat (first | exact B_g0 | (apply boxN; (focus (first | omega | (simp; done) | (simp; omega)))) | (apply Box.alloc; rotate_left; (focus (first | omega | (simp; done) | (simp; omega))))))
  replace L_g0 : w7.heap.size < w21.heap.size := (by first | omega | (simp; done) | (simp; omega))
  replace B_h0 : Box w21 (w19.heap.size) #[.slice a0_h0 l0_h0 k0_h0] := Box.below hb (by first | omega | (simp; done) | (simp; omega)) (by repeat (first | exact B_h0 | (apply boxN; (focus (first | omega | (simp; done) | (simp; omega)))) | (apply Box.alloc; rotate_left; (focus (first | omega | (simp; done) | (simp; omega))))))
  replace L_h0 : w19.heap.size < w21.heap.size := (by first | omega | (simp; done) | (simp; omega))
  replace P0_w0 := hid (P0_w0.out.grow hp)
  replace P0_x0 := hid (P0_x0.out.grow hp)
  replace P0_x1 := hid (P0_x1.out.grow hp)
  replace P0_g0 := hid (P0_g0.out.grow hp)
  replace P0_h0 := hid (P0_h0.out.grow hp)
  replace Hb := hid (Hb.out.trans (hp.mono Hb.out.size))
  clear hb hp
  try unfold Box at B_0
  try unfold Box at B_w0
  try unfold Box at B_x0
  try unfold Box at B_g0
  try unfold Box at B_h0
  try unfold Box at B_0
  try unfold Box at B_w0
  try unfold Box at B_x0
  try unfold Box at B_g0
  try unfold Box at B_h0
  try unfold Box at B_0
  try unfold Box at B_w0
  try unfold Box at B_x0
  try unfold Box at B_g0
  try unfold Box at B_h0
  go_wp2
  go_ret
  exact ⟨rfl, Hb.out⟩
end Go.Proofs.Ytgcdgkiefbbhkaa
