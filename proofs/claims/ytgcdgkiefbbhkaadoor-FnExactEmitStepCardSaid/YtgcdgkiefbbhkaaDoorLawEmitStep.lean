/- The law on EmitStep. -/
import Derived.Test.YtgcdgkiefbbhkaaDoorHelpT
import Derived.Test.YtgcdgkiefbbhkaaDoorStepJ
import Derived.Test.YtgcdgkiefbbhkaaDoorStepT
import Derived.Deep.RegionHeld3
import Derived.Deep.DeepCutAuto
set_option linter.unusedSimpArgs false
set_option linter.unusedVariables false
namespace Go.Proofs.YtgcdgkiefbbhkaaDoor
open Go.RowKit Go.G6
set_option maxRecDepth 10000
theorem boxN {w : World} {b : Nat} {c : Array Value} {t : TypeId} (hb : b = w.heap.size) : Box (w.alloc (.cells c t)) b c := by subst hb; exact box_new _ _ _
set_option maxHeartbeats 4000000 in
theorem lawEmitStep {w : World} {bs_0 : List Nat} {cs_0 : List Value} {d_0 : GridD} (g_0 : Rep.pt w bs_0 cs_0 d_0) (d_1 : Int) (h0_1 : I64 d_1) (d_2 : Int) (h0_2 : I64 d_2) (ht : Lib.TabIs Tryd.prog w "internal/strconv.uint64pow10" .u64 Lib.pow10Tab) :
    Calls Tryd.prog 6 #[.agg cs_0.toArray, .int .i64 d_1, .int .i64 d_2] w fun e w' => e = .returned (.bool true) ∧ Below w.heap.size w w' := by
  have G_0 := hid g_0
  obtain ⟨a2_0, l2_0, k2_0, rfl, h0_0, h1_0, h2_0, h3_0, h4_0⟩ := open_Grid g_0
  clear g_0
  have HT := hid ht; clear ht
  go_enter Tryd.func6, Tryd.ntmps6
  have Hb : Hid (Below w.heap.size w w) := hid (Below.refl _ _)
  go_wp2_with fail
  refine (szGrid (1048576) (grow G_0.out ?_) (by omega) (by omega)).mono ?_
  · (repeat (first | exact Hb.out | refine Below.alloc ?_ (by have := Hb.out.size; first | omega | (simp; done) | (simp; omega)) _))
  rintro e w1 ⟨rfl, hb⟩
  have hz1 := hb.size; try simp at hz1
  have hp : Below w.heap.size w w1 := below_call (by repeat (first | exact Below.refl _ _ | refine Below.alloc ?_ (by first | omega | (simp; done) | (simp; omega)) _)) hb
  have B_0 : Box w1 (w.heap.size) #[.int .i64 d_0.W, .int .i64 d_0.H, .slice a2_0 l2_0 k2_0, .int .i64 d_0.X, .int .i64 d_0.Y, .bool d_0.Wrap] := Box.below hb (by first | omega | (simp; done) | (simp; omega)) (by repeat (first | exact B_0 | (apply boxN; (focus (first | omega | (simp; done) | (simp; omega)))) | (apply Box.alloc; rotate_left; (focus (first | omega | (simp; done) | (simp; omega))))))
  have L_0 : w.heap.size < w1.heap.size := (by first | omega | (simp; done) | (simp; omega))
  replace Hb := hid (Hb.out.trans (hp.mono Hb.out.size))
  clear hb hp
  by_cases hn_0 : (Cnt.cnt d_0 : Int) ≤ 1048576
  rotate_left
  · rw [szr_neg (by omega)]
    go_wp2
    go_ret
    exact ⟨rfl, Hb.out⟩
  rw [szr_pos hn_0]
  have HN_0 : Hid (Cnt.cnt d_0 ≤ 1048576) := hid (by omega)
  try unfold Box at B_0
  go_wp2_with fail
  refine (toGrid (grow G_0.out ?_) (by have := HN_0.out; first | omega | (simp only [cnt_ints, cnt_bytes] at this; omega))).mono ?_
  · (repeat (first | exact Hb.out | refine Below.alloc ?_ (by have := Hb.out.size; first | omega | (simp; done) | (simp; omega)) _))
  rintro e w2 ⟨cs_t10, bs_t10, rfl, hO, hb⟩
  have hz2 := hb.size; try simp at hz2
  have hp : Below w1.heap.size w1 w2 := below_call (by repeat (first | exact Below.refl _ _ | refine Below.alloc ?_ (by first | omega | (simp; done) | (simp; omega)) _)) hb
  replace B_0 : Box w2 (w.heap.size) #[.int .i64 d_0.W, .int .i64 d_0.H, .slice a2_0 l2_0 k2_0, .int .i64 d_0.X, .int .i64 d_0.Y, .bool d_0.Wrap] := Box.below hb (by first | omega | (simp; done) | (simp; omega)) (by repeat (first | exact B_0 | (apply boxN; (focus (first | omega | (simp; done) | (simp; omega)))) | (apply Box.alloc; rotate_left; (focus (first | omega | (simp; done) | (simp; omega))))))
  replace L_0 : w.heap.size < w2.heap.size := (by first | omega | (simp; done) | (simp; omega))
  replace Hb := hid (Hb.out.trans (hp.mono Hb.out.size))
  obtain ⟨a2_t10, l2_t10, k2_t10, rfl, h0_t10, h1_t10, h2_t10, h3_t10, h4_t10⟩ := open_Grid hO.1
  have P2_t10 := hid (parts_Grid hO h2_t10)
  have R2_t10 : Hid (∀ x ∈ bs_t10, w1.heap.size ≤ x ∧ x < w2.heap.size) := hid (fun x hx => by have := P2_t10.out.lts x hx; refine ⟨?_, this.2⟩; have := this.1; first | omega | (simp at this; omega))
  clear hb hp hO
  try unfold Box at B_0
  go_wp2_with fail
  refine (s_EmitStep (mk_Grid (d := d_0) h0_t10 h1_t10 (Slc.grow P2_t10.out.slc ?_) h3_t10 h4_t10) d_1 h0_1 d_2 h0_2 ).mono ?_
  · repeat (first | exact Below.refl _ _ | refine Below.alloc ?_ (by first | omega | (simp; done) | (simp; omega)) _)
  rintro e w3 ⟨a0_w0, l0_w0, k0_w0, bs_w0, rfl, hO0, hb⟩
  have hz3 := hb.size; try simp at hz3
  have hp : Below w2.heap.size w2 w3 := below_call (by repeat (first | exact Below.refl _ _ | refine Below.alloc ?_ (by first | omega | (simp; done) | (simp; omega)) _)) hb
  replace B_0 : Box w3 (w.heap.size) #[.int .i64 d_0.W, .int .i64 d_0.H, .slice a2_0 l2_0 k2_0, .int .i64 d_0.X, .int .i64 d_0.Y, .bool d_0.Wrap] := Box.below hb (by first | omega | (simp; done) | (simp; omega)) (by repeat (first | exact B_0 | (apply boxN; (focus (first | omega | (simp; done) | (simp; omega)))) | (apply Box.alloc; rotate_left; (focus (first | omega | (simp; done) | (simp; omega))))))
  replace L_0 : w.heap.size < w3.heap.size := (by first | omega | (simp; done) | (simp; omega))
  replace P2_t10 := hid (P2_t10.out.grow hp)
  replace Hb := hid (Hb.out.trans (hp.mono Hb.out.size))
  have P0_w0 := hid (pt_slice.1 hO0)
  have R0_w0 : Hid (∀ x ∈ bs_w0, 0 ≤ x ∧ x < w3.heap.size) := hid (fun x hx => by have := P0_w0.out.lts x hx; exact this)
  clear hb hp
  try unfold Box at B_0
  go_wp2_with fail
  refine (toGrid (grow G_0.out ?_) (by have := HN_0.out; first | omega | (simp only [cnt_ints, cnt_bytes] at this; omega))).mono ?_
  · (repeat (first | exact Hb.out | refine Below.alloc ?_ (by have := Hb.out.size; first | omega | (simp; done) | (simp; omega)) _))
  rintro e w4 ⟨cs_x0, bs_x0, rfl, hO, hb⟩
  have hz4 := hb.size; try simp at hz4
  have hp : Below w3.heap.size w3 w4 := below_call (by repeat (first | exact Below.refl _ _ | refine Below.alloc ?_ (by first | omega | (simp; done) | (simp; omega)) _)) hb
  replace B_0 : Box w4 (w.heap.size) #[.int .i64 d_0.W, .int .i64 d_0.H, .slice a2_0 l2_0 k2_0, .int .i64 d_0.X, .int .i64 d_0.Y, .bool d_0.Wrap] := Box.below hb (by first | omega | (simp; done) | (simp; omega)) (by repeat (first | exact B_0 | (apply boxN; (focus (first | omega | (simp; done) | (simp; omega)))) | (apply Box.alloc; rotate_left; (focus (first | omega | (simp; done) | (simp; omega))))))
  replace L_0 : w.heap.size < w4.heap.size := (by first | omega | (simp; done) | (simp; omega))
  replace P0_w0 := hid (P0_w0.out.grow hp)
  replace Hb := hid (Hb.out.trans (hp.mono Hb.out.size))
  obtain ⟨a2_x0, l2_x0, k2_x0, rfl, h0_x0, h1_x0, h2_x0, h3_x0, h4_x0⟩ := open_Grid hO.1
  have P2_x0 := hid (parts_Grid hO h2_x0)
  have R2_x0 : Hid (∀ x ∈ bs_x0, w3.heap.size ≤ x ∧ x < w4.heap.size) := hid (fun x hx => by have := P2_x0.out.lts x hx; refine ⟨?_, this.2⟩; have := this.1; first | omega | (simp at this; omega))
  clear hb hp hO
  try unfold Box at B_0
  go_wp2_with fail
  refine (i_EmitStep (mk_Grid (d := d_0) h0_x0 h1_x0 (Slc.grow P2_x0.out.slc ?_) h3_x0 h4_x0) d_1 h0_1 d_2 h0_2 (tab_below HT.out (by repeat (first | exact Hb.out | refine Below.alloc ?_ (by have := Hb.out.size; first | omega | (simp; done) | (simp; omega)) _)))).mono ?_
  · repeat (first | exact Below.refl _ _ | refine Below.alloc ?_ (by first | omega | (simp; done) | (simp; omega)) _)
  rintro e w5 ⟨a0_g0, l0_g0, k0_g0, bs_g0, rfl, hO0, hb⟩
  have hz5 := hb.size; try simp at hz5
  have hp : Below w4.heap.size w4 w5 := below_call (by repeat (first | exact Below.refl _ _ | refine Below.alloc ?_ (by first | omega | (simp; done) | (simp; omega)) _)) hb
  replace B_0 : Box w5 (w.heap.size) #[.int .i64 d_0.W, .int .i64 d_0.H, .slice a2_0 l2_0 k2_0, .int .i64 d_0.X, .int .i64 d_0.Y, .bool d_0.Wrap] := Box.below hb (by first | omega | (simp; done) | (simp; omega)) (by repeat (first | exact B_0 | (apply boxN; (focus (first | omega | (simp; done) | (simp; omega)))) | (apply Box.alloc; rotate_left; (focus (first | omega | (simp; done) | (simp; omega))))))
  replace L_0 : w.heap.size < w5.heap.size := (by first | omega | (simp; done) | (simp; omega))
  have B_x0 : Box w5 (w4.heap.size) #[.int .i64 d_0.W, .int .i64 d_0.H, .slice a2_x0 l2_x0 k2_x0, .int .i64 d_0.X, .int .i64 d_0.Y, .bool d_0.Wrap] := Box.below hb (by first | omega | (simp; done) | (simp; omega)) (by repeat (first | exact B_x0 | (apply boxN; (focus (first | omega | (simp; done) | (simp; omega)))) | (apply Box.alloc; rotate_left; (focus (first | omega | (simp; done) | (simp; omega))))))
  have L_x0 : w4.heap.size < w5.heap.size := (by first | omega | (simp; done) | (simp; omega))
  replace P0_w0 := hid (P0_w0.out.grow hp)
  replace P2_x0 := hid (P2_x0.out.grow hp)
  replace Hb := hid (Hb.out.trans (hp.mono Hb.out.size))
  have P0_g0 := hid hO0
  have R0_g0 : Hid (∀ x ∈ bs_g0, w4.heap.size + 1 ≤ x ∧ x < w5.heap.size) := hid (fun x hx => by have := P0_g0.out.lts x hx; refine ⟨?_, this.2⟩; have := this.1; first | omega | (simp at this; omega))
  clear hb hp
  try unfold Box at B_0
  try unfold Box at B_x0
  go_wp2_with fail
  refine (eqByteS (Slc.grow P0_g0.out.slc ?_) (Slc.grow P0_w0.out ?_)).mono ?_
  · repeat (first | exact Below.refl _ _ | refine Below.alloc ?_ (by first | omega | (simp; done) | (simp; omega)) _)
  · repeat (first | exact Below.refl _ _ | refine Below.alloc ?_ (by first | omega | (simp; done) | (simp; omega)) _)
  rintro e w6 ⟨rfl, hb⟩
  have hz6 := hb.size; try simp at hz6
  have hp : Below w5.heap.size w5 w6 := below_call (by repeat (first | exact Below.refl _ _ | refine Below.alloc ?_ (by first | omega | (simp; done) | (simp; omega)) _)) hb
  replace B_0 : Box w6 (w.heap.size) #[.int .i64 d_0.W, .int .i64 d_0.H, .slice a2_0 l2_0 k2_0, .int .i64 d_0.X, .int .i64 d_0.Y, .bool d_0.Wrap] := Box.below hb (by first | omega | (simp; done) | (simp; omega)) (by repeat (first | exact B_0 | (apply boxN; (focus (first | omega | (simp; done) | (simp; omega)))) | (apply Box.alloc; rotate_left; (focus (first | omega | (simp; done) | (simp; omega))))))
  replace L_0 : w.heap.size < w6.heap.size := (by first | omega | (simp; done) | (simp; omega))
  replace B_x0 : Box w6 (w4.heap.size) #[.int .i64 d_0.W, .int .i64 d_0.H, .slice a2_x0 l2_x0 k2_x0, .int .i64 d_0.X, .int .i64 d_0.Y, .bool d_0.Wrap] := Box.below hb (by first | omega | (simp; done) | (simp; omega)) (by repeat (first | exact B_x0 | (apply boxN; (focus (first | omega | (simp; done) | (simp; omega)))) | (apply Box.alloc; rotate_left; (focus (first | omega | (simp; done) | (simp; omega))))))
  replace L_x0 : w4.heap.size < w6.heap.size := (by first | omega | (simp; done) | (simp; omega))
  replace P0_w0 := hid (P0_w0.out.grow hp)
  replace P2_x0 := hid (P2_x0.out.grow hp)
  replace P0_g0 := hid (P0_g0.out.grow hp)
  replace Hb := hid (Hb.out.trans (hp.mono Hb.out.size))
  clear hb hp
  try unfold Box at B_0
  try unfold Box at B_x0
  try unfold Box at B_0
  try unfold Box at B_x0
  go_wp2_with fail
  go_region_held3 (fun W => Below w6.heap.size w6 W ∧ (∀ o, W.cell? ⟨w.heap.size, o, none⟩ = (#[.int .i64 d_0.W, .int .i64 d_0.H, .slice a2_0 l2_0 k2_0, .int .i64 d_0.X, .int .i64 d_0.Y, .bool d_0.Wrap] : Array Value)[o]?) ∧ (∀ o, W.cell? ⟨w4.heap.size, o, none⟩ = (#[.int .i64 d_0.W, .int .i64 d_0.H, .slice a2_x0 l2_x0 k2_x0, .int .i64 d_0.X, .int .i64 d_0.Y, .bool d_0.Wrap] : Array Value)[o]?)) (first | exact ⟨(Below.refl _ _).drew, B_0, B_x0⟩ | (go_split_ands; exact ⟨Below.trans (by assumption) (Below.mono hb2 (Below.size (by assumption))), keep_box hb2 (by assumption) (by assumption) (by omega), keep_box hb2 (by assumption) (by assumption) (by omega)⟩) | (go_split_ands; exact ⟨Below.trans (by assumption) (Below.mono hb1 (Below.size (by assumption))), keep_box hb1 (by assumption) (by assumption) (by omega), keep_box hb1 (by assumption) (by assumption) (by omega)⟩)) (first | (go_at_call 20; refine (toGrid (grow G_0.out ?_) (by have := HN_0.out; first | omega | (simp only [cnt_ints, cnt_bytes] at this; omega))).mono ?_; (go_split_ands; exact Hb.out.trans (Below.mono (by assumption) Hb.out.size)); rintro e wa7 ⟨cs_e3, bs_e3, rfl, hO, hb1⟩; obtain ⟨a2_e3, l2_e3, k2_e3, rfl, h0_e3, h1_e3, h2_e3, h3_e3, h4_e3⟩ := open_Grid hO.1) | (go_at_call 22; refine (eqGrid (mk_Grid (d := d_0) h0_x0 h1_x0 (Slc.grow P2_x0.out.slc ?_) h3_x0 h4_x0) hO.1).mono ?_; (go_split_ands; exact (by assumption)); rintro e w7 ⟨rfl, hb2⟩))
  have hp : Below w6.heap.size w6 w7 := by go_split_ands; assumption
  have hz7 := hp.size; try simp at hz7
  replace B_0 : Box w7 (w.heap.size) #[.int .i64 d_0.W, .int .i64 d_0.H, .slice a2_0 l2_0 k2_0, .int .i64 d_0.X, .int .i64 d_0.Y, .bool d_0.Wrap] := Box.below hp (by omega) B_0
  replace L_0 : w.heap.size < w7.heap.size := by omega
  replace B_x0 : Box w7 (w4.heap.size) #[.int .i64 d_0.W, .int .i64 d_0.H, .slice a2_x0 l2_x0 k2_x0, .int .i64 d_0.X, .int .i64 d_0.Y, .bool d_0.Wrap] := Box.below hp (by omega) B_x0
  replace L_x0 : w4.heap.size < w7.heap.size := by omega
  replace P0_w0 := hid (P0_w0.out.grow hp)
  replace P2_x0 := hid (P2_x0.out.grow hp)
  replace P0_g0 := hid (P0_g0.out.grow hp)
  replace Hb := hid (Hb.out.trans (hp.mono Hb.out.size))
  clear hp hb1 hb2 hO
  try unfold Box at B_0
  try unfold Box at B_x0
  have HK_x0 : Hid (1 + (d_0).nkv ≤ topK) := hid (by have h_0 := HN_0.out; have k_0 := nkv_le_Grid d_0; unfold topK; omega)
  go_wp2_with fail
  refine (markGrid (d := d_0) P2_x0.out  (1) HK_x0.out).mono ?_
  rintro e w8 ⟨rfl, hO2, hT⟩
  have hz8 := hT.size
  replace B_0 : Box w8 (w.heap.size) #[.int .i64 d_0.W, .int .i64 d_0.H, .slice a2_0 l2_0 k2_0, .int .i64 d_0.X, .int .i64 d_0.Y, .bool d_0.Wrap] := Box.tch hT (by omega) (fun hm => by have := R2_x0.out _ hm; omega) B_0
  replace L_0 : w.heap.size < w8.heap.size := by omega
  replace B_x0 : Box w8 (w4.heap.size) #[.int .i64 d_0.W, .int .i64 d_0.H, .slice a2_x0 l2_x0 k2_x0, .int .i64 d_0.X, .int .i64 d_0.Y, .bool d_0.Wrap] := Box.tch hT (by omega) (fun hm => by have := R2_x0.out _ hm; omega) B_x0
  replace L_x0 : w4.heap.size < w8.heap.size := by omega
  replace P0_w0 := hid (P0_w0.out.tch hT (fun x hx hm => by have := R0_w0.out x hx; have := R2_x0.out x hm; omega))
  replace P0_g0 := hid (P0_g0.out.tch hT (fun x hx hm => by have := R0_g0.out x hx; have := R2_x0.out x hm; omega))
  replace Hb := hid (Hb.out.trans (hT.below Hb.out.size (fun x hm => by have := R2_x0.out x hm; omega)))
  replace P2_x0 := hid hO2
  clear hT hO2
  try unfold Box at B_0
  try unfold Box at B_x0
  go_wp2_with fail
  refine (eqByteS (Slc.grow P0_g0.out.slc ?_) (Slc.grow P0_w0.out ?_)).mono ?_
  · repeat (first | exact Below.refl _ _ | refine Below.alloc ?_ (by first | omega | (simp; done) | (simp; omega)) _)
  · repeat (first | exact Below.refl _ _ | refine Below.alloc ?_ (by first | omega | (simp; done) | (simp; omega)) _)
  rintro e w9 ⟨rfl, hb⟩
  have hz9 := hb.size; try simp at hz9
  have hp : Below w8.heap.size w8 w9 := below_call (by repeat (first | exact Below.refl _ _ | refine Below.alloc ?_ (by first | omega | (simp; done) | (simp; omega)) _)) hb
  replace B_0 : Box w9 (w.heap.size) #[.int .i64 d_0.W, .int .i64 d_0.H, .slice a2_0 l2_0 k2_0, .int .i64 d_0.X, .int .i64 d_0.Y, .bool d_0.Wrap] := Box.below hb (by first | omega | (simp; done) | (simp; omega)) (by repeat (first | exact B_0 | (apply boxN; (focus (first | omega | (simp; done) | (simp; omega)))) | (apply Box.alloc; rotate_left; (focus (first | omega | (simp; done) | (simp; omega))))))
  replace L_0 : w.heap.size < w9.heap.size := (by first | omega | (simp; done) | (simp; omega))
  replace B_x0 : Box w9 (w4.heap.size) #[.int .i64 d_0.W, .int .i64 d_0.H, .slice a2_x0 l2_x0 k2_x0, .int .i64 d_0.X, .int .i64 d_0.Y, .bool d_0.Wrap] := Box.below hb (by first | omega | (simp; done) | (simp; omega)) (by repeat (first | exact B_x0 | (apply boxN; (focus (first | omega | (simp; done) | (simp; omega)))) | (apply Box.alloc; rotate_left; (focus (first | omega | (simp; done) | (simp; omega))))))
  replace L_x0 : w4.heap.size < w9.heap.size := (by first | omega | (simp; done) | (simp; omega))
  replace P0_w0 := hid (P0_w0.out.grow hp)
  replace P2_x0 := hid (P2_x0.out.grow hp)
  replace P0_g0 := hid (P0_g0.out.grow hp)
  replace Hb := hid (Hb.out.trans (hp.mono Hb.out.size))
  clear hb hp
  try unfold Box at B_0
  try unfold Box at B_x0
  try unfold Box at B_0
  try unfold Box at B_x0
  have HK_g0 : Hid (1 + Mk.nE ((emitStep d_0 d_1 d_2)) ≤ topK) := hid (by have h2 := emitStep_len d_0 d_1 d_2; rw [show Mk.nE (emitStep d_0 d_1 d_2) = (emitStep d_0 d_1 d_2).length from nL_const _ _ fun _ => rfl]; unfold topK; omega)
  go_wp2_with fail
  refine (markByteS P0_g0.out (1) HK_g0.out).mono ?_
  rintro e w10 ⟨rfl, hO0, hT⟩
  have hz10 := hT.size
  replace B_0 : Box w10 (w.heap.size) #[.int .i64 d_0.W, .int .i64 d_0.H, .slice a2_0 l2_0 k2_0, .int .i64 d_0.X, .int .i64 d_0.Y, .bool d_0.Wrap] := Box.tch hT (by omega) (fun hm => by have := R0_g0.out _ hm; omega) B_0
  replace L_0 : w.heap.size < w10.heap.size := by omega
  replace B_x0 : Box w10 (w4.heap.size) #[.int .i64 d_0.W, .int .i64 d_0.H, .slice a2_x0 l2_x0 k2_x0, .int .i64 d_0.X, .int .i64 d_0.Y, .bool d_0.Wrap] := Box.tch hT (by omega) (fun hm => by have := R0_g0.out _ hm; omega) B_x0
  replace L_x0 : w4.heap.size < w10.heap.size := by omega
  replace P0_w0 := hid (P0_w0.out.tch hT (fun x hx hm => by have := R0_w0.out x hx; have := R0_g0.out x hm; omega))
  replace P2_x0 := hid (P2_x0.out.tch hT (fun x hx hm => by have := R2_x0.out x hx; have := R0_g0.out x hm; omega))
  replace Hb := hid (Hb.out.trans (hT.below Hb.out.size (fun x hm => by have := R0_g0.out x hm; omega)))
  replace P0_g0 := hid hO0
  clear hT hO0
  try unfold Box at B_0
  try unfold Box at B_x0
  go_wp2_with fail
  refine (heldByteS (xs := (emitStep d_0 d_1 d_2)) (1) (Slc.grow P0_g0.out.slc ?_) (by have := HK_g0.out; omega)).mono ?_
  · repeat (first | exact Below.refl _ _ | refine Below.alloc ?_ (by first | omega | (simp; done) | (simp; omega)) _)
  rintro e w11 ⟨rfl, hb⟩
  have hz11 := hb.size; try simp at hz11
  have hp : Below w10.heap.size w10 w11 := below_call (by repeat (first | exact Below.refl _ _ | refine Below.alloc ?_ (by first | omega | (simp; done) | (simp; omega)) _)) hb
  replace B_0 : Box w11 (w.heap.size) #[.int .i64 d_0.W, .int .i64 d_0.H, .slice a2_0 l2_0 k2_0, .int .i64 d_0.X, .int .i64 d_0.Y, .bool d_0.Wrap] := Box.below hb (by first | omega | (simp; done) | (simp; omega)) (by repeat (first | exact B_0 | (apply boxN; (focus (first | omega | (simp; done) | (simp; omega)))) | (apply Box.alloc; rotate_left; (focus (first | omega | (simp; done) | (simp; omega))))))
  replace L_0 : w.heap.size < w11.heap.size := (by first | omega | (simp; done) | (simp; omega))
  replace B_x0 : Box w11 (w4.heap.size) #[.int .i64 d_0.W, .int .i64 d_0.H, .slice a2_x0 l2_x0 k2_x0, .int .i64 d_0.X, .int .i64 d_0.Y, .bool d_0.Wrap] := Box.below hb (by first | omega | (simp; done) | (simp; omega)) (by repeat (first | exact B_x0 | (apply boxN; (focus (first | omega | (simp; done) | (simp; omega)))) | (apply Box.alloc; rotate_left; (focus (first | omega | (simp; done) | (simp; omega))))))
  replace L_x0 : w4.heap.size < w11.heap.size := (by first | omega | (simp; done) | (simp; omega))
  replace P0_w0 := hid (P0_w0.out.grow hp)
  replace P2_x0 := hid (P2_x0.out.grow hp)
  replace P0_g0 := hid (P0_g0.out.grow hp)
  replace Hb := hid (Hb.out.trans (hp.mono Hb.out.size))
  clear hb hp
  try unfold Box at B_0
  try unfold Box at B_x0
  try unfold Box at B_0
  try unfold Box at B_x0
  try unfold Box at B_0
  try unfold Box at B_x0
  go_wp2_with fail
  refine (toGrid (grow G_0.out ?_) (by have := HN_0.out; first | omega | (simp only [cnt_ints, cnt_bytes] at this; omega))).mono ?_
  · (repeat (first | exact Hb.out | refine Below.alloc ?_ (by have := Hb.out.size; first | omega | (simp; done) | (simp; omega)) _))
  rintro e w12 ⟨cs_t40, bs_t40, rfl, hO, hb⟩
  have hz12 := hb.size; try simp at hz12
  have hp : Below w11.heap.size w11 w12 := below_call (by repeat (first | exact Below.refl _ _ | refine Below.alloc ?_ (by first | omega | (simp; done) | (simp; omega)) _)) hb
  replace B_0 : Box w12 (w.heap.size) #[.int .i64 d_0.W, .int .i64 d_0.H, .slice a2_0 l2_0 k2_0, .int .i64 d_0.X, .int .i64 d_0.Y, .bool d_0.Wrap] := Box.below hb (by first | omega | (simp; done) | (simp; omega)) (by repeat (first | exact B_0 | (apply boxN; (focus (first | omega | (simp; done) | (simp; omega)))) | (apply Box.alloc; rotate_left; (focus (first | omega | (simp; done) | (simp; omega))))))
  replace L_0 : w.heap.size < w12.heap.size := (by first | omega | (simp; done) | (simp; omega))
  replace B_x0 : Box w12 (w4.heap.size) #[.int .i64 d_0.W, .int .i64 d_0.H, .slice a2_x0 l2_x0 k2_x0, .int .i64 d_0.X, .int .i64 d_0.Y, .bool d_0.Wrap] := Box.below hb (by first | omega | (simp; done) | (simp; omega)) (by repeat (first | exact B_x0 | (apply boxN; (focus (first | omega | (simp; done) | (simp; omega)))) | (apply Box.alloc; rotate_left; (focus (first | omega | (simp; done) | (simp; omega))))))
  replace L_x0 : w4.heap.size < w12.heap.size := (by first | omega | (simp; done) | (simp; omega))
  replace P0_w0 := hid (P0_w0.out.grow hp)
  replace P2_x0 := hid (P2_x0.out.grow hp)
  replace P0_g0 := hid (P0_g0.out.grow hp)
  replace Hb := hid (Hb.out.trans (hp.mono Hb.out.size))
  obtain ⟨a2_t40, l2_t40, k2_t40, rfl, h0_t40, h1_t40, h2_t40, h3_t40, h4_t40⟩ := open_Grid hO.1
  have P2_t40 := hid (parts_Grid hO h2_t40)
  have R2_t40 : Hid (∀ x ∈ bs_t40, w11.heap.size ≤ x ∧ x < w12.heap.size) := hid (fun x hx => by have := P2_t40.out.lts x hx; refine ⟨?_, this.2⟩; have := this.1; first | omega | (simp at this; omega))
  clear hb hp hO
  try unfold Box at B_0
  try unfold Box at B_x0
  go_wp2_with fail
  refine (i_EmitStep (mk_Grid (d := d_0) h0_t40 h1_t40 (Slc.grow P2_t40.out.slc ?_) h3_t40 h4_t40) d_1 h0_1 d_2 h0_2 (tab_below HT.out (by repeat (first | exact Hb.out | refine Below.alloc ?_ (by have := Hb.out.size; first | omega | (simp; done) | (simp; omega)) _)))).mono ?_
  · repeat (first | exact Below.refl _ _ | refine Below.alloc ?_ (by first | omega | (simp; done) | (simp; omega)) _)
  rintro e w13 ⟨a0_h0, l0_h0, k0_h0, bs_h0, rfl, hO0, hb⟩
  have hz13 := hb.size; try simp at hz13
  have hp : Below w12.heap.size w12 w13 := below_call (by repeat (first | exact Below.refl _ _ | refine Below.alloc ?_ (by first | omega | (simp; done) | (simp; omega)) _)) hb
  replace B_0 : Box w13 (w.heap.size) #[.int .i64 d_0.W, .int .i64 d_0.H, .slice a2_0 l2_0 k2_0, .int .i64 d_0.X, .int .i64 d_0.Y, .bool d_0.Wrap] := Box.below hb (by first | omega | (simp; done) | (simp; omega)) (by repeat (first | exact B_0 | (apply boxN; (focus (first | omega | (simp; done) | (simp; omega)))) | (apply Box.alloc; rotate_left; (focus (first | omega | (simp; done) | (simp; omega))))))
  replace L_0 : w.heap.size < w13.heap.size := (by first | omega | (simp; done) | (simp; omega))
  replace B_x0 : Box w13 (w4.heap.size) #[.int .i64 d_0.W, .int .i64 d_0.H, .slice a2_x0 l2_x0 k2_x0, .int .i64 d_0.X, .int .i64 d_0.Y, .bool d_0.Wrap] := Box.below hb (by first | omega | (simp; done) | (simp; omega)) (by repeat (first | exact B_x0 | (apply boxN; (focus (first | omega | (simp; done) | (simp; omega)))) | (apply Box.alloc; rotate_left; (focus (first | omega | (simp; done) | (simp; omega))))))
  replace L_x0 : w4.heap.size < w13.heap.size := (by first | omega | (simp; done) | (simp; omega))
  replace P0_w0 := hid (P0_w0.out.grow hp)
  replace P2_x0 := hid (P2_x0.out.grow hp)
  replace P0_g0 := hid (P0_g0.out.grow hp)
  replace P2_t40 := hid (P2_t40.out.grow hp)
  replace Hb := hid (Hb.out.trans (hp.mono Hb.out.size))
  have P0_h0 := hid hO0
  have R0_h0 : Hid (∀ x ∈ bs_h0, w12.heap.size ≤ x ∧ x < w13.heap.size) := hid (fun x hx => by have := P0_h0.out.lts x hx; refine ⟨?_, this.2⟩; have := this.1; first | omega | (simp at this; omega))
  clear hb hp
  try unfold Box at B_0
  try unfold Box at B_x0
  go_wp2_with fail
  refine (eqByteS (Slc.grow P0_h0.out.slc ?_) (Slc.grow P0_w0.out ?_)).mono ?_
  · repeat (first | exact Below.refl _ _ | refine Below.alloc ?_ (by first | omega | (simp; done) | (simp; omega)) _)
  · repeat (first | exact Below.refl _ _ | refine Below.alloc ?_ (by first | omega | (simp; done) | (simp; omega)) _)
  rintro e w14 ⟨rfl, hb⟩
  have hz14 := hb.size; try simp at hz14
  have hp : Below w13.heap.size w13 w14 := below_call (by repeat (first | exact Below.refl _ _ | refine Below.alloc ?_ (by first | omega | (simp; done) | (simp; omega)) _)) hb
  replace B_0 : Box w14 (w.heap.size) #[.int .i64 d_0.W, .int .i64 d_0.H, .slice a2_0 l2_0 k2_0, .int .i64 d_0.X, .int .i64 d_0.Y, .bool d_0.Wrap] := Box.below hb (by first | omega | (simp; done) | (simp; omega)) (by repeat (first | exact B_0 | (apply boxN; (focus (first | omega | (simp; done) | (simp; omega)))) | (apply Box.alloc; rotate_left; (focus (first | omega | (simp; done) | (simp; omega))))))
  replace L_0 : w.heap.size < w14.heap.size := (by first | omega | (simp; done) | (simp; omega))
  replace B_x0 : Box w14 (w4.heap.size) #[.int .i64 d_0.W, .int .i64 d_0.H, .slice a2_x0 l2_x0 k2_x0, .int .i64 d_0.X, .int .i64 d_0.Y, .bool d_0.Wrap] := Box.below hb (by first | omega | (simp; done) | (simp; omega)) (by repeat (first | exact B_x0 | (apply boxN; (focus (first | omega | (simp; done) | (simp; omega)))) | (apply Box.alloc; rotate_left; (focus (first | omega | (simp; done) | (simp; omega))))))
  replace L_x0 : w4.heap.size < w14.heap.size := (by first | omega | (simp; done) | (simp; omega))
  replace P0_w0 := hid (P0_w0.out.grow hp)
  replace P2_x0 := hid (P2_x0.out.grow hp)
  replace P0_g0 := hid (P0_g0.out.grow hp)
  replace P0_h0 := hid (P0_h0.out.grow hp)
  replace Hb := hid (Hb.out.trans (hp.mono Hb.out.size))
  clear hb hp
  try unfold Box at B_0
  try unfold Box at B_x0
  try unfold Box at B_0
  try unfold Box at B_x0
  go_wp2_with fail
  refine (heldByteS (xs := (emitStep d_0 d_1 d_2)) (1) (Slc.grow P0_g0.out.slc ?_) (by have := HK_g0.out; omega)).mono ?_
  · repeat (first | exact Below.refl _ _ | refine Below.alloc ?_ (by first | omega | (simp; done) | (simp; omega)) _)
  rintro e w15 ⟨rfl, hb⟩
  have hz15 := hb.size; try simp at hz15
  have hp : Below w14.heap.size w14 w15 := below_call (by repeat (first | exact Below.refl _ _ | refine Below.alloc ?_ (by first | omega | (simp; done) | (simp; omega)) _)) hb
  replace B_0 : Box w15 (w.heap.size) #[.int .i64 d_0.W, .int .i64 d_0.H, .slice a2_0 l2_0 k2_0, .int .i64 d_0.X, .int .i64 d_0.Y, .bool d_0.Wrap] := Box.below hb (by first | omega | (simp; done) | (simp; omega)) (by repeat (first | exact B_0 | (apply boxN; (focus (first | omega | (simp; done) | (simp; omega)))) | (apply Box.alloc; rotate_left; (focus (first | omega | (simp; done) | (simp; omega))))))
  replace L_0 : w.heap.size < w15.heap.size := (by first | omega | (simp; done) | (simp; omega))
  replace B_x0 : Box w15 (w4.heap.size) #[.int .i64 d_0.W, .int .i64 d_0.H, .slice a2_x0 l2_x0 k2_x0, .int .i64 d_0.X, .int .i64 d_0.Y, .bool d_0.Wrap] := Box.below hb (by first | omega | (simp; done) | (simp; omega)) (by repeat (first | exact B_x0 | (apply boxN; (focus (first | omega | (simp; done) | (simp; omega)))) | (apply Box.alloc; rotate_left; (focus (first | omega | (simp; done) | (simp; omega))))))
  replace L_x0 : w4.heap.size < w15.heap.size := (by first | omega | (simp; done) | (simp; omega))
  replace P0_w0 := hid (P0_w0.out.grow hp)
  replace P2_x0 := hid (P2_x0.out.grow hp)
  replace P0_g0 := hid (P0_g0.out.grow hp)
  replace P0_h0 := hid (P0_h0.out.grow hp)
  replace Hb := hid (Hb.out.trans (hp.mono Hb.out.size))
  clear hb hp
  try unfold Box at B_0
  try unfold Box at B_x0
  try unfold Box at B_0
  try unfold Box at B_x0
  try unfold Box at B_0
  try unfold Box at B_x0
  go_wp2
  go_ret
  exact ⟨rfl, Hb.out⟩
end Go.Proofs.YtgcdgkiefbbhkaaDoor
