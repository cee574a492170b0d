/- The law on HistAdd. -/
import Derived.Test.YtndhhongkigikaaHelpT
import Derived.Test.YtndhhongkigikaaHistS
import Derived.Deep.RegionHeld3
import Derived.Deep.DeepCutAuto
set_option linter.unusedSimpArgs false
set_option linter.unusedVariables false
namespace Go.Proofs.Ytndhhongkigikaa
open Go.RowKit Go.G6
set_option maxRecDepth 10000
theorem boxN {w : World} {b : Nat} {c : Array Value} {t : TypeId} (hb : b = w.heap.size) : Box (w.alloc (.cells c t)) b c := by subst hb; exact box_new _ _ _
set_option maxHeartbeats 4000000 in
theorem lawHistAdd {w : World} {bs_0 : List Nat} {cs_0 : List Value} {d_0 : HistD} (g_0 : Rep.pt w bs_0 cs_0 d_0) (d_1 : ByteArray) (h0_1 : d_1.size ≤ maxLen) :
    Calls Try.prog 8 #[.agg cs_0.toArray, .string d_1] w fun e w' => e = .returned (.bool true) ∧ Below w.heap.size w w' := by
  have G_0 := hid g_0
  obtain ⟨a1_0, l1_0, k1_0, rfl, h0_0, h1_0⟩ := open_Hist g_0
  clear g_0
  go_enter Try.func8, Try.ntmps8
  have Hb : Hid (Below w.heap.size w w) := hid (Below.refl _ _)
  by_cases hn_1 : (d_1.size : Int) ≤ 1048576
  rotate_left
  · go_wp2
    go_ret
    exact ⟨rfl, by repeat (first | exact Below.refl _ _ | refine Below.alloc ?_ (by first | omega | (simp; done) | (simp; omega)) _)⟩
  have HN_1 : Hid (d_1.size ≤ 1048576) := hid (by omega)
  go_wp2_with fail
  refine (szHist (1048576) (grow G_0.out ?_) (by omega) (by omega)).mono ?_
  · (repeat (first | exact Hb.out | refine Below.alloc ?_ (by have := Hb.out.size; first | omega | (simp; done) | (simp; omega)) _))
  rintro e w1 ⟨rfl, hb⟩
  have hz1 := hb.size; try simp at hz1
  have hp : Below w.heap.size w w1 := below_call (by repeat (first | exact Below.refl _ _ | refine Below.alloc ?_ (by first | omega | (simp; done) | (simp; omega)) _)) hb
  have B_0 : Box w1 (w.heap.size) #[.int .i64 d_0.First, .slice a1_0 l1_0 k1_0] := Box.below hb (by first | omega | (simp; done) | (simp; omega)) (by repeat (first | exact B_0 | (apply boxN; (focus (first | omega | (simp; done) | (simp; omega)))) | (apply Box.alloc; rotate_left; (focus (first | omega | (simp; done) | (simp; omega))))))
  have L_0 : w.heap.size < w1.heap.size := (by first | omega | (simp; done) | (simp; omega))
  replace Hb := hid (Hb.out.trans (hp.mono Hb.out.size))
  clear hb hp
  by_cases hn_0 : (Cnt.cnt d_0 : Int) ≤ 1048576
  rotate_left
  · rw [szr_neg (by omega)]
    go_wp2
    go_ret
    exact ⟨rfl, Hb.out⟩
  rw [szr_pos hn_0]
  have HN_0 : Hid (Cnt.cnt d_0 ≤ 1048576) := hid (by omega)
  try unfold Box at B_0
  go_wp2_with fail
  refine (toHist (grow G_0.out ?_) (by have := HN_0.out; first | omega | (simp only [cnt_ints, cnt_bytes] at this; omega))).mono ?_
  · (repeat (first | exact Hb.out | refine Below.alloc ?_ (by have := Hb.out.size; first | omega | (simp; done) | (simp; omega)) _))
  rintro e w2 ⟨cs_t10, bs_t10, rfl, hO, hb⟩
  have hz2 := hb.size; try simp at hz2
  have hp : Below w1.heap.size w1 w2 := below_call (by repeat (first | exact Below.refl _ _ | refine Below.alloc ?_ (by first | omega | (simp; done) | (simp; omega)) _)) hb
  replace B_0 : Box w2 (w.heap.size) #[.int .i64 d_0.First, .slice a1_0 l1_0 k1_0] := Box.below hb (by first | omega | (simp; done) | (simp; omega)) (by repeat (first | exact B_0 | (apply boxN; (focus (first | omega | (simp; done) | (simp; omega)))) | (apply Box.alloc; rotate_left; (focus (first | omega | (simp; done) | (simp; omega))))))
  replace L_0 : w.heap.size < w2.heap.size := (by first | omega | (simp; done) | (simp; omega))
  replace Hb := hid (Hb.out.trans (hp.mono Hb.out.size))
  obtain ⟨a1_t10, l1_t10, k1_t10, rfl, h0_t10, h1_t10⟩ := open_Hist hO.1
  have P1_t10 := hid (parts_Hist hO h1_t10)
  have R1_t10 : Hid (∀ x ∈ bs_t10, w1.heap.size ≤ x ∧ x < w2.heap.size) := hid (fun x hx => by have := P1_t10.out.lts x hx; refine ⟨?_, this.2⟩; have := this.1; first | omega | (simp at this; omega))
  clear hb hp hO
  try unfold Box at B_0
  go_wp2_with fail
  refine (s_HistAdd (mk_Hist (d := d_0) h0_t10 (Slc.grow P1_t10.out.slc ?_)) d_1 (by have := HN_1.out; unfold maxLen; omega) (by have h : Cnt.cnt d_0.Lines ≤ 1048576 := HN_0.out; exact Nat.le_trans (Nat.le_add_right _ _) h)).mono ?_
  · repeat (first | exact Below.refl _ _ | refine Below.alloc ?_ (by first | omega | (simp; done) | (simp; omega)) _)
  rintro e w3 ⟨cs_w0, bs_w0, rfl, hO0, hb⟩
  have hz3 := hb.size; try simp at hz3
  have hp : Below w2.heap.size w2 w3 := below_call (by repeat (first | exact Below.refl _ _ | refine Below.alloc ?_ (by first | omega | (simp; done) | (simp; omega)) _)) hb
  replace B_0 : Box w3 (w.heap.size) #[.int .i64 d_0.First, .slice a1_0 l1_0 k1_0] := Box.below hb (by first | omega | (simp; done) | (simp; omega)) (by repeat (first | exact B_0 | (apply boxN; (focus (first | omega | (simp; done) | (simp; omega)))) | (apply Box.alloc; rotate_left; (focus (first | omega | (simp; done) | (simp; omega))))))
  replace L_0 : w.heap.size < w3.heap.size := (by first | omega | (simp; done) | (simp; omega))
  replace P1_t10 := hid (P1_t10.out.grow hp)
  replace Hb := hid (Hb.out.trans (hp.mono Hb.out.size))
  obtain ⟨a1_w0, l1_w0, k1_w0, rfl, h0_w0, h1_w0⟩ := open_Hist hO0.1
  have P1_w0 := hid (parts_Hist hO0 h1_w0)
  have R1_w0 : Hid (∀ x ∈ bs_w0, w2.heap.size ≤ x ∧ x < w3.heap.size) := hid (fun x hx => by have := P1_w0.out.lts x hx; refine ⟨?_, this.2⟩; have := this.1; first | omega | (simp at this; omega))
  clear hb hp
  try unfold Box at B_0
  go_wp2_with fail
  refine (toHist (grow G_0.out ?_) (by have := HN_0.out; first | omega | (simp only [cnt_ints, cnt_bytes] at this; omega))).mono ?_
  · (repeat (first | exact Hb.out | refine Below.alloc ?_ (by have := Hb.out.size; first | omega | (simp; done) | (simp; omega)) _))
  rintro e w4 ⟨cs_x0, bs_x0, rfl, hO, hb⟩
  have hz4 := hb.size; try simp at hz4
  have hp : Below w3.heap.size w3 w4 := below_call (by repeat (first | exact Below.refl _ _ | refine Below.alloc ?_ (by first | omega | (simp; done) | (simp; omega)) _)) hb
  replace B_0 : Box w4 (w.heap.size) #[.int .i64 d_0.First, .slice a1_0 l1_0 k1_0] := Box.below hb (by first | omega | (simp; done) | (simp; omega)) (by repeat (first | exact B_0 | (apply boxN; (focus (first | omega | (simp; done) | (simp; omega)))) | (apply Box.alloc; rotate_left; (focus (first | omega | (simp; done) | (simp; omega))))))
  replace L_0 : w.heap.size < w4.heap.size := (by first | omega | (simp; done) | (simp; omega))
  have B_w0 : Box w4 (w3.heap.size) #[.int .i64 (histAdd d_0 d_1).First, .slice a1_w0 l1_w0 k1_w0] := Box.below hb (by first | omega | (simp; done) | (simp; omega)) (by repeat (first | exact B_w0 | (apply boxN; (focus (first | omega | (simp; done) | (simp; omega)))) | (apply Box.alloc; rotate_left; (focus (first | omega | (simp; done) | (simp; omega))))))
  have L_w0 : w3.heap.size < w4.heap.size := (by first | omega | (simp; done) | (simp; omega))
  replace P1_w0 := hid (P1_w0.out.grow hp)
  replace Hb := hid (Hb.out.trans (hp.mono Hb.out.size))
  obtain ⟨a1_x0, l1_x0, k1_x0, rfl, h0_x0, h1_x0⟩ := open_Hist hO.1
  have P1_x0 := hid (parts_Hist hO h1_x0)
  have R1_x0 : Hid (∀ x ∈ bs_x0, w3.heap.size + 1 ≤ x ∧ x < w4.heap.size) := hid (fun x hx => by have := P1_x0.out.lts x hx; refine ⟨?_, this.2⟩; have := this.1; first | omega | (simp at this; omega))
  clear hb hp hO
  try unfold Box at B_0
  try unfold Box at B_w0
  go_wp2_with fail
  refine (i_HistAdd (mk_Hist (d := d_0) h0_x0 (Slc.grow P1_x0.out.slc ?_)) d_1 (by have := HN_1.out; unfold maxLen; omega) ).mono ?_
  · repeat (first | exact Below.refl _ _ | refine Below.alloc ?_ (by first | omega | (simp; done) | (simp; omega)) _)
  rintro e w5 ⟨cs_g0, bs_g0, rfl, hO0, hb⟩
  have hz5 := hb.size; try simp at hz5
  have hp : Below w4.heap.size w4 w5 := below_call (by repeat (first | exact Below.refl _ _ | refine Below.alloc ?_ (by first | omega | (simp; done) | (simp; omega)) _)) hb
  replace B_0 : Box w5 (w.heap.size) #[.int .i64 d_0.First, .slice a1_0 l1_0 k1_0] := Box.below hb (by first | omega | (simp; done) | (simp; omega)) (by repeat (first | exact B_0 | (apply boxN; (focus (first | omega | (simp; done) | (simp; omega)))) | (apply Box.alloc; rotate_left; (focus (first | omega | (simp; done) | (simp; omega))))))
  replace L_0 : w.heap.size < w5.heap.size := (by first | omega | (simp; done) | (simp; omega))
  replace B_w0 : Box w5 (w3.heap.size) #[.int .i64 (histAdd d_0 d_1).First, .slice a1_w0 l1_w0 k1_w0] := Box.below hb (by first | omega | (simp; done) | (simp; omega)) (by repeat (first | exact B_w0 | (apply boxN; (focus (first | omega | (simp; done) | (simp; omega)))) | (apply Box.alloc; rotate_left; (focus (first | omega | (simp; done) | (simp; omega))))))
  replace L_w0 : w3.heap.size < w5.heap.size := (by first | omega | (simp; done) | (simp; omega))
  have B_x0 : Box w5 (w4.heap.size) #[.int .i64 d_0.First, .slice a1_x0 l1_x0 k1_x0] := Box.below hb (by first | omega | (simp; done) | (simp; omega)) (by repeat (first | exact B_x0 | (apply boxN; (focus (first | omega | (simp; done) | (simp; omega)))) | (apply Box.alloc; rotate_left; (focus (first | omega | (simp; done) | (simp; omega))))))
  have L_x0 : w4.heap.size < w5.heap.size := (by first | omega | (simp; done) | (simp; omega))
  replace P1_w0 := hid (P1_w0.out.grow hp)
  replace P1_x0 := hid (P1_x0.out.grow hp)
  replace Hb := hid (Hb.out.trans (hp.mono Hb.out.size))
  obtain ⟨a1_g0, l1_g0, k1_g0, rfl, h0_g0, h1_g0⟩ := open_Hist hO0.1
  have P1_g0 := hid (parts_Hist hO0 h1_g0)
  have R1_g0 : Hid (∀ x ∈ bs_g0, w4.heap.size + 1 ≤ x ∧ x < w5.heap.size) := hid (fun x hx => by have := P1_g0.out.lts x hx; refine ⟨?_, this.2⟩; have := this.1; first | omega | (simp at this; omega))
  clear hb hp
  try unfold Box at B_0
  try unfold Box at B_w0
  try unfold Box at B_x0
  go_wp2_with fail
  refine (eqHist (mk_Hist (d := (histAdd d_0 d_1)) h0_g0 (Slc.grow P1_g0.out.slc ?_)) (mk_Hist (d := (histAdd d_0 d_1)) h0_w0 (Slc.grow P1_w0.out.slc ?_))).mono ?_
  · repeat (first | exact Below.refl _ _ | refine Below.alloc ?_ (by first | omega | (simp; done) | (simp; omega)) _)
  · repeat (first | exact Below.refl _ _ | refine Below.alloc ?_ (by first | omega | (simp; done) | (simp; omega)) _)
  rintro e w6 ⟨rfl, hb⟩
  have hz6 := hb.size; try simp at hz6
  have hp : Below w5.heap.size w5 w6 := below_call (by repeat (first | exact Below.refl _ _ | refine Below.alloc ?_ (by first | omega | (simp; done) | (simp; omega)) _)) hb
  replace B_0 : Box w6 (w.heap.size) #[.int .i64 d_0.First, .slice a1_0 l1_0 k1_0] := Box.below hb (by first | omega | (simp; done) | (simp; omega)) (by repeat (first | exact B_0 | (apply boxN; (focus (first | omega | (simp; done) | (simp; omega)))) | (apply Box.alloc; rotate_left; (focus (first | omega | (simp; done) | (simp; omega))))))
  replace L_0 : w.heap.size < w6.heap.size := (by first | omega | (simp; done) | (simp; omega))
  replace B_w0 : Box w6 (w3.heap.size) #[.int .i64 (histAdd d_0 d_1).First, .slice a1_w0 l1_w0 k1_w0] := Box.below hb (by first | omega | (simp; done) | (simp; omega)) (by repeat (first | exact B_w0 | (apply boxN; (focus (first | omega | (simp; done) | (simp; omega)))) | (apply Box.alloc; rotate_left; (focus (first | omega | (simp; done) | (simp; omega))))))
  replace L_w0 : w3.heap.size < w6.heap.size := (by first | omega | (simp; done) | (simp; omega))
  replace B_x0 : Box w6 (w4.heap.size) #[.int .i64 d_0.First, .slice a1_x0 l1_x0 k1_x0] := Box.below hb (by first | omega | (simp; done) | (simp; omega)) (by repeat (first | exact B_x0 | (apply boxN; (focus (first | omega | (simp; done) | (simp; omega)))) | (apply Box.alloc; rotate_left; (focus (first | omega | (simp; done) | (simp; omega))))))
  replace L_x0 : w4.heap.size < w6.heap.size := (by first | omega | (simp; done) | (simp; omega))
  have B_g0 : Box w6 (w5.heap.size) #[.int .i64 (histAdd d_0 d_1).First, .slice a1_g0 l1_g0 k1_g0] := Box.below hb (by first | omega | (simp; done) | (simp; omega)) (by repeat (first | exact B_g0 | (apply boxN; (focus (first | omega | (simp; done) | (simp; omega)))) | (apply Box.alloc; rotate_left; (focus (first | omega | (simp; done) | (simp; omega))))))
  have L_g0 : w5.heap.size < w6.heap.size := (by first | omega | (simp; done) | (simp; omega))
  replace P1_w0 := hid (P1_w0.out.grow hp)
  replace P1_x0 := hid (P1_x0.out.grow hp)
  replace P1_g0 := hid (P1_g0.out.grow hp)
  replace Hb := hid (Hb.out.trans (hp.mono Hb.out.size))
  clear hb hp
  try unfold Box at B_0
  try unfold Box at B_w0
  try unfold Box at B_x0
  try unfold Box at B_g0
  try unfold Box at B_0
  try unfold Box at B_w0
  try unfold Box at B_x0
  try unfold Box at B_g0
  go_wp2_with fail
  go_region_held3 (fun W => Below w6.heap.size w6 W ∧ (∀ o, W.cell? ⟨w.heap.size, o, none⟩ = (#[.int .i64 d_0.First, .slice a1_0 l1_0 k1_0] : Array Value)[o]?) ∧ (∀ o, W.cell? ⟨w3.heap.size, o, none⟩ = (#[.int .i64 (histAdd d_0 d_1).First, .slice a1_w0 l1_w0 k1_w0] : Array Value)[o]?) ∧ (∀ o, W.cell? ⟨w4.heap.size, o, none⟩ = (#[.int .i64 d_0.First, .slice a1_x0 l1_x0 k1_x0] : Array Value)[o]?) ∧ (∀ o, W.cell? ⟨w5.heap.size, o, none⟩ = (#[.int .i64 (histAdd d_0 d_1).First, .slice a1_g0 l1_g0 k1_g0] : Array Value)[o]?)) (first | exact ⟨(Below.refl _ _).drew, B_0, B_w0, B_x0, B_g0⟩ | (go_split_ands; exact ⟨Below.trans (by assumption) (Below.mono hb2 (Below.size (by assumption))), keep_box hb2 (by assumption) (by assumption) (by omega), keep_box hb2 (by assumption) (by assumption) (by omega), keep_box hb2 (by assumption) (by assumption) (by omega), keep_box hb2 (by assumption) (by assumption) (by omega)⟩) | (go_split_ands; exact ⟨Below.trans (by assumption) (Below.mono hb1 (Below.size (by assumption))), keep_box hb1 (by assumption) (by assumption) (by omega), keep_box hb1 (by assumption) (by assumption) (by omega), keep_box hb1 (by assumption) (by assumption) (by omega), keep_box hb1 (by assumption) (by assumption) (by omega)⟩)) (first | (go_at_call 41; refine (toHist (grow G_0.out ?_) (by have := HN_0.out; first | omega | (simp only [cnt_ints, cnt_bytes] at this; omega))).mono ?_; (go_split_ands; exact Hb.out.trans (Below.mono (by assumption) Hb.out.size)); rintro e wa7 ⟨cs_e3, bs_e3, rfl, hO, hb1⟩; obtain ⟨a1_e3, l1_e3, k1_e3, rfl, h0_e3, h1_e3⟩ := open_Hist hO.1) | (go_at_call 43; refine (eqHist (mk_Hist (d := d_0) h0_x0 (Slc.grow P1_x0.out.slc ?_)) hO.1).mono ?_; (go_split_ands; exact (by assumption)); rintro e w7 ⟨rfl, hb2⟩))
  have hp : Below w6.heap.size w6 w7 := by go_split_ands; assumption
  have hz7 := hp.size; try simp at hz7
  replace B_0 : Box w7 (w.heap.size) #[.int .i64 d_0.First, .slice a1_0 l1_0 k1_0] := Box.below hp (by omega) B_0
  replace L_0 : w.heap.size < w7.heap.size := by omega
  replace B_w0 : Box w7 (w3.heap.size) #[.int .i64 (histAdd d_0 d_1).First, .slice a1_w0 l1_w0 k1_w0] := Box.below hp (by omega) B_w0
  replace L_w0 : w3.heap.size < w7.heap.size := by omega
  replace B_x0 : Box w7 (w4.heap.size) #[.int .i64 d_0.First, .slice a1_x0 l1_x0 k1_x0] := Box.below hp (by omega) B_x0
  replace L_x0 : w4.heap.size < w7.heap.size := by omega
  replace B_g0 : Box w7 (w5.heap.size) #[.int .i64 (histAdd d_0 d_1).First, .slice a1_g0 l1_g0 k1_g0] := Box.below hp (by omega) B_g0
  replace L_g0 : w5.heap.size < w7.heap.size := by omega
  replace P1_w0 := hid (P1_w0.out.grow hp)
  replace P1_x0 := hid (P1_x0.out.grow hp)
  replace P1_g0 := hid (P1_g0.out.grow hp)
  replace Hb := hid (Hb.out.trans (hp.mono Hb.out.size))
  clear hp hb1 hb2 hO
  try unfold Box at B_0
  try unfold Box at B_w0
  try unfold Box at B_x0
  try unfold Box at B_g0
  have HK_x0 : Hid (1 + (d_0).nkv ≤ topK) := hid (by have h_0 := HN_0.out; have k_0 := nkv_le_Hist d_0; unfold topK; omega)
  go_wp2_with fail
  refine (markHist (d := d_0) P1_x0.out  (1) HK_x0.out).mono ?_
  rintro e w8 ⟨rfl, hO1, hT⟩
  have hz8 := hT.size
  replace B_0 : Box w8 (w.heap.size) #[.int .i64 d_0.First, .slice a1_0 l1_0 k1_0] := Box.tch hT (by omega) (fun hm => by have := R1_x0.out _ hm; omega) B_0
  replace L_0 : w.heap.size < w8.heap.size := by omega
  replace B_w0 : Box w8 (w3.heap.size) #[.int .i64 (histAdd d_0 d_1).First, .slice a1_w0 l1_w0 k1_w0] := Box.tch hT (by omega) (fun hm => by have := R1_x0.out _ hm; omega) B_w0
  replace L_w0 : w3.heap.size < w8.heap.size := by omega
  replace B_x0 : Box w8 (w4.heap.size) #[.int .i64 d_0.First, .slice a1_x0 l1_x0 k1_x0] := Box.tch hT (by omega) (fun hm => by have := R1_x0.out _ hm; omega) B_x0
  replace L_x0 : w4.heap.size < w8.heap.size := by omega
  replace B_g0 : Box w8 (w5.heap.size) #[.int .i64 (histAdd d_0 d_1).First, .slice a1_g0 l1_g0 k1_g0] := Box.tch hT (by omega) (fun hm => by have := R1_x0.out _ hm; omega) B_g0
  replace L_g0 : w5.heap.size < w8.heap.size := by omega
  replace P1_w0 := hid (P1_w0.out.tch hT (fun x hx hm => by have := R1_w0.out x hx; have := R1_x0.out x hm; omega))
  replace P1_g0 := hid (P1_g0.out.tch hT (fun x hx hm => by have := R1_g0.out x hx; have := R1_x0.out x hm; omega))
  replace Hb := hid (Hb.out.trans (hT.below Hb.out.size (fun x hm => by have := R1_x0.out x hm; omega)))
  replace P1_x0 := hid hO1
  clear hT hO1
  try unfold Box at B_0
  try unfold Box at B_w0
  try unfold Box at B_x0
  try unfold Box at B_g0
  go_wp2_with fail
  refine (eqHist (mk_Hist (d := (histAdd d_0 d_1)) h0_g0 (Slc.grow P1_g0.out.slc ?_)) (mk_Hist (d := (histAdd d_0 d_1)) h0_w0 (Slc.grow P1_w0.out.slc ?_))).mono ?_
  · repeat (first | exact Below.refl _ _ | refine Below.alloc ?_ (by first | omega | (simp; done) | (simp; omega)) _)
  · repeat (first | exact Below.refl _ _ | refine Below.alloc ?_ (by first | omega | (simp; done) | (simp; omega)) _)
  rintro e w9 ⟨rfl, hb⟩
  have hz9 := hb.size; try simp at hz9
  have hp : Below w8.heap.size w8 w9 := below_call (by repeat (first | exact Below.refl _ _ | refine Below.alloc ?_ (by first | omega | (simp; done) | (simp; omega)) _)) hb
  replace B_0 : Box w9 (w.heap.size) #[.int .i64 d_0.First, .slice a1_0 l1_0 k1_0] := Box.below hb (by first | omega | (simp; done) | (simp; omega)) (by repeat (first | exact B_0 | (apply boxN; (focus (first | omega | (simp; done) | (simp; omega)))) | (apply Box.alloc; rotate_left; (focus (first | omega | (simp; done) | (simp; omega))))))
  replace L_0 : w.heap.size < w9.heap.size := (by first | omega | (simp; done) | (simp; omega))
  replace B_w0 : Box w9 (w3.heap.size) #[.int .i64 (histAdd d_0 d_1).First, .slice a1_w0 l1_w0 k1_w0] := Box.below hb (by first | omega | (simp; done) | (simp; omega)) (by repeat (first | exact B_w0 | (apply boxN; (focus (first | omega | (simp; done) | (simp; omega)))) | (apply Box.alloc; rotate_left; (focus (first | omega | (simp; done) | (simp; omega))))))
  replace L_w0 : w3.heap.size < w9.heap.size := (by first | omega | (simp; done) | (simp; omega))
  replace B_x0 : Box w9 (w4.heap.size) #[.int .i64 d_0.First, .slice a1_x0 l1_x0 k1_x0] := Box.below hb (by first | omega | (simp; done) | (simp; omega)) (by repeat (first | exact B_x0 | (apply boxN; (focus (first | omega | (simp; done) | (simp; omega)))) | (apply Box.alloc; rotate_left; (focus (first | omega | (simp; done) | (simp; omega))))))
  replace L_x0 : w4.heap.size < w9.heap.size := (by first | omega | (simp; done) | (simp; omega))
  replace B_g0 : Box w9 (w5.heap.size) #[.int .i64 (histAdd d_0 d_1).First, .slice a1_g0 l1_g0 k1_g0] := Box.below hb (by first | omega | (simp; done) | (simp; omega)) (by repeat (first | exact B_g0 | (apply boxN; (focus (first | omega | (simp; done) | (simp; omega)))) | (apply Box.alloc; rotate_left; (focus (first | omega | (simp; done) | (simp; omega))))))
  replace L_g0 : w5.heap.size < w9.heap.size := (by first | omega | (simp; done) | (simp; omega))
  replace P1_w0 := hid (P1_w0.out.grow hp)
  replace P1_x0 := hid (P1_x0.out.grow hp)
  replace P1_g0 := hid (P1_g0.out.grow hp)
  replace Hb := hid (Hb.out.trans (hp.mono Hb.out.size))
  clear hb hp
  try unfold Box at B_0
  try unfold Box at B_w0
  try unfold Box at B_x0
  try unfold Box at B_g0
  try unfold Box at B_0
  try unfold Box at B_w0
  try unfold Box at B_x0
  try unfold Box at B_g0
  have HK_g0 : Hid (1 + ((histAdd d_0 d_1)).nkv ≤ topK) := hid (by exact histAdd_top _ _)
  go_wp2_with fail
  refine (markHist (d := (histAdd d_0 d_1)) P1_g0.out  (1) HK_g0.out).mono ?_
  rintro e w10 ⟨rfl, hO1, hT⟩
  have hz10 := hT.size
  replace B_0 : Box w10 (w.heap.size) #[.int .i64 d_0.First, .slice a1_0 l1_0 k1_0] := Box.tch hT (by omega) (fun hm => by have := R1_g0.out _ hm; omega) B_0
  replace L_0 : w.heap.size < w10.heap.size := by omega
  replace B_w0 : Box w10 (w3.heap.size) #[.int .i64 (histAdd d_0 d_1).First, .slice a1_w0 l1_w0 k1_w0] := Box.tch hT (by omega) (fun hm => by have := R1_g0.out _ hm; omega) B_w0
  replace L_w0 : w3.heap.size < w10.heap.size := by omega
  replace B_x0 : Box w10 (w4.heap.size) #[.int .i64 d_0.First, .slice a1_x0 l1_x0 k1_x0] := Box.tch hT (by omega) (fun hm => by have := R1_g0.out _ hm; omega) B_x0
  replace L_x0 : w4.heap.size < w10.heap.size := by omega
  replace B_g0 : Box w10 (w5.heap.size) #[.int .i64 (histAdd d_0 d_1).First, .slice a1_g0 l1_g0 k1_g0] := Box.tch hT (by omega) (fun hm => by have := R1_g0.out _ hm; omega) B_g0
  replace L_g0 : w5.heap.size < w10.heap.size := by omega
  replace P1_w0 := hid (P1_w0.out.tch hT (fun x hx hm => by have := R1_w0.out x hx; have := R1_g0.out x hm; omega))
  replace P1_x0 := hid (P1_x0.out.tch hT (fun x hx hm => by have := R1_x0.out x hx; have := R1_g0.out x hm; omega))
  replace Hb := hid (Hb.out.trans (hT.below Hb.out.size (fun x hm => by have := R1_g0.out x hm; omega)))
  replace P1_g0 := hid hO1
  clear hT hO1
  try unfold Box at B_0
  try unfold Box at B_w0
  try unfold Box at B_x0
  try unfold Box at B_g0
  go_wp2_with fail
  refine (heldHist (d := (histAdd d_0 d_1)) (1) (mk_Hist (d := (((histAdd d_0 d_1)).mkv (1))) h0_g0 (Slc.grow P1_g0.out.slc ?_)) (by have := HK_g0.out; omega)).mono ?_
  · repeat (first | exact Below.refl _ _ | refine Below.alloc ?_ (by first | omega | (simp; done) | (simp; omega)) _)
  rintro e w11 ⟨rfl, hb⟩
  have hz11 := hb.size; try simp at hz11
  have hp : Below w10.heap.size w10 w11 := below_call (by repeat (first | exact Below.refl _ _ | refine Below.alloc ?_ (by first | omega | (simp; done) | (simp; omega)) _)) hb
  replace B_0 : Box w11 (w.heap.size) #[.int .i64 d_0.First, .slice a1_0 l1_0 k1_0] := Box.below hb (by first | omega | (simp; done) | (simp; omega)) (by repeat (first | exact B_0 | (apply boxN; (focus (first | omega | (simp; done) | (simp; omega)))) | (apply Box.alloc; rotate_left; (focus (first | omega | (simp; done) | (simp; omega))))))
  replace L_0 : w.heap.size < w11.heap.size := (by first | omega | (simp; done) | (simp; omega))
  replace B_w0 : Box w11 (w3.heap.size) #[.int .i64 (histAdd d_0 d_1).First, .slice a1_w0 l1_w0 k1_w0] := Box.below hb (by first | omega | (simp; done) | (simp; omega)) (by repeat (first | exact B_w0 | (apply boxN; (focus (first | omega | (simp; done) | (simp; omega)))) | (apply Box.alloc; rotate_left; (focus (first | omega | (simp; done) | (simp; omega))))))
  replace L_w0 : w3.heap.size < w11.heap.size := (by first | omega | (simp; done) | (simp; omega))
  replace B_x0 : Box w11 (w4.heap.size) #[.int .i64 d_0.First, .slice a1_x0 l1_x0 k1_x0] := Box.below hb (by first | omega | (simp; done) | (simp; omega)) (by repeat (first | exact B_x0 | (apply boxN; (focus (first | omega | (simp; done) | (simp; omega)))) | (apply Box.alloc; rotate_left; (focus (first | omega | (simp; done) | (simp; omega))))))
  replace L_x0 : w4.heap.size < w11.heap.size := (by first | omega | (simp; done) | (simp; omega))
  replace B_g0 : Box w11 (w5.heap.size) #[.int .i64 (histAdd d_0 d_1).First, .slice a1_g0 l1_g0 k1_g0] := Box.below hb (by first | omega | (simp; done) | (simp; omega)) (by repeat (first | exact B_g0 | (apply boxN; (focus (first | omega | (simp; done) | (simp; omega)))) | (apply Box.alloc; rotate_left; (focus (first | omega | (simp; done) | (simp; omega))))))
  replace L_g0 : w5.heap.size < w11.heap.size := (by first | omega | (simp; done) | (simp; omega))
  replace P1_w0 := hid (P1_w0.out.grow hp)
  replace P1_x0 := hid (P1_x0.out.grow hp)
  replace P1_g0 := hid (P1_g0.out.grow hp)
  replace Hb := hid (Hb.out.trans (hp.mono Hb.out.size))
  clear hb hp
  try unfold Box at B_0
  try unfold Box at B_w0
  try unfold Box at B_x0
  try unfold Box at B_g0
  try unfold Box at B_0
  try unfold Box at B_w0
  try unfold Box at B_x0
  try unfold Box at B_g0
  try unfold Box at B_0
  try unfold Box at B_w0
  try unfold Box at B_x0
  try unfold Box at B_g0
  go_wp2_with fail
  refine (toHist (grow G_0.out ?_) (by have := HN_0.out; first | omega | (simp only [cnt_ints, cnt_bytes] at this; omega))).mono ?_
  · (repeat (first | exact Hb.out | refine Below.alloc ?_ (by have := Hb.out.size; first | omega | (simp; done) | (simp; omega)) _))
  rintro e w12 ⟨cs_t40, bs_t40, rfl, hO, hb⟩
  have hz12 := hb.size; try simp at hz12
  have hp : Below w11.heap.size w11 w12 := below_call (by repeat (first | exact Below.refl _ _ | refine Below.alloc ?_ (by first | omega | (simp; done) | (simp; omega)) _)) hb
  replace B_0 : Box w12 (w.heap.size) #[.int .i64 d_0.First, .slice a1_0 l1_0 k1_0] := Box.below hb (by first | omega | (simp; done) | (simp; omega)) (by repeat (first | exact B_0 | (apply boxN; (focus (first | omega | (simp; done) | (simp; omega)))) | (apply Box.alloc; rotate_left; (focus (first | omega | (simp; done) | (simp; omega))))))
  replace L_0 : w.heap.size < w12.heap.size := (by first | omega | (simp; done) | (simp; omega))
  replace B_w0 : Box w12 (w3.heap.size) #[.int .i64 (histAdd d_0 d_1).First, .slice a1_w0 l1_w0 k1_w0] := Box.below hb (by first | omega | (simp; done) | (simp; omega)) (by repeat (first | exact B_w0 | (apply boxN; (focus (first | omega | (simp; done) | (simp; omega)))) | (apply Box.alloc; rotate_left; (focus (first | omega | (simp; done) | (simp; omega))))))
  replace L_w0 : w3.heap.size < w12.heap.size := (by first | omega | (simp; done) | (simp; omega))
  replace B_x0 : Box w12 (w4.heap.size) #[.int .i64 d_0.First, .slice a1_x0 l1_x0 k1_x0] := Box.below hb (by first | omega | (simp; done) | (simp; omega)) (by repeat (first | exact B_x0 | (apply boxN; (focus (first | omega | (simp; done) | (simp; omega)))) | (apply Box.alloc; rotate_left; (focus (first | omega | (simp; done) | (simp; omega))))))
  replace L_x0 : w4.heap.size < w12.heap.size := (by first | omega | (simp; done) | (simp; omega))
  replace B_g0 : Box w12 (w5.heap.size) #[.int .i64 (histAdd d_0 d_1).First, .slice a1_g0 l1_g0 k1_g0] := Box.below hb (by first | omega | (simp; done) | (simp; omega)) (by repeat (first | exact B_g0 | (apply boxN; (focus (first | omega | (simp; done) | (simp; omega)))) | (apply Box.alloc; rotate_left; (focus (first | omega | (simp; done) | (simp; omega))))))
  replace L_g0 : w5.heap.size < w12.heap.size := (by first | omega | (simp; done) | (simp; omega))
  replace P1_w0 := hid (P1_w0.out.grow hp)
  replace P1_x0 := hid (P1_x0.out.grow hp)
  replace P1_g0 := hid (P1_g0.out.grow hp)
  replace Hb := hid (Hb.out.trans (hp.mono Hb.out.size))
  obtain ⟨a1_t40, l1_t40, k1_t40, rfl, h0_t40, h1_t40⟩ := open_Hist hO.1
  have P1_t40 := hid (parts_Hist hO h1_t40)
  have R1_t40 : Hid (∀ x ∈ bs_t40, w11.heap.size ≤ x ∧ x < w12.heap.size) := hid (fun x hx => by have := P1_t40.out.lts x hx; refine ⟨?_, this.2⟩; have := this.1; first | omega | (simp at this; omega))
  clear hb hp hO
  try unfold Box at B_0
  try unfold Box at B_w0
  try unfold Box at B_x0
  try unfold Box at B_g0
  go_wp2_with fail
  refine (i_HistAdd (mk_Hist (d := d_0) h0_t40 (Slc.grow P1_t40.out.slc ?_)) d_1 (by have := HN_1.out; unfold maxLen; omega) ).mono ?_
  · repeat (first | exact Below.refl _ _ | refine Below.alloc ?_ (by first | omega | (simp; done) | (simp; omega)) _)
  rintro e w13 ⟨cs_h0, bs_h0, rfl, hO0, hb⟩
  have hz13 := hb.size; try simp at hz13
  have hp : Below w12.heap.size w12 w13 := below_call (by repeat (first | exact Below.refl _ _ | refine Below.alloc ?_ (by first | omega | (simp; done) | (simp; omega)) _)) hb
  replace B_0 : Box w13 (w.heap.size) #[.int .i64 d_0.First, .slice a1_0 l1_0 k1_0] := Box.below hb (by first | omega | (simp; done) | (simp; omega)) (by repeat (first | exact B_0 | (apply boxN; (focus (first | omega | (simp; done) | (simp; omega)))) | (apply Box.alloc; rotate_left; (focus (first | omega | (simp; done) | (simp; omega))))))
  replace L_0 : w.heap.size < w13.heap.size := (by first | omega | (simp; done) | (simp; omega))
  replace B_w0 : Box w13 (w3.heap.size) #[.int .i64 (histAdd d_0 d_1).First, .slice a1_w0 l1_w0 k1_w0] := Box.below hb (by first | omega | (simp; done) | (simp; omega)) (by repeat (first | exact B_w0 | (apply boxN; (focus (first | omega | (simp; done) | (simp; omega)))) | (apply Box.alloc; rotate_left; (focus (first | omega | (simp; done) | (simp; omega))))))
  replace L_w0 : w3.heap.size < w13.heap.size := (by first | omega | (simp; done) | (simp; omega))
  replace B_x0 : Box w13 (w4.heap.size) #[.int .i64 d_0.First, .slice a1_x0 l1_x0 k1_x0] := Box.below hb (by first | omega | (simp; done) | (simp; omega)) (by repeat (first | exact B_x0 | (apply boxN; (focus (first | omega | (simp; done) | (simp; omega)))) | (apply Box.alloc; rotate_left; (focus (first | omega | (simp; done) | (simp; omega))))))
  replace L_x0 : w4.heap.size < w13.heap.size := (by first | omega | (simp; done) | (simp; omega))
  replace B_g0 : Box w13 (w5.heap.size) #[.int .i64 (histAdd d_0 d_1).First, .slice a1_g0 l1_g0 k1_g0] := Box.below hb (by first | omega | (simp; done) | (simp; omega)) (by repeat (first | exact B_g0 | (apply boxN; (focus (first | omega | (simp; done) | (simp; omega)))) | (apply Box.alloc; rotate_left; (focus (first | omega | (simp; done) | (simp; omega))))))
  replace L_g0 : w5.heap.size < w13.heap.size := (by first | omega | (simp; done) | (simp; omega))
  replace P1_w0 := hid (P1_w0.out.grow hp)
  replace P1_x0 := hid (P1_x0.out.grow hp)
  replace P1_g0 := hid (P1_g0.out.grow hp)
  replace P1_t40 := hid (P1_t40.out.grow hp)
  replace Hb := hid (Hb.out.trans (hp.mono Hb.out.size))
  obtain ⟨a1_h0, l1_h0, k1_h0, rfl, h0_h0, h1_h0⟩ := open_Hist hO0.1
  have P1_h0 := hid (parts_Hist hO0 h1_h0)
  have R1_h0 : Hid (∀ x ∈ bs_h0, w12.heap.size ≤ x ∧ x < w13.heap.size) := hid (fun x hx => by have := P1_h0.out.lts x hx; refine ⟨?_, this.2⟩; have := this.1; first | omega | (simp at this; omega))
  clear hb hp
  try unfold Box at B_0
  try unfold Box at B_w0
  try unfold Box at B_x0
  try unfold Box at B_g0
  go_wp2_with fail
  refine (eqHist (mk_Hist (d := (histAdd d_0 d_1)) h0_h0 (Slc.grow P1_h0.out.slc ?_)) (mk_Hist (d := (histAdd d_0 d_1)) h0_w0 (Slc.grow P1_w0.out.slc ?_))).mono ?_
  · repeat (first | exact Below.refl _ _ | refine Below.alloc ?_ (by first | omega | (simp; done) | (simp; omega)) _)
  · repeat (first | exact Below.refl _ _ | refine Below.alloc ?_ (by first | omega | (simp; done) | (simp; omega)) _)
  rintro e w14 ⟨rfl, hb⟩
  have hz14 := hb.size; try simp at hz14
  have hp : Below w13.heap.size w13 w14 := below_call (by repeat (first | exact Below.refl _ _ | refine Below.alloc ?_ (by first | omega | (simp; done) | (simp; omega)) _)) hb
  replace B_0 : Box w14 (w.heap.size) #[.int .i64 d_0.First, .slice a1_0 l1_0 k1_0] := Box.below hb (by first | omega | (simp; done) | (simp; omega)) (by repeat (first | exact B_0 | (apply boxN; (focus (first | omega | (simp; done) | (simp; omega)))) | (apply Box.alloc; rotate_left; (focus (first | omega | (simp; done) | (simp; omega))))))
  replace L_0 : w.heap.size < w14.heap.size := (by first | omega | (simp; done) | (simp; omega))
  replace B_w0 : Box w14 (w3.heap.size) #[.int .i64 (histAdd d_0 d_1).First, .slice a1_w0 l1_w0 k1_w0] := Box.below hb (by first | omega | (simp; done) | (simp; omega)) (by repeat (first | exact B_w0 | (apply boxN; (focus (first | omega | (simp; done) | (simp; omega)))) | (apply Box.alloc; rotate_left; (focus (first | omega | (simp; done) | (simp; omega))))))
  replace L_w0 : w3.heap.size < w14.heap.size := (by first | omega | (simp; done) | (simp; omega))
  replace B_x0 : Box w14 (w4.heap.size) #[.int .i64 d_0.First, .slice a1_x0 l1_x0 k1_x0] := Box.below hb (by first | omega | (simp; done) | (simp; omega)) (by repeat (first | exact B_x0 | (apply boxN; (focus (first | omega | (simp; done) | (simp; omega)))) | (apply Box.alloc; rotate_left; (focus (first | omega | (simp; done) | (simp; omega))))))
  replace L_x0 : w4.heap.size < w14.heap.size := (by first | omega | (simp; done) | (simp; omega))
  replace B_g0 : Box w14 (w5.heap.size) #[.int .i64 (histAdd d_0 d_1).First, .slice a1_g0 l1_g0 k1_g0] := Box.below hb (by first | omega | (simp; done) | (simp; omega)) (by repeat (first | exact B_g0 | (apply boxN; (focus (first | omega | (simp; done) | (simp; omega)))) | (apply Box.alloc; rotate_left; (focus (first | omega | (simp; done) | (simp; omega))))))
  replace L_g0 : w5.heap.size < w14.heap.size := (by first | omega | (simp; done) | (simp; omega))
  have B_h0 : Box w14 (w13.heap.size) #[.int .i64 (histAdd d_0 d_1).First, .slice a1_h0 l1_h0 k1_h0] := Box.below hb (by first | omega | (simp; done) | (simp; omega)) (by repeat (first | exact B_h0 | (apply boxN; (focus (first | omega | (simp; done) | (simp; omega)))) | (apply Box.alloc; rotate_left; (focus (first | omega | (simp; done) | (simp; omega))))))
  have L_h0 : w13.heap.size < w14.heap.size := (by first | omega | (simp; done) | (simp; omega))
  replace P1_w0 := hid (P1_w0.out.grow hp)
  replace P1_x0 := hid (P1_x0.out.grow hp)
  replace P1_g0 := hid (P1_g0.out.grow hp)
  replace P1_h0 := hid (P1_h0.out.grow hp)
  replace Hb := hid (Hb.out.trans (hp.mono Hb.out.size))
  clear hb hp
  try unfold Box at B_0
  try unfold Box at B_w0
  try unfold Box at B_x0
  try unfold Box at B_g0
  try unfold Box at B_h0
  try unfold Box at B_0
  try unfold Box at B_w0
  try unfold Box at B_x0
  try unfold Box at B_g0
  try unfold Box at B_h0
  go_wp2_with fail
  refine (heldHist (d := (histAdd d_0 d_1)) (1) (mk_Hist (d := (((histAdd d_0 d_1)).mkv (1))) h0_g0 (Slc.grow P1_g0.out.slc ?_)) (by have := HK_g0.out; omega)).mono ?_
  · repeat (first | exact Below.refl _ _ | refine Below.alloc ?_ (by first | omega | (simp; done) | (simp; omega)) _)
  rintro e w15 ⟨rfl, hb⟩
  have hz15 := hb.size; try simp at hz15
  have hp : Below w14.heap.size w14 w15 := below_call (by repeat (first | exact Below.refl _ _ | refine Below.alloc ?_ (by first | omega | (simp; done) | (simp; omega)) _)) hb
  replace B_0 : Box w15 (w.heap.size) #[.int .i64 d_0.First, .slice a1_0 l1_0 k1_0] := Box.below hb (by first | omega | (simp; done) | (simp; omega)) (by repeat (first | exact B_0 | (apply boxN; (focus (first | omega | (simp; done) | (simp; omega)))) | (apply Box.alloc; rotate_left; (focus (first | omega | (simp; done) | (simp; omega))))))
  replace L_0 : w.heap.size < w15.heap.size := (by first | omega | (simp; done) | (simp; omega))
  replace B_w0 : Box w15 (w3.heap.size) #[.int .i64 (histAdd d_0 d_1).First, .slice a1_w0 l1_w0 k1_w0] := Box.below hb (by first | omega | (simp; done) | (simp; omega)) (by repeat (first | exact B_w0 | (apply boxN; (focus (first | omega | (simp; done) | (simp; omega)))) | (apply Box.alloc; rotate_left; (focus (first | omega | (simp; done) | (simp; omega))))))
  replace L_w0 : w3.heap.size < w15.heap.size := (by first | omega | (simp; done) | (simp; omega))
  replace B_x0 : Box w15 (w4.heap.size) #[.int .i64 d_0.First, .slice a1_x0 l1_x0 k1_x0] := Box.below hb (by first | omega | (simp; done) | (simp; omega)) (by repeat (first | exact B_x0 | (apply boxN; (focus (first | omega | (simp; done) | (simp; omega)))) | (apply Box.alloc; rotate_left; (focus (first | omega | (simp; done) | (simp; omega))))))
  replace L_x0 : w4.heap.size < w15.heap.size := (by first | omega | (simp; done) | (simp; omega))
  replace B_g0 : Box w15 (w5.heap.size) #[.int .i64 (histAdd d_0 d_1).First, .slice a1_g0 l1_g0 k1_g0] := Box.below hb (by first | omega | (simp; done) | (simp; omega)) (by repeat (first | exact B_g0 | (apply boxN; (focus (first | omega | (simp; done) | (simp; omega)))) | (apply Box.alloc; rotate_left; (focus (first | omega | (simp; done) | (simp; omega))))))
  replace L_g0 : w5.heap.size < w15.heap.size := (by first | omega | (simp; done) | (simp; omega))
  replace B_h0 : Box w15 (w13.heap.size) #[.int .i64 (histAdd d_0 d_1).First, .slice a1_h0 l1_h0 k1_h0] := Box.below hb (by first | omega | (simp; done) | (simp; omega)) (by repeat (first | exact B_h0 | (apply boxN; (focus (first | omega | (simp; done) | (simp; omega)))) | (apply Box.alloc; rotate_left; (focus (first | omega | (simp; done) | (simp; omega))))))
  replace L_h0 : w13.heap.size < w15.heap.size := (by first | omega | (simp; done) | (simp; omega))
  replace P1_w0 := hid (P1_w0.out.grow hp)
  replace P1_x0 := hid (P1_x0.out.grow hp)
  replace P1_g0 := hid (P1_g0.out.grow hp)
  replace P1_h0 := hid (P1_h0.out.grow hp)
  replace Hb := hid (Hb.out.trans (hp.mono Hb.out.size))
  clear hb hp
  try unfold Box at B_0
  try unfold Box at B_w0
  try unfold Box at B_x0
  try unfold Box at B_g0
  try unfold Box at B_h0
  try unfold Box at B_0
  try unfold Box at B_w0
  try unfold Box at B_x0
  try unfold Box at B_g0
  try unfold Box at B_h0
  try unfold Box at B_0
  try unfold Box at B_w0
  try unfold Box at B_x0
  try unfold Box at B_g0
  try unfold Box at B_h0
  go_wp2
  go_ret
  exact ⟨rfl, Hb.out⟩
end Go.Proofs.Ytndhhongkigikaa
