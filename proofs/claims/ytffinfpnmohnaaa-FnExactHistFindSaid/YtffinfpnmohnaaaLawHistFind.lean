/- The law on HistFind. -/
import Derived.Test.YtffinfpnmohnaaaHelpT
import Derived.Test.YtffinfpnmohnaaaFindI
import Derived.Test.YtffinfpnmohnaaaFindS
import Derived.Deep.RegionHeld3
import Derived.Deep.DeepCutAuto
set_option linter.unusedSimpArgs false
set_option linter.unusedVariables false
namespace Go.Proofs.Ytffinfpnmohnaaa
open Go.RowKit Go.G6
set_option maxRecDepth 10000
theorem boxN {w : World} {b : Nat} {c : Array Value} {t : TypeId} (hb : b = w.heap.size) : Box (w.alloc (.cells c t)) b c := by subst hb; exact box_new _ _ _
theorem ml_keep {w W : World} {g : Nat} (h : ∃ m, w.cell? ⟨g, 0, none⟩ = some (.int .i64 m)) (hb : Below w.heap.size w W) : ∃ m, W.cell? ⟨g, 0, none⟩ = some (.int .i64 m) :=
  let ⟨m, hm⟩ := h
  ⟨m, (hb.cell (p := ⟨g, 0, none⟩) (World.block_lt_of_cell? w _ hm)).trans hm⟩
set_option maxHeartbeats 4000000 in
theorem lawHistFind {w : World} {bs_0 : List Nat} {cs_0 : List Value} {d_0 : HistD} (g_0 : Rep.pt w bs_0 cs_0 d_0) (d_1 : ByteArray) (h0_1 : d_1.size ≤ maxLen) (d_2 : Int) (h0_2 : I64 d_2) (d_3 : Int) (h0_3 : I64 d_3) (d_4 : Bool) (hm0 : ∃ m, w.cell? ⟨laysC_ren.g 1, 0, none⟩ = some (.int .i64 m)) :
    Calls Try.prog 9 #[.agg cs_0.toArray, .string d_1, .int .i64 d_2, .int .i64 d_3, .bool d_4] w fun e w' => e = .returned (.bool true) ∧ Below w.heap.size w w' := by
  have HM0 := hid hm0
  clear hm0
  have G_0 := hid g_0
  obtain ⟨a1_0, l1_0, k1_0, rfl, h0_0, h1_0⟩ := open_Hist g_0
  clear g_0
  go_enter Try.func9, Try.ntmps9
  have Hb : Hid (Below w.heap.size w w) := hid (Below.refl _ _)
  by_cases hn_1 : (d_1.size : Int) ≤ 1048576
  rotate_left
  · go_wp2
    go_ret
    exact ⟨rfl, by repeat (first | exact Below.refl _ _ | refine Below.alloc ?_ (by first | omega | (simp; done) | (simp; omega)) _)⟩
  have HN_1 : Hid (d_1.size ≤ 1048576) := hid (by omega)
  go_wp2_with fail
  refine (szHist (1048576) (grow G_0.out ?_) (by omega) (by omega)).mono ?_
  · (repeat (first | exact Hb.out | refine Below.alloc ?_ (by have := Hb.out.size; first | omega | (simp; done) | (simp; omega)) _))
  rintro e w1 ⟨rfl, hb⟩
  have hz1 := hb.size; try simp at hz1
  have hp : Below w.heap.size w w1 := below_call (by repeat (first | exact Below.refl _ _ | refine Below.alloc ?_ (by first | omega | (simp; done) | (simp; omega)) _)) hb
  have B_0 : Box w1 (w.heap.size) #[.int .i64 d_0.First, .slice a1_0 l1_0 k1_0] := Box.below hb (by first | omega | (simp; done) | (simp; omega)) (by repeat (first | exact B_0 | (apply boxN; (focus (first | omega | (simp; done) | (simp; omega)))) | (apply Box.alloc; rotate_left; (focus (first | omega | (simp; done) | (simp; omega))))))
  have L_0 : w.heap.size < w1.heap.size := (by first | omega | (simp; done) | (simp; omega))
  replace Hb := hid (Hb.out.trans (hp.mono Hb.out.size))
  clear hb hp
  by_cases hn_0 : (Cnt.cnt d_0 : Int) ≤ 1048576
  rotate_left
  · rw [szr_neg (by omega)]
    go_wp2
    go_ret
    exact ⟨rfl, Hb.out⟩
  rw [szr_pos hn_0]
  have HN_0 : Hid (Cnt.cnt d_0 ≤ 1048576) := hid (by omega)
  try unfold Box at B_0
  go_wp2_with fail
  refine (toHist (grow G_0.out ?_) (by have := HN_0.out; first | omega | (simp only [cnt_ints, cnt_bytes] at this; omega))).mono ?_
  · (repeat (first | exact Hb.out | refine Below.alloc ?_ (by have := Hb.out.size; first | omega | (simp; done) | (simp; omega)) _))
  rintro e w2 ⟨cs_t10, bs_t10, rfl, hO, hb⟩
  have hz2 := hb.size; try simp at hz2
  have hp : Below w1.heap.size w1 w2 := below_call (by repeat (first | exact Below.refl _ _ | refine Below.alloc ?_ (by first | omega | (simp; done) | (simp; omega)) _)) hb
  replace B_0 : Box w2 (w.heap.size) #[.int .i64 d_0.First, .slice a1_0 l1_0 k1_0] := Box.below hb (by first | omega | (simp; done) | (simp; omega)) (by repeat (first | exact B_0 | (apply boxN; (focus (first | omega | (simp; done) | (simp; omega)))) | (apply Box.alloc; rotate_left; (focus (first | omega | (simp; done) | (simp; omega))))))
  replace L_0 : w.heap.size < w2.heap.size := (by first | omega | (simp; done) | (simp; omega))
  replace Hb := hid (Hb.out.trans (hp.mono Hb.out.size))
  obtain ⟨a1_t10, l1_t10, k1_t10, rfl, h0_t10, h1_t10⟩ := open_Hist hO.1
  have P1_t10 := hid (parts_Hist hO h1_t10)
  have R1_t10 : Hid (∀ x ∈ bs_t10, w1.heap.size ≤ x ∧ x < w2.heap.size) := hid (fun x hx => by have := P1_t10.out.lts x hx; refine ⟨?_, this.2⟩; have := this.1; first | omega | (simp at this; omega))
  clear hb hp hO
  try unfold Box at B_0
  go_wp2_with fail
  refine (s_HistFind (mk_Hist (d := d_0) h0_t10 (Slc.grow P1_t10.out.slc ?_)) d_1 (by have := HN_1.out; omega) d_2 h0_2 d_3 h0_3 d_4 ).mono ?_
  · repeat (first | exact Below.refl _ _ | refine Below.alloc ?_ (by first | omega | (simp; done) | (simp; omega)) _)
  rintro e w3 ⟨rfl, hb⟩
  have hz3 := hb.size; try simp at hz3
  have hp : Below w2.heap.size w2 w3 := below_call (by repeat (first | exact Below.refl _ _ | refine Below.alloc ?_ (by first | omega | (simp; done) | (simp; omega)) _)) hb
  replace B_0 : Box w3 (w.heap.size) #[.int .i64 d_0.First, .slice a1_0 l1_0 k1_0] := Box.below hb (by first | omega | (simp; done) | (simp; omega)) (by repeat (first | exact B_0 | (apply boxN; (focus (first | omega | (simp; done) | (simp; omega)))) | (apply Box.alloc; rotate_left; (focus (first | omega | (simp; done) | (simp; omega))))))
  replace L_0 : w.heap.size < w3.heap.size := (by first | omega | (simp; done) | (simp; omega))
  replace P1_t10 := hid (P1_t10.out.grow hp)
  replace Hb := hid (Hb.out.trans (hp.mono Hb.out.size))
  clear hb hp
  try unfold Box at B_0
  go_wp2_with fail
  refine (toHist (grow G_0.out ?_) (by have := HN_0.out; first | omega | (simp only [cnt_ints, cnt_bytes] at this; omega))).mono ?_
  · (repeat (first | exact Hb.out | refine Below.alloc ?_ (by have := Hb.out.size; first | omega | (simp; done) | (simp; omega)) _))
  rintro e w4 ⟨cs_x0, bs_x0, rfl, hO, hb⟩
  have hz4 := hb.size; try simp at hz4
  have hp : Below w3.heap.size w3 w4 := below_call (by repeat (first | exact Below.refl _ _ | refine Below.alloc ?_ (by first | omega | (simp; done) | (simp; omega)) _)) hb
  replace B_0 : Box w4 (w.heap.size) #[.int .i64 d_0.First, .slice a1_0 l1_0 k1_0] := Box.below hb (by first | omega | (simp; done) | (simp; omega)) (by repeat (first | exact B_0 | (apply boxN; (focus (first | omega | (simp; done) | (simp; omega)))) | (apply Box.alloc; rotate_left; (focus (first | omega | (simp; done) | (simp; omega))))))
  replace L_0 : w.heap.size < w4.heap.size := (by first | omega | (simp; done) | (simp; omega))
  replace Hb := hid (Hb.out.trans (hp.mono Hb.out.size))
  obtain ⟨a1_x0, l1_x0, k1_x0, rfl, h0_x0, h1_x0⟩ := open_Hist hO.1
  have P1_x0 := hid (parts_Hist hO h1_x0)
  have R1_x0 : Hid (∀ x ∈ bs_x0, w3.heap.size ≤ x ∧ x < w4.heap.size) := hid (fun x hx => by have := P1_x0.out.lts x hx; refine ⟨?_, this.2⟩; have := this.1; first | omega | (simp at this; omega))
  clear hb hp hO
  try unfold Box at B_0
  go_wp2_with fail
  refine (i_HistFind (mk_Hist (d := d_0) h0_x0 (Slc.grow P1_x0.out.slc ?_)) d_1 (by have := HN_1.out; omega) d_2 h0_2 d_3 h0_3 d_4 (ml_keep HM0.out (by repeat (first | exact Hb.out | refine Below.alloc ?_ (by have := Hb.out.size; first | omega | (simp; done) | (simp; omega)) _)))).mono ?_
  · repeat (first | exact Below.refl _ _ | refine Below.alloc ?_ (by first | omega | (simp; done) | (simp; omega)) _)
  rintro e w5 ⟨rfl, hb⟩
  have hz5 := hb.size; try simp at hz5
  have hp : Below w4.heap.size w4 w5 := below_call (by repeat (first | exact Below.refl _ _ | refine Below.alloc ?_ (by first | omega | (simp; done) | (simp; omega)) _)) hb
  replace B_0 : Box w5 (w.heap.size) #[.int .i64 d_0.First, .slice a1_0 l1_0 k1_0] := Box.below hb (by first | omega | (simp; done) | (simp; omega)) (by repeat (first | exact B_0 | (apply boxN; (focus (first | omega | (simp; done) | (simp; omega)))) | (apply Box.alloc; rotate_left; (focus (first | omega | (simp; done) | (simp; omega))))))
  replace L_0 : w.heap.size < w5.heap.size := (by first | omega | (simp; done) | (simp; omega))
  have B_x0 : Box w5 (w4.heap.size) #[.int .i64 d_0.First, .slice a1_x0 l1_x0 k1_x0] := Box.below hb (by first | omega | (simp; done) | (simp; omega)) (by repeat (first | exact B_x0 | (apply boxN; (focus (first | omega | (simp; done) | (simp; omega)))) | (apply Box.alloc; rotate_left; (focus (first | omega | (simp; done) | (simp; omega))))))
  have L_x0 : w4.heap.size < w5.heap.size := (by first | omega | (simp; done) | (simp; omega))
  replace P1_x0 := hid (P1_x0.out.grow hp)
  replace Hb := hid (Hb.out.trans (hp.mono Hb.out.size))
  clear hb hp
  try unfold Box at B_0
  try unfold Box at B_x0
  try unfold Box at B_0
  try unfold Box at B_x0
  go_wp2_with fail
  go_region_held3 (fun W => Below w5.heap.size w5 W ∧ (∀ o, W.cell? ⟨w.heap.size, o, none⟩ = (#[.int .i64 d_0.First, .slice a1_0 l1_0 k1_0] : Array Value)[o]?) ∧ (∀ o, W.cell? ⟨w4.heap.size, o, none⟩ = (#[.int .i64 d_0.First, .slice a1_x0 l1_x0 k1_x0] : Array Value)[o]?)) (first | exact ⟨(Below.refl _ _).drew, B_0, B_x0⟩ | (go_split_ands; exact ⟨Below.trans (by assumption) (Below.mono hb2 (Below.size (by assumption))), keep_box hb2 (by assumption) (by assumption) (by omega), keep_box hb2 (by assumption) (by assumption) (by omega)⟩) | (go_split_ands; exact ⟨Below.trans (by assumption) (Below.mono hb1 (Below.size (by assumption))), keep_box hb1 (by assumption) (by assumption) (by omega), keep_box hb1 (by assumption) (by assumption) (by omega)⟩)) (first | (go_at_call 52; refine (toHist (grow G_0.out ?_) (by have := HN_0.out; first | omega | (simp only [cnt_ints, cnt_bytes] at this; omega))).mono ?_; (go_split_ands; exact Hb.out.trans (Below.mono (by assumption) Hb.out.size)); rintro e wa6 ⟨cs_e3, bs_e3, rfl, hO, hb1⟩; obtain ⟨a1_e3, l1_e3, k1_e3, rfl, h0_e3, h1_e3⟩ := open_Hist hO.1) | (go_at_call 54; refine (eqHist (mk_Hist (d := d_0) h0_x0 (Slc.grow P1_x0.out.slc ?_)) hO.1).mono ?_; (go_split_ands; exact (by assumption)); rintro e w6 ⟨rfl, hb2⟩))
  have hp : Below w5.heap.size w5 w6 := by go_split_ands; assumption
  have hz6 := hp.size; try simp at hz6
  replace B_0 : Box w6 (w.heap.size) #[.int .i64 d_0.First, .slice a1_0 l1_0 k1_0] := Box.below hp (by omega) B_0
  replace L_0 : w.heap.size < w6.heap.size := by omega
  replace B_x0 : Box w6 (w4.heap.size) #[.int .i64 d_0.First, .slice a1_x0 l1_x0 k1_x0] := Box.below hp (by omega) B_x0
  replace L_x0 : w4.heap.size < w6.heap.size := by omega
  replace P1_x0 := hid (P1_x0.out.grow hp)
  replace Hb := hid (Hb.out.trans (hp.mono Hb.out.size))
  clear hp hb1 hb2 hO
  try unfold Box at B_0
  try unfold Box at B_x0
  go_wp2
  go_ret
  exact ⟨rfl, Hb.out⟩
end Go.Proofs.Ytffinfpnmohnaaa
