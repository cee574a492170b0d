/- The law on HistOf. -/
import Derived.Test.YtdfpjchneofndaaHelpL
import Derived.Test.YtdfpjchneofndaaHistOf
import Derived.Deep.RegionHeld3
import Derived.Deep.DeepCutAuto
set_option linter.unusedSimpArgs false
set_option linter.unusedVariables false
namespace Go.Proofs.Ytdfpjchneofndaa
open Go.RowKit Go.G6
set_option maxRecDepth 10000
theorem boxN {w : World} {b : Nat} {c : Array Value} {t : TypeId} (hb : b = w.heap.size) : Box (w.alloc (.cells c t)) b c := by subst hb; exact box_new _ _ _
set_option maxHeartbeats 4000000 in
theorem lawHistOf {w : World} {bs_0 : List Nat} {a0_0 : Option Addr} {l0_0 k0_0 : Nat} {d_0 : List EntryD} (g_0 : Slc w bs_0 a0_0 l0_0 k0_0 d_0) :
    Calls Try.prog 5 #[.slice a0_0 l0_0 k0_0] w fun e w' => e = .returned (.bool true) ∧ Below w.heap.size w w' := by
  obtain rfl := g_0.len_eq
  have hm_0 := g_0.max
  have G_0 := hid g_0; clear g_0
  go_enter Try.func5, Try.ntmps5
  have Hb : Hid (Below w.heap.size w w) := hid (Below.refl _ _)
  go_wp2_with fail
  refine (szEntryS (1048576) (G_0.out.grow ?_) (by omega) (by omega)).mono ?_
  · (repeat (first | exact Hb.out | refine Below.alloc ?_ (by have := Hb.out.size; first | omega | (simp; done) | (simp; omega)) _))
  rintro e w1 ⟨rfl, hb⟩
  have hz1 := hb.size; try simp at hz1
  have hp : Below w.heap.size w w1 := below_call (by repeat (first | exact Below.refl _ _ | refine Below.alloc ?_ (by first | omega | (simp; done) | (simp; omega)) _)) hb
  replace Hb := hid (Hb.out.trans (hp.mono Hb.out.size))
  clear hb hp
  by_cases hn_0 : (Cnt.cnt d_0 : Int) ≤ 1048576
  rotate_left
  · rw [szr_neg (by omega)]
    go_wp2
    go_ret
    exact ⟨rfl, Hb.out⟩
  rw [szr_pos hn_0]
  have HN_0 : Hid (Cnt.cnt d_0 ≤ 1048576) := hid (by omega)
  go_wp2_with fail
  refine (toEntryS (G_0.out.grow ?_) (by have := HN_0.out; first | omega | (simp only [cnt_ints, cnt_bytes] at this; omega))).mono ?_
  · (repeat (first | exact Hb.out | refine Below.alloc ?_ (by have := Hb.out.size; first | omega | (simp; done) | (simp; omega)) _))
  rintro e w2 ⟨a0_t10, l0_t10, k0_t10, bs_t10, rfl, hO, hb⟩
  have hz2 := hb.size; try simp at hz2
  have hp : Below w1.heap.size w1 w2 := below_call (by repeat (first | exact Below.refl _ _ | refine Below.alloc ?_ (by first | omega | (simp; done) | (simp; omega)) _)) hb
  replace Hb := hid (Hb.out.trans (hp.mono Hb.out.size))
  have P0_t10 := hid hO
  have R0_t10 : Hid (∀ x ∈ bs_t10, w1.heap.size ≤ x ∧ x < w2.heap.size) := hid (fun x hx => by have := P0_t10.out.lts x hx; refine ⟨?_, this.2⟩; have := this.1; first | omega | (simp at this; omega))
  clear hb hp hO
  go_wp2_with fail
  refine (s_HistOf (Slc.grow P0_t10.out.slc ?_)  ).mono ?_
  · repeat (first | exact Below.refl _ _ | refine Below.alloc ?_ (by first | omega | (simp; done) | (simp; omega)) _)
  rintro e w3 ⟨cs_w0, bs_w0, rfl, hO0, hb⟩
  have hz3 := hb.size; try simp at hz3
  have hp : Below w2.heap.size w2 w3 := below_call (by repeat (first | exact Below.refl _ _ | refine Below.alloc ?_ (by first | omega | (simp; done) | (simp; omega)) _)) hb
  replace P0_t10 := hid (P0_t10.out.grow hp)
  replace Hb := hid (Hb.out.trans (hp.mono Hb.out.size))
  obtain ⟨a1_w0, l1_w0, k1_w0, rfl, h0_w0, h1_w0⟩ := open_Hist hO0.1
  have P1_w0 := hid (parts_Hist hO0 h1_w0)
  have R1_w0 : Hid (∀ x ∈ bs_w0, w2.heap.size ≤ x ∧ x < w3.heap.size) := hid (fun x hx => by have := P1_w0.out.lts x hx; refine ⟨?_, this.2⟩; have := this.1; first | omega | (simp at this; omega))
  clear hb hp
  go_wp2_with fail
  refine (toEntryS (G_0.out.grow ?_) (by have := HN_0.out; first | omega | (simp only [cnt_ints, cnt_bytes] at this; omega))).mono ?_
  · (repeat (first | exact Hb.out | refine Below.alloc ?_ (by have := Hb.out.size; first | omega | (simp; done) | (simp; omega)) _))
  rintro e w4 ⟨a0_x0, l0_x0, k0_x0, bs_x0, rfl, hO, hb⟩
  have hz4 := hb.size; try simp at hz4
  have hp : Below w3.heap.size w3 w4 := below_call (by repeat (first | exact Below.refl _ _ | refine Below.alloc ?_ (by first | omega | (simp; done) | (simp; omega)) _)) hb
  have B_w0 : Box w4 (w3.heap.size) #[.int .i64 (histOf d_0).First, .slice a1_w0 l1_w0 k1_w0] := Box.below hb (by first | omega | (simp; done) | (simp; omega)) (by repeat (first | exact B_w0 | (apply boxN; (focus (first | omega | (simp; done) | (simp; omega)))) | (apply Box.alloc; rotate_left; (focus (first | omega | (simp; done) | (simp; omega))))))
  have L_w0 : w3.heap.size < w4.heap.size := (by first | omega | (simp; done) | (simp; omega))
  replace P1_w0 := hid (P1_w0.out.grow hp)
  replace Hb := hid (Hb.out.trans (hp.mono Hb.out.size))
  have P0_x0 := hid hO
  have R0_x0 : Hid (∀ x ∈ bs_x0, w3.heap.size + 1 ≤ x ∧ x < w4.heap.size) := hid (fun x hx => by have := P0_x0.out.lts x hx; refine ⟨?_, this.2⟩; have := this.1; first | omega | (simp at this; omega))
  clear hb hp hO
  try unfold Box at B_w0
  go_wp2_with fail
  refine (i_HistOf (Slc.grow P0_x0.out.slc ?_)  ).mono ?_
  · repeat (first | exact Below.refl _ _ | refine Below.alloc ?_ (by first | omega | (simp; done) | (simp; omega)) _)
  rintro e w5 ⟨cs_g0, bs_g0, rfl, hO0, hb⟩
  have hz5 := hb.size; try simp at hz5
  have hp : Below w4.heap.size w4 w5 := below_call (by repeat (first | exact Below.refl _ _ | refine Below.alloc ?_ (by first | omega | (simp; done) | (simp; omega)) _)) hb
  replace B_w0 : Box w5 (w3.heap.size) #[.int .i64 (histOf d_0).First, .slice a1_w0 l1_w0 k1_w0] := Box.below hb (by first | omega | (simp; done) | (simp; omega)) (by repeat (first | exact B_w0 | (apply boxN; (focus (first | omega | (simp; done) | (simp; omega)))) | (apply Box.alloc; rotate_left; (focus (first | omega | (simp; done) | (simp; omega))))))
  replace L_w0 : w3.heap.size < w5.heap.size := (by first | omega | (simp; done) | (simp; omega))
  replace P1_w0 := hid (P1_w0.out.grow hp)
  replace P0_x0 := hid (P0_x0.out.grow hp)
  replace Hb := hid (Hb.out.trans (hp.mono Hb.out.size))
  obtain ⟨a1_g0, l1_g0, k1_g0, rfl, h0_g0, h1_g0⟩ := open_Hist hO0.1
  have P1_g0 := hid (parts_Hist hO0 h1_g0)
  have R1_g0 : Hid (∀ x ∈ bs_g0, w4.heap.size ≤ x ∧ x < w5.heap.size) := hid (fun x hx => by have := P1_g0.out.lts x hx; refine ⟨?_, this.2⟩; have := this.1; first | omega | (simp at this; omega))
  clear hb hp
  try unfold Box at B_w0
  go_wp2_with fail
  refine (eqHist (mk_Hist (d := (histOf d_0)) h0_g0 (Slc.grow P1_g0.out.slc ?_)) (mk_Hist (d := (histOf d_0)) h0_w0 (Slc.grow P1_w0.out.slc ?_))).mono ?_
  · repeat (first | exact Below.refl _ _ | refine Below.alloc ?_ (by first | omega | (simp; done) | (simp; omega)) _)
  · repeat (first | exact Below.refl _ _ | refine Below.alloc ?_ (by first | omega | (simp; done) | (simp; omega)) _)
  rintro e w6 ⟨rfl, hb⟩
  have hz6 := hb.size; try simp at hz6
  have hp : Below w5.heap.size w5 w6 := below_call (by repeat (first | exact Below.refl _ _ | refine Below.alloc ?_ (by first | omega | (simp; done) | (simp; omega)) _)) hb
  replace B_w0 : Box w6 (w3.heap.size) #[.int .i64 (histOf d_0).First, .slice a1_w0 l1_w0 k1_w0] := Box.below hb (by first | omega | (simp; done) | (simp; omega)) (by repeat (first | exact B_w0 | (apply boxN; (focus (first | omega | (simp; done) | (simp; omega)))) | (apply Box.alloc; rotate_left; (focus (first | omega | (simp; done) | (simp; omega))))))
  replace L_w0 : w3.heap.size < w6.heap.size := (by first | omega | (simp; done) | (simp; omega))
  have B_g0 : Box w6 (w5.heap.size) #[.int .i64 (histOf d_0).First, .slice a1_g0 l1_g0 k1_g0] := Box.below hb (by first | omega | (simp; done) | (simp; omega)) (by repeat (first | exact B_g0 | (apply boxN; (focus (first | omega | (simp; done) | (simp; omega)))) | (apply Box.alloc; rotate_left; (focus (first | omega | (simp; done) | (simp; omega))))))
  have L_g0 : w5.heap.size < w6.heap.size := (by first | omega | (simp; done) | (simp; omega))
  replace P1_w0 := hid (P1_w0.out.grow hp)
  replace P0_x0 := hid (P0_x0.out.grow hp)
  replace P1_g0 := hid (P1_g0.out.grow hp)
  replace Hb := hid (Hb.out.trans (hp.mono Hb.out.size))
  clear hb hp
  try unfold Box at B_w0
  try unfold Box at B_g0
  try unfold Box at B_w0
  try unfold Box at B_g0
  go_wp2_with fail
  refine (toEntryS (G_0.out.grow ?_) (by have := HN_0.out; first | omega | (simp only [cnt_ints, cnt_bytes] at this; omega))).mono ?_
  · (repeat (first | exact Hb.out | refine Below.alloc ?_ (by have := Hb.out.size; first | omega | (simp; done) | (simp; omega)) _))
  rintro e w7 ⟨a0_e3, l0_e3, k0_e3, bs_e3, rfl, hO, hb⟩
  have hz7 := hb.size; try simp at hz7
  have hp : Below w6.heap.size w6 w7 := below_call (by repeat (first | exact Below.refl _ _ | refine Below.alloc ?_ (by first | omega | (simp; done) | (simp; omega)) _)) hb
  replace B_w0 : Box w7 (w3.heap.size) #[.int .i64 (histOf d_0).First, .slice a1_w0 l1_w0 k1_w0] := Box.below hb (by first | omega | (simp; done) | (simp; omega)) (by repeat (first | exact B_w0 | (apply boxN; (focus (first | omega | (simp; done) | (simp; omega)))) | (apply Box.alloc; rotate_left; (focus (first | omega | (simp; done) | (simp; omega))))))
  replace L_w0 : w3.heap.size < w7.heap.size := (by first | omega | (simp; done) | (simp; omega))
  replace B_g0 : Box w7 (w5.heap.size) #[.int .i64 (histOf d_0).First, .slice a1_g0 l1_g0 k1_g0] := Box.below hb (by first | omega | (simp; done) | (simp; omega)) (by repeat (first | exact B_g0 | (apply boxN; (focus (first | omega | (simp; done) | (simp; omega)))) | (apply Box.alloc; rotate_left; (focus (first | omega | (simp; done) | (simp; omega))))))
  replace L_g0 : w5.heap.size < w7.heap.size := (by first | omega | (simp; done) | (simp; omega))
  replace P1_w0 := hid (P1_w0.out.grow hp)
  replace P0_x0 := hid (P0_x0.out.grow hp)
  replace P1_g0 := hid (P1_g0.out.grow hp)
  replace Hb := hid (Hb.out.trans (hp.mono Hb.out.size))
  have P0_e3 := hid hO
  have R0_e3 : Hid (∀ x ∈ bs_e3, w6.heap.size ≤ x ∧ x < w7.heap.size) := hid (fun x hx => by have := P0_e3.out.lts x hx; refine ⟨?_, this.2⟩; have := this.1; first | omega | (simp at this; omega))
  clear hb hp hO
  try unfold Box at B_w0
  try unfold Box at B_g0
  go_wp2_with fail
  refine (eqEntryS (Slc.grow P0_x0.out.slc ?_) (Slc.grow P0_e3.out.slc ?_)).mono ?_
  · repeat (first | exact Below.refl _ _ | refine Below.alloc ?_ (by first | omega | (simp; done) | (simp; omega)) _)
  · repeat (first | exact Below.refl _ _ | refine Below.alloc ?_ (by first | omega | (simp; done) | (simp; omega)) _)
  rintro e w8 ⟨rfl, hb⟩
  have hz8 := hb.size; try simp at hz8
  have hp : Below w7.heap.size w7 w8 := below_call (by repeat (first | exact Below.refl _ _ | refine Below.alloc ?_ (by first | omega | (simp; done) | (simp; omega)) _)) hb
  replace B_w0 : Box w8 (w3.heap.size) #[.int .i64 (histOf d_0).First, .slice a1_w0 l1_w0 k1_w0] := Box.below hb (by first | omega | (simp; done) | (simp; omega)) (by repeat (first | exact B_w0 | (apply boxN; (focus (first | omega | (simp; done) | (simp; omega)))) | (apply Box.alloc; rotate_left; (focus (first | omega | (simp; done) | (simp; omega))))))
  replace L_w0 : w3.heap.size < w8.heap.size := (by first | omega | (simp; done) | (simp; omega))
  replace B_g0 : Box w8 (w5.heap.size) #[.int .i64 (histOf d_0).First, .slice a1_g0 l1_g0 k1_g0] := Box.below hb (by first | omega | (simp; done) | (simp; omega)) (by repeat (first | exact B_g0 | (apply boxN; (focus (first | omega | (simp; done) | (simp; omega)))) | (apply Box.alloc; rotate_left; (focus (first | omega | (simp; done) | (simp; omega))))))
  replace L_g0 : w5.heap.size < w8.heap.size := (by first | omega | (simp; done) | (simp; omega))
  replace P1_w0 := hid (P1_w0.out.grow hp)
  replace P0_x0 := hid (P0_x0.out.grow hp)
  replace P1_g0 := hid (P1_g0.out.grow hp)
  replace P0_e3 := hid (P0_e3.out.grow hp)
  replace Hb := hid (Hb.out.trans (hp.mono Hb.out.size))
  clear hb hp
  try unfold Box at B_w0
  try unfold Box at B_g0
  try unfold Box at B_w0
  try unfold Box at B_g0
  have HK_x0 : Hid (1 + Mk.nE (d_0) ≤ topK) := hid (by have h_0 := HN_0.out; have k_0 := nE_entries d_0; unfold topK; omega)
  go_wp2_with fail
  refine (markEntryS P0_x0.out (1) HK_x0.out).mono ?_
  rintro e w9 ⟨rfl, hO0, hT⟩
  have hz9 := hT.size
  replace B_w0 : Box w9 (w3.heap.size) #[.int .i64 (histOf d_0).First, .slice a1_w0 l1_w0 k1_w0] := Box.tch hT (by omega) (fun hm => by have := R0_x0.out _ hm; omega) B_w0
  replace L_w0 : w3.heap.size < w9.heap.size := by omega
  replace B_g0 : Box w9 (w5.heap.size) #[.int .i64 (histOf d_0).First, .slice a1_g0 l1_g0 k1_g0] := Box.tch hT (by omega) (fun hm => by have := R0_x0.out _ hm; omega) B_g0
  replace L_g0 : w5.heap.size < w9.heap.size := by omega
  replace P1_w0 := hid (P1_w0.out.tch hT (fun x hx hm => by have := R1_w0.out x hx; have := R0_x0.out x hm; omega))
  replace P1_g0 := hid (P1_g0.out.tch hT (fun x hx hm => by have := R1_g0.out x hx; have := R0_x0.out x hm; omega))
  replace Hb := hid (Hb.out.trans (hT.below Hb.out.size (fun x hm => by have := R0_x0.out x hm; omega)))
  replace P0_x0 := hid hO0
  clear hT hO0
  try unfold Box at B_w0
  try unfold Box at B_g0
  go_wp2_with fail
  refine (eqHist (mk_Hist (d := (histOf d_0)) h0_g0 (Slc.grow P1_g0.out.slc ?_)) (mk_Hist (d := (histOf d_0)) h0_w0 (Slc.grow P1_w0.out.slc ?_))).mono ?_
  · repeat (first | exact Below.refl _ _ | refine Below.alloc ?_ (by first | omega | (simp; done) | (simp; omega)) _)
  · repeat (first | exact Below.refl _ _ | refine Below.alloc ?_ (by first | omega | (simp; done) | (simp; omega)) _)
  rintro e w10 ⟨rfl, hb⟩
  have hz10 := hb.size; try simp at hz10
  have hp : Below w9.heap.size w9 w10 := below_call (by repeat (first | exact Below.refl _ _ | refine Below.alloc ?_ (by first | omega | (simp; done) | (simp; omega)) _)) hb
  replace B_w0 : Box w10 (w3.heap.size) #[.int .i64 (histOf d_0).First, .slice a1_w0 l1_w0 k1_w0] := Box.below hb (by first | omega | (simp; done) | (simp; omega)) (by repeat (first | exact B_w0 | (apply boxN; (focus (first | omega | (simp; done) | (simp; omega)))) | (apply Box.alloc; rotate_left; (focus (first | omega | (simp; done) | (simp; omega))))))
  replace L_w0 : w3.heap.size < w10.heap.size := (by first | omega | (simp; done) | (simp; omega))
  replace B_g0 : Box w10 (w5.heap.size) #[.int .i64 (histOf d_0).First, .slice a1_g0 l1_g0 k1_g0] := Box.below hb (by first | omega | (simp; done) | (simp; omega)) (by repeat (first | exact B_g0 | (apply boxN; (focus (first | omega | (simp; done) | (simp; omega)))) | (apply Box.alloc; rotate_left; (focus (first | omega | (simp; done) | (simp; omega))))))
  replace L_g0 : w5.heap.size < w10.heap.size := (by first | omega | (simp; done) | (simp; omega))
  replace P1_w0 := hid (P1_w0.out.grow hp)
  replace P0_x0 := hid (P0_x0.out.grow hp)
  replace P1_g0 := hid (P1_g0.out.grow hp)
  replace Hb := hid (Hb.out.trans (hp.mono Hb.out.size))
  clear hb hp
  try unfold Box at B_w0
  try unfold Box at B_g0
  try unfold Box at B_w0
  try unfold Box at B_g0
  have HK_g0 : Hid (1 + ((histOf d_0)).nkv ≤ topK) := hid (by exact histOf_top _)
  go_wp2_with fail
  refine (markHist (d := (histOf d_0)) P1_g0.out  (1) HK_g0.out).mono ?_
  rintro e w11 ⟨rfl, hO1, hT⟩
  have hz11 := hT.size
  replace B_w0 : Box w11 (w3.heap.size) #[.int .i64 (histOf d_0).First, .slice a1_w0 l1_w0 k1_w0] := Box.tch hT (by omega) (fun hm => by have := R1_g0.out _ hm; omega) B_w0
  replace L_w0 : w3.heap.size < w11.heap.size := by omega
  replace B_g0 : Box w11 (w5.heap.size) #[.int .i64 (histOf d_0).First, .slice a1_g0 l1_g0 k1_g0] := Box.tch hT (by omega) (fun hm => by have := R1_g0.out _ hm; omega) B_g0
  replace L_g0 : w5.heap.size < w11.heap.size := by omega
  replace P1_w0 := hid (P1_w0.out.tch hT (fun x hx hm => by have := R1_w0.out x hx; have := R1_g0.out x hm; omega))
  replace P0_x0 := hid (P0_x0.out.tch hT (fun x hx hm => by have := R0_x0.out x hx; have := R1_g0.out x hm; omega))
  replace Hb := hid (Hb.out.trans (hT.below Hb.out.size (fun x hm => by have := R1_g0.out x hm; omega)))
  replace P1_g0 := hid hO1
  clear hT hO1
  try unfold Box at B_w0
  try unfold Box at B_g0
  go_wp2_with fail
  refine (heldHist (d := (histOf d_0)) (1) (mk_Hist (d := (((histOf d_0)).mkv (1))) h0_g0 (Slc.grow P1_g0.out.slc ?_)) (by have := HK_g0.out; omega)).mono ?_
  · repeat (first | exact Below.refl _ _ | refine Below.alloc ?_ (by first | omega | (simp; done) | (simp; omega)) _)
  rintro e w12 ⟨rfl, hb⟩
  have hz12 := hb.size; try simp at hz12
  have hp : Below w11.heap.size w11 w12 := below_call (by repeat (first | exact Below.refl _ _ | refine Below.alloc ?_ (by first | omega | (simp; done) | (simp; omega)) _)) hb
  replace B_w0 : Box w12 (w3.heap.size) #[.int .i64 (histOf d_0).First, .slice a1_w0 l1_w0 k1_w0] := Box.below hb (by first | omega | (simp; done) | (simp; omega)) (by repeat (first | exact B_w0 | (apply boxN; (focus (first | omega | (simp; done) | (simp; omega)))) | (apply Box.alloc; rotate_left; (focus (first | omega | (simp; done) | (simp; omega))))))
  replace L_w0 : w3.heap.size < w12.heap.size := (by first | omega | (simp; done) | (simp; omega))
  replace B_g0 : Box w12 (w5.heap.size) #[.int .i64 (histOf d_0).First, .slice a1_g0 l1_g0 k1_g0] := Box.below hb (by first | omega | (simp; done) | (simp; omega)) (by repeat (first | exact B_g0 | (apply boxN; (focus (first | omega | (simp; done) | (simp; omega)))) | (apply Box.alloc; rotate_left; (focus (first | omega | (simp; done) | (simp; omega))))))
  replace L_g0 : w5.heap.size < w12.heap.size := (by first | omega | (simp; done) | (simp; omega))
  replace P1_w0 := hid (P1_w0.out.grow hp)
  replace P0_x0 := hid (P0_x0.out.grow hp)
  replace P1_g0 := hid (P1_g0.out.grow hp)
  replace Hb := hid (Hb.out.trans (hp.mono Hb.out.size))
  clear hb hp
  try unfold Box at B_w0
  try unfold Box at B_g0
  try unfold Box at B_w0
  try unfold Box at B_g0
  try unfold Box at B_w0
  try unfold Box at B_g0
  go_wp2_with fail
  refine (toEntryS (G_0.out.grow ?_) (by have := HN_0.out; first | omega | (simp only [cnt_ints, cnt_bytes] at this; omega))).mono ?_
  · (repeat (first | exact Hb.out | refine Below.alloc ?_ (by have := Hb.out.size; first | omega | (simp; done) | (simp; omega)) _))
  rintro e w13 ⟨a0_t40, l0_t40, k0_t40, bs_t40, rfl, hO, hb⟩
  have hz13 := hb.size; try simp at hz13
  have hp : Below w12.heap.size w12 w13 := below_call (by repeat (first | exact Below.refl _ _ | refine Below.alloc ?_ (by first | omega | (simp; done) | (simp; omega)) _)) hb
  replace B_w0 : Box w13 (w3.heap.size) #[.int .i64 (histOf d_0).First, .slice a1_w0 l1_w0 k1_w0] := Box.below hb (by first | omega | (simp; done) | (simp; omega)) (by repeat (first | exact B_w0 | (apply boxN; (focus (first | omega | (simp; done) | (simp; omega)))) | (apply Box.alloc; rotate_left; (focus (first | omega | (simp; done) | (simp; omega))))))
  replace L_w0 : w3.heap.size < w13.heap.size := (by first | omega | (simp; done) | (simp; omega))
  replace B_g0 : Box w13 (w5.heap.size) #[.int .i64 (histOf d_0).First, .slice a1_g0 l1_g0 k1_g0] := Box.below hb (by first | omega | (simp; done) | (simp; omega)) (by repeat (first | exact B_g0 | (apply boxN; (focus (first | omega | (simp; done) | (simp; omega)))) | (apply Box.alloc; rotate_left; (focus (first | omega | (simp; done) | (simp; omega))))))
  replace L_g0 : w5.heap.size < w13.heap.size := (by first | omega | (simp; done) | (simp; omega))
  replace P1_w0 := hid (P1_w0.out.grow hp)
  replace P0_x0 := hid (P0_x0.out.grow hp)
  replace P1_g0 := hid (P1_g0.out.grow hp)
  replace Hb := hid (Hb.out.trans (hp.mono Hb.out.size))
  have P0_t40 := hid hO
  have R0_t40 : Hid (∀ x ∈ bs_t40, w12.heap.size ≤ x ∧ x < w13.heap.size) := hid (fun x hx => by have := P0_t40.out.lts x hx; refine ⟨?_, this.2⟩; have := this.1; first | omega | (simp at this; omega))
  clear hb hp hO
  try unfold Box at B_w0
  try unfold Box at B_g0
  go_wp2_with fail
  refine (i_HistOf (Slc.grow P0_t40.out.slc ?_)  ).mono ?_
  · repeat (first | exact Below.refl _ _ | refine Below.alloc ?_ (by first | omega | (simp; done) | (simp; omega)) _)
  rintro e w14 ⟨cs_h0, bs_h0, rfl, hO0, hb⟩
  have hz14 := hb.size; try simp at hz14
  have hp : Below w13.heap.size w13 w14 := below_call (by repeat (first | exact Below.refl _ _ | refine Below.alloc ?_ (by first | omega | (simp; done) | (simp; omega)) _)) hb
  replace B_w0 : Box w14 (w3.heap.size) #[.int .i64 (histOf d_0).First, .slice a1_w0 l1_w0 k1_w0] := Box.below hb (by first | omega | (simp; done) | (simp; omega)) (by repeat (first | exact B_w0 | (apply boxN; (focus (first | omega | (simp; done) | (simp; omega)))) | (apply Box.alloc; rotate_left; (focus (first | omega | (simp; done) | (simp; omega))))))
  replace L_w0 : w3.heap.size < w14.heap.size := (by first | omega | (simp; done) | (simp; omega))
  replace B_g0 : Box w14 (w5.heap.size) #[.int .i64 (histOf d_0).First, .slice a1_g0 l1_g0 k1_g0] := Box.below hb (by first | omega | (simp; done) | (simp; omega)) (by repeat (first | exact B_g0 | (apply boxN; (focus (first | omega | (simp; done) | (simp; omega)))) | (apply Box.alloc; rotate_left; (focus (first | omega | (simp; done) | (simp; omega))))))
  replace L_g0 : w5.heap.size < w14.heap.size := (by first | omega | (simp; done) | (simp; omega))
  replace P1_w0 := hid (P1_w0.out.grow hp)
  replace P0_x0 := hid (P0_x0.out.grow hp)
  replace P1_g0 := hid (P1_g0.out.grow hp)
  replace P0_t40 := hid (P0_t40.out.grow hp)
  replace Hb := hid (Hb.out.trans (hp.mono Hb.out.size))
  obtain ⟨a1_h0, l1_h0, k1_h0, rfl, h0_h0, h1_h0⟩ := open_Hist hO0.1
  have P1_h0 := hid (parts_Hist hO0 h1_h0)
  have R1_h0 : Hid (∀ x ∈ bs_h0, w13.heap.size ≤ x ∧ x < w14.heap.size) := hid (fun x hx => by have := P1_h0.out.lts x hx; refine ⟨?_, this.2⟩; have := this.1; first | omega | (simp at this; omega))
  clear hb hp
  try unfold Box at B_w0
  try unfold Box at B_g0
  go_wp2_with fail
  refine (eqHist (mk_Hist (d := (histOf d_0)) h0_h0 (Slc.grow P1_h0.out.slc ?_)) (mk_Hist (d := (histOf d_0)) h0_w0 (Slc.grow P1_w0.out.slc ?_))).mono ?_
  · repeat (first | exact Below.refl _ _ | refine Below.alloc ?_ (by first | omega | (simp; done) | (simp; omega)) _)
  · repeat (first | exact Below.refl _ _ | refine Below.alloc ?_ (by first | omega | (simp; done) | (simp; omega)) _)
  rintro e w15 ⟨rfl, hb⟩
  have hz15 := hb.size; try simp at hz15
  have hp : Below w14.heap.size w14 w15 := below_call (by repeat (first | exact Below.refl _ _ | refine Below.alloc ?_ (by first | omega | (simp; done) | (simp; omega)) _)) hb
  replace B_w0 : Box w15 (w3.heap.size) #[.int .i64 (histOf d_0).First, .slice a1_w0 l1_w0 k1_w0] := Box.below hb (by first | omega | (simp; done) | (simp; omega)) (by repeat (first | exact B_w0 | (apply boxN; (focus (first | omega | (simp; done) | (simp; omega)))) | (apply Box.alloc; rotate_left; (focus (first | omega | (simp; done) | (simp; omega))))))
  replace L_w0 : w3.heap.size < w15.heap.size := (by first | omega | (simp; done) | (simp; omega))
  replace B_g0 : Box w15 (w5.heap.size) #[.int .i64 (histOf d_0).First, .slice a1_g0 l1_g0 k1_g0] := Box.below hb (by first | omega | (simp; done) | (simp; omega)) (by repeat (first | exact B_g0 | (apply boxN; (focus (first | omega | (simp; done) | (simp; omega)))) | (apply Box.alloc; rotate_left; (focus (first | omega | (simp; done) | (simp; omega))))))
  replace L_g0 : w5.heap.size < w15.heap.size := (by first | omega | (simp; done) | (simp; omega))
  have B_h0 : Box w15 (w14.heap.size) #[.int .i64 (histOf d_0).First, .slice a1_h0 l1_h0 k1_h0] := Box.below hb (by first | omega | (simp; done) | (simp; omega)) (by repeat (first | exact B_h0 | (apply boxN; (focus (first | omega | (simp; done) | (simp; omega)))) | (apply Box.alloc; rotate_left; (focus (first | omega | (simp; done) | (simp; omega))))))
  have L_h0 : w14.heap.size < w15.heap.size := (by first | omega | (simp; done) | (simp; omega))
  replace P1_w0 := hid (P1_w0.out.grow hp)
  replace P0_x0 := hid (P0_x0.out.grow hp)
  replace P1_g0 := hid (P1_g0.out.grow hp)
  replace P1_h0 := hid (P1_h0.out.grow hp)
  replace Hb := hid (Hb.out.trans (hp.mono Hb.out.size))
  clear hb hp
  try unfold Box at B_w0
  try unfold Box at B_g0
  try unfold Box at B_h0
  try unfold Box at B_w0
  try unfold Box at B_g0
  try unfold Box at B_h0
  go_wp2_with fail
  refine (heldHist (d := (histOf d_0)) (1) (mk_Hist (d := (((histOf d_0)).mkv (1))) h0_g0 (Slc.grow P1_g0.out.slc ?_)) (by have := HK_g0.out; omega)).mono ?_
  · repeat (first | exact Below.refl _ _ | refine Below.alloc ?_ (by first | omega | (simp; done) | (simp; omega)) _)
  rintro e w16 ⟨rfl, hb⟩
  have hz16 := hb.size; try simp at hz16
  have hp : Below w15.heap.size w15 w16 := below_call (by repeat (first | exact Below.refl _ _ | refine Below.alloc ?_ (by first | omega | (simp; done) | (simp; omega)) _)) hb
  replace B_w0 : Box w16 (w3.heap.size) #[.int .i64 (histOf d_0).First, .slice a1_w0 l1_w0 k1_w0] := Box.below hb (by first | omega | (simp; done) | (simp; omega)) (by repeat (first | exact B_w0 | (apply boxN; (focus (first | omega | (simp; done) | (simp; omega)))) | (apply Box.alloc; rotate_left; (focus (first | omega | (simp; done) | (simp; omega))))))
  replace L_w0 : w3.heap.size < w16.heap.size := (by first | omega | (simp; done) | (simp; omega))
  replace B_g0 : Box w16 (w5.heap.size) #[.int .i64 (histOf d_0).First, .slice a1_g0 l1_g0 k1_g0] := Box.below hb (by first | omega | (simp; done) | (simp; omega)) (by repeat (first | exact B_g0 | (apply boxN; (focus (first | omega | (simp; done) | (simp; omega)))) | (apply Box.alloc; rotate_left; (focus (first | omega | (simp; done) | (simp; omega))))))
  replace L_g0 : w5.heap.size < w16.heap.size := (by first | omega | (simp; done) | (simp; omega))
  replace B_h0 : Box w16 (w14.heap.size) #[.int .i64 (histOf d_0).First, .slice a1_h0 l1_h0 k1_h0] := Box.below hb (by first | omega | (simp; done) | (simp; omega)) (by repeat (first | exact B_h0 | (apply boxN; (focus (first | omega | (simp; done) | (simp; omega)))) | (apply Box.alloc; rotate_left; (focus (first | omega | (simp; done) | (simp; omega))))))
  replace L_h0 : w14.heap.size < w16.heap.size := (by first | omega | (simp; done) | (simp; omega))
  replace P1_w0 := hid (P1_w0.out.grow hp)
  replace P0_x0 := hid (P0_x0.out.grow hp)
  replace P1_g0 := hid (P1_g0.out.grow hp)
  replace P1_h0 := hid (P1_h0.out.grow hp)
  replace Hb := hid (Hb.out.trans (hp.mono Hb.out.size))
  clear hb hp
  try unfold Box at B_w0
  try unfold Box at B_g0
  try unfold Box at B_h0
  try unfold Box at B_w0
  try unfold Box at B_g0
  try unfold Box at B_h0
  try unfold Box at B_w0
  try unfold Box at B_g0
  try unfold Box at B_h0
  go_wp2
  go_ret
  exact ⟨rfl, Hb.out⟩
end Go.Proofs.Ytdfpjchneofndaa
