/- The law on Tidy. -/
import Derived.Test.YtdjcjilipgpnmaaGreatKHelpM
import Derived.Test.YtdjcjilipgpnmaaGreatPStoHT
import Derived.Deep.RegionHeld3
import Derived.Deep.DeepCutAuto
set_option linter.unusedSimpArgs false
set_option linter.unusedVariables false
namespace Go.Proofs.YtdjcjilipgpnmaaGreat
open Go.RowKit Go.G6
set_option maxRecDepth 10000
theorem boxN {w : World} {b : Nat} {c : Array Value} {t : TypeId} (hb : b = w.heap.size) : Box (w.alloc (.cells c t)) b c := by subst hb; exact box_new _ _ _
set_option maxHeartbeats 4000000 in
theorem lawTidy {w : World} {bs_0 : List Nat} {cs_0 : List Value} {d_0 : StoreD} (g_0 : Rep.pt w bs_0 cs_0 d_0) :
  Calls Tryz.prog 4 #[.agg cs_0.toArray] w fun e w' => e = .returned (.bool true) ∧ Below w.heap.size w w' := by
 have G_0 := hid g_0
 obtain ⟨b3_0, b4_0, b5_0, b8_0, a3_0, l3_0, k3_0, a4_0, l4_0, k4_0, a5_0, l5_0, k5_0, a8_0, l8_0, k8_0, rfl, rfl, h0_0, h1_0, h2_0, h3_0, h4_0, h5_0, h6_0, h7_0, h8_0, h9_0⟩ := open_Store g_0
 clear g_0
 go_enter Tryz.func4, Tryz.ntmps4
 have Hb : Hid (Below w.heap.size w w) := hid (Below.refl _ _)
 go_wp2_with fail
 refine (szStore (1048576) (grow G_0.out ?_) (by omega) (by omega)).mono ?_
 ·(repeat (first | exact Hb.out | refine Below.alloc ?_ (by have := Hb.out.size; first | omega | (simp; done) | (simp; omega)) _))
 rintro e w1 ⟨rfl, hb⟩
 have hz1 := hb.size; try simp at hz1
 have hp : Below w.heap.size w w1 := below_call (by repeat (first | exact Below.refl _ _ | refine Below.alloc ?_ (by first | omega | (simp; done) | (simp; omega)) _)) hb
 have B_0 : Box w1 (w.heap.size) #[.int .i64 d_0.Disk.Room, .int .i64 d_0.Disk.Fuse, .int .i64 d_0.Disk.Next, .slice a3_0 l3_0 k3_0, .slice a4_0 l4_0 k4_0, .slice a5_0 l5_0 k5_0, .int .i64 d_0.Keep, .int .i64 d_0.Size, .slice a8_0 l8_0 k8_0, .int .i64 d_0.Len] := Box.below hb (by first | omega | (simp; done) | (simp; omega)) (by repeat (first | exact B_0 | (apply boxN; (focus (first | omega | (simp; done) | (simp; omega)))) | (apply Box.alloc; rotate_left; (focus (first | omega | (simp; done) | (simp; omega))))))
 have L_0 : w.heap.size < w1.heap.size := (by first | omega | (simp; done) | (simp; omega))
 replace Hb := hid (Hb.out.trans (hp.mono Hb.out.size))
 clear hb hp
 by_cases hn_0 : (Cnt.cnt d_0 : Int) ≤ 1048576
 rotate_left
 ·rw [szr_neg (by omega)]
  go_wp2
  go_ret
  exact ⟨rfl, Hb.out⟩
 rw [szr_pos hn_0]
 have HN_0 : Hid (Cnt.cnt d_0 ≤ 1048576) := hid (by omega)
 try unfold Box at B_0
 go_wp2_with fail
 refine (toStore (grow G_0.out ?_) (by have := HN_0.out; first | omega | (simp only [cnt_ints, cnt_bytes] at this; omega))).mono ?_
 ·(repeat (first | exact Hb.out | refine Below.alloc ?_ (by have := Hb.out.size; first | omega | (simp; done) | (simp; omega)) _))
 rintro e w2 ⟨cs_t10, bs_t10, rfl, hO, hb⟩
 have hz2 := hb.size; try simp at hz2
 have hp : Below w1.heap.size w1 w2 := below_call (by repeat (first | exact Below.refl _ _ | refine Below.alloc ?_ (by first | omega | (simp; done) | (simp; omega)) _)) hb
 replace B_0 : Box w2 (w.heap.size) #[.int .i64 d_0.Disk.Room, .int .i64 d_0.Disk.Fuse, .int .i64 d_0.Disk.Next, .slice a3_0 l3_0 k3_0, .slice a4_0 l4_0 k4_0, .slice a5_0 l5_0 k5_0, .int .i64 d_0.Keep, .int .i64 d_0.Size, .slice a8_0 l8_0 k8_0, .int .i64 d_0.Len] := Box.below hb (by first | omega | (simp; done) | (simp; omega)) (by repeat (first | exact B_0 | (apply boxN; (focus (first | omega | (simp; done) | (simp; omega)))) | (apply Box.alloc; rotate_left; (focus (first | omega | (simp; done) | (simp; omega))))))
 replace L_0 : w.heap.size < w2.heap.size := (by first | omega | (simp; done) | (simp; omega))
 replace Hb := hid (Hb.out.trans (hp.mono Hb.out.size))
 obtain ⟨b3_t10, b4_t10, b5_t10, b8_t10, a3_t10, l3_t10, k3_t10, a4_t10, l4_t10, k4_t10, a5_t10, l5_t10, k5_t10, a8_t10, l8_t10, k8_t10, rfl, rfl, h0_t10, h1_t10, h2_t10, h3_t10, h4_t10, h5_t10, h6_t10, h7_t10, h8_t10, h9_t10⟩ := open_Store hO.1
 have hP_t10 := parts_Store hO h3_t10 h4_t10 h5_t10 h8_t10
 have P3_t10 := hid (hP_t10.1)
 have P4_t10 := hid (hP_t10.2.1)
 have P5_t10 := hid (hP_t10.2.2.1)
 have P8_t10 := hid (hP_t10.2.2.2.1)
 have E3_4_t10 := hid (hP_t10.2.2.2.2.1)
 have E3_5_t10 := hid (hP_t10.2.2.2.2.2.1)
 have E3_8_t10 := hid (hP_t10.2.2.2.2.2.2.1)
 have E4_5_t10 := hid (hP_t10.2.2.2.2.2.2.2.1)
 have E4_8_t10 := hid (hP_t10.2.2.2.2.2.2.2.2.1)
 have E5_8_t10 := hid (hP_t10.2.2.2.2.2.2.2.2.2)
 clear hP_t10
 have R3_t10 : Hid (∀ x ∈ b3_t10, w1.heap.size ≤ x ∧ x < w2.heap.size) := hid (fun x hx => by have := P3_t10.out.lts x hx; refine ⟨?_, this.2⟩; have := this.1; first | omega | (simp at this; omega))
 have R4_t10 : Hid (∀ x ∈ b4_t10, w1.heap.size ≤ x ∧ x < w2.heap.size) := hid (fun x hx => by have := P4_t10.out.lts x hx; refine ⟨?_, this.2⟩; have := this.1; first | omega | (simp at this; omega))
 have R5_t10 : Hid (∀ x ∈ b5_t10, w1.heap.size ≤ x ∧ x < w2.heap.size) := hid (fun x hx => by have := P5_t10.out.lts x hx; refine ⟨?_, this.2⟩; have := this.1; first | omega | (simp at this; omega))
 have R8_t10 : Hid (∀ x ∈ b8_t10, w1.heap.size ≤ x ∧ x < w2.heap.size) := hid (fun x hx => by have := P8_t10.out.lts x hx; refine ⟨?_, this.2⟩; have := this.1; first | omega | (simp at this; omega))
 clear hb hp hO
 try unfold Box at B_0
 go_wp2_with fail
 refine (s_TidyX (mk_Store (d := d_0) h0_t10 h1_t10 h2_t10 (Slc.grow P3_t10.out.slc ?_) (Slc.grow P4_t10.out.slc ?_) (Slc.grow P5_t10.out.slc ?_) h6_t10 h7_t10 (Slc.grow P8_t10.out.slc ?_) h9_t10)  HN_0.out).mono ?_
 ·repeat (first | exact Below.refl _ _ | refine Below.alloc ?_ (by first | omega | (simp; done) | (simp; omega)) _)
 ·repeat (first | exact Below.refl _ _ | refine Below.alloc ?_ (by first | omega | (simp; done) | (simp; omega)) _)
 ·repeat (first | exact Below.refl _ _ | refine Below.alloc ?_ (by first | omega | (simp; done) | (simp; omega)) _)
 ·repeat (first | exact Below.refl _ _ | refine Below.alloc ?_ (by first | omega | (simp; done) | (simp; omega)) _)
 rintro e w3 ⟨cs_w0, bs_w0, rfl, hO0, hb⟩
 have hz3 := hb.size; try simp at hz3
 have hp : Below w2.heap.size w2 w3 := below_call (by repeat (first | exact Below.refl _ _ | refine Below.alloc ?_ (by first | omega | (simp; done) | (simp; omega)) _)) hb
 replace B_0 : Box w3 (w.heap.size) #[.int .i64 d_0.Disk.Room, .int .i64 d_0.Disk.Fuse, .int .i64 d_0.Disk.Next, .slice a3_0 l3_0 k3_0, .slice a4_0 l4_0 k4_0, .slice a5_0 l5_0 k5_0, .int .i64 d_0.Keep, .int .i64 d_0.Size, .slice a8_0 l8_0 k8_0, .int .i64 d_0.Len] := Box.below hb (by first | omega | (simp; done) | (simp; omega)) (by repeat (first | exact B_0 | (apply boxN; (focus (first | omega | (simp; done) | (simp; omega)))) | (apply Box.alloc; rotate_left; (focus (first | omega | (simp; done) | (simp; omega))))))
 replace L_0 : w.heap.size < w3.heap.size := (by first | omega | (simp; done) | (simp; omega))
 replace P3_t10 := hid (P3_t10.out.grow hp)
 replace P4_t10 := hid (P4_t10.out.grow hp)
 replace P5_t10 := hid (P5_t10.out.grow hp)
 replace P8_t10 := hid (P8_t10.out.grow hp)
 replace Hb := hid (Hb.out.trans (hp.mono Hb.out.size))
 obtain ⟨b3_w0, b4_w0, b5_w0, b8_w0, a3_w0, l3_w0, k3_w0, a4_w0, l4_w0, k4_w0, a5_w0, l5_w0, k5_w0, a8_w0, l8_w0, k8_w0, rfl, rfl, h0_w0, h1_w0, h2_w0, h3_w0, h4_w0, h5_w0, h6_w0, h7_w0, h8_w0, h9_w0⟩ := open_Store hO0.1
 have hP_w0 := parts_Store hO0 h3_w0 h4_w0 h5_w0 h8_w0
 have P3_w0 := hid (hP_w0.1)
 have P4_w0 := hid (hP_w0.2.1)
 have P5_w0 := hid (hP_w0.2.2.1)
 have P8_w0 := hid (hP_w0.2.2.2.1)
 have E3_4_w0 := hid (hP_w0.2.2.2.2.1)
 have E3_5_w0 := hid (hP_w0.2.2.2.2.2.1)
 have E3_8_w0 := hid (hP_w0.2.2.2.2.2.2.1)
 have E4_5_w0 := hid (hP_w0.2.2.2.2.2.2.2.1)
 have E4_8_w0 := hid (hP_w0.2.2.2.2.2.2.2.2.1)
 have E5_8_w0 := hid (hP_w0.2.2.2.2.2.2.2.2.2)
 clear hP_w0
 have R3_w0 : Hid (∀ x ∈ b3_w0, w2.heap.size ≤ x ∧ x < w3.heap.size) := hid (fun x hx => by have := P3_w0.out.lts x hx; refine ⟨?_, this.2⟩; have := this.1; first | omega | (simp at this; omega))
 have R4_w0 : Hid (∀ x ∈ b4_w0, w2.heap.size ≤ x ∧ x < w3.heap.size) := hid (fun x hx => by have := P4_w0.out.lts x hx; refine ⟨?_, this.2⟩; have := this.1; first | omega | (simp at this; omega))
 have R5_w0 : Hid (∀ x ∈ b5_w0, w2.heap.size ≤ x ∧ x < w3.heap.size) := hid (fun x hx => by have := P5_w0.out.lts x hx; refine ⟨?_, this.2⟩; have := this.1; first | omega | (simp at this; omega))
 have R8_w0 : Hid (∀ x ∈ b8_w0, w2.heap.size ≤ x ∧ x < w3.heap.size) := hid (fun x hx => by have := P8_w0.out.lts x hx; refine ⟨?_, this.2⟩; have := this.1; first | omega | (simp at this; omega))
 clear hb hp
 try unfold Box at B_0
 go_wp2_with fail
 refine (toStore (grow G_0.out ?_) (by have := HN_0.out; first | omega | (simp only [cnt_ints, cnt_bytes] at this; omega))).mono ?_
 ·(repeat (first | exact Hb.out | refine Below.alloc ?_ (by have := Hb.out.size; first | omega | (simp; done) | (simp; omega)) _))
 rintro e w4 ⟨cs_x0, bs_x0, rfl, hO, hb⟩
 have hz4 := hb.size; try simp at hz4
 have hp : Below w3.heap.size w3 w4 := below_call (by repeat (first | exact Below.refl _ _ | refine Below.alloc ?_ (by first | omega | (simp; done) | (simp; omega)) _)) hb
 replace B_0 : Box w4 (w.heap.size) #[.int .i64 d_0.Disk.Room, .int .i64 d_0.Disk.Fuse, .int .i64 d_0.Disk.Next, .slice a3_0 l3_0 k3_0, .slice a4_0 l4_0 k4_0, .slice a5_0 l5_0 k5_0, .int .i64 d_0.Keep, .int .i64 d_0.Size, .slice a8_0 l8_0 k8_0, .int .i64 d_0.Len] := Box.below hb (by first | omega | (simp; done) | (simp; omega)) (by repeat (first | exact B_0 | (apply boxN; (focus (first | omega | (simp; done) | (simp; omega)))) | (apply Box.alloc; rotate_left; (focus (first | omega | (simp; done) | (simp; omega))))))
 replace L_0 : w.heap.size < w4.heap.size := (by first | omega | (simp; done) | (simp; omega))
 have B_w0 : Box w4 (w3.heap.size) #[.int .i64 (tidyX d_0).Disk.Room, .int .i64 (tidyX d_0).Disk.Fuse, .int .i64 (tidyX d_0).Disk.Next, .slice a3_w0 l3_w0 k3_w0, .slice a4_w0 l4_w0 k4_w0, .slice a5_w0 l5_w0 k5_w0, .int .i64 (tidyX d_0).Keep, .int .i64 (tidyX d_0).Size, .slice a8_w0 l8_w0 k8_w0, .int .i64 (tidyX d_0).Len] := Box.below hb (by first | omega | (simp; done) | (simp; omega)) (by repeat (first | exact B_w0 | (apply boxN; (focus (first | omega | (simp; done) | (simp; omega)))) | (apply Box.alloc; rotate_left; (focus (first | omega | (simp; done) | (simp; omega))))))
 have L_w0 : w3.heap.size < w4.heap.size := (by first | omega | (simp; done) | (simp; omega))
 replace P3_w0 := hid (P3_w0.out.grow hp)
 replace P4_w0 := hid (P4_w0.out.grow hp)
 replace P5_w0 := hid (P5_w0.out.grow hp)
 replace P8_w0 := hid (P8_w0.out.grow hp)
 replace Hb := hid (Hb.out.trans (hp.mono Hb.out.size))
 obtain ⟨b3_x0, b4_x0, b5_x0, b8_x0, a3_x0, l3_x0, k3_x0, a4_x0, l4_x0, k4_x0, a5_x0, l5_x0, k5_x0, a8_x0, l8_x0, k8_x0, rfl, rfl, h0_x0, h1_x0, h2_x0, h3_x0, h4_x0, h5_x0, h6_x0, h7_x0, h8_x0, h9_x0⟩ := open_Store hO.1
 have hP_x0 := parts_Store hO h3_x0 h4_x0 h5_x0 h8_x0
 have P3_x0 := hid (hP_x0.1)
 have P4_x0 := hid (hP_x0.2.1)
 have P5_x0 := hid (hP_x0.2.2.1)
 have P8_x0 := hid (hP_x0.2.2.2.1)
 have E3_4_x0 := hid (hP_x0.2.2.2.2.1)
 have E3_5_x0 := hid (hP_x0.2.2.2.2.2.1)
 have E3_8_x0 := hid (hP_x0.2.2.2.2.2.2.1)
 have E4_5_x0 := hid (hP_x0.2.2.2.2.2.2.2.1)
 have E4_8_x0 := hid (hP_x0.2.2.2.2.2.2.2.2.1)
 have E5_8_x0 := hid (hP_x0.2.2.2.2.2.2.2.2.2)
 clear hP_x0
 have R3_x0 : Hid (∀ x ∈ b3_x0, w3.heap.size + 1 ≤ x ∧ x < w4.heap.size) := hid (fun x hx => by have := P3_x0.out.lts x hx; refine ⟨?_, this.2⟩; have := this.1; first | omega | (simp at this; omega))
 have R4_x0 : Hid (∀ x ∈ b4_x0, w3.heap.size + 1 ≤ x ∧ x < w4.heap.size) := hid (fun x hx => by have := P4_x0.out.lts x hx; refine ⟨?_, this.2⟩; have := this.1; first | omega | (simp at this; omega))
 have R5_x0 : Hid (∀ x ∈ b5_x0, w3.heap.size + 1 ≤ x ∧ x < w4.heap.size) := hid (fun x hx => by have := P5_x0.out.lts x hx; refine ⟨?_, this.2⟩; have := this.1; first | omega | (simp at this; omega))
 have R8_x0 : Hid (∀ x ∈ b8_x0, w3.heap.size + 1 ≤ x ∧ x < w4.heap.size) := hid (fun x hx => by have := P8_x0.out.lts x hx; refine ⟨?_, this.2⟩; have := this.1; first | omega | (simp at this; omega))
 clear hb hp hO
 try unfold Box at B_0
 try unfold Box at B_w0
 go_wp2_with fail
 refine (i_TidyX (mk_Store (d := d_0) h0_x0 h1_x0 h2_x0 (Slc.grow P3_x0.out.slc ?_) (Slc.grow P4_x0.out.slc ?_) (Slc.grow P5_x0.out.slc ?_) h6_x0 h7_x0 (Slc.grow P8_x0.out.slc ?_) h9_x0)  HN_0.out).mono ?_
 ·repeat (first | exact Below.refl _ _ | refine Below.alloc ?_ (by first | omega | (simp; done) | (simp; omega)) _)
 ·repeat (first | exact Below.refl _ _ | refine Below.alloc ?_ (by first | omega | (simp; done) | (simp; omega)) _)
 ·repeat (first | exact Below.refl _ _ | refine Below.alloc ?_ (by first | omega | (simp; done) | (simp; omega)) _)
 ·repeat (first | exact Below.refl _ _ | refine Below.alloc ?_ (by first | omega | (simp; done) | (simp; omega)) _)
 rintro e w5 ⟨cs_g0, bs_g0, rfl, hO0, hb⟩
 have hz5 := hb.size; try simp at hz5
 have hp : Below w4.heap.size w4 w5 := below_call (by repeat (first | exact Below.refl _ _ | refine Below.alloc ?_ (by first | omega | (simp; done) | (simp; omega)) _)) hb
 replace B_0 : Box w5 (w.heap.size) #[.int .i64 d_0.Disk.Room, .int .i64 d_0.Disk.Fuse, .int .i64 d_0.Disk.Next, .slice a3_0 l3_0 k3_0, .slice a4_0 l4_0 k4_0, .slice a5_0 l5_0 k5_0, .int .i64 d_0.Keep, .int .i64 d_0.Size, .slice a8_0 l8_0 k8_0, .int .i64 d_0.Len] := Box.below hb (by first | omega | (simp; done) | (simp; omega)) (by repeat (first | exact B_0 | (apply boxN; (focus (first | omega | (simp; done) | (simp; omega)))) | (apply Box.alloc; rotate_left; (focus (first | omega | (simp; done) | (simp; omega))))))
 replace L_0 : w.heap.size < w5.heap.size := (by first | omega | (simp; done) | (simp; omega))
 replace B_w0 : Box w5 (w3.heap.size) #[.int .i64 (tidyX d_0).Disk.Room, .int .i64 (tidyX d_0).Disk.Fuse, .int .i64 (tidyX d_0).Disk.Next, .slice a3_w0 l3_w0 k3_w0, .slice a4_w0 l4_w0 k4_w0, .slice a5_w0 l5_w0 k5_w0, .int .i64 (tidyX d_0).Keep, .int .i64 (tidyX d_0).Size, .slice a8_w0 l8_w0 k8_w0, .int .i64 (tidyX d_0).Len] := Box.below hb (by first | omega | (simp; done) | (simp; omega)) (by repeat (first | exact B_w0 | (apply boxN; (focus (first | omega | (simp; done) | (simp; omega)))) | (apply Box.alloc; rotate_left; (focus (first | omega | (simp; done) | (simp; omega))))))
 replace L_w0 : w3.heap.size < w5.heap.size := (by first | omega | (simp; done) | (simp; omega))
 have B_x0 : Box w5 (w4.heap.size) #[.int .i64 d_0.Disk.Room, .int .i64 d_0.Disk.Fuse, .int .i64 d_0.Disk.Next, .slice a3_x0 l3_x0 k3_x0, .slice a4_x0 l4_x0 k4_x0, .slice a5_x0 l5_x0 k5_x0, .int .i64 d_0.Keep, .int .i64 d_0.Size, .slice a8_x0 l8_x0 k8_x0, .int .i64 d_0.Len] := Box.below hb (by first | omega | (simp; done) | (simp; omega)) (by repeat (first | exact B_x0 | (apply boxN; (focus (first | omega | (simp; done) | (simp; omega)))) | (apply Box.alloc; rotate_left; (focus (first | omega | (simp; done) | (simp; omega))))))
 have L_x0 : w4.heap.size < w5.heap.size := (by first | omega | (simp; done) | (simp; omega))
 replace P3_w0 := hid (P3_w0.out.grow hp)
 replace P4_w0 := hid (P4_w0.out.grow hp)
 replace P5_w0 := hid (P5_w0.out.grow hp)
 replace P8_w0 := hid (P8_w0.out.grow hp)
 replace P3_x0 := hid (P3_x0.out.grow hp)
 replace P4_x0 := hid (P4_x0.out.grow hp)
 replace P5_x0 := hid (P5_x0.out.grow hp)
 replace P8_x0 := hid (P8_x0.out.grow hp)
 replace Hb := hid (Hb.out.trans (hp.mono Hb.out.size))
 obtain ⟨b3_g0, b4_g0, b5_g0, b8_g0, a3_g0, l3_g0, k3_g0, a4_g0, l4_g0, k4_g0, a5_g0, l5_g0, k5_g0, a8_g0, l8_g0, k8_g0, rfl, rfl, h0_g0, h1_g0, h2_g0, h3_g0, h4_g0, h5_g0, h6_g0, h7_g0, h8_g0, h9_g0⟩ := open_Store hO0.1
 have hP_g0 := parts_Store hO0 h3_g0 h4_g0 h5_g0 h8_g0
 have P3_g0 := hid (hP_g0.1)
 have P4_g0 := hid (hP_g0.2.1)
 have P5_g0 := hid (hP_g0.2.2.1)
 have P8_g0 := hid (hP_g0.2.2.2.1)
 have E3_4_g0 := hid (hP_g0.2.2.2.2.1)
 have E3_5_g0 := hid (hP_g0.2.2.2.2.2.1)
 have E3_8_g0 := hid (hP_g0.2.2.2.2.2.2.1)
 have E4_5_g0 := hid (hP_g0.2.2.2.2.2.2.2.1)
 have E4_8_g0 := hid (hP_g0.2.2.2.2.2.2.2.2.1)
 have E5_8_g0 := hid (hP_g0.2.2.2.2.2.2.2.2.2)
 clear hP_g0
 have R3_g0 : Hid (∀ x ∈ b3_g0, w4.heap.size + 1 ≤ x ∧ x < w5.heap.size) := hid (fun x hx => by have := P3_g0.out.lts x hx; refine ⟨?_, this.2⟩; have := this.1; first | omega | (simp at this; omega))
 have R4_g0 : Hid (∀ x ∈ b4_g0, w4.heap.size + 1 ≤ x ∧ x < w5.heap.size) := hid (fun x hx => by have := P4_g0.out.lts x hx; refine ⟨?_, this.2⟩; have := this.1; first | omega | (simp at this; omega))
 have R5_g0 : Hid (∀ x ∈ b5_g0, w4.heap.size + 1 ≤ x ∧ x < w5.heap.size) := hid (fun x hx => by have := P5_g0.out.lts x hx; refine ⟨?_, this.2⟩; have := this.1; first | omega | (simp at this; omega))
 have R8_g0 : Hid (∀ x ∈ b8_g0, w4.heap.size + 1 ≤ x ∧ x < w5.heap.size) := hid (fun x hx => by have := P8_g0.out.lts x hx; refine ⟨?_, this.2⟩; have := this.1; first | omega | (simp at this; omega))
 clear hb hp
 try unfold Box at B_0
 try unfold Box at B_w0
 try unfold Box at B_x0
 go_wp2_with fail
 refine (eqStore (mk_Store (d := (tidyX d_0)) h0_g0 h1_g0 h2_g0 (Slc.grow P3_g0.out.slc ?_) (Slc.grow P4_g0.out.slc ?_) (Slc.grow P5_g0.out.slc ?_) h6_g0 h7_g0 (Slc.grow P8_g0.out.slc ?_) h9_g0) (mk_Store (d := (tidyX d_0)) h0_w0 h1_w0 h2_w0 (Slc.grow P3_w0.out.slc ?_) (Slc.grow P4_w0.out.slc ?_) (Slc.grow P5_w0.out.slc ?_) h6_w0 h7_w0 (Slc.grow P8_w0.out.slc ?_) h9_w0)).mono ?_
 ·repeat (first | exact Below.refl _ _ | refine Below.alloc ?_ (by first | omega | (simp; done) | (simp; omega)) _)
 ·repeat (first | exact Below.refl _ _ | refine Below.alloc ?_ (by first | omega | (simp; done) | (simp; omega)) _)
 ·repeat (first | exact Below.refl _ _ | refine Below.alloc ?_ (by first | omega | (simp; done) | (simp; omega)) _)
 ·repeat (first | exact Below.refl _ _ | refine Below.alloc ?_ (by first | omega | (simp; done) | (simp; omega)) _)
 ·repeat (first | exact Below.refl _ _ | refine Below.alloc ?_ (by first | omega | (simp; done) | (simp; omega)) _)
 ·repeat (first | exact Below.refl _ _ | refine Below.alloc ?_ (by first | omega | (simp; done) | (simp; omega)) _)
 ·repeat (first | exact Below.refl _ _ | refine Below.alloc ?_ (by first | omega | (simp; done) | (simp; omega)) _)
 ·repeat (first | exact Below.refl _ _ | refine Below.alloc ?_ (by first | omega | (simp; done) | (simp; omega)) _)
 rintro e w6 ⟨rfl, hb⟩
 have hz6 := hb.size; try simp at hz6
 have hp : Below w5.heap.size w5 w6 := below_call (by repeat (first | exact Below.refl _ _ | refine Below.alloc ?_ (by first | omega | (simp; done) | (simp; omega)) _)) hb
 replace B_0 : Box w6 (w.heap.size) #[.int .i64 d_0.Disk.Room, .int .i64 d_0.Disk.Fuse, .int .i64 d_0.Disk.Next, .slice a3_0 l3_0 k3_0, .slice a4_0 l4_0 k4_0, .slice a5_0 l5_0 k5_0, .int .i64 d_0.Keep, .int .i64 d_0.Size, .slice a8_0 l8_0 k8_0, .int .i64 d_0.Len] := Box.below hb (by first | omega | (simp; done) | (simp; omega)) (by repeat (first | exact B_0 | (apply boxN; (focus (first | omega | (simp; done) | (simp; omega)))) | (apply Box.alloc; rotate_left; (focus (first | omega | (simp; done) | (simp; omega))))))
 replace L_0 : w.heap.size < w6.heap.size := (by first | omega | (simp; done) | (simp; omega))
 replace B_w0 : Box w6 (w3.heap.size) #[.int .i64 (tidyX d_0).Disk.Room, .int .i64 (tidyX d_0).Disk.Fuse, .int .i64 (tidyX d_0).Disk.Next, .slice a3_w0 l3_w0 k3_w0, .slice a4_w0 l4_w0 k4_w0, .slice a5_w0 l5_w0 k5_w0, .int .i64 (tidyX d_0).Keep, .int .i64 (tidyX d_0).Size, .slice a8_w0 l8_w0 k8_w0, .int .i64 (tidyX d_0).Len] := Box.below hb (by first | omega | (simp; done) | (simp; omega)) (by repeat (first | exact B_w0 | (apply boxN; (focus (first | omega | (simp; done) | (simp; omega)))) | (apply Box.alloc; rotate_left; (focus (first | omega | (simp; done) | (simp; omega))))))
 replace L_w0 : w3.heap.size < w6.heap.size := (by first | omega | (simp; done) | (simp; omega))
 replace B_x0 : Box w6 (w4.heap.size) #[.int .i64 d_0.Disk.Room, .int .i64 d_0.Disk.Fuse, .int .i64 d_0.Disk.Next, .slice a3_x0 l3_x0 k3_x0, .slice a4_x0 l4_x0 k4_x0, .slice a5_x0 l5_x0 k5_x0, .int .i64 d_0.Keep, .int .i64 d_0.Size, .slice a8_x0 l8_x0 k8_x0, .int .i64 d_0.Len] := Box.below hb (by first | omega | (simp; done) | (simp; omega)) (by repeat (first | exact B_x0 | (apply boxN; (focus (first | omega | (simp; done) | (simp; omega)))) | (apply Box.alloc; rotate_left; (focus (first | omega | (simp; done) | (simp; omega))))))
 replace L_x0 : w4.heap.size < w6.heap.size := (by first | omega | (simp; done) | (simp; omega))
 have B_g0 : Box w6 (w5.heap.size) #[.int .i64 (tidyX d_0).Disk.Room, .int .i64 (tidyX d_0).Disk.Fuse, .int .i64 (tidyX d_0).Disk.Next, .slice a3_g0 l3_g0 k3_g0, .slice a4_g0 l4_g0 k4_g0, .slice a5_g0 l5_g0 k5_g0, .int .i64 (tidyX d_0).Keep, .int .i64 (tidyX d_0).Size, .slice a8_g0 l8_g0 k8_g0, .int .i64 (tidyX d_0).Len] := Box.below hb (by first | omega | (simp; done) | (simp; omega)) (by repeat (first | exact B_g0 | (apply boxN; (focus (first | omega | (simp; done) | (simp; omega)))) | (apply Box.alloc; rotate_left; (focus (first | omega | (simp; done) | (simp; omega))))))
 have L_g0 : w5.heap.size < w6.heap.size := (by first | omega | (simp; done) | (simp; omega))
 replace P3_w0 := hid (P3_w0.out.grow hp)
 replace P4_w0 := hid (P4_w0.out.grow hp)
 replace P5_w0 := hid (P5_w0.out.grow hp)
 replace P8_w0 := hid (P8_w0.out.grow hp)
 replace P3_x0 := hid (P3_x0.out.grow hp)
 replace P4_x0 := hid (P4_x0.out.grow hp)
 replace P5_x0 := hid (P5_x0.out.grow hp)
 replace P8_x0 := hid (P8_x0.out.grow hp)
 replace P3_g0 := hid (P3_g0.out.grow hp)
 replace P4_g0 := hid (P4_g0.out.grow hp)
 replace P5_g0 := hid (P5_g0.out.grow hp)
 replace P8_g0 := hid (P8_g0.out.grow hp)
 replace Hb := hid (Hb.out.trans (hp.mono Hb.out.size))
 clear hb hp
 try unfold Box at B_0
 try unfold Box at B_w0
 try unfold Box at B_x0
 try unfold Box at B_g0
 try unfold Box at B_0
 try unfold Box at B_w0
 try unfold Box at B_x0
 try unfold Box at B_g0
 go_wp2_with fail
 go_region_held3 (fun W => Below w6.heap.size w6 W ∧ (∀ o, W.cell? ⟨w.heap.size, o, none⟩ = (#[.int .i64 d_0.Disk.Room, .int .i64 d_0.Disk.Fuse, .int .i64 d_0.Disk.Next, .slice a3_0 l3_0 k3_0, .slice a4_0 l4_0 k4_0, .slice a5_0 l5_0 k5_0, .int .i64 d_0.Keep, .int .i64 d_0.Size, .slice a8_0 l8_0 k8_0, .int .i64 d_0.Len] : Array Value)[o]?) ∧ (∀ o, W.cell? ⟨w3.heap.size, o, none⟩ = (#[.int .i64 (tidyX d_0).Disk.Room, .int .i64 (tidyX d_0).Disk.Fuse, .int .i64 (tidyX d_0).Disk.Next, .slice a3_w0 l3_w0 k3_w0, .slice a4_w0 l4_w0 k4_w0, .slice a5_w0 l5_w0 k5_w0, .int .i64 (tidyX d_0).Keep, .int .i64 (tidyX d_0).Size, .slice a8_w0 l8_w0 k8_w0, .int .i64 (tidyX d_0).Len] : Array Value)[o]?) ∧ (∀ o, W.cell? ⟨w4.heap.size, o, none⟩ = (#[.int .i64 d_0.Disk.Room, .int .i64 d_0.Disk.Fuse, .int .i64 d_0.Disk.Next, .slice a3_x0 l3_x0 k3_x0, .slice a4_x0 l4_x0 k4_x0, .slice a5_x0 l5_x0 k5_x0, .int .i64 d_0.Keep, .int .i64 d_0.Size, .slice a8_x0 l8_x0 k8_x0, .int .i64 d_0.Len] : Array Value)[o]?) ∧ (∀ o, W.cell? ⟨w5.heap.size, o, none⟩ = (#[.int .i64 (tidyX d_0).Disk.Room, .int .i64 (tidyX d_0).Disk.Fuse, .int .i64 (tidyX d_0).Disk.Next, .slice a3_g0 l3_g0 k3_g0, .slice a4_g0 l4_g0 k4_g0, .slice a5_g0 l5_g0 k5_g0, .int .i64 (tidyX d_0).Keep, .int .i64 (tidyX d_0).Size, .slice a8_g0 l8_g0 k8_g0, .int .i64 (tidyX d_0).Len] : Array Value)[o]?)) (first | exact ⟨(Below.refl _ _).drew, B_0, B_w0, B_x0, B_g0⟩ | (go_split_ands; exact ⟨Below.trans (by assumption) (Below.mono hb2 (Below.size (by assumption))), keep_box hb2 (by assumption) (by assumption) (by omega), keep_box hb2 (by assumption) (by assumption) (by omega), keep_box hb2 (by assumption) (by assumption) (by omega), keep_box hb2 (by assumption) (by assumption) (by omega)⟩) | (go_split_ands; exact ⟨Below.trans (by assumption) (Below.mono hb1 (Below.size (by assumption))), keep_box hb1 (by assumption) (by assumption) (by omega), keep_box hb1 (by assumption) (by assumption) (by omega), keep_box hb1 (by assumption) (by assumption) (by omega), keep_box hb1 (by assumption) (by assumption) (by omega)⟩)) (first | (go_at_call 7; refine (toStore (grow G_0.out ?_) (by have := HN_0.out; first | omega | (simp only [cnt_ints, cnt_bytes] at this; omega))).mono ?_; (go_split_ands; exact Hb.out.trans (Below.mono (by assumption) Hb.out.size)); rintro e wa7 ⟨cs_e3, bs_e3, rfl, hO, hb1⟩; obtain ⟨b3_e3, b4_e3, b5_e3, b8_e3, a3_e3, l3_e3, k3_e3, a4_e3, l4_e3, k4_e3, a5_e3, l5_e3, k5_e3, a8_e3, l8_e3, k8_e3, rfl, rfl, h0_e3, h1_e3, h2_e3, h3_e3, h4_e3, h5_e3, h6_e3, h7_e3, h8_e3, h9_e3⟩ := open_Store hO.1) | (go_at_call 9; refine (eqStore (mk_Store (d := d_0) h0_x0 h1_x0 h2_x0 (Slc.grow P3_x0.out.slc ?_) (Slc.grow P4_x0.out.slc ?_) (Slc.grow P5_x0.out.slc ?_) h6_x0 h7_x0 (Slc.grow P8_x0.out.slc ?_) h9_x0) hO.1).mono ?_; (go_split_ands; exact (by assumption)); (go_split_ands; exact (by assumption)); (go_split_ands; exact (by assumption)); (go_split_ands; exact (by assumption)); rintro e w7 ⟨rfl, hb2⟩))
 have hp : Below w6.heap.size w6 w7 := by go_split_ands; assumption
 have hz7 := hp.size; try simp at hz7
 replace B_0 : Box w7 (w.heap.size) #[.int .i64 d_0.Disk.Room, .int .i64 d_0.Disk.Fuse, .int .i64 d_0.Disk.Next, .slice a3_0 l3_0 k3_0, .slice a4_0 l4_0 k4_0, .slice a5_0 l5_0 k5_0, .int .i64 d_0.Keep, .int .i64 d_0.Size, .slice a8_0 l8_0 k8_0, .int .i64 d_0.Len] := Box.below hp (by omega) B_0
 replace L_0 : w.heap.size < w7.heap.size := by omega
 replace B_w0 : Box w7 (w3.heap.size) #[.int .i64 (tidyX d_0).Disk.Room, .int .i64 (tidyX d_0).Disk.Fuse, .int .i64 (tidyX d_0).Disk.Next, .slice a3_w0 l3_w0 k3_w0, .slice a4_w0 l4_w0 k4_w0, .slice a5_w0 l5_w0 k5_w0, .int .i64 (tidyX d_0).Keep, .int .i64 (tidyX d_0).Size, .slice a8_w0 l8_w0 k8_w0, .int .i64 (tidyX d_0).Len] := Box.below hp (by omega) B_w0
 replace L_w0 : w3.heap.size < w7.heap.size := by omega
 replace B_x0 : Box w7 (w4.heap.size) #[.int .i64 d_0.Disk.Room, .int .i64 d_0.Disk.Fuse, .int .i64 d_0.Disk.Next, .slice a3_x0 l3_x0 k3_x0, .slice a4_x0 l4_x0 k4_x0, .slice a5_x0 l5_x0 k5_x0, .int .i64 d_0.Keep, .int .i64 d_0.Size, .slice a8_x0 l8_x0 k8_x0, .int .i64 d_0.Len] := Box.below hp (by omega) B_x0
 replace L_x0 : w4.heap.size < w7.heap.size := by omega
 replace B_g0 : Box w7 (w5.heap.size) #[.int .i64 (tidyX d_0).Disk.Room, .int .i64 (tidyX d_0).Disk.Fuse, .int .i64 (tidyX d_0).Disk.Next, .slice a3_g0 l3_g0 k3_g0, .slice a4_g0 l4_g0 k4_g0, .slice a5_g0 l5_g0 k5_g0, .int .i64 (tidyX d_0).Keep, .int .i64 (tidyX d_0).Size, .slice a8_g0 l8_g0 k8_g0, .int .i64 (tidyX d_0).Len] := Box.below hp (by omega) B_g0
 replace L_g0 : w5.heap.size < w7.heap.size := by omega
 replace P3_w0 := hid (P3_w0.out.grow hp)
 replace P4_w0 := hid (P4_w0.out.grow hp)
 replace P5_w0 := hid (P5_w0.out.grow hp)
 replace P8_w0 := hid (P8_w0.out.grow hp)
 replace P3_x0 := hid (P3_x0.out.grow hp)
 replace P4_x0 := hid (P4_x0.out.grow hp)
 replace P5_x0 := hid (P5_x0.out.grow hp)
 replace P8_x0 := hid (P8_x0.out.grow hp)
 replace P3_g0 := hid (P3_g0.out.grow hp)
 replace P4_g0 := hid (P4_g0.out.grow hp)
 replace P5_g0 := hid (P5_g0.out.grow hp)
 replace P8_g0 := hid (P8_g0.out.grow hp)
 replace Hb := hid (Hb.out.trans (hp.mono Hb.out.size))
 clear hp hb1 hb2 hO
 try unfold Box at B_0
 try unfold Box at B_w0
 try unfold Box at B_x0
 try unfold Box at B_g0
 have HK_x0 : Hid (1 + (d_0).nkv ≤ topK) := hid (by have h_0 := HN_0.out; have k_0 := nkv_le_Store d_0; unfold topK; omega)
 go_wp2_with fail
 replace P3_x0 := hid (P3_x0.out.mono (lo' := 0) (Nat.zero_le _))
 replace P4_x0 := hid (P4_x0.out.mono (lo' := 0) (Nat.zero_le _))
 replace P5_x0 := hid (P5_x0.out.mono (lo' := 0) (Nat.zero_le _))
 replace P8_x0 := hid (P8_x0.out.mono (lo' := 0) (Nat.zero_le _))
 refine (markStore (d := d_0) P3_x0.out P4_x0.out P5_x0.out P8_x0.out E3_4_x0.out E3_5_x0.out E3_8_x0.out E4_5_x0.out E4_8_x0.out E5_8_x0.out (1) HK_x0.out).mono ?_
 rintro e w8 ⟨rfl, hO3, hO4, hO5, hO8, hT⟩
 have hz8 := hT.size
 replace B_0 : Box w8 (w.heap.size) #[.int .i64 d_0.Disk.Room, .int .i64 d_0.Disk.Fuse, .int .i64 d_0.Disk.Next, .slice a3_0 l3_0 k3_0, .slice a4_0 l4_0 k4_0, .slice a5_0 l5_0 k5_0, .int .i64 d_0.Keep, .int .i64 d_0.Size, .slice a8_0 l8_0 k8_0, .int .i64 d_0.Len] := Box.tch hT (by omega) (fun hm => (List.mem_append.1 hm).elim (fun hm => by have := R3_x0.out _ hm; omega) (fun hm => (List.mem_append.1 hm).elim (fun hm => by have := R4_x0.out _ hm; omega) (fun hm => (List.mem_append.1 hm).elim (fun hm => by have := R5_x0.out _ hm; omega) (fun hm => by have := R8_x0.out _ hm; omega)))) B_0
 replace L_0 : w.heap.size < w8.heap.size := by omega
 replace B_w0 : Box w8 (w3.heap.size) #[.int .i64 (tidyX d_0).Disk.Room, .int .i64 (tidyX d_0).Disk.Fuse, .int .i64 (tidyX d_0).Disk.Next, .slice a3_w0 l3_w0 k3_w0, .slice a4_w0 l4_w0 k4_w0, .slice a5_w0 l5_w0 k5_w0, .int .i64 (tidyX d_0).Keep, .int .i64 (tidyX d_0).Size, .slice a8_w0 l8_w0 k8_w0, .int .i64 (tidyX d_0).Len] := Box.tch hT (by omega) (fun hm => (List.mem_append.1 hm).elim (fun hm => by have := R3_x0.out _ hm; omega) (fun hm => (List.mem_append.1 hm).elim (fun hm => by have := R4_x0.out _ hm; omega) (fun hm => (List.mem_append.1 hm).elim (fun hm => by have := R5_x0.out _ hm; omega) (fun hm => by have := R8_x0.out _ hm; omega)))) B_w0
 replace L_w0 : w3.heap.size < w8.heap.size := by omega
 replace B_x0 : Box w8 (w4.heap.size) #[.int .i64 d_0.Disk.Room, .int .i64 d_0.Disk.Fuse, .int .i64 d_0.Disk.Next, .slice a3_x0 l3_x0 k3_x0, .slice a4_x0 l4_x0 k4_x0, .slice a5_x0 l5_x0 k5_x0, .int .i64 d_0.Keep, .int .i64 d_0.Size, .slice a8_x0 l8_x0 k8_x0, .int .i64 d_0.Len] := Box.tch hT (by omega) (fun hm => (List.mem_append.1 hm).elim (fun hm => by have := R3_x0.out _ hm; omega) (fun hm => (List.mem_append.1 hm).elim (fun hm => by have := R4_x0.out _ hm; omega) (fun hm => (List.mem_append.1 hm).elim (fun hm => by have := R5_x0.out _ hm; omega) (fun hm => by have := R8_x0.out _ hm; omega)))) B_x0
 replace L_x0 : w4.heap.size < w8.heap.size := by omega
 replace B_g0 : Box w8 (w5.heap.size) #[.int .i64 (tidyX d_0).Disk.Room, .int .i64 (tidyX d_0).Disk.Fuse, .int .i64 (tidyX d_0).Disk.Next, .slice a3_g0 l3_g0 k3_g0, .slice a4_g0 l4_g0 k4_g0, .slice a5_g0 l5_g0 k5_g0, .int .i64 (tidyX d_0).Keep, .int .i64 (tidyX d_0).Size, .slice a8_g0 l8_g0 k8_g0, .int .i64 (tidyX d_0).Len] := Box.tch hT (by omega) (fun hm => (List.mem_append.1 hm).elim (fun hm => by have := R3_x0.out _ hm; omega) (fun hm => (List.mem_append.1 hm).elim (fun hm => by have := R4_x0.out _ hm; omega) (fun hm => (List.mem_append.1 hm).elim (fun hm => by have := R5_x0.out _ hm; omega) (fun hm => by have := R8_x0.out _ hm; omega)))) B_g0
 replace L_g0 : w5.heap.size < w8.heap.size := by omega
 replace P3_w0 := hid (P3_w0.out.tch hT (fun x hx hm => (List.mem_append.1 hm).elim (fun hm => by have := R3_w0.out x hx; have := R3_x0.out x hm; omega) (fun hm => (List.mem_append.1 hm).elim (fun hm => by have := R3_w0.out x hx; have := R4_x0.out x hm; omega) (fun hm => (List.mem_append.1 hm).elim (fun hm => by have := R3_w0.out x hx; have := R5_x0.out x hm; omega) (fun hm => by have := R3_w0.out x hx; have := R8_x0.out x hm; omega)))))
 replace P4_w0 := hid (P4_w0.out.tch hT (fun x hx hm => (List.mem_append.1 hm).elim (fun hm => by have := R4_w0.out x hx; have := R3_x0.out x hm; omega) (fun hm => (List.mem_append.1 hm).elim (fun hm => by have := R4_w0.out x hx; have := R4_x0.out x hm; omega) (fun hm => (List.mem_append.1 hm).elim (fun hm => by have := R4_w0.out x hx; have := R5_x0.out x hm; omega) (fun hm => by have := R4_w0.out x hx; have := R8_x0.out x hm; omega)))))
 replace P5_w0 := hid (P5_w0.out.tch hT (fun x hx hm => (List.mem_append.1 hm).elim (fun hm => by have := R5_w0.out x hx; have := R3_x0.out x hm; omega) (fun hm => (List.mem_append.1 hm).elim (fun hm => by have := R5_w0.out x hx; have := R4_x0.out x hm; omega) (fun hm => (List.mem_append.1 hm).elim (fun hm => by have := R5_w0.out x hx; have := R5_x0.out x hm; omega) (fun hm => by have := R5_w0.out x hx; have := R8_x0.out x hm; omega)))))
 replace P8_w0 := hid (P8_w0.out.tch hT (fun x hx hm => (List.mem_append.1 hm).elim (fun hm => by have := R8_w0.out x hx; have := R3_x0.out x hm; omega) (fun hm => (List.mem_append.1 hm).elim (fun hm => by have := R8_w0.out x hx; have := R4_x0.out x hm; omega) (fun hm => (List.mem_append.1 hm).elim (fun hm => by have := R8_w0.out x hx; have := R5_x0.out x hm; omega) (fun hm => by have := R8_w0.out x hx; have := R8_x0.out x hm; omega)))))
 replace P3_g0 := hid (P3_g0.out.tch hT (fun x hx hm => (List.mem_append.1 hm).elim (fun hm => by have := R3_g0.out x hx; have := R3_x0.out x hm; omega) (fun hm => (List.mem_append.1 hm).elim (fun hm => by have := R3_g0.out x hx; have := R4_x0.out x hm; omega) (fun hm => (List.mem_append.1 hm).elim (fun hm => by have := R3_g0.out x hx; have := R5_x0.out x hm; omega) (fun hm => by have := R3_g0.out x hx; have := R8_x0.out x hm; omega)))))
 replace P4_g0 := hid (P4_g0.out.tch hT (fun x hx hm => (List.mem_append.1 hm).elim (fun hm => by have := R4_g0.out x hx; have := R3_x0.out x hm; omega) (fun hm => (List.mem_append.1 hm).elim (fun hm => by have := R4_g0.out x hx; have := R4_x0.out x hm; omega) (fun hm => (List.mem_append.1 hm).elim (fun hm => by have := R4_g0.out x hx; have := R5_x0.out x hm; omega) (fun hm => by have := R4_g0.out x hx; have := R8_x0.out x hm; omega)))))
 replace P5_g0 := hid (P5_g0.out.tch hT (fun x hx hm => (List.mem_append.1 hm).elim (fun hm => by have := R5_g0.out x hx; have := R3_x0.out x hm; omega) (fun hm => (List.mem_append.1 hm).elim (fun hm => by have := R5_g0.out x hx; have := R4_x0.out x hm; omega) (fun hm => (List.mem_append.1 hm).elim (fun hm => by have := R5_g0.out x hx; have := R5_x0.out x hm; omega) (fun hm => by have := R5_g0.out x hx; have := R8_x0.out x hm; omega)))))
 replace P8_g0 := hid (P8_g0.out.tch hT (fun x hx hm => (List.mem_append.1 hm).elim (fun hm => by have := R8_g0.out x hx; have := R3_x0.out x hm; omega) (fun hm => (List.mem_append.1 hm).elim (fun hm => by have := R8_g0.out x hx; have := R4_x0.out x hm; omega) (fun hm => (List.mem_append.1 hm).elim (fun hm => by have := R8_g0.out x hx; have := R5_x0.out x hm; omega) (fun hm => by have := R8_g0.out x hx; have := R8_x0.out x hm; omega)))))
 replace Hb := hid (Hb.out.trans (hT.below Hb.out.size (fun x hm => (List.mem_append.1 hm).elim (fun hm => by have := R3_x0.out x hm; omega) (fun hm => (List.mem_append.1 hm).elim (fun hm => by have := R4_x0.out x hm; omega) (fun hm => (List.mem_append.1 hm).elim (fun hm => by have := R5_x0.out x hm; omega) (fun hm => by have := R8_x0.out x hm; omega))))))
 replace P3_x0 := hid hO3
 replace P4_x0 := hid hO4
 replace P5_x0 := hid hO5
 replace P8_x0 := hid hO8
 clear hT hO3 hO4 hO5 hO8
 try unfold Box at B_0
 try unfold Box at B_w0
 try unfold Box at B_x0
 try unfold Box at B_g0
 go_wp2_with fail
 refine (eqStore (mk_Store (d := (tidyX d_0)) h0_g0 h1_g0 h2_g0 (Slc.grow P3_g0.out.slc ?_) (Slc.grow P4_g0.out.slc ?_) (Slc.grow P5_g0.out.slc ?_) h6_g0 h7_g0 (Slc.grow P8_g0.out.slc ?_) h9_g0) (mk_Store (d := (tidyX d_0)) h0_w0 h1_w0 h2_w0 (Slc.grow P3_w0.out.slc ?_) (Slc.grow P4_w0.out.slc ?_) (Slc.grow P5_w0.out.slc ?_) h6_w0 h7_w0 (Slc.grow P8_w0.out.slc ?_) h9_w0)).mono ?_
 ·repeat (first | exact Below.refl _ _ | refine Below.alloc ?_ (by first | omega | (simp; done) | (simp; omega)) _)
 ·repeat (first | exact Below.refl _ _ | refine Below.alloc ?_ (by first | omega | (simp; done) | (simp; omega)) _)
 ·repeat (first | exact Below.refl _ _ | refine Below.alloc ?_ (by first | omega | (simp; done) | (simp; omega)) _)
 ·repeat (first | exact Below.refl _ _ | refine Below.alloc ?_ (by first | omega | (simp; done) | (simp; omega)) _)
 ·repeat (first | exact Below.refl _ _ | refine Below.alloc ?_ (by first | omega | (simp; done) | (simp; omega)) _)
 ·repeat (first | exact Below.refl _ _ | refine Below.alloc ?_ (by first | omega | (simp; done) | (simp; omega)) _)
 ·repeat (first | exact Below.refl _ _ | refine Below.alloc ?_ (by first | omega | (simp; done) | (simp; omega)) _)
 ·repeat (first | exact Below.refl _ _ | refine Below.alloc ?_ (by first | omega | (simp; done) | (simp; omega)) _)
 rintro e w9 ⟨rfl, hb⟩
 have hz9 := hb.size; try simp at hz9
 have hp : Below w8.heap.size w8 w9 := below_call (by repeat (first | exact Below.refl _ _ | refine Below.alloc ?_ (by first | omega | (simp; done) | (simp; omega)) _)) hb
 replace B_0 : Box w9 (w.heap.size) #[.int .i64 d_0.Disk.Room, .int .i64 d_0.Disk.Fuse, .int .i64 d_0.Disk.Next, .slice a3_0 l3_0 k3_0, .slice a4_0 l4_0 k4_0, .slice a5_0 l5_0 k5_0, .int .i64 d_0.Keep, .int .i64 d_0.Size, .slice a8_0 l8_0 k8_0, .int .i64 d_0.Len] := Box.below hb (by first | omega | (simp; done) | (simp; omega)) (by repeat (first | exact B_0 | (apply boxN; (focus (first | omega | (simp; done) | (simp; omega)))) | (apply Box.alloc; rotate_left; (focus (first | omega | (simp; done) | (simp; omega))))))
 replace L_0 : w.heap.size < w9.heap.size := (by first | omega | (simp; done) | (simp; omega))
 replace B_w0 : Box w9 (w3.heap.size) #[.int .i64 (tidyX d_0).Disk.Room, .int .i64 (tidyX d_0).Disk.Fuse, .int .i64 (tidyX d_0).Disk.Next, .slice a3_w0 l3_w0 k3_w0, .slice a4_w0 l4_w0 k4_w0, .slice a5_w0 l5_w0 k5_w0, .int .i64 (tidyX d_0).Keep, .int .i64 (tidyX d_0).Size, .slice a8_w0 l8_w0 k8_w0, .int .i64 (tidyX d_0).Len] := Box.below hb (by first | omega | (simp; done) | (simp; omega)) (by repeat (first | exact B_w0 | (apply boxN; (focus (first | omega | (simp; done) | (simp; omega)))) | (apply Box.alloc; rotate_left; (focus (first | omega | (simp; done) | (simp; omega))))))
 replace L_w0 : w3.heap.size < w9.heap.size := (by first | omega | (simp; done) | (simp; omega))
 replace B_x0 : Box w9 (w4.heap.size) #[.int .i64 d_0.Disk.Room, .int .i64 d_0.Disk.Fuse, .int .i64 d_0.Disk.Next, .slice a3_x0 l3_x0 k3_x0, .slice a4_x0 l4_x0 k4_x0, .slice a5_x0 l5_x0 k5_x0, .int .i64 d_0.Keep, .int .i64 d_0.Size, .slice a8_x0 l8_x0 k8_x0, .int .i64 d_0.Len] := Box.below hb (by first | omega | (simp; done) | (simp; omega)) (by repeat (first | exact B_x0 | (apply boxN; (focus (first | omega | (simp; done) | (simp; omega)))) | (apply Box.alloc; rotate_left; (focus (first | omega | (simp; done) | (simp; omega))))))
 replace L_x0 : w4.heap.size < w9.heap.size := (by first | omega | (simp; done) | (simp; omega))
 replace B_g0 : Box w9 (w5.heap.size) #[.int .i64 (tidyX d_0).Disk.Room, .int .i64 (tidyX d_0).Disk.Fuse, .int .i64 (tidyX d_0).Disk.Next, .slice a3_g0 l3_g0 k3_g0, .slice a4_g0 l4_g0 k4_g0, .slice a5_g0 l5_g0 k5_g0, .int .i64 (tidyX d_0).Keep, .int .i64 (tidyX d_0).Size, .slice a8_g0 l8_g0 k8_g0, .int .i64 (tidyX d_0).Len] := Box.below hb (by first | omega | (simp; done) | (simp; omega)) (by repeat (first | exact B_g0 | (apply boxN; (focus (first | omega | (simp; done) | (simp; omega)))) | (apply Box.alloc; rotate_left; (focus (first | omega | (simp; done) | (simp; omega))))))
 replace L_g0 : w5.heap.size < w9.heap.size := (by first | omega | (simp; done) | (simp; omega))
 replace P3_w0 := hid (P3_w0.out.grow hp)
 replace P4_w0 := hid (P4_w0.out.grow hp)
 replace P5_w0 := hid (P5_w0.out.grow hp)
 replace P8_w0 := hid (P8_w0.out.grow hp)
 replace P3_x0 := hid (P3_x0.out.grow hp)
 replace P4_x0 := hid (P4_x0.out.grow hp)
 replace P5_x0 := hid (P5_x0.out.grow hp)
 replace P8_x0 := hid (P8_x0.out.grow hp)
 replace P3_g0 := hid (P3_g0.out.grow hp)
 replace P4_g0 := hid (P4_g0.out.grow hp)
 replace P5_g0 := hid (P5_g0.out.grow hp)
 replace P8_g0 := hid (P8_g0.out.grow hp)
 replace Hb := hid (Hb.out.trans (hp.mono Hb.out.size))
 clear hb hp
 try unfold Box at B_0
 try unfold Box at B_w0
 try unfold Box at B_x0
 try unfold Box at B_g0
 try unfold Box at B_0
 try unfold Box at B_w0
 try unfold Box at B_x0
 try unfold Box at B_g0
 have HK_g0 : Hid (1 + ((tidyX d_0)).nkv ≤ topK) := hid (by exact tidyX_top HN_0.out)
 go_wp2_with fail
 replace P3_g0 := hid (P3_g0.out.mono (lo' := 0) (Nat.zero_le _))
 replace P4_g0 := hid (P4_g0.out.mono (lo' := 0) (Nat.zero_le _))
 replace P5_g0 := hid (P5_g0.out.mono (lo' := 0) (Nat.zero_le _))
 replace P8_g0 := hid (P8_g0.out.mono (lo' := 0) (Nat.zero_le _))
 refine (markStore (d := (tidyX d_0)) P3_g0.out P4_g0.out P5_g0.out P8_g0.out E3_4_g0.out E3_5_g0.out E3_8_g0.out E4_5_g0.out E4_8_g0.out E5_8_g0.out (1) HK_g0.out).mono ?_
 rintro e w10 ⟨rfl, hO3, hO4, hO5, hO8, hT⟩
 have hz10 := hT.size
 replace B_0 : Box w10 (w.heap.size) #[.int .i64 d_0.Disk.Room, .int .i64 d_0.Disk.Fuse, .int .i64 d_0.Disk.Next, .slice a3_0 l3_0 k3_0, .slice a4_0 l4_0 k4_0, .slice a5_0 l5_0 k5_0, .int .i64 d_0.Keep, .int .i64 d_0.Size, .slice a8_0 l8_0 k8_0, .int .i64 d_0.Len] := Box.tch hT (by omega) (fun hm => (List.mem_append.1 hm).elim (fun hm => by have := R3_g0.out _ hm; omega) (fun hm => (List.mem_append.1 hm).elim (fun hm => by have := R4_g0.out _ hm; omega) (fun hm => (List.mem_append.1 hm).elim (fun hm => by have := R5_g0.out _ hm; omega) (fun hm => by have := R8_g0.out _ hm; omega)))) B_0
 replace L_0 : w.heap.size < w10.heap.size := by omega
 replace B_w0 : Box w10 (w3.heap.size) #[.int .i64 (tidyX d_0).Disk.Room, .int .i64 (tidyX d_0).Disk.Fuse, .int .i64 (tidyX d_0).Disk.Next, .slice a3_w0 l3_w0 k3_w0, .slice a4_w0 l4_w0 k4_w0, .slice a5_w0 l5_w0 k5_w0, .int .i64 (tidyX d_0).Keep, .int .i64 (tidyX d_0).Size, .slice a8_w0 l8_w0 k8_w0, .int .i64 (tidyX d_0).Len] := Box.tch hT (by omega) (fun hm => (List.mem_append.1 hm).elim (fun hm => by have := R3_g0.out _ hm; omega) (fun hm => (List.mem_append.1 hm).elim (fun hm => by have := R4_g0.out _ hm; omega) (fun hm => (List.mem_append.1 hm).elim (fun hm => by have := R5_g0.out _ hm; omega) (fun hm => by have := R8_g0.out _ hm; omega)))) B_w0
 replace L_w0 : w3.heap.size < w10.heap.size := by omega
 replace B_x0 : Box w10 (w4.heap.size) #[.int .i64 d_0.Disk.Room, .int .i64 d_0.Disk.Fuse, .int .i64 d_0.Disk.Next, .slice a3_x0 l3_x0 k3_x0, .slice a4_x0 l4_x0 k4_x0, .slice a5_x0 l5_x0 k5_x0, .int .i64 d_0.Keep, .int .i64 d_0.Size, .slice a8_x0 l8_x0 k8_x0, .int .i64 d_0.Len] := Box.tch hT (by omega) (fun hm => (List.mem_append.1 hm).elim (fun hm => by have := R3_g0.out _ hm; omega) (fun hm => (List.mem_append.1 hm).elim (fun hm => by have := R4_g0.out _ hm; omega) (fun hm => (List.mem_append.1 hm).elim (fun hm => by have := R5_g0.out _ hm; omega) (fun hm => by have := R8_g0.out _ hm; omega)))) B_x0
 replace L_x0 : w4.heap.size < w10.heap.size := by omega
 replace B_g0 : Box w10 (w5.heap.size) #[.int .i64 (tidyX d_0).Disk.Room, .int .i64 (tidyX d_0).Disk.Fuse, .int .i64 (tidyX d_0).Disk.Next, .slice a3_g0 l3_g0 k3_g0, .slice a4_g0 l4_g0 k4_g0, .slice a5_g0 l5_g0 k5_g0, .int .i64 (tidyX d_0).Keep, .int .i64 (tidyX d_0).Size, .slice a8_g0 l8_g0 k8_g0, .int .i64 (tidyX d_0).Len] := Box.tch hT (by omega) (fun hm => (List.mem_append.1 hm).elim (fun hm => by have := R3_g0.out _ hm; omega) (fun hm => (List.mem_append.1 hm).elim (fun hm => by have := R4_g0.out _ hm; omega) (fun hm => (List.mem_append.1 hm).elim (fun hm => by have := R5_g0.out _ hm; omega) (fun hm => by have := R8_g0.out _ hm; omega)))) B_g0
 replace L_g0 : w5.heap.size < w10.heap.size := by omega
 replace P3_w0 := hid (P3_w0.out.tch hT (fun x hx hm => (List.mem_append.1 hm).elim (fun hm => by have := R3_w0.out x hx; have := R3_g0.out x hm; omega) (fun hm => (List.mem_append.1 hm).elim (fun hm => by have := R3_w0.out x hx; have := R4_g0.out x hm; omega) (fun hm => (List.mem_append.1 hm).elim (fun hm => by have := R3_w0.out x hx; have := R5_g0.out x hm; omega) (fun hm => by have := R3_w0.out x hx; have := R8_g0.out x hm; omega)))))
 replace P4_w0 := hid (P4_w0.out.tch hT (fun x hx hm => (List.mem_append.1 hm).elim (fun hm => by have := R4_w0.out x hx; have := R3_g0.out x hm; omega) (fun hm => (List.mem_append.1 hm).elim (fun hm => by have := R4_w0.out x hx; have := R4_g0.out x hm; omega) (fun hm => (List.mem_append.1 hm).elim (fun hm => by have := R4_w0.out x hx; have := R5_g0.out x hm; omega) (fun hm => by have := R4_w0.out x hx; have := R8_g0.out x hm; omega)))))
 replace P5_w0 := hid (P5_w0.out.tch hT (fun x hx hm => (List.mem_append.1 hm).elim (fun hm => by have := R5_w0.out x hx; have := R3_g0.out x hm; omega) (fun hm => (List.mem_append.1 hm).elim (fun hm => by have := R5_w0.out x hx; have := R4_g0.out x hm; omega) (fun hm => (List.mem_append.1 hm).elim (fun hm => by have := R5_w0.out x hx; have := R5_g0.out x hm; omega) (fun hm => by have := R5_w0.out x hx; have := R8_g0.out x hm; omega)))))
 replace P8_w0 := hid (P8_w0.out.tch hT (fun x hx hm => (List.mem_append.1 hm).elim (fun hm => by have := R8_w0.out x hx; have := R3_g0.out x hm; omega) (fun hm => (List.mem_append.1 hm).elim (fun hm => by have := R8_w0.out x hx; have := R4_g0.out x hm; omega) (fun hm => (List.mem_append.1 hm).elim (fun hm => by have := R8_w0.out x hx; have := R5_g0.out x hm; omega) (fun hm => by have := R8_w0.out x hx; have := R8_g0.out x hm; omega)))))
 replace P3_x0 := hid (P3_x0.out.tch hT (fun x hx hm => (List.mem_append.1 hm).elim (fun hm => by have := R3_x0.out x hx; have := R3_g0.out x hm; omega) (fun hm => (List.mem_append.1 hm).elim (fun hm => by have := R3_x0.out x hx; have := R4_g0.out x hm; omega) (fun hm => (List.mem_append.1 hm).elim (fun hm => by have := R3_x0.out x hx; have := R5_g0.out x hm; omega) (fun hm => by have := R3_x0.out x hx; have := R8_g0.out x hm; omega)))))
 replace P4_x0 := hid (P4_x0.out.tch hT (fun x hx hm => (List.mem_append.1 hm).elim (fun hm => by have := R4_x0.out x hx; have := R3_g0.out x hm; omega) (fun hm => (List.mem_append.1 hm).elim (fun hm => by have := R4_x0.out x hx; have := R4_g0.out x hm; omega) (fun hm => (List.mem_append.1 hm).elim (fun hm => by have := R4_x0.out x hx; have := R5_g0.out x hm; omega) (fun hm => by have := R4_x0.out x hx; have := R8_g0.out x hm; omega)))))
 replace P5_x0 := hid (P5_x0.out.tch hT (fun x hx hm => (List.mem_append.1 hm).elim (fun hm => by have := R5_x0.out x hx; have := R3_g0.out x hm; omega) (fun hm => (List.mem_append.1 hm).elim (fun hm => by have := R5_x0.out x hx; have := R4_g0.out x hm; omega) (fun hm => (List.mem_append.1 hm).elim (fun hm => by have := R5_x0.out x hx; have := R5_g0.out x hm; omega) (fun hm => by have := R5_x0.out x hx; have := R8_g0.out x hm; omega)))))
 replace P8_x0 := hid (P8_x0.out.tch hT (fun x hx hm => (List.mem_append.1 hm).elim (fun hm => by have := R8_x0.out x hx; have := R3_g0.out x hm; omega) (fun hm => (List.mem_append.1 hm).elim (fun hm => by have := R8_x0.out x hx; have := R4_g0.out x hm; omega) (fun hm => (List.mem_append.1 hm).elim (fun hm => by have := R8_x0.out x hx; have := R5_g0.out x hm; omega) (fun hm => by have := R8_x0.out x hx; have := R8_g0.out x hm; omega)))))
 replace Hb := hid (Hb.out.trans (hT.below Hb.out.size (fun x hm => (List.mem_append.1 hm).elim (fun hm => by have := R3_g0.out x hm; omega) (fun hm => (List.mem_append.1 hm).elim (fun hm => by have := R4_g0.out x hm; omega) (fun hm => (List.mem_append.1 hm).elim (fun hm => by have := R5_g0.out x hm; omega) (fun hm => by have := R8_g0.out x hm; omega))))))
 replace P3_g0 := hid hO3
 replace P4_g0 := hid hO4
 replace P5_g0 := hid hO5
 replace P8_g0 := hid hO8
 clear hT hO3 hO4 hO5 hO8
 try unfold Box at B_0
 try unfold Box at B_w0
 try unfold Box at B_x0
 try unfold Box at B_g0
 go_wp2_with fail
 refine (heldStore (d := (tidyX d_0)) (1) (mk_Store (d := (((tidyX d_0)).mkv (1))) h0_g0 h1_g0 h2_g0 (Slc.grow P3_g0.out.slc ?_) (Slc.grow P4_g0.out.slc ?_) (Slc.grow P5_g0.out.slc ?_) h6_g0 h7_g0 (Slc.grow P8_g0.out.slc ?_) h9_g0) (by have := HK_g0.out; omega)).mono ?_
 ·repeat (first | exact Below.refl _ _ | refine Below.alloc ?_ (by first | omega | (simp; done) | (simp; omega)) _)
 ·repeat (first | exact Below.refl _ _ | refine Below.alloc ?_ (by first | omega | (simp; done) | (simp; omega)) _)
 ·repeat (first | exact Below.refl _ _ | refine Below.alloc ?_ (by first | omega | (simp; done) | (simp; omega)) _)
 ·repeat (first | exact Below.refl _ _ | refine Below.alloc ?_ (by first | omega | (simp; done) | (simp; omega)) _)
 rintro e w11 ⟨rfl, hb⟩
 have hz11 := hb.size; try simp at hz11
 have hp : Below w10.heap.size w10 w11 := below_call (by repeat (first | exact Below.refl _ _ | refine Below.alloc ?_ (by first | omega | (simp; done) | (simp; omega)) _)) hb
 replace B_0 : Box w11 (w.heap.size) #[.int .i64 d_0.Disk.Room, .int .i64 d_0.Disk.Fuse, .int .i64 d_0.Disk.Next, .slice a3_0 l3_0 k3_0, .slice a4_0 l4_0 k4_0, .slice a5_0 l5_0 k5_0, .int .i64 d_0.Keep, .int .i64 d_0.Size, .slice a8_0 l8_0 k8_0, .int .i64 d_0.Len] := Box.below hb (by first | omega | (simp; done) | (simp; omega)) (by repeat (first | exact B_0 | (apply boxN; (focus (first | omega | (simp; done) | (simp; omega)))) | (apply Box.alloc; rotate_left; (focus (first | omega | (simp; done) | (simp; omega))))))
 replace L_0 : w.heap.size < w11.heap.size := (by first | omega | (simp; done) | (simp; omega))
 replace B_w0 : Box w11 (w3.heap.size) #[.int .i64 (tidyX d_0).Disk.Room, .int .i64 (tidyX d_0).Disk.Fuse, .int .i64 (tidyX d_0).Disk.Next, .slice a3_w0 l3_w0 k3_w0, .slice a4_w0 l4_w0 k4_w0, .slice a5_w0 l5_w0 k5_w0, .int .i64 (tidyX d_0).Keep, .int .i64 (tidyX d_0).Size, .slice a8_w0 l8_w0 k8_w0, .int .i64 (tidyX d_0).Len] := Box.below hb (by first | omega | (simp; done) | (simp; omega)) (by repeat (first | exact B_w0 | (apply boxN; (focus (first | omega | (simp; done) | (simp; omega)))) | (apply Box.alloc; rotate_left; (focus (first | omega | (simp; done) | (simp; omega))))))
 replace L_w0 : w3.heap.size < w11.heap.size := (by first | omega | (simp; done) | (simp; omega))
 replace B_x0 : Box w11 (w4.heap.size) #[.int .i64 d_0.Disk.Room, .int .i64 d_0.Disk.Fuse, .int .i64 d_0.Disk.Next, .slice a3_x0 l3_x0 k3_x0, .slice a4_x0 l4_x0 k4_x0, .slice a5_x0 l5_x0 k5_x0, .int .i64 d_0.Keep, .int .i64 d_0.Size, .slice a8_x0 l8_x0 k8_x0, .int .i64 d_0.Len] := Box.below hb (by first | omega | (simp; done) | (simp; omega)) (by repeat (first | exact B_x0 | (apply boxN; (focus (first | omega | (simp; done) | (simp; omega)))) | (apply Box.alloc; rotate_left; (focus (first | omega | (simp; done) | (simp; omega))))))
 replace L_x0 : w4.heap.size < w11.heap.size := (by first | omega | (simp; done) | (simp; omega))
 replace B_g0 : Box w11 (w5.heap.size) #[.int .i64 (tidyX d_0).Disk.Room, .int .i64 (tidyX d_0).Disk.Fuse, .int .i64 (tidyX d_0).Disk.Next, .slice a3_g0 l3_g0 k3_g0, .slice a4_g0 l4_g0 k4_g0, .slice a5_g0 l5_g0 k5_g0, .int .i64 (tidyX d_0).Keep, .int .i64 (tidyX d_0).Size, .slice a8_g0 l8_g0 k8_g0, .int .i64 (tidyX d_0).Len] := Box.below hb (by first | omega | (simp; done) | (simp; omega)) (by repeat (first | exact B_g0 | (apply boxN; (focus (first | omega | (simp; done) | (simp; omega)))) | (apply Box.alloc; rotate_left; (focus (first | omega | (simp; done) | (simp; omega))))))
 replace L_g0 : w5.heap.size < w11.heap.size := (by first | omega | (simp; done) | (simp; omega))
 replace P3_w0 := hid (P3_w0.out.grow hp)
 replace P4_w0 := hid (P4_w0.out.grow hp)
 replace P5_w0 := hid (P5_w0.out.grow hp)
 replace P8_w0 := hid (P8_w0.out.grow hp)
 replace P3_x0 := hid (P3_x0.out.grow hp)
 replace P4_x0 := hid (P4_x0.out.grow hp)
 replace P5_x0 := hid (P5_x0.out.grow hp)
 replace P8_x0 := hid (P8_x0.out.grow hp)
 replace P3_g0 := hid (P3_g0.out.grow hp)
 replace P4_g0 := hid (P4_g0.out.grow hp)
 replace P5_g0 := hid (P5_g0.out.grow hp)
 replace P8_g0 := hid (P8_g0.out.grow hp)
 replace Hb := hid (Hb.out.trans (hp.mono Hb.out.size))
 clear hb hp
 try unfold Box at B_0
 try unfold Box at B_w0
 try unfold Box at B_x0
 try unfold Box at B_g0
 try unfold Box at B_0
 try unfold Box at B_w0
 try unfold Box at B_x0
 try unfold Box at B_g0
 try unfold Box at B_0
 try unfold Box at B_w0
 try unfold Box at B_x0
 try unfold Box at B_g0
 go_wp2_with fail
 refine (toStore (grow G_0.out ?_) (by have := HN_0.out; first | omega | (simp only [cnt_ints, cnt_bytes] at this; omega))).mono ?_
 ·(repeat (first | exact Hb.out | refine Below.alloc ?_ (by have := Hb.out.size; first | omega | (simp; done) | (simp; omega)) _))
 rintro e w12 ⟨cs_t40, bs_t40, rfl, hO, hb⟩
 have hz12 := hb.size; try simp at hz12
 have hp : Below w11.heap.size w11 w12 := below_call (by repeat (first | exact Below.refl _ _ | refine Below.alloc ?_ (by first | omega | (simp; done) | (simp; omega)) _)) hb
 replace B_0 : Box w12 (w.heap.size) #[.int .i64 d_0.Disk.Room, .int .i64 d_0.Disk.Fuse, .int .i64 d_0.Disk.Next, .slice a3_0 l3_0 k3_0, .slice a4_0 l4_0 k4_0, .slice a5_0 l5_0 k5_0, .int .i64 d_0.Keep, .int .i64 d_0.Size, .slice a8_0 l8_0 k8_0, .int .i64 d_0.Len] := Box.below hb (by first | omega | (simp; done) | (simp; omega)) (by repeat (first | exact B_0 | (apply boxN; (focus (first | omega | (simp; done) | (simp; omega)))) | (apply Box.alloc; rotate_left; (focus (first | omega | (simp; done) | (simp; omega))))))
 replace L_0 : w.heap.size < w12.heap.size := (by first | omega | (simp; done) | (simp; omega))
 replace B_w0 : Box w12 (w3.heap.size) #[.int .i64 (tidyX d_0).Disk.Room, .int .i64 (tidyX d_0).Disk.Fuse, .int .i64 (tidyX d_0).Disk.Next, .slice a3_w0 l3_w0 k3_w0, .slice a4_w0 l4_w0 k4_w0, .slice a5_w0 l5_w0 k5_w0, .int .i64 (tidyX d_0).Keep, .int .i64 (tidyX d_0).Size, .slice a8_w0 l8_w0 k8_w0, .int .i64 (tidyX d_0).Len] := Box.below hb (by first | omega | (simp; done) | (simp; omega)) (by repeat (first | exact B_w0 | (apply boxN; (focus (first | omega | (simp; done) | (simp; omega)))) | (apply Box.alloc; rotate_left; (focus (first | omega | (simp; done) | (simp; omega))))))
 replace L_w0 : w3.heap.size < w12.heap.size := (by first | omega | (simp; done) | (simp; omega))
 replace B_x0 : Box w12 (w4.heap.size) #[.int .i64 d_0.Disk.Room, .int .i64 d_0.Disk.Fuse, .int .i64 d_0.Disk.Next, .slice a3_x0 l3_x0 k3_x0, .slice a4_x0 l4_x0 k4_x0, .slice a5_x0 l5_x0 k5_x0, .int .i64 d_0.Keep, .int .i64 d_0.Size, .slice a8_x0 l8_x0 k8_x0, .int .i64 d_0.Len] := Box.below hb (by first | omega | (simp; done) | (simp; omega)) (by repeat (first | exact B_x0 | (apply boxN; (focus (first | omega | (simp; done) | (simp; omega)))) | (apply Box.alloc; rotate_left; (focus (first | omega | (simp; done) | (simp; omega))))))
 replace L_x0 : w4.heap.size < w12.heap.size := (by first | omega | (simp; done) | (simp; omega))
 replace B_g0 : Box w12 (w5.heap.size) #[.int .i64 (tidyX d_0).Disk.Room, .int .i64 (tidyX d_0).Disk.Fuse, .int .i64 (tidyX d_0).Disk.Next, .slice a3_g0 l3_g0 k3_g0, .slice a4_g0 l4_g0 k4_g0, .slice a5_g0 l5_g0 k5_g0, .int .i64 (tidyX d_0).Keep, .int .i64 (tidyX d_0).Size, .slice a8_g0 l8_g0 k8_g0, .int .i64 (tidyX d_0).Len] := Box.below hb (by first | omega | (simp; done) | (simp; omega)) (by repeat (first | exact B_g0 | (apply boxN; (focus (first | omega | (simp; done) | (simp; omega)))) | (apply Box.alloc; rotate_left; (focus (first | omega | (simp; done) | (simp; omega))))))
 replace L_g0 : w5.heap.size < w12.heap.size := (by first | omega | (simp; done) | (simp; omega))
 replace P3_w0 := hid (P3_w0.out.grow hp)
 replace P4_w0 := hid (P4_w0.out.grow hp)
 replace P5_w0 := hid (P5_w0.out.grow hp)
 replace P8_w0 := hid (P8_w0.out.grow hp)
 replace P3_x0 := hid (P3_x0.out.grow hp)
 replace P4_x0 := hid (P4_x0.out.grow hp)
 replace P5_x0 := hid (P5_x0.out.grow hp)
 replace P8_x0 := hid (P8_x0.out.grow hp)
 replace P3_g0 := hid (P3_g0.out.grow hp)
 replace P4_g0 := hid (P4_g0.out.grow hp)
 replace P5_g0 := hid (P5_g0.out.grow hp)
 replace P8_g0 := hid (P8_g0.out.grow hp)
 replace Hb := hid (Hb.out.trans (hp.mono Hb.out.size))
 obtain ⟨b3_t40, b4_t40, b5_t40, b8_t40, a3_t40, l3_t40, k3_t40, a4_t40, l4_t40, k4_t40, a5_t40, l5_t40, k5_t40, a8_t40, l8_t40, k8_t40, rfl, rfl, h0_t40, h1_t40, h2_t40, h3_t40, h4_t40, h5_t40, h6_t40, h7_t40, h8_t40, h9_t40⟩ := open_Store hO.1
 have hP_t40 := parts_Store hO h3_t40 h4_t40 h5_t40 h8_t40
 have P3_t40 := hid (hP_t40.1)
 have P4_t40 := hid (hP_t40.2.1)
 have P5_t40 := hid (hP_t40.2.2.1)
 have P8_t40 := hid (hP_t40.2.2.2.1)
 have E3_4_t40 := hid (hP_t40.2.2.2.2.1)
 have E3_5_t40 := hid (hP_t40.2.2.2.2.2.1)
 have E3_8_t40 := hid (hP_t40.2.2.2.2.2.2.1)
 have E4_5_t40 := hid (hP_t40.2.2.2.2.2.2.2.1)
 have E4_8_t40 := hid (hP_t40.2.2.2.2.2.2.2.2.1)
 have E5_8_t40 := hid (hP_t40.2.2.2.2.2.2.2.2.2)
 clear hP_t40
 have R3_t40 : Hid (∀ x ∈ b3_t40, w11.heap.size ≤ x ∧ x < w12.heap.size) := hid (fun x hx => by have := P3_t40.out.lts x hx; refine ⟨?_, this.2⟩; have := this.1; first | omega | (simp at this; omega))
 have R4_t40 : Hid (∀ x ∈ b4_t40, w11.heap.size ≤ x ∧ x < w12.heap.size) := hid (fun x hx => by have := P4_t40.out.lts x hx; refine ⟨?_, this.2⟩; have := this.1; first | omega | (simp at this; omega))
 have R5_t40 : Hid (∀ x ∈ b5_t40, w11.heap.size ≤ x ∧ x < w12.heap.size) := hid (fun x hx => by have := P5_t40.out.lts x hx; refine ⟨?_, this.2⟩; have := this.1; first | omega | (simp at this; omega))
 have R8_t40 : Hid (∀ x ∈ b8_t40, w11.heap.size ≤ x ∧ x < w12.heap.size) := hid (fun x hx => by have := P8_t40.out.lts x hx; refine ⟨?_, this.2⟩; have := this.1; first | omega | (simp at this; omega))
 clear hb hp hO
 try unfold Box at B_0
 try unfold Box at B_w0
 try unfold Box at B_x0
 try unfold Box at B_g0
 go_wp2_with fail
 refine (i_TidyX (mk_Store (d := d_0) h0_t40 h1_t40 h2_t40 (Slc.grow P3_t40.out.slc ?_) (Slc.grow P4_t40.out.slc ?_) (Slc.grow P5_t40.out.slc ?_) h6_t40 h7_t40 (Slc.grow P8_t40.out.slc ?_) h9_t40)  HN_0.out).mono ?_
 ·repeat (first | exact Below.refl _ _ | refine Below.alloc ?_ (by first | omega | (simp; done) | (simp; omega)) _)
 ·repeat (first | exact Below.refl _ _ | refine Below.alloc ?_ (by first | omega | (simp; done) | (simp; omega)) _)
 ·repeat (first | exact Below.refl _ _ | refine Below.alloc ?_ (by first | omega | (simp; done) | (simp; omega)) _)
 ·repeat (first | exact Below.refl _ _ | refine Below.alloc ?_ (by first | omega | (simp; done) | (simp; omega)) _)
 rintro e w13 ⟨cs_h0, bs_h0, rfl, hO0, hb⟩
 have hz13 := hb.size; try simp at hz13
 have hp : Below w12.heap.size w12 w13 := below_call (by repeat (first | exact Below.refl _ _ | refine Below.alloc ?_ (by first | omega | (simp; done) | (simp; omega)) _)) hb
 replace B_0 : Box w13 (w.heap.size) #[.int .i64 d_0.Disk.Room, .int .i64 d_0.Disk.Fuse, .int .i64 d_0.Disk.Next, .slice a3_0 l3_0 k3_0, .slice a4_0 l4_0 k4_0, .slice a5_0 l5_0 k5_0, .int .i64 d_0.Keep, .int .i64 d_0.Size, .slice a8_0 l8_0 k8_0, .int .i64 d_0.Len] := Box.below hb (by first | omega | (simp; done) | (simp; omega)) (by repeat (first | exact B_0 | (apply boxN; (focus (first | omega | (simp; done) | (simp; omega)))) | (apply Box.alloc; rotate_left; (focus (first | omega | (simp; done) | (simp; omega))))))
 replace L_0 : w.heap.size < w13.heap.size := (by first | omega | (simp; done) | (simp; omega))
 replace B_w0 : Box w13 (w3.heap.size) #[.int .i64 (tidyX d_0).Disk.Room, .int .i64 (tidyX d_0).Disk.Fuse, .int .i64 (tidyX d_0).Disk.Next, .slice a3_w0 l3_w0 k3_w0, .slice a4_w0 l4_w0 k4_w0, .slice a5_w0 l5_w0 k5_w0, .int .i64 (tidyX d_0).Keep, .int .i64 (tidyX d_0).Size, .slice a8_w0 l8_w0 k8_w0, .int .i64 (tidyX d_0).Len] := Box.below hb (by first | omega | (simp; done) | (simp; omega)) (by repeat (first | exact B_w0 | (apply boxN; (focus (first | omega | (simp; done) | (simp; omega)))) | (apply Box.alloc; rotate_left; (focus (first | omega | (simp; done) | (simp; omega))))))
 replace L_w0 : w3.heap.size < w13.heap.size := (by first | omega | (simp; done) | (simp; omega))
 replace B_x0 : Box w13 (w4.heap.size) #[.int .i64 d_0.Disk.Room, .int .i64 d_0.Disk.Fuse, .int .i64 d_0.Disk.Next, .slice a3_x0 l3_x0 k3_x0, .slice a4_x0 l4_x0 k4_x0, .slice a5_x0 l5_x0 k5_x0, .int .i64 d_0.Keep, .int .i64 d_0.Size, .slice a8_x0 l8_x0 k8_x0, .int .i64 d_0.Len] := Box.below hb (by first | omega | (simp; done) | (simp; omega)) (by repeat (first | exact B_x0 | (apply boxN; (focus (first | omega | (simp; done) | (simp; omega)))) | (apply Box.alloc; rotate_left; (focus (first | omega | (simp; done) | (simp; omega))))))
 replace L_x0 : w4.heap.size < w13.heap.size := (by first | omega | (simp; done) | (simp; omega))
 replace B_g0 : Box w13 (w5.heap.size) #[.int .i64 (tidyX d_0).Disk.Room, .int .i64 (tidyX d_0).Disk.Fuse, .int .i64 (tidyX d_0).Disk.Next, .slice a3_g0 l3_g0 k3_g0, .slice a4_g0 l4_g0 k4_g0, .slice a5_g0 l5_g0 k5_g0, .int .i64 (tidyX d_0).Keep, .int .i64 (tidyX d_0).Size, .slice a8_g0 l8_g0 k8_g0, .int .i64 (tidyX d_0).Len] := Box.below hb (by first | omega | (simp; done) | (simp; omega)) (by repeat (first | exact B_g0 | (apply boxN; (focus (first | omega | (simp; done) | (simp; omega)))) | (apply Box.alloc; rotate_left; (focus (first | omega | (simp; done) | (simp; omega))))))
 replace L_g0 : w5.heap.size < w13.heap.size := (by first | omega | (simp; done) | (simp; omega))
 replace P3_w0 := hid (P3_w0.out.grow hp)
 replace P4_w0 := hid (P4_w0.out.grow hp)
 replace P5_w0 := hid (P5_w0.out.grow hp)
 replace P8_w0 := hid (P8_w0.out.grow hp)
 replace P3_x0 := hid (P3_x0.out.grow hp)
 replace P4_x0 := hid (P4_x0.out.grow hp)
 replace P5_x0 := hid (P5_x0.out.grow hp)
 replace P8_x0 := hid (P8_x0.out.grow hp)
 replace P3_g0 := hid (P3_g0.out.grow hp)
 replace P4_g0 := hid (P4_g0.out.grow hp)
 replace P5_g0 := hid (P5_g0.out.grow hp)
 replace P8_g0 := hid (P8_g0.out.grow hp)
 replace P3_t40 := hid (P3_t40.out.grow hp)
 replace P4_t40 := hid (P4_t40.out.grow hp)
 replace P5_t40 := hid (P5_t40.out.grow hp)
 replace P8_t40 := hid (P8_t40.out.grow hp)
 replace Hb := hid (Hb.out.trans (hp.mono Hb.out.size))
 obtain ⟨b3_h0, b4_h0, b5_h0, b8_h0, a3_h0, l3_h0, k3_h0, a4_h0, l4_h0, k4_h0, a5_h0, l5_h0, k5_h0, a8_h0, l8_h0, k8_h0, rfl, rfl, h0_h0, h1_h0, h2_h0, h3_h0, h4_h0, h5_h0, h6_h0, h7_h0, h8_h0, h9_h0⟩ := open_Store hO0.1
 have hP_h0 := parts_Store hO0 h3_h0 h4_h0 h5_h0 h8_h0
 have P3_h0 := hid (hP_h0.1)
 have P4_h0 := hid (hP_h0.2.1)
 have P5_h0 := hid (hP_h0.2.2.1)
 have P8_h0 := hid (hP_h0.2.2.2.1)
 have E3_4_h0 := hid (hP_h0.2.2.2.2.1)
 have E3_5_h0 := hid (hP_h0.2.2.2.2.2.1)
 have E3_8_h0 := hid (hP_h0.2.2.2.2.2.2.1)
 have E4_5_h0 := hid (hP_h0.2.2.2.2.2.2.2.1)
 have E4_8_h0 := hid (hP_h0.2.2.2.2.2.2.2.2.1)
 have E5_8_h0 := hid (hP_h0.2.2.2.2.2.2.2.2.2)
 clear hP_h0
 have R3_h0 : Hid (∀ x ∈ b3_h0, w12.heap.size ≤ x ∧ x < w13.heap.size) := hid (fun x hx => by have := P3_h0.out.lts x hx; refine ⟨?_, this.2⟩; have := this.1; first | omega | (simp at this; omega))
 have R4_h0 : Hid (∀ x ∈ b4_h0, w12.heap.size ≤ x ∧ x < w13.heap.size) := hid (fun x hx => by have := P4_h0.out.lts x hx; refine ⟨?_, this.2⟩; have := this.1; first | omega | (simp at this; omega))
 have R5_h0 : Hid (∀ x ∈ b5_h0, w12.heap.size ≤ x ∧ x < w13.heap.size) := hid (fun x hx => by have := P5_h0.out.lts x hx; refine ⟨?_, this.2⟩; have := this.1; first | omega | (simp at this; omega))
 have R8_h0 : Hid (∀ x ∈ b8_h0, w12.heap.size ≤ x ∧ x < w13.heap.size) := hid (fun x hx => by have := P8_h0.out.lts x hx; refine ⟨?_, this.2⟩; have := this.1; first | omega | (simp at this; omega))
 clear hb hp
 try unfold Box at B_0
 try unfold Box at B_w0
 try unfold Box at B_x0
 try unfold Box at B_g0
 go_wp2_with fail
 refine (eqStore (mk_Store (d := (tidyX d_0)) h0_h0 h1_h0 h2_h0 (Slc.grow P3_h0.out.slc ?_) (Slc.grow P4_h0.out.slc ?_) (Slc.grow P5_h0.out.slc ?_) h6_h0 h7_h0 (Slc.grow P8_h0.out.slc ?_) h9_h0) (mk_Store (d := (tidyX d_0)) h0_w0 h1_w0 h2_w0 (Slc.grow P3_w0.out.slc ?_) (Slc.grow P4_w0.out.slc ?_) (Slc.grow P5_w0.out.slc ?_) h6_w0 h7_w0 (Slc.grow P8_w0.out.slc ?_) h9_w0)).mono ?_
 ·repeat (first | exact Below.refl _ _ | refine Below.alloc ?_ (by first | omega | (simp; done) | (simp; omega)) _)
 ·repeat (first | exact Below.refl _ _ | refine Below.alloc ?_ (by first | omega | (simp; done) | (simp; omega)) _)
 ·repeat (first | exact Below.refl _ _ | refine Below.alloc ?_ (by first | omega | (simp; done) | (simp; omega)) _)
 ·repeat (first | exact Below.refl _ _ | refine Below.alloc ?_ (by first | omega | (simp; done) | (simp; omega)) _)
 ·repeat (first | exact Below.refl _ _ | refine Below.alloc ?_ (by first | omega | (simp; done) | (simp; omega)) _)
 ·repeat (first | exact Below.refl _ _ | refine Below.alloc ?_ (by first | omega | (simp; done) | (simp; omega)) _)
 ·repeat (first | exact Below.refl _ _ | refine Below.alloc ?_ (by first | omega | (simp; done) | (simp; omega)) _)
 ·repeat (first | exact Below.refl _ _ | refine Below.alloc ?_ (by first | omega | (simp; done) | (simp; omega)) _)
 rintro e w14 ⟨rfl, hb⟩
 have hz14 := hb.size; try simp at hz14
 have hp : Below w13.heap.size w13 w14 := below_call (by repeat (first | exact Below.refl _ _ | refine Below.alloc ?_ (by first | omega | (simp; done) | (simp; omega)) _)) hb
 replace B_0 : Box w14 (w.heap.size) #[.int .i64 d_0.Disk.Room, .int .i64 d_0.Disk.Fuse, .int .i64 d_0.Disk.Next, .slice a3_0 l3_0 k3_0, .slice a4_0 l4_0 k4_0, .slice a5_0 l5_0 k5_0, .int .i64 d_0.Keep, .int .i64 d_0.Size, .slice a8_0 l8_0 k8_0, .int .i64 d_0.Len] := Box.below hb (by first | omega | (simp; done) | (simp; omega)) (by repeat (first | exact B_0 | (apply boxN; (focus (first | omega | (simp; done) | (simp; omega)))) | (apply Box.alloc; rotate_left; (focus (first | omega | (simp; done) | (simp; omega))))))
 replace L_0 : w.heap.size < w14.heap.size := (by first | omega | (simp; done) | (simp; omega))
 replace B_w0 : Box w14 (w3.heap.size) #[.int .i64 (tidyX d_0).Disk.Room, .int .i64 (tidyX d_0).Disk.Fuse, .int .i64 (tidyX d_0).Disk.Next, .slice a3_w0 l3_w0 k3_w0, .slice a4_w0 l4_w0 k4_w0, .slice a5_w0 l5_w0 k5_w0, .int .i64 (tidyX d_0).Keep, .int .i64 (tidyX d_0).Size, .slice a8_w0 l8_w0 k8_w0, .int .i64 (tidyX d_0).Len] := Box.below hb (by first | omega | (simp; done) | (simp; omega)) (by repeat (first | exact B_w0 | (apply boxN; (focus (first | omega | (simp; done) | (simp; omega)))) | (apply Box.alloc; rotate_left; (focus (first | omega | (simp; done) | (simp; omega))))))
 replace L_w0 : w3.heap.size < w14.heap.size := (by first | omega | (simp; done) | (simp; omega))
 replace B_x0 : Box w14 (w4.heap.size) #[.int .i64 d_0.Disk.Room, .int .i64 d_0.Disk.Fuse, .int .i64 d_0.Disk.Next, .slice a3_x0 l3_x0 k3_x0, .slice a4_x0 l4_x0 k4_x0, .slice a5_x0 l5_x0 k5_x0, .int .i64 d_0.Keep, .int .i64 d_0.Size, .slice a8_x0 l8_x0 k8_x0, .int .i64 d_0.Len] := Box.below hb (by first | omega | (simp; done) | (simp; omega)) (by repeat (first | exact B_x0 | (apply boxN; (focus (first | omega | (simp; done) | (simp; omega)))) | (apply Box.alloc; rotate_left; (focus (first | omega | (simp; done) | (simp; omega))))))
 replace L_x0 : w4.heap.size < w14.heap.size := (by first | omega | (simp; done) | (simp; omega))
 replace B_g0 : Box w14 (w5.heap.size) #[.int .i64 (tidyX d_0).Disk.Room, .int .i64 (tidyX d_0).Disk.Fuse, .int .i64 (tidyX d_0).Disk.Next, .slice a3_g0 l3_g0 k3_g0, .slice a4_g0 l4_g0 k4_g0, .slice a5_g0 l5_g0 k5_g0, .int .i64 (tidyX d_0).Keep, .int .i64 (tidyX d_0).Size, .slice a8_g0 l8_g0 k8_g0, .int .i64 (tidyX d_0).Len] := Box.below hb (by first | omega | (simp; done) | (simp; omega)) (by repeat (first | exact B_g0 | (apply boxN; (focus (first | omega | (simp; done) | (simp; omega)))) | (apply Box.alloc; rotate_left; (focus (first | omega | (simp; done) | (simp; omega))))))
 replace L_g0 : w5.heap.size < w14.heap.size := (by first | omega | (simp; done) | (simp; omega))
 have B_h0 : Box w14 (w13.heap.size) #[.int .i64 (tidyX d_0).Disk.Room, .int .i64 (tidyX d_0).Disk.Fuse, .int .i64 (tidyX d_0).Disk.Next, .slice a3_h0 l3_h0 k3_h0, .slice a4_h0 l4_h0 k4_h0, .slice a5_h0 l5_h0 k5_h0, .int .i64 (tidyX d_0).Keep, .int .i64 (tidyX d_0).Size, .slice a8_h0 l8_h0 k8_h0, .int .i64 (tidyX d_0).Len] := Box.below hb (by first | omega | (simp; done) | (simp; omega)) (by repeat (first | exact B_h0 | (apply boxN; (focus (first | omega | (simp; done) | (simp; omega)))) | (apply Box.alloc; rotate_left; (focus (first | omega | (simp; done) | (simp; omega))))))
 have L_h0 : w13.heap.size < w14.heap.size := (by first | omega | (simp; done) | (simp; omega))
 replace P3_w0 := hid (P3_w0.out.grow hp)
 replace P4_w0 := hid (P4_w0.out.grow hp)
 replace P5_w0 := hid (P5_w0.out.grow hp)
 replace P8_w0 := hid (P8_w0.out.grow hp)
 replace P3_x0 := hid (P3_x0.out.grow hp)
 replace P4_x0 := hid (P4_x0.out.grow hp)
 replace P5_x0 := hid (P5_x0.out.grow hp)
 replace P8_x0 := hid (P8_x0.out.grow hp)
 replace P3_g0 := hid (P3_g0.out.grow hp)
 replace P4_g0 := hid (P4_g0.out.grow hp)
 replace P5_g0 := hid (P5_g0.out.grow hp)
 replace P8_g0 := hid (P8_g0.out.grow hp)
 replace P3_h0 := hid (P3_h0.out.grow hp)
 replace P4_h0 := hid (P4_h0.out.grow hp)
 replace P5_h0 := hid (P5_h0.out.grow hp)
 replace P8_h0 := hid (P8_h0.out.grow hp)
 replace Hb := hid (Hb.out.trans (hp.mono Hb.out.size))
 clear hb hp
 try unfold Box at B_0
 try unfold Box at B_w0
 try unfold Box at B_x0
 try unfold Box at B_g0
 try unfold Box at B_h0
 try unfold Box at B_0
 try unfold Box at B_w0
 try unfold Box at B_x0
 try unfold Box at B_g0
 try unfold Box at B_h0
 go_wp2_with fail
 refine (heldStore (d := (tidyX d_0)) (1) (mk_Store (d := (((tidyX d_0)).mkv (1))) h0_g0 h1_g0 h2_g0 (Slc.grow P3_g0.out.slc ?_) (Slc.grow P4_g0.out.slc ?_) (Slc.grow P5_g0.out.slc ?_) h6_g0 h7_g0 (Slc.grow P8_g0.out.slc ?_) h9_g0) (by have := HK_g0.out; omega)).mono ?_
 ·repeat (first | exact Below.refl _ _ | refine Below.alloc ?_ (by first | omega | (simp; done) | (simp; omega)) _)
 ·repeat (first | exact Below.refl _ _ | refine Below.alloc ?_ (by first | omega | (simp; done) | (simp; omega)) _)
 ·repeat (first | exact Below.refl _ _ | refine Below.alloc ?_ (by first | omega | (simp; done) | (simp; omega)) _)
 ·repeat (first | exact Below.refl _ _ | refine Below.alloc ?_ (by first | omega | (simp; done) | (simp; omega)) _)
 rintro e w15 ⟨rfl, hb⟩
 have hz15 := hb.size; try simp at hz15
 have hp : Below w14.heap.size w14 w15 := below_call (by repeat (first | exact Below.refl _ _ | refine Below.alloc ?_ (by first | omega | (simp; done) | (simp; omega)) _)) hb
 replace B_0 : Box w15 (w.heap.size) #[.int .i64 d_0.Disk.Room, .int .i64 d_0.Disk.Fuse, .int .i64 d_0.Disk.Next, .slice a3_0 l3_0 k3_0, .slice a4_0 l4_0 k4_0, .slice a5_0 l5_0 k5_0, .int .i64 d_0.Keep, .int .i64 d_0.Size, .slice a8_0 l8_0 k8_0, .int .i64 d_0.Len] := Box.below hb (by first | omega | (simp; done) | (simp; omega)) (by repeat (first | exact B_0 | (apply boxN; (focus (first | omega | (simp; done) | (simp; omega)))) | (apply Box.alloc; rotate_left; (focus (first | omega | (simp; done) | (simp; omega))))))
 replace L_0 : w.heap.size < w15.heap.size := (by first | omega | (simp; done) | (simp; omega))
 replace B_w0 : Box w15 (w3.heap.size) #[.int .i64 (tidyX d_0).Disk.Room, .int .i64 (tidyX d_0).Disk.Fuse, .int .i64 (tidyX d_0).Disk.Next, .slice a3_w0 l3_w0 k3_w0, .slice a4_w0 l4_w0 k4_w0, .slice a5_w0 l5_w0 k5_w0, .int .i64 (tidyX d_0).Keep, .int .i64 (tidyX d_0).Size, .slice a8_w0 l8_w0 k8_w0, .int .i64 (tidyX d_0).Len] := Box.below hb (by first | omega | (simp; done) | (simp; omega)) (by repeat (first | exact B_w0 | (apply boxN; (focus (first | omega | (simp; done) | (simp; omega)))) | (apply Box.alloc; rotate_left; (focus (first | omega | (simp; done) | (simp; omega))))))
 replace L_w0 : w3.heap.size < w15.heap.size := (by first | omega | (simp; done) | (simp; omega))
 replace B_x0 : Box w15 (w4.heap.size) #[.int .i64 d_0.Disk.Room, .int .i64 d_0.Disk.Fuse, .int .i64 d_0.Disk.Next, .slice a3_x0 l3_x0 k3_x0, .slice a4_x0 l4_x0 k4_x0, .slice a5_x0 l5_x0 k5_x0, .int .i64 d_0.Keep, .int .i64 d_0.Size, .slice a8_x0 l8_x0 k8_x0, .int .i64 d_0.Len] := Box.below hb (by first | omega | (simp; done) | (simp; omega)) (by repeat (first | exact B_x0 | (apply boxN; (focus (first | omega | (simp; done) | (simp; omega)))) | (apply Box.alloc; rotate_left; (focus (first | omega | (simp; done) | (simp; omega))))))
 replace L_x0 : w4.heap.size < w15.heap.size := (by first | omega | (simp; done) | (simp; omega))
 replace B_g0 : Box w15 (w5.heap.size) #[.int .i64 (tidyX d_0).Disk.Room, .int .i64 (tidyX d_0).Disk.Fuse, .int .i64 (tidyX d_0).Disk.Next, .slice a3_g0 l3_g0 k3_g0, .slice a4_g0 l4_g0 k4_g0, .slice a5_g0 l5_g0 k5_g0, .int .i64 (tidyX d_0).Keep, .int .i64 (tidyX d_0).Size, .slice a8_g0 l8_g0 k8_g0, .int .i64 (tidyX d_0).Len] := Box.below hb (by first | omega | (simp; done) | (simp; omega)) (by repeat (first | exact B_g0 | (apply boxN; (focus (first | omega | (simp; done) | (simp; omega)))) | (apply Box.alloc; rotate_left; (focus (first | omega | (simp; done) | (simp; omega))))))
 replace L_g0 : w5.heap.size < w15.heap.size := (by first | omega | (simp; done) | (simp; omega))
 replace B_h0 : Box w15 (w13.heap.size) #[.int .i64 (tidyX d_0).Disk.Room, .int .i64 (tidyX d_0).Disk.Fuse, .int .i64 (tidyX d_0).Disk.Next, .slice a3_h0 l3_h0 k3_h0, .slice a4_h0 l4_h0 k4_h0, .slice a5_h0 l5_h0 k5_h0, .int .i64 (tidyX d_0).Keep, .int .i64 (tidyX d_0).Size, .slice a8_h0 l8_h0 k8_h0, .int .i64 (tidyX d_0).Len] := Box.below hb (by first | omega | (simp; done) | (simp; omega)) (by repeat (first | exact B_h0 | (apply boxN; (focus (first | omega | (simp; done) | (simp; omega)))) | (apply Box.alloc; rotate_left; (focus (first | omega | (simp; done) | (simp; omega))))))
 replace L_h0 : w13.heap.size < w15.heap.size := (by first | omega | (simp; done) | (simp; omega))
 replace P3_w0 := hid (P3_w0.out.grow hp)
 replace P4_w0 := hid (P4_w0.out.grow hp)
 replace P5_w0 := hid (P5_w0.out.grow hp)
 replace P8_w0 := hid (P8_w0.out.grow hp)
 replace P3_x0 := hid (P3_x0.out.grow hp)
 replace P4_x0 := hid (P4_x0.out.grow hp)
 replace P5_x0 := hid (P5_x0.out.grow hp)
 replace P8_x0 := hid (P8_x0.out.grow hp)
 replace P3_g0 := hid (P3_g0.out.grow hp)
 replace P4_g0 := hid (P4_g0.out.grow hp)
 replace P5_g0 := hid (P5_g0.out.grow hp)
 replace P8_g0 := hid (P8_g0.out.grow hp)
 replace P3_h0 := hid (P3_h0.out.grow hp)
 replace P4_h0 := hid (P4_h0.out.grow hp)
 replace P5_h0 := hid (P5_h0.out.grow hp)
 replace P8_h0 := hid (P8_h0.out.grow hp)
 replace Hb := hid (Hb.out.trans (hp.mono Hb.out.size))
 clear hb hp
 try unfold Box at B_0
 try unfold Box at B_w0
 try unfold Box at B_x0
 try unfold Box at B_g0
 try unfold Box at B_h0
 try unfold Box at B_0
 try unfold Box at B_w0
 try unfold Box at B_x0
 try unfold Box at B_g0
 try unfold Box at B_h0
 try unfold Box at B_0
 try unfold Box at B_w0
 try unfold Box at B_x0
 try unfold Box at B_g0
 try unfold Box at B_h0
 go_wp2
 go_ret
 exact ⟨rfl, Hb.out⟩
end Go.Proofs.YtdjcjilipgpnmaaGreat
