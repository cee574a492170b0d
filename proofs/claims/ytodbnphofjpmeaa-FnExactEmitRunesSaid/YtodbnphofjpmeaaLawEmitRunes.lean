/- The law on EmitRunes. -/
import Derived.Test.YtodbnphofjpmeaaHelpT
import Derived.Test.YtodbnphofjpmeaaText
import Derived.Deep.RegionHeld3
set_option linter.unusedSimpArgs false
set_option linter.unusedVariables false
namespace Go.Proofs.Ytodbnphofjpmeaa
open Go.RowKit Go.G6
set_option maxRecDepth 10000
set_option maxHeartbeats 4000000 in
theorem lawEmitRunes {w : World} {bs_0 : List Nat} {a0_0 : Option Addr} {l0_0 k0_0 : Nat} {d_0 : List Int} (g_0 : Slc w bs_0 a0_0 l0_0 k0_0 d_0) :
    Calls Try.prog 6 #[.slice a0_0 l0_0 k0_0] w fun e w' => e = .returned (.bool true) ∧ Below w.heap.size w w' := by
  obtain rfl := g_0.len_eq
  have hm_0 := g_0.max
  have G_0 := hid g_0; clear g_0
  go_enter Try.func6, Try.ntmps6
  have Hb : Hid (Below w.heap.size w w) := hid (Below.refl _ _)
  by_cases hn_0 : (d_0.length : Int) ≤ 1048576
  rotate_left
  · go_wp2
    go_ret
    exact ⟨rfl, by repeat (first | exact Below.refl _ _ | refine Below.alloc ?_ (by first | omega | (simp; done) | (simp; omega)) _)⟩
  have HN_0 : Hid (Cnt.cnt d_0 ≤ 1048576) := hid (by first | (rw [cnt_ints]; omega) | (rw [cnt_bytes]; omega))
  go_wp2_with fail
  refine (toIntS (G_0.out.grow ?_) (by have := HN_0.out; first | omega | (simp only [cnt_ints, cnt_bytes] at this; omega))).mono ?_
  · (repeat (first | exact Hb.out | refine Below.alloc ?_ (by have := Hb.out.size; first | omega | (simp; done) | (simp; omega)) _))
  rintro e w1 ⟨a0_t10, l0_t10, k0_t10, bs_t10, rfl, hO, hb⟩
  have hz1 := hb.size; try simp at hz1
  have hp : Below w.heap.size w w1 := below_call (by repeat (first | exact Below.refl _ _ | refine Below.alloc ?_ (by first | omega | (simp; done) | (simp; omega)) _)) hb
  replace Hb := hid (Hb.out.trans (hp.mono Hb.out.size))
  have P0_t10 := hid hO
  have R0_t10 : Hid (∀ x ∈ bs_t10, w.heap.size ≤ x ∧ x < w1.heap.size) := hid (fun x hx => by have := P0_t10.out.lts x hx; refine ⟨?_, this.2⟩; have := this.1; first | omega | (simp at this; omega))
  clear hb hp hO
  go_wp2_with fail
  refine (s_EmitRunesS (Slc.grow P0_t10.out.slc ?_)  (by have := HN_0.out; first | omega | (simp only [cnt_ints, cnt_bytes] at this; omega))).mono ?_
  · repeat (first | exact Below.refl _ _ | refine Below.alloc ?_ (by first | omega | (simp; done) | (simp; omega)) _)
  rintro e w2 ⟨a0_w0, l0_w0, k0_w0, bs_w0, rfl, hO0, hb⟩
  have hz2 := hb.size; try simp at hz2
  have hp : Below w1.heap.size w1 w2 := below_call (by repeat (first | exact Below.refl _ _ | refine Below.alloc ?_ (by first | omega | (simp; done) | (simp; omega)) _)) hb
  replace P0_t10 := hid (P0_t10.out.grow hp)
  replace Hb := hid (Hb.out.trans (hp.mono Hb.out.size))
  have P0_w0 := hid hO0
  have R0_w0 : Hid (∀ x ∈ bs_w0, w1.heap.size ≤ x ∧ x < w2.heap.size) := hid (fun x hx => by have := P0_w0.out.lts x hx; refine ⟨?_, this.2⟩; have := this.1; first | omega | (simp at this; omega))
  clear hb hp
  go_wp2_with fail
  refine (toIntS (G_0.out.grow ?_) (by have := HN_0.out; first | omega | (simp only [cnt_ints, cnt_bytes] at this; omega))).mono ?_
  · (repeat (first | exact Hb.out | refine Below.alloc ?_ (by have := Hb.out.size; first | omega | (simp; done) | (simp; omega)) _))
  rintro e w3 ⟨a0_x0, l0_x0, k0_x0, bs_x0, rfl, hO, hb⟩
  have hz3 := hb.size; try simp at hz3
  have hp : Below w2.heap.size w2 w3 := below_call (by repeat (first | exact Below.refl _ _ | refine Below.alloc ?_ (by first | omega | (simp; done) | (simp; omega)) _)) hb
  replace P0_w0 := hid (P0_w0.out.grow hp)
  replace Hb := hid (Hb.out.trans (hp.mono Hb.out.size))
  have P0_x0 := hid hO
  have R0_x0 : Hid (∀ x ∈ bs_x0, w2.heap.size ≤ x ∧ x < w3.heap.size) := hid (fun x hx => by have := P0_x0.out.lts x hx; refine ⟨?_, this.2⟩; have := this.1; first | omega | (simp at this; omega))
  clear hb hp hO
  go_wp2_with fail
  refine (i_EmitRunesS (Slc.grow P0_x0.out.slc ?_)  (by have := HN_0.out; first | omega | (simp only [cnt_ints, cnt_bytes] at this; omega))).mono ?_
  · repeat (first | exact Below.refl _ _ | refine Below.alloc ?_ (by first | omega | (simp; done) | (simp; omega)) _)
  rintro e w4 ⟨a0_g0, l0_g0, k0_g0, bs_g0, rfl, hO0, hb⟩
  have hz4 := hb.size; try simp at hz4
  have hp : Below w3.heap.size w3 w4 := below_call (by repeat (first | exact Below.refl _ _ | refine Below.alloc ?_ (by first | omega | (simp; done) | (simp; omega)) _)) hb
  replace P0_w0 := hid (P0_w0.out.grow hp)
  replace P0_x0 := hid (P0_x0.out.grow hp)
  replace Hb := hid (Hb.out.trans (hp.mono Hb.out.size))
  have P0_g0 := hid hO0
  have R0_g0 : Hid (∀ x ∈ bs_g0, w3.heap.size ≤ x ∧ x < w4.heap.size) := hid (fun x hx => by have := P0_g0.out.lts x hx; refine ⟨?_, this.2⟩; have := this.1; first | omega | (simp at this; omega))
  clear hb hp
  go_wp2_with fail
  refine (eqByteS (Slc.grow P0_g0.out.slc ?_) (Slc.grow P0_w0.out.slc ?_)).mono ?_
  · repeat (first | exact Below.refl _ _ | refine Below.alloc ?_ (by first | omega | (simp; done) | (simp; omega)) _)
  · repeat (first | exact Below.refl _ _ | refine Below.alloc ?_ (by first | omega | (simp; done) | (simp; omega)) _)
  rintro e w5 ⟨rfl, hb⟩
  have hz5 := hb.size; try simp at hz5
  have hp : Below w4.heap.size w4 w5 := below_call (by repeat (first | exact Below.refl _ _ | refine Below.alloc ?_ (by first | omega | (simp; done) | (simp; omega)) _)) hb
  replace P0_w0 := hid (P0_w0.out.grow hp)
  replace P0_x0 := hid (P0_x0.out.grow hp)
  replace P0_g0 := hid (P0_g0.out.grow hp)
  replace Hb := hid (Hb.out.trans (hp.mono Hb.out.size))
  clear hb hp
  go_wp2_with fail
  refine (toIntS (G_0.out.grow ?_) (by have := HN_0.out; first | omega | (simp only [cnt_ints, cnt_bytes] at this; omega))).mono ?_
  · (repeat (first | exact Hb.out | refine Below.alloc ?_ (by have := Hb.out.size; first | omega | (simp; done) | (simp; omega)) _))
  rintro e w6 ⟨a0_e3, l0_e3, k0_e3, bs_e3, rfl, hO, hb⟩
  have hz6 := hb.size; try simp at hz6
  have hp : Below w5.heap.size w5 w6 := below_call (by repeat (first | exact Below.refl _ _ | refine Below.alloc ?_ (by first | omega | (simp; done) | (simp; omega)) _)) hb
  replace P0_w0 := hid (P0_w0.out.grow hp)
  replace P0_x0 := hid (P0_x0.out.grow hp)
  replace P0_g0 := hid (P0_g0.out.grow hp)
  replace Hb := hid (Hb.out.trans (hp.mono Hb.out.size))
  have P0_e3 := hid hO
  have R0_e3 : Hid (∀ x ∈ bs_e3, w5.heap.size ≤ x ∧ x < w6.heap.size) := hid (fun x hx => by have := P0_e3.out.lts x hx; refine ⟨?_, this.2⟩; have := this.1; first | omega | (simp at this; omega))
  clear hb hp hO
  go_wp2_with fail
  refine (eqIntS (Slc.grow P0_x0.out.slc ?_) (Slc.grow P0_e3.out.slc ?_)).mono ?_
  · repeat (first | exact Below.refl _ _ | refine Below.alloc ?_ (by first | omega | (simp; done) | (simp; omega)) _)
  · repeat (first | exact Below.refl _ _ | refine Below.alloc ?_ (by first | omega | (simp; done) | (simp; omega)) _)
  rintro e w7 ⟨rfl, hb⟩
  have hz7 := hb.size; try simp at hz7
  have hp : Below w6.heap.size w6 w7 := below_call (by repeat (first | exact Below.refl _ _ | refine Below.alloc ?_ (by first | omega | (simp; done) | (simp; omega)) _)) hb
  replace P0_w0 := hid (P0_w0.out.grow hp)
  replace P0_x0 := hid (P0_x0.out.grow hp)
  replace P0_g0 := hid (P0_g0.out.grow hp)
  replace P0_e3 := hid (P0_e3.out.grow hp)
  replace Hb := hid (Hb.out.trans (hp.mono Hb.out.size))
  clear hb hp
  have HK_x0 : Hid (1 + Mk.nE (d_0) ≤ topK) := hid (by have h_0 := HN_0.out; have k_0 := nE_ints d_0; unfold topK; omega)
  go_wp2_with fail
  refine (markIntS P0_x0.out (1) HK_x0.out).mono ?_
  rintro e w8 ⟨rfl, hO0, hT⟩
  have hz8 := hT.size
  replace P0_w0 := hid (P0_w0.out.tch hT (fun x hx hm => by have := R0_w0.out x hx; have := R0_x0.out x hm; omega))
  replace P0_g0 := hid (P0_g0.out.tch hT (fun x hx hm => by have := R0_g0.out x hx; have := R0_x0.out x hm; omega))
  replace Hb := hid (Hb.out.trans (hT.below Hb.out.size (fun x hm => by have := R0_x0.out x hm; omega)))
  replace P0_x0 := hid hO0
  clear hT hO0
  go_wp2_with fail
  refine (eqByteS (Slc.grow P0_g0.out.slc ?_) (Slc.grow P0_w0.out.slc ?_)).mono ?_
  · repeat (first | exact Below.refl _ _ | refine Below.alloc ?_ (by first | omega | (simp; done) | (simp; omega)) _)
  · repeat (first | exact Below.refl _ _ | refine Below.alloc ?_ (by first | omega | (simp; done) | (simp; omega)) _)
  rintro e w9 ⟨rfl, hb⟩
  have hz9 := hb.size; try simp at hz9
  have hp : Below w8.heap.size w8 w9 := below_call (by repeat (first | exact Below.refl _ _ | refine Below.alloc ?_ (by first | omega | (simp; done) | (simp; omega)) _)) hb
  replace P0_w0 := hid (P0_w0.out.grow hp)
  replace P0_x0 := hid (P0_x0.out.grow hp)
  replace P0_g0 := hid (P0_g0.out.grow hp)
  replace Hb := hid (Hb.out.trans (hp.mono Hb.out.size))
  clear hb hp
  have HK_g0 : Hid (1 + Mk.nE ((emitList d_0)) ≤ topK) := hid (by have h1 := HN_0.out; rw [cnt_ints] at h1; have h2 := emitList_len d_0; rw [show Mk.nE (emitList d_0) = (emitList d_0).length from nL_const _ _ fun _ => rfl]; unfold topK; omega)
  go_wp2_with fail
  refine (markByteS P0_g0.out (1) HK_g0.out).mono ?_
  rintro e w10 ⟨rfl, hO0, hT⟩
  have hz10 := hT.size
  replace P0_w0 := hid (P0_w0.out.tch hT (fun x hx hm => by have := R0_w0.out x hx; have := R0_g0.out x hm; omega))
  replace P0_x0 := hid (P0_x0.out.tch hT (fun x hx hm => by have := R0_x0.out x hx; have := R0_g0.out x hm; omega))
  replace Hb := hid (Hb.out.trans (hT.below Hb.out.size (fun x hm => by have := R0_g0.out x hm; omega)))
  replace P0_g0 := hid hO0
  clear hT hO0
  go_wp2_with fail
  refine (heldByteS (xs := (emitList d_0)) (1) (Slc.grow P0_g0.out.slc ?_) (by have := HK_g0.out; omega)).mono ?_
  · repeat (first | exact Below.refl _ _ | refine Below.alloc ?_ (by first | omega | (simp; done) | (simp; omega)) _)
  rintro e w11 ⟨rfl, hb⟩
  have hz11 := hb.size; try simp at hz11
  have hp : Below w10.heap.size w10 w11 := below_call (by repeat (first | exact Below.refl _ _ | refine Below.alloc ?_ (by first | omega | (simp; done) | (simp; omega)) _)) hb
  replace P0_w0 := hid (P0_w0.out.grow hp)
  replace P0_x0 := hid (P0_x0.out.grow hp)
  replace P0_g0 := hid (P0_g0.out.grow hp)
  replace Hb := hid (Hb.out.trans (hp.mono Hb.out.size))
  clear hb hp
  go_wp2_with fail
  refine (toIntS (G_0.out.grow ?_) (by have := HN_0.out; first | omega | (simp only [cnt_ints, cnt_bytes] at this; omega))).mono ?_
  · (repeat (first | exact Hb.out | refine Below.alloc ?_ (by have := Hb.out.size; first | omega | (simp; done) | (simp; omega)) _))
  rintro e w12 ⟨a0_t40, l0_t40, k0_t40, bs_t40, rfl, hO, hb⟩
  have hz12 := hb.size; try simp at hz12
  have hp : Below w11.heap.size w11 w12 := below_call (by repeat (first | exact Below.refl _ _ | refine Below.alloc ?_ (by first | omega | (simp; done) | (simp; omega)) _)) hb
  replace P0_w0 := hid (P0_w0.out.grow hp)
  replace P0_x0 := hid (P0_x0.out.grow hp)
  replace P0_g0 := hid (P0_g0.out.grow hp)
  replace Hb := hid (Hb.out.trans (hp.mono Hb.out.size))
  have P0_t40 := hid hO
  have R0_t40 : Hid (∀ x ∈ bs_t40, w11.heap.size ≤ x ∧ x < w12.heap.size) := hid (fun x hx => by have := P0_t40.out.lts x hx; refine ⟨?_, this.2⟩; have := this.1; first | omega | (simp at this; omega))
  clear hb hp hO
  go_wp2_with fail
  refine (i_EmitRunesS (Slc.grow P0_t40.out.slc ?_)  (by have := HN_0.out; first | omega | (simp only [cnt_ints, cnt_bytes] at this; omega))).mono ?_
  · repeat (first | exact Below.refl _ _ | refine Below.alloc ?_ (by first | omega | (simp; done) | (simp; omega)) _)
  rintro e w13 ⟨a0_h0, l0_h0, k0_h0, bs_h0, rfl, hO0, hb⟩
  have hz13 := hb.size; try simp at hz13
  have hp : Below w12.heap.size w12 w13 := below_call (by repeat (first | exact Below.refl _ _ | refine Below.alloc ?_ (by first | omega | (simp; done) | (simp; omega)) _)) hb
  replace P0_w0 := hid (P0_w0.out.grow hp)
  replace P0_x0 := hid (P0_x0.out.grow hp)
  replace P0_g0 := hid (P0_g0.out.grow hp)
  replace P0_t40 := hid (P0_t40.out.grow hp)
  replace Hb := hid (Hb.out.trans (hp.mono Hb.out.size))
  have P0_h0 := hid hO0
  have R0_h0 : Hid (∀ x ∈ bs_h0, w12.heap.size ≤ x ∧ x < w13.heap.size) := hid (fun x hx => by have := P0_h0.out.lts x hx; refine ⟨?_, this.2⟩; have := this.1; first | omega | (simp at this; omega))
  clear hb hp
  go_wp2_with fail
  refine (eqByteS (Slc.grow P0_h0.out.slc ?_) (Slc.grow P0_w0.out.slc ?_)).mono ?_
  · repeat (first | exact Below.refl _ _ | refine Below.alloc ?_ (by first | omega | (simp; done) | (simp; omega)) _)
  · repeat (first | exact Below.refl _ _ | refine Below.alloc ?_ (by first | omega | (simp; done) | (simp; omega)) _)
  rintro e w14 ⟨rfl, hb⟩
  have hz14 := hb.size; try simp at hz14
  have hp : Below w13.heap.size w13 w14 := below_call (by repeat (first | exact Below.refl _ _ | refine Below.alloc ?_ (by first | omega | (simp; done) | (simp; omega)) _)) hb
  replace P0_w0 := hid (P0_w0.out.grow hp)
  replace P0_x0 := hid (P0_x0.out.grow hp)
  replace P0_g0 := hid (P0_g0.out.grow hp)
  replace P0_h0 := hid (P0_h0.out.grow hp)
  replace Hb := hid (Hb.out.trans (hp.mono Hb.out.size))
  clear hb hp
  go_wp2_with fail
  refine (heldByteS (xs := (emitList d_0)) (1) (Slc.grow P0_g0.out.slc ?_) (by have := HK_g0.out; omega)).mono ?_
  · repeat (first | exact Below.refl _ _ | refine Below.alloc ?_ (by first | omega | (simp; done) | (simp; omega)) _)
  rintro e w15 ⟨rfl, hb⟩
  have hz15 := hb.size; try simp at hz15
  have hp : Below w14.heap.size w14 w15 := below_call (by repeat (first | exact Below.refl _ _ | refine Below.alloc ?_ (by first | omega | (simp; done) | (simp; omega)) _)) hb
  replace P0_w0 := hid (P0_w0.out.grow hp)
  replace P0_x0 := hid (P0_x0.out.grow hp)
  replace P0_g0 := hid (P0_g0.out.grow hp)
  replace P0_h0 := hid (P0_h0.out.grow hp)
  replace Hb := hid (Hb.out.trans (hp.mono Hb.out.size))
  clear hb hp
  go_wp2
  go_ret
  exact ⟨rfl, Hb.out⟩
end Go.Proofs.Ytodbnphofjpmeaa
