/- The law on EmitGoto. -/
import Derived.Test.YtgcdgkiefbbhkaaDoorHelpT
import Derived.Test.YtgcdgkiefbbhkaaDoorGoto
import Derived.Deep.RegionHeld3
import Derived.Deep.DeepCutAuto
set_option linter.unusedSimpArgs false
set_option linter.unusedVariables false
namespace Go.Proofs.YtgcdgkiefbbhkaaDoor
open Go.RowKit Go.G6
set_option maxRecDepth 10000
theorem boxN {w : World} {b : Nat} {c : Array Value} {t : TypeId} (hb : b = w.heap.size) : Box (w.alloc (.cells c t)) b c := by subst hb; exact box_new _ _ _
set_option maxHeartbeats 4000000 in
theorem lawEmitGoto {w : World}  (d_0 : Int) (h0_0 : I64 d_0) (d_1 : Int) (h0_1 : I64 d_1) (ht : Lib.TabIs Tryd.prog w "internal/strconv.uint64pow10" .u64 Lib.pow10Tab) :
    Calls Tryd.prog 5 #[.int .i64 d_0, .int .i64 d_1] w fun e w' => e = .returned (.bool true) ∧ Below w.heap.size w w' := by
  have HT := hid ht; clear ht
  go_enter Tryd.func5, Tryd.ntmps5
  have Hb : Hid (Below w.heap.size w w) := hid (Below.refl _ _)
  go_wp2_with fail
  refine (s_EmitGoto  d_0 h0_0 d_1 h0_1 _).mono ?_
  rintro e w1 ⟨a0_w0, l0_w0, k0_w0, bs_w0, rfl, hO0, hb⟩
  have hz1 := hb.size; try simp at hz1
  have hp : Below w.heap.size w w1 := below_call (by repeat (first | exact Below.refl _ _ | refine Below.alloc ?_ (by first | omega | (simp; done) | (simp; omega)) _)) hb
  replace Hb := hid (Hb.out.trans (hp.mono Hb.out.size))
  have P0_w0 := hid (pt_slice.1 hO0)
  have R0_w0 : Hid (∀ x ∈ bs_w0, 0 ≤ x ∧ x < w1.heap.size) := hid (fun x hx => by have := P0_w0.out.lts x hx; exact this)
  clear hb hp
  go_wp2_with fail
  refine (i_EmitGotoS  d_0 h0_0 d_1 h0_1 _ (tab_below HT.out Hb.out)).mono ?_
  rintro e w2 ⟨a0_g0, l0_g0, k0_g0, bs_g0, rfl, hO0, hb⟩
  have hz2 := hb.size; try simp at hz2
  have hp : Below w1.heap.size w1 w2 := below_call (by repeat (first | exact Below.refl _ _ | refine Below.alloc ?_ (by first | omega | (simp; done) | (simp; omega)) _)) hb
  replace P0_w0 := hid (P0_w0.out.grow hp)
  replace Hb := hid (Hb.out.trans (hp.mono Hb.out.size))
  have P0_g0 := hid hO0
  have R0_g0 : Hid (∀ x ∈ bs_g0, w1.heap.size ≤ x ∧ x < w2.heap.size) := hid (fun x hx => by have := P0_g0.out.lts x hx; refine ⟨?_, this.2⟩; have := this.1; first | omega | (simp at this; omega))
  clear hb hp
  go_wp2_with fail
  refine (eqByteS (Slc.grow P0_g0.out.slc ?_) (Slc.grow P0_w0.out ?_)).mono ?_
  · repeat (first | exact Below.refl _ _ | refine Below.alloc ?_ (by first | omega | (simp; done) | (simp; omega)) _)
  · repeat (first | exact Below.refl _ _ | refine Below.alloc ?_ (by first | omega | (simp; done) | (simp; omega)) _)
  rintro e w3 ⟨rfl, hb⟩
  have hz3 := hb.size; try simp at hz3
  have hp : Below w2.heap.size w2 w3 := below_call (by repeat (first | exact Below.refl _ _ | refine Below.alloc ?_ (by first | omega | (simp; done) | (simp; omega)) _)) hb
  replace P0_w0 := hid (P0_w0.out.grow hp)
  replace P0_g0 := hid (P0_g0.out.grow hp)
  replace Hb := hid (Hb.out.trans (hp.mono Hb.out.size))
  clear hb hp
  have HK_g0 : Hid (1 + Mk.nE ((gotoB d_0 d_1)) ≤ topK) := hid (by have h2 := gotoB_len d_0 d_1; rw [show Mk.nE (gotoB d_0 d_1) = (gotoB d_0 d_1).length from nL_const _ _ fun _ => rfl]; unfold topK; omega)
  go_wp2_with fail
  refine (markByteS P0_g0.out (1) HK_g0.out).mono ?_
  rintro e w4 ⟨rfl, hO0, hT⟩
  have hz4 := hT.size
  replace P0_w0 := hid (P0_w0.out.tch hT (fun x hx hm => by have := R0_w0.out x hx; have := R0_g0.out x hm; omega))
  replace Hb := hid (Hb.out.trans (hT.below Hb.out.size (fun x hm => by have := R0_g0.out x hm; omega)))
  replace P0_g0 := hid hO0
  clear hT hO0
  go_wp2_with fail
  refine (heldByteS (xs := (gotoB d_0 d_1)) (1) (Slc.grow P0_g0.out.slc ?_) (by have := HK_g0.out; omega)).mono ?_
  · repeat (first | exact Below.refl _ _ | refine Below.alloc ?_ (by first | omega | (simp; done) | (simp; omega)) _)
  rintro e w5 ⟨rfl, hb⟩
  have hz5 := hb.size; try simp at hz5
  have hp : Below w4.heap.size w4 w5 := below_call (by repeat (first | exact Below.refl _ _ | refine Below.alloc ?_ (by first | omega | (simp; done) | (simp; omega)) _)) hb
  replace P0_w0 := hid (P0_w0.out.grow hp)
  replace P0_g0 := hid (P0_g0.out.grow hp)
  replace Hb := hid (Hb.out.trans (hp.mono Hb.out.size))
  clear hb hp
  go_wp2_with fail
  refine (i_EmitGotoS  d_0 h0_0 d_1 h0_1 _ (tab_below HT.out Hb.out)).mono ?_
  rintro e w6 ⟨a0_h0, l0_h0, k0_h0, bs_h0, rfl, hO0, hb⟩
  have hz6 := hb.size; try simp at hz6
  have hp : Below w5.heap.size w5 w6 := below_call (by repeat (first | exact Below.refl _ _ | refine Below.alloc ?_ (by first | omega | (simp; done) | (simp; omega)) _)) hb
  replace P0_w0 := hid (P0_w0.out.grow hp)
  replace P0_g0 := hid (P0_g0.out.grow hp)
  replace Hb := hid (Hb.out.trans (hp.mono Hb.out.size))
  have P0_h0 := hid hO0
  have R0_h0 : Hid (∀ x ∈ bs_h0, w5.heap.size ≤ x ∧ x < w6.heap.size) := hid (fun x hx => by have := P0_h0.out.lts x hx; refine ⟨?_, this.2⟩; have := this.1; first | omega | (simp at this; omega))
  clear hb hp
  go_wp2_with fail
  refine (eqByteS (Slc.grow P0_h0.out.slc ?_) (Slc.grow P0_w0.out ?_)).mono ?_
  · repeat (first | exact Below.refl _ _ | refine Below.alloc ?_ (by first | omega | (simp; done) | (simp; omega)) _)
  · repeat (first | exact Below.refl _ _ | refine Below.alloc ?_ (by first | omega | (simp; done) | (simp; omega)) _)
  rintro e w7 ⟨rfl, hb⟩
  have hz7 := hb.size; try simp at hz7
  have hp : Below w6.heap.size w6 w7 := below_call (by repeat (first | exact Below.refl _ _ | refine Below.alloc ?_ (by first | omega | (simp; done) | (simp; omega)) _)) hb
  replace P0_w0 := hid (P0_w0.out.grow hp)
  replace P0_g0 := hid (P0_g0.out.grow hp)
  replace P0_h0 := hid (P0_h0.out.grow hp)
  replace Hb := hid (Hb.out.trans (hp.mono Hb.out.size))
  clear hb hp
  go_wp2_with fail
  refine (heldByteS (xs := (gotoB d_0 d_1)) (1) (Slc.grow P0_g0.out.slc ?_) (by have := HK_g0.out; omega)).mono ?_
  · repeat (first | exact Below.refl _ _ | refine Below.alloc ?_ (by first | omega | (simp; done) | (simp; omega)) _)
  rintro e w8 ⟨rfl, hb⟩
  have hz8 := hb.size; try simp at hz8
  have hp : Below w7.heap.size w7 w8 := below_call (by repeat (first | exact Below.refl _ _ | refine Below.alloc ?_ (by first | omega | (simp; done) | (simp; omega)) _)) hb
  replace P0_w0 := hid (P0_w0.out.grow hp)
  replace P0_g0 := hid (P0_g0.out.grow hp)
  replace P0_h0 := hid (P0_h0.out.grow hp)
  replace Hb := hid (Hb.out.trans (hp.mono Hb.out.size))
  clear hb hp
  go_wp2
  go_ret
  exact ⟨rfl, Hb.out⟩
end Go.Proofs.YtgcdgkiefbbhkaaDoor
