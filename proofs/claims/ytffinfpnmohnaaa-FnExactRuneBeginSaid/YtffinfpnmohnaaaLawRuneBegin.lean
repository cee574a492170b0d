/- The law on RuneBegin. -/
import Derived.Test.YtffinfpnmohnaaaHelpT
import Derived.Test.YtffinfpnmohnaaaBeginI
import Derived.Test.YtffinfpnmohnaaaBeginS
import Derived.Deep.RegionHeld3
import Derived.Deep.DeepCutAuto
set_option linter.unusedSimpArgs false
set_option linter.unusedVariables false
namespace Go.Proofs.Ytffinfpnmohnaaa
open Go.RowKit Go.G6
set_option maxRecDepth 10000
theorem boxN {w : World} {b : Nat} {c : Array Value} {t : TypeId} (hb : b = w.heap.size) : Box (w.alloc (.cells c t)) b c := by subst hb; exact box_new _ _ _
set_option maxHeartbeats 4000000 in
theorem lawRuneBegin {w : World} {bs_0 : List Nat} {a0_0 : Option Addr} {l0_0 k0_0 : Nat} {d_0 : List UInt8} (g_0 : Slc w bs_0 a0_0 l0_0 k0_0 d_0) :
    Calls Try.prog 3 #[.slice a0_0 l0_0 k0_0] w fun e w' => e = .returned (.bool true) ∧ Below w.heap.size w w' := by
  obtain rfl := g_0.len_eq
  have hm_0 := g_0.max
  have G_0 := hid g_0; clear g_0
  go_enter Try.func3, Try.ntmps3
  have Hb : Hid (Below w.heap.size w w) := hid (Below.refl _ _)
  by_cases hn_0 : (d_0.length : Int) ≤ 1048576
  rotate_left
  · go_wp2
    go_ret
    exact ⟨rfl, by repeat (first | exact Below.refl _ _ | refine Below.alloc ?_ (by first | omega | (simp; done) | (simp; omega)) _)⟩
  have HN_0 : Hid (Cnt.cnt d_0 ≤ 1048576) := hid (by first | (rw [cnt_ints]; omega) | (rw [cnt_bytes]; omega))
  go_wp2_with fail
  refine (toByteS (G_0.out.grow ?_) (by have := HN_0.out; first | omega | (simp only [cnt_ints, cnt_bytes] at this; omega))).mono ?_
  · (repeat (first | exact Hb.out | refine Below.alloc ?_ (by have := Hb.out.size; first | omega | (simp; done) | (simp; omega)) _))
  rintro e w1 ⟨a0_t10, l0_t10, k0_t10, bs_t10, rfl, hO, hb⟩
  have hz1 := hb.size; try simp at hz1
  have hp : Below w.heap.size w w1 := below_call (by repeat (first | exact Below.refl _ _ | refine Below.alloc ?_ (by first | omega | (simp; done) | (simp; omega)) _)) hb
  replace Hb := hid (Hb.out.trans (hp.mono Hb.out.size))
  have P0_t10 := hid hO
  have R0_t10 : Hid (∀ x ∈ bs_t10, w.heap.size ≤ x ∧ x < w1.heap.size) := hid (fun x hx => by have := P0_t10.out.lts x hx; refine ⟨?_, this.2⟩; have := this.1; first | omega | (simp at this; omega))
  clear hb hp hO
  go_wp2_with fail
  refine (s_RuneBegin (Slc.grow P0_t10.out.slc ?_)  ).mono ?_
  · repeat (first | exact Below.refl _ _ | refine Below.alloc ?_ (by first | omega | (simp; done) | (simp; omega)) _)
  rintro e w2 ⟨rfl, hb⟩
  have hz2 := hb.size; try simp at hz2
  have hp : Below w1.heap.size w1 w2 := below_call (by repeat (first | exact Below.refl _ _ | refine Below.alloc ?_ (by first | omega | (simp; done) | (simp; omega)) _)) hb
  replace P0_t10 := hid (P0_t10.out.grow hp)
  replace Hb := hid (Hb.out.trans (hp.mono Hb.out.size))
  clear hb hp
  go_wp2_with fail
  refine (toByteS (G_0.out.grow ?_) (by have := HN_0.out; first | omega | (simp only [cnt_ints, cnt_bytes] at this; omega))).mono ?_
  · (repeat (first | exact Hb.out | refine Below.alloc ?_ (by have := Hb.out.size; first | omega | (simp; done) | (simp; omega)) _))
  rintro e w3 ⟨a0_x0, l0_x0, k0_x0, bs_x0, rfl, hO, hb⟩
  have hz3 := hb.size; try simp at hz3
  have hp : Below w2.heap.size w2 w3 := below_call (by repeat (first | exact Below.refl _ _ | refine Below.alloc ?_ (by first | omega | (simp; done) | (simp; omega)) _)) hb
  replace Hb := hid (Hb.out.trans (hp.mono Hb.out.size))
  have P0_x0 := hid hO
  have R0_x0 : Hid (∀ x ∈ bs_x0, w2.heap.size ≤ x ∧ x < w3.heap.size) := hid (fun x hx => by have := P0_x0.out.lts x hx; refine ⟨?_, this.2⟩; have := this.1; first | omega | (simp at this; omega))
  clear hb hp hO
  go_wp2_with fail
  refine (i_RuneBeginR (Slc.grow P0_x0.out.slc ?_)  ).mono ?_
  · repeat (first | exact Below.refl _ _ | refine Below.alloc ?_ (by first | omega | (simp; done) | (simp; omega)) _)
  rintro e w4 ⟨rfl, hb⟩
  have hz4 := hb.size; try simp at hz4
  have hp : Below w3.heap.size w3 w4 := below_call (by repeat (first | exact Below.refl _ _ | refine Below.alloc ?_ (by first | omega | (simp; done) | (simp; omega)) _)) hb
  replace P0_x0 := hid (P0_x0.out.grow hp)
  replace Hb := hid (Hb.out.trans (hp.mono Hb.out.size))
  clear hb hp
  go_wp2_with fail
  refine (toByteS (G_0.out.grow ?_) (by have := HN_0.out; first | omega | (simp only [cnt_ints, cnt_bytes] at this; omega))).mono ?_
  · (repeat (first | exact Hb.out | refine Below.alloc ?_ (by have := Hb.out.size; first | omega | (simp; done) | (simp; omega)) _))
  rintro e w5 ⟨a0_e3, l0_e3, k0_e3, bs_e3, rfl, hO, hb⟩
  have hz5 := hb.size; try simp at hz5
  have hp : Below w4.heap.size w4 w5 := below_call (by repeat (first | exact Below.refl _ _ | refine Below.alloc ?_ (by first | omega | (simp; done) | (simp; omega)) _)) hb
  replace P0_x0 := hid (P0_x0.out.grow hp)
  replace Hb := hid (Hb.out.trans (hp.mono Hb.out.size))
  have P0_e3 := hid hO
  have R0_e3 : Hid (∀ x ∈ bs_e3, w4.heap.size ≤ x ∧ x < w5.heap.size) := hid (fun x hx => by have := P0_e3.out.lts x hx; refine ⟨?_, this.2⟩; have := this.1; first | omega | (simp at this; omega))
  clear hb hp hO
  go_wp2_with fail
  refine (eqByteS (Slc.grow P0_x0.out.slc ?_) (Slc.grow P0_e3.out.slc ?_)).mono ?_
  · repeat (first | exact Below.refl _ _ | refine Below.alloc ?_ (by first | omega | (simp; done) | (simp; omega)) _)
  · repeat (first | exact Below.refl _ _ | refine Below.alloc ?_ (by first | omega | (simp; done) | (simp; omega)) _)
  rintro e w6 ⟨rfl, hb⟩
  have hz6 := hb.size; try simp at hz6
  have hp : Below w5.heap.size w5 w6 := below_call (by repeat (first | exact Below.refl _ _ | refine Below.alloc ?_ (by first | omega | (simp; done) | (simp; omega)) _)) hb
  replace P0_x0 := hid (P0_x0.out.grow hp)
  replace P0_e3 := hid (P0_e3.out.grow hp)
  replace Hb := hid (Hb.out.trans (hp.mono Hb.out.size))
  clear hb hp
  go_wp2
  go_ret
  exact ⟨rfl, Hb.out⟩
end Go.Proofs.Ytffinfpnmohnaaa
