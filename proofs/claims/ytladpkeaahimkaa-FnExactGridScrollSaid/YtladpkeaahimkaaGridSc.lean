/- Scrolling. -/
import Derived.Test.YtladpkeaahimkaaGridGs
import Derived.Deep.RegionHeld3
set_option linter.unusedSimpArgs false
set_option linter.unusedVariables false
namespace Go.G6
open Go.RowKit
def scrollD (d : GridD) : GridD := { d with Cells := d.Cells.drop d.W.toNat ++ List.replicate d.W.toNat 32 }
def gridScroll (d : GridD) : GridD := if gridOk d then scrollD d else grid0
end Go.G6
namespace Go.Proofs.Ytladpkeaahimkaa
open Go.RowKit Go.G6
set_option maxHeartbeats 1600000
set_option maxRecDepth 10000
theorem i_scroll {w : World} {b W : Nat} {bs : List Nat} {d : GridD} {a : Option Addr} {k : Nat} (hW : d.W = (W : Int)) (h1 : 1 ≤ W ∧ W ≤ 200) (hl : W ≤ d.Cells.length ∧ d.Cells.length ≤ 8000)
    (hB : Bx w b #[.int .i64 d.W, .int .i64 d.H, .slice a d.Cells.length k, .int .i64 d.X, .int .i64 d.Y, .bool d.Wrap]) (hb : b < w.heap.size) (hS : Slc w bs a d.Cells.length k d.Cells) :
    Calls Try.prog 77 #[.pointer (some ⟨b, 0, none⟩)] w fun e w' => ∃ v bs', e = .returned (.tuple #[]) ∧ Bx w' b #[.int .i64 d.W, .int .i64 d.H, v, .int .i64 d.X, .int .i64 d.Y, .bool d.Wrap] ∧ OwnL w.heap.size w' 3 v bs' (scrollD d).Cells ∧ Tch [b] w w' := by
  have HB := hid hB
  have hc := hB.out
  have hf := hB.fr
  obtain ⟨i0, hi, hz0, hz1, hz2⟩ := info_parts info_int
  obtain ⟨a', bs', hcut, _, _, hS2⟩ := hS.cut_l 22 Try.underlying22 hi hz1 d.W (by omega) (by omega)
  clear hB
  have eW : d.W.toNat = W := by omega
  rw [eW] at hcut hS2
  rw [hW] at hc hcut
  have HeW := hid eW; clear eW
  have HS2 := hid hS2
  have H0 : Hid (Below w.heap.size w w.drew ∧ w.heap.size ≤ w.drew.heap.size ∧ ∀ o, w.drew.cell? ⟨b, o, none⟩ = #[.int .i64 (W : Int), .int .i64 d.H, .slice a d.Cells.length k, .int .i64 d.X, .int .i64 d.Y, .bool d.Wrap][o]?) := hid ⟨(Below.refl w.heap.size w).drewN 1, Nat.le_refl _, hc⟩
  clear hS hS2
  go_enter Try.func77, Try.ntmps77
  go_wp2_with fail
  go_region_held3 (fun V => Below w.heap.size w V ∧ w.heap.size ≤ V.heap.size ∧ (∀ o, V.cell? ⟨b, o, none⟩ = #[.int .i64 (W : Int), .int .i64 d.H, .slice a d.Cells.length k, .int .i64 d.X, .int .i64 d.Y, .bool d.Wrap][o]?)) (first | exact H0.out | assumption) (first | (go_at_call 56; refine (i_copyInts (HS2.out.grow (by go_split_ands; assumption)) (by rw [List.length_drop]; omega)).mono ?_; rintro e w1 ⟨v, b1, rfl, hO, hb1⟩; obtain ⟨p, c, rfl⟩ := hO.slice; have q1 : Below w.heap.size w w1 := below_call ((Below.refl w.heap.size w).drewN 1) hb1; have q2 := q1.size; have q3 := fun o => (q1.cell (p := ⟨b, o, none⟩) hb).trans (hc o); have qS := And.intro q1 (And.intro q2 q3); have HO := hid hO; clear hO hb1 q1 q2 q3))
  go_wp2_with fail
  have HQ : Hid (Below w.heap.size w w1) := hid qS.1
  have eL : Hid ((d.Cells.drop W).length = d.Cells.length - W) := hid (List.length_drop ..)
  have HO1 : Hid (OwnL w.heap.size w1 3 (.slice p (d.Cells.length - W) c) b1 (d.Cells.drop W)) := hid (by have h := HO.out; rw [eL.out] at h; exact h)
  clear qS HO
  go_loopw [2, 17] (fun v i wr => ∃ (j : Nat) (p : Option Addr) (c : Nat) (b2 : List Nat), j ≤ W ∧ i = .int .i64 j ∧ v = .slice p (d.Cells.length - W + j) c ∧ OwnL w.heap.size wr 3 (.slice p (d.Cells.length - W + j) c) b2 (d.Cells.drop W ++ List.replicate j 32) ∧ Below w.heap.size w wr) (fun _ i _ => W - (intOf i).toNat)
  case atStart => exact ⟨0, p, c, b1, Nat.zero_le _, rfl, rfl, by simpa using HO1.out, HQ.out⟩
  case round =>
    obtain ⟨j, p, c, b2, hj, rfl, rfl, hO, hb2⟩ := hrel
    have HO2 := hid hO; have HB2 := hid hb2; clear hO hb2
    by_cases hlt : j < W
    · have hl2 : (d.Cells.drop W ++ List.replicate j 32).length = d.Cells.length - W + j := by rw [List.length_append, List.length_drop, List.length_replicate]
      have hn := hl
      have HL2 := hid hl2
      go_wp2_with (at_builtin; refine wp_append rfl _ _ 22 rfl 3 i0 (.int .i64 0) 8 Try.underlying22 hi hz0 hz1 hz2 rfl (lo := w.heap.size) (bs := b2) (xs := d.Cells.drop W ++ List.replicate j 32) rfl ?own (b2 := []) (ys := [(32 : Int)]) rfl ?src List.nodup_nil ?q1 ?q2 ?q3 ?q4 ?_)
      case own => repeat (first | exact HO2.out | refine OwnL.alloc ?_ _ | refine OwnL.setCell ?_ (fun b hb => by have := HO2.out.lts b hb; simp; try omega) _)
      case src => exact src_new (pt_i (show I64 (32 : Int) by simp [I64])) (by simp) _ _
      case q1 => simp
      case q2 => (first | omega | (simp; omega) | (simp; done))
      case q3 => (first | omega | (simp; omega) | (simp; done))
      case q4 => (first | omega | (simp; omega) | (simp; done) | (have := HB2.out.size; first | omega | (simp; omega)))
      intro p2 c2 w2 b3 hO hT hm
      rw [show List.replicate j (32 : Int) ++ [32] = List.replicate (j + 1) 32 from List.replicate_succ'.symm] at hO
      have HB3 := hid (below_tch (HB2.out.alloc HB2.out.size _) hT (fun z hz => by have := HO2.out.lts z hz; have := HB2.out.size; simp; omega))
      have HO3 := hid hO
      clear hO hT hm
      go_wp2
      refine ⟨⟨j + 1, p2, c2, b3, by omega, rfl, ?_, ?_, HB3.out⟩, by simp [intOf]; omega⟩
      · rfl
      · exact HO3.out
    · obtain rfl : j = W := by omega
      have hcW := fun o => (HB2.out.cell (p := ⟨b, o, none⟩) hb).trans (hc o)
      have hfW := fun o => (HB2.out.frozen (p := ⟨b, o, none⟩) hb).trans (hf o)
      go_wp2
      go_end0
      have hnb : ∀ z ∈ b2, z ≠ b := fun z hz => by have := (HO2.out.lts z hz).1; omega
      have hO9 := HO2.out
      rw [show ∀ q : Nat, q ≤ d.Cells.length → d.Cells.length - q + q = d.Cells.length from fun q hq => by omega] at hO9 <;> try omega
      refine ⟨.slice p d.Cells.length c, b2, rfl, ?_, ?_, ?_⟩
      · have hx : Bx wr b #[.int .i64 d.W, .int .i64 d.H, .slice a d.Cells.length k, .int .i64 d.X, .int .i64 d.Y, .bool d.Wrap] := Bx.below HB2.out hb HB.out
        exact hx.setSame 2 _
      · show OwnL _ _ _ _ _ (d.Cells.drop d.W.toNat ++ List.replicate d.W.toNat 32)
        rw [HeW.out]
        exact OwnL.setCell hO9 hnb _
      · exact (Tch.of_below HB2.out).setCell (by simp) _
end Go.Proofs.Ytladpkeaahimkaa
