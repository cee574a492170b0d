/- Contracts of the laws' helpers on structures of lists of structures. -/
import Derived.Test.YtgcdgkiefbbhkaaHelpL
set_option linter.unusedSimpArgs false
set_option linter.unusedVariables false
namespace Go.Proofs.Ytgcdgkiefbbhkaa
open Go.RowKit Go.G6
set_option maxHeartbeats 800000
set_option maxRecDepth 10000
set_option maxHeartbeats 1600000 in
theorem toRing {w : World} {bs : List Nat} {cs : List Value} {d : RingD} (h : Rep.pt w bs cs d) (hn : Cnt.cnt d ≤ 1048576) :
    Calls Try.prog 18 #[.agg cs.toArray] w (RetA w d) := by
  obtain ⟨a0, l0, k0, rfl, h0⟩ := open_Ring h
  have hn : Cnt.cnt d.Pieces ≤ 1048576 := hn
  go_enter Try.func18, Try.ntmps18
  have Hb : Hid (Below w.heap.size w w) := hid (Below.refl _ _)
  go_wp2_with fail
  refine (toPieceS (Slc.grow h0 ?_) (by first | exact hn | omega | (have := hn; simp only [cnt_ints, cnt_bytes, cnt_list] at this; omega))).mono ?_
  · (repeat (first | refine Below.setCell ?_ (by simp; try omega) _ | refine Below.alloc ?_ (by simp; try omega) _ | exact Below.refl _ _ | exact Hb.out))
  rintro e w1 ⟨a0', l0', k0', b0', rfl, hO, hb⟩
  have hz1 := hb.size
  try simp at hz1
  have hb0 : Below w.heap.size w w1 := by
    refine below_call ?_ hb
    (repeat (first | refine Below.setCell ?_ (by simp; try omega) _ | refine Below.alloc ?_ (by simp; try omega) _ | exact Below.refl _ _ | exact Hb.out))
  obtain ⟨hc1, hf1⟩ := bcell hb
  have HN0 : ∀ b ∈ b0', _ ∧ b < w1.heap.size := fun b hb => hO.lts b hb
  simp at HN0
  have HO0 := hid (hO.mono (lo' := w.heap.size) (by simp; omega))
  have Hb := hid hb0
  clear hb hb0 hO
  go_wp2
  refine bodyPost_ret (v := .agg #[.slice a0' l0' k0']) (by simp [results, Try.results18, go_sem, hc1]) rfl ?_
  refine ⟨[.slice a0' l0' k0'], b0', rfl, ?_, ?_⟩
  · refine own_Ring ?o0 
    case o0 => repeat (first | refine Own.setCell' _ ?_ (fun b hb => by have := HN0 b hb; simp; omega) | exact HO0.out | refine Own.grow ?_ (by assumption))
  · (repeat (first | refine Below.setCell ?_ (by simp; try omega) _ | refine Below.alloc ?_ (by simp; try omega) _ | exact Below.refl _ _ | exact Hb.out))
theorem eqRing {w : World} {bs bs2 : List Nat} {cs cs2 : List Value} {d : RingD} (g1 : Rep.pt w bs cs d) (g2 : Rep.pt w bs2 cs2 d) :
    Calls Try.prog 21 #[.agg cs.toArray, .agg cs2.toArray] w fun e w' => e = .returned (.bool true) ∧ Below w.heap.size w w' := by
  obtain ⟨a0, l0, k0, rfl, h0⟩ := open_Ring g1
  obtain ⟨a0', l0', k0', rfl, h0'⟩ := open_Ring g2
  go_enter Try.func21, Try.ntmps21
  have Hb : Hid (Below w.heap.size w w) := hid (Below.refl _ _)
  go_wp2_with fail
  refine (eqPieceS (Slc.grow h0 ?_) (Slc.grow h0' ?_)).mono ?_
  · (repeat (first | refine Below.setCell ?_ (by simp; try omega) _ | refine Below.alloc ?_ (by simp; try omega) _ | exact Below.refl _ _ | exact Hb.out))
  · (repeat (first | refine Below.setCell ?_ (by simp; try omega) _ | refine Below.alloc ?_ (by simp; try omega) _ | exact Below.refl _ _ | exact Hb.out))
  rintro e w1 ⟨rfl, hb⟩
  have hz1 := hb.size
  try simp at hz1
  have hb0 : Below w.heap.size w w1 := by
    refine below_call ?_ hb
    (repeat (first | refine Below.setCell ?_ (by simp; try omega) _ | refine Below.alloc ?_ (by simp; try omega) _ | exact Below.refl _ _ | exact Hb.out))
  obtain ⟨hc1, hf1⟩ := bcell hb
  have Hb := hid hb0
  clear hb hb0
  go_wp2
  go_ret
  exact ⟨rfl, Hb.out⟩
theorem szRing {w : World} {bs : List Nat} {cs : List Value} {d : RingD} (left : Int) (h : Rep.pt w bs cs d) (hl : 0 ≤ left) (hl2 : left ≤ 1048576) :
    Calls Try.prog 16 #[.agg cs.toArray, .int .i64 left] w fun e w' => e = .returned (.int .i64 (szr left (Cnt.cnt d))) ∧ Below w.heap.size w w' := by
  obtain ⟨a0, l0, k0, rfl, h0⟩ := open_Ring h
  have hcnt : Cnt.cnt d = Cnt.cnt d.Pieces := rfl
  have Hcnt := hid hcnt; clear hcnt
  go_enter Try.func16, Try.ntmps16
  have Hb : Hid (Below w.heap.size w w) := hid (Below.refl _ _)
  go_wp2_with fail
  refine (szPieceS (left) (Slc.grow h0 ?_) (by omega) (by omega)).mono ?_
  · (repeat (first | refine Below.setCell ?_ (by simp; try omega) _ | refine Below.alloc ?_ (by simp; try omega) _ | exact Below.refl _ _ | exact Hb.out))
  rintro e w1 ⟨rfl, hb⟩
  have hz1 := hb.size
  try simp at hz1
  have hb0 : Below w.heap.size w w1 := by
    refine below_call ?_ hb
    (repeat (first | refine Below.setCell ?_ (by simp; try omega) _ | refine Below.alloc ?_ (by simp; try omega) _ | exact Below.refl _ _ | exact Hb.out))
  obtain ⟨hc1, hf1⟩ := bcell hb
  have Hb := hid hb0
  clear hb hb0
  by_cases hle0 : (Cnt.cnt d.Pieces : Int) ≤ left
  rotate_left
  · rw [szr_neg (by omega)]
    go_wp2
    go_ret
    exact ⟨ret_int (by have := Hcnt.out; rw [szr_neg (by omega)]), Hb.out⟩
  rw [szr_pos hle0]
  go_wp2
  go_ret
  exact ⟨ret_int (by have := Hcnt.out; rw [szr_pos (by omega)]; omega), Hb.out⟩
theorem markRing {lo : Nat} {w : World} {d : RingD} {b0 : List Nat} {a0 : Option Addr} {l0 k0 : Nat} (h0 : Own lo w b0 [.slice a0 l0 k0] d.Pieces)  (s : Nat) (hs : s + d.nkv ≤ topK) :
    Calls Try.prog 23 #[.agg #[.slice a0 l0 k0], .int .i64 (s : Int)] w fun e w' => e = .returned (.int .i64 ((s + d.nkv : Nat) : Int)) ∧ Own lo w' b0 [.slice a0 l0 k0] (d.mkv s).Pieces ∧ Tch (b0) w w' := by
  have hs : s + (Mk.nE d.Pieces) ≤ topK := hs
  unfold topK at hs
  have L0 := hid (fun x hx => (h0.lts x hx).2); have H0 := hid h0; clear h0
  have HT : Hid (Tch (b0) w w) := hid (Tch.refl _ _)
  go_enter Try.func23, Try.ntmps23
  go_wp2_with fail
  refine (markPieceS (lo := lo) (Own.alloc H0.out _) (s) (by unfold topK; omega)).mono ?_
  rintro e w1 ⟨rfl, hO0, hT⟩
  have hz1 := hT.size; try simp at hz1
  have hL : ∀ x ∈ b0, x < w.heap.size := fun x hm => L0.out x hm
  have hcc1 := fun o => hT.cell (p := ⟨w.heap.size, o, none⟩) (by simp; try omega) (fun hm => by have := hL _ hm; simp at this)
  have HT := hid ((HT.out.alloc _).trans (hT.mono (by simp +contextual)))
  have H0 := hid hO0
  clear hL hT hO0
  go_wp2
  go_ret
  exact ⟨ret_int (by have e : d.nkv = Mk.nE d.Pieces := rfl; omega), H0.out, HT.out⟩
theorem heldRing {w : World} {bs : List Nat} {cs : List Value} {d : RingD} (s : Nat) (h : Rep.pt w bs cs (d.mkv s)) (hs : s + d.nkv ≤ topK) :
    Calls Try.prog 25 #[.agg cs.toArray, .int .i64 (s : Int)] w fun e w' => e = .returned (.int .i64 ((s + d.nkv : Nat) : Int)) ∧ Below w.heap.size w w' := by
  have hs : s + (Mk.nE d.Pieces) ≤ topK := hs
  unfold topK at hs
  obtain ⟨a0, l0, k0, rfl, h0⟩ := open_Ring h
  go_enter Try.func25, Try.ntmps25
  have Hb : Hid (Below w.heap.size w w) := hid (Below.refl _ _)
  go_wp2_with fail
  refine (heldPieceS (s) (xs := d.Pieces) (Slc.grow h0 ?_) (by unfold topK; omega)).mono ?_
  · (repeat (first | refine Below.setCell ?_ (by simp; try omega) _ | refine Below.alloc ?_ (by simp; try omega) _ | exact Below.refl _ _ | exact Hb.out))
  rintro e w1 ⟨rfl, hb⟩
  have hz1 := hb.size
  try simp at hz1
  have hb0 : Below w.heap.size w w1 := by
    refine below_call ?_ hb
    (repeat (first | refine Below.setCell ?_ (by simp; try omega) _ | refine Below.alloc ?_ (by simp; try omega) _ | exact Below.refl _ _ | exact Hb.out))
  obtain ⟨hc1, hf1⟩ := bcell hb
  have Hb := hid hb0
  clear hb hb0
  go_wp2
  go_ret
  exact ⟨ret_int (by have e : d.nkv = Mk.nE d.Pieces := rfl; omega), Hb.out⟩
end Go.Proofs.Ytgcdgkiefbbhkaa
