/- Contracts of the laws' helpers on structures. -/
import Derived.Test.YtgcdgkiefbbhkaaDoorHelpS
set_option linter.unusedSimpArgs false
set_option linter.unusedVariables false
namespace Go.Proofs.YtgcdgkiefbbhkaaDoor
open Go.RowKit Go.G6
set_option maxHeartbeats 800000
set_option maxRecDepth 10000
set_option maxHeartbeats 1600000 in
theorem toKey {w : World} {bs : List Nat} {cs : List Value} {d : KeyD} (h : Rep.pt w bs cs d) :
    Calls Tryd.prog 11 #[.agg cs.toArray] w (RetA w d) := by
  obtain ⟨rfl, rfl, h0, h1⟩ := open_Key h
  go_enter Tryd.func11, Tryd.ntmps11
  have Hb : Hid (Below w.heap.size w w) := hid (Below.refl _ _)
  go_wp2
  refine bodyPost_ret (v := .agg #[.int .i64 d.Kind, .int .i64 d.R]) (by simp [results, Tryd.results11, go_sem]) rfl ?_
  refine ⟨[.int .i64 d.Kind, .int .i64 d.R], [], rfl, ?_, ?_⟩
  · refine own_Key h0 h1 
  · (repeat (first | refine Below.setCell ?_ (by simp; try omega) _ | refine Below.alloc ?_ (by simp; try omega) _ | exact Below.refl _ _ | exact Hb.out))
theorem eqKey {w : World} {bs bs2 : List Nat} {cs cs2 : List Value} {d : KeyD} (g1 : Rep.pt w bs cs d) (g2 : Rep.pt w bs2 cs2 d) :
    Calls Tryd.prog 9 #[.agg cs.toArray, .agg cs2.toArray] w fun e w' => e = .returned (.bool true) ∧ Below w.heap.size w w' := by
  obtain ⟨rfl, rfl, h0, h1⟩ := open_Key g1
  obtain ⟨rfl, rfl, h0', h1'⟩ := open_Key g2
  go_enter Tryd.func9, Tryd.ntmps9
  have Hb : Hid (Below w.heap.size w w) := hid (Below.refl _ _)
  go_wp2
  go_ret
  exact ⟨rfl, (by repeat (first | refine Below.setCell ?_ (by simp; try omega) _ | refine Below.alloc ?_ (by simp; try omega) _ | exact Below.refl _ _ | exact Hb.out))⟩
set_option maxHeartbeats 1600000 in
theorem toGrid {w : World} {bs : List Nat} {cs : List Value} {d : GridD} (h : Rep.pt w bs cs d) (hn : Cnt.cnt d ≤ 1048576) :
    Calls Tryd.prog 20 #[.agg cs.toArray] w (RetA w d) := by
  obtain ⟨a2, l2, k2, rfl, h0, h1, h2, h3, h4⟩ := open_Grid h
  have hn : Cnt.cnt d.Cells ≤ 1048576 := hn
  go_enter Tryd.func20, Tryd.ntmps20
  have Hb : Hid (Below w.heap.size w w) := hid (Below.refl _ _)
  go_wp2_with fail
  refine (toIntS (Slc.grow h2 ?_) (by first | exact hn | omega | (have := hn; simp only [cnt_ints, cnt_bytes, cnt_list] at this; omega))).mono ?_
  · (repeat (first | refine Below.setCell ?_ (by simp; try omega) _ | refine Below.alloc ?_ (by simp; try omega) _ | exact Below.refl _ _ | exact Hb.out))
  rintro e w1 ⟨a2', l2', k2', b2', rfl, hO, hb⟩
  have hz1 := hb.size
  try simp at hz1
  have hb0 : Below w.heap.size w w1 := by
    refine below_call ?_ hb
    (repeat (first | refine Below.setCell ?_ (by simp; try omega) _ | refine Below.alloc ?_ (by simp; try omega) _ | exact Below.refl _ _ | exact Hb.out))
  obtain ⟨hc1, hf1⟩ := bcell hb
  have HN2 : ∀ b ∈ b2', _ ∧ b < w1.heap.size := fun b hb => hO.lts b hb
  simp at HN2
  have HO2 := hid (hO.mono (lo' := w.heap.size) (by simp; omega))
  have Hb := hid hb0
  clear hb hb0 hO
  go_wp2
  refine bodyPost_ret (v := .agg #[.int .i64 d.W, .int .i64 d.H, .slice a2' l2' k2', .int .i64 d.X, .int .i64 d.Y, .bool d.Wrap]) (by simp [results, Tryd.results20, go_sem, hc1]) rfl ?_
  refine ⟨[.int .i64 d.W, .int .i64 d.H, .slice a2' l2' k2', .int .i64 d.X, .int .i64 d.Y, .bool d.Wrap], b2', rfl, ?_, ?_⟩
  · refine own_Grid h0 h1 ?o2 h3 h4 
    case o2 => repeat (first | refine Own.setCell' _ ?_ (fun b hb => by have := HN2 b hb; simp; omega) | exact HO2.out | refine Own.grow ?_ (by assumption))
  · (repeat (first | refine Below.setCell ?_ (by simp; try omega) _ | refine Below.alloc ?_ (by simp; try omega) _ | exact Below.refl _ _ | exact Hb.out))
theorem eqGrid {w : World} {bs bs2 : List Nat} {cs cs2 : List Value} {d : GridD} (g1 : Rep.pt w bs cs d) (g2 : Rep.pt w bs2 cs2 d) :
    Calls Tryd.prog 22 #[.agg cs.toArray, .agg cs2.toArray] w fun e w' => e = .returned (.bool true) ∧ Below w.heap.size w w' := by
  obtain ⟨a2, l2, k2, rfl, h0, h1, h2, h3, h4⟩ := open_Grid g1
  obtain ⟨a2', l2', k2', rfl, h0', h1', h2', h3', h4'⟩ := open_Grid g2
  go_enter Tryd.func22, Tryd.ntmps22
  have Hb : Hid (Below w.heap.size w w) := hid (Below.refl _ _)
  go_wp2_with fail
  refine (eqIntS (Slc.grow h2 ?_) (Slc.grow h2' ?_)).mono ?_
  · (repeat (first | refine Below.setCell ?_ (by simp; try omega) _ | refine Below.alloc ?_ (by simp; try omega) _ | exact Below.refl _ _ | exact Hb.out))
  · (repeat (first | refine Below.setCell ?_ (by simp; try omega) _ | refine Below.alloc ?_ (by simp; try omega) _ | exact Below.refl _ _ | exact Hb.out))
  rintro e w1 ⟨rfl, hb⟩
  have hz1 := hb.size
  try simp at hz1
  have hb0 : Below w.heap.size w w1 := by
    refine below_call ?_ hb
    (repeat (first | refine Below.setCell ?_ (by simp; try omega) _ | refine Below.alloc ?_ (by simp; try omega) _ | exact Below.refl _ _ | exact Hb.out))
  obtain ⟨hc1, hf1⟩ := bcell hb
  have Hb := hid hb0
  clear hb hb0
  go_wp2
  go_ret
  exact ⟨rfl, Hb.out⟩
theorem szGrid {w : World} {bs : List Nat} {cs : List Value} {d : GridD} (left : Int) (h : Rep.pt w bs cs d) (hl : 0 ≤ left) (hl2 : left ≤ 1048576) :
    Calls Tryd.prog 18 #[.agg cs.toArray, .int .i64 left] w fun e w' => e = .returned (.int .i64 (szr left (Cnt.cnt d))) ∧ Below w.heap.size w w' := by
  obtain ⟨a2, l2, k2, rfl, h0, h1, h2, h3, h4⟩ := open_Grid h
  have hcnt : Cnt.cnt d = Cnt.cnt d.Cells := rfl
  have Hcnt := hid hcnt; clear hcnt
  go_enter Tryd.func18, Tryd.ntmps18
  have Hb : Hid (Below w.heap.size w w) := hid (Below.refl _ _)
  go_wp2_with fail
  refine (szIntS (left) (Slc.grow h2 ?_) (by omega) (by omega)).mono ?_
  · (repeat (first | refine Below.setCell ?_ (by simp; try omega) _ | refine Below.alloc ?_ (by simp; try omega) _ | exact Below.refl _ _ | exact Hb.out))
  rintro e w1 ⟨rfl, hb⟩
  have hz1 := hb.size
  try simp at hz1
  have hb0 : Below w.heap.size w w1 := by
    refine below_call ?_ hb
    (repeat (first | refine Below.setCell ?_ (by simp; try omega) _ | refine Below.alloc ?_ (by simp; try omega) _ | exact Below.refl _ _ | exact Hb.out))
  obtain ⟨hc1, hf1⟩ := bcell hb
  have Hb := hid hb0
  clear hb hb0
  by_cases hle0 : (Cnt.cnt d.Cells : Int) ≤ left
  rotate_left
  · rw [szr_neg (by omega)]
    go_wp2
    go_ret
    exact ⟨ret_int (by have := Hcnt.out; rw [szr_neg (by omega)]), Hb.out⟩
  rw [szr_pos hle0]
  go_wp2
  go_ret
  exact ⟨ret_int (by have := Hcnt.out; rw [szr_pos (by omega)]; omega), Hb.out⟩
theorem markGrid {lo : Nat} {w : World} {d : GridD} {b2 : List Nat} {a2 : Option Addr} {l2 k2 : Nat} (h2 : Own lo w b2 [.slice a2 l2 k2] d.Cells)  (s : Nat) (hs : s + d.nkv ≤ topK) :
    Calls Tryd.prog 23 #[.agg #[.int .i64 d.W, .int .i64 d.H, .slice a2 l2 k2, .int .i64 d.X, .int .i64 d.Y, .bool d.Wrap], .int .i64 (s : Int)] w fun e w' => e = .returned (.int .i64 ((s + d.nkv : Nat) : Int)) ∧ Own lo w' b2 [.slice a2 l2 k2] (d.mkv s).Cells ∧ Tch (b2) w w' := by
  have hs : s + (Mk.nE d.Cells) ≤ topK := hs
  unfold topK at hs
  have L2 := hid (fun x hx => (h2.lts x hx).2); have H2 := hid h2; clear h2
  have HT : Hid (Tch (b2) w w) := hid (Tch.refl _ _)
  go_enter Tryd.func23, Tryd.ntmps23
  go_wp2_with fail
  refine (markIntS (lo := lo) (Own.alloc H2.out _) (s) (by unfold topK; omega)).mono ?_
  rintro e w1 ⟨rfl, hO2, hT⟩
  have hz1 := hT.size; try simp at hz1
  have hL : ∀ x ∈ b2, x < w.heap.size := fun x hm => L2.out x hm
  have hcc1 := fun o => hT.cell (p := ⟨w.heap.size, o, none⟩) (by simp; try omega) (fun hm => by have := hL _ hm; simp at this)
  have HT := hid ((HT.out.alloc _).trans (hT.mono (by simp +contextual)))
  have H2 := hid hO2
  clear hL hT hO2
  go_wp2
  go_ret
  exact ⟨ret_int (by have e : d.nkv = Mk.nE d.Cells := rfl; omega), H2.out, HT.out⟩
end Go.Proofs.YtgcdgkiefbbhkaaDoor
