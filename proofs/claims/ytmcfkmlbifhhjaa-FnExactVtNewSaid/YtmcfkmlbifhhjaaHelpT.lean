/- Contracts of the laws' helpers on structures. -/
import Derived.Test.YtmcfkmlbifhhjaaHelpS
set_option linter.unusedSimpArgs false
set_option linter.unusedVariables false
namespace Go.Proofs.Ytmcfkmlbifhhjaa
open Go.RowKit Go.G6
set_option maxHeartbeats 800000
set_option maxRecDepth 10000
set_option maxHeartbeats 1600000 in
theorem toLine {w : World} {bs : List Nat} {cs : List Value} {d : LineD} (h : Rep.pt w bs cs d) (hn : Cnt.cnt d ≤ 1048576) :
    Calls Try.prog 43 #[.agg cs.toArray] w (RetA w d) := by
  obtain ⟨a0, l0, k0, rfl, h0, h1⟩ := open_Line h
  have hn : Cnt.cnt d.Text ≤ 1048576 := hn
  go_enter Try.func43, Try.ntmps43
  have Hb : Hid (Below w.heap.size w w) := hid (Below.refl _ _)
  go_wp2_with fail
  refine (toIntS (Slc.grow h0 ?_) (by have := hn; simp only [cnt_ints, cnt_bytes, cnt_list] at this; omega)).mono ?_
  · (repeat (first | refine Below.setCell ?_ (by simp; try omega) _ | refine Below.alloc ?_ (by simp; try omega) _ | exact Below.refl _ _ | exact Hb.out))
  rintro e w1 ⟨a0', l0', k0', b0', rfl, hO, hb⟩
  have hz1 := hb.size
  try simp at hz1
  have hb0 : Below w.heap.size w w1 := by
    refine below_call ?_ hb
    (repeat (first | refine Below.setCell ?_ (by simp; try omega) _ | refine Below.alloc ?_ (by simp; try omega) _ | exact Below.refl _ _ | exact Hb.out))
  obtain ⟨hc1, hf1⟩ := bcell hb
  have HN0 : ∀ b ∈ b0', _ ∧ b < w1.heap.size := fun b hb => hO.lts b hb
  simp at HN0
  have HO0 := hid (hO.mono (lo' := w.heap.size) (by simp; omega))
  have Hb := hid hb0
  clear hb hb0 hO
  go_wp2
  refine bodyPost_ret (v := .agg #[.slice a0' l0' k0', .int .i64 d.At]) (by simp [results, Try.results43, go_sem, hc1]) rfl ?_
  refine ⟨[.slice a0' l0' k0', .int .i64 d.At], b0', rfl, ?_, ?_⟩
  · refine own_Line ?o0 h1 
    case o0 => repeat (first | refine Own.setCell' _ ?_ (fun b hb => by have := HN0 b hb; simp; omega) | exact HO0.out | refine Own.grow ?_ (by assumption))
  · (repeat (first | refine Below.setCell ?_ (by simp; try omega) _ | refine Below.alloc ?_ (by simp; try omega) _ | exact Below.refl _ _ | exact Hb.out))
theorem eqLine {w : World} {bs bs2 : List Nat} {cs cs2 : List Value} {d : LineD} (g1 : Rep.pt w bs cs d) (g2 : Rep.pt w bs2 cs2 d) :
    Calls Try.prog 36 #[.agg cs.toArray, .agg cs2.toArray] w fun e w' => e = .returned (.bool true) ∧ Below w.heap.size w w' := by
  obtain ⟨a0, l0, k0, rfl, h0, h1⟩ := open_Line g1
  obtain ⟨a0', l0', k0', rfl, h0', h1'⟩ := open_Line g2
  go_enter Try.func36, Try.ntmps36
  have Hb : Hid (Below w.heap.size w w) := hid (Below.refl _ _)
  go_wp2_with fail
  refine (eqIntS (Slc.grow h0 ?_) (Slc.grow h0' ?_)).mono ?_
  · (repeat (first | refine Below.setCell ?_ (by simp; try omega) _ | refine Below.alloc ?_ (by simp; try omega) _ | exact Below.refl _ _ | exact Hb.out))
  · (repeat (first | refine Below.setCell ?_ (by simp; try omega) _ | refine Below.alloc ?_ (by simp; try omega) _ | exact Below.refl _ _ | exact Hb.out))
  rintro e w1 ⟨rfl, hb⟩
  have hz1 := hb.size
  try simp at hz1
  have hb0 : Below w.heap.size w w1 := by
    refine below_call ?_ hb
    (repeat (first | refine Below.setCell ?_ (by simp; try omega) _ | refine Below.alloc ?_ (by simp; try omega) _ | exact Below.refl _ _ | exact Hb.out))
  obtain ⟨hc1, hf1⟩ := bcell hb
  have Hb := hid hb0
  clear hb hb0
  go_wp2
  go_ret
  exact ⟨rfl, Hb.out⟩
theorem szLine {w : World} {bs : List Nat} {cs : List Value} {d : LineD} (left : Int) (h : Rep.pt w bs cs d) (hl : 0 ≤ left) (hl2 : left ≤ 1048576) :
    Calls Try.prog 41 #[.agg cs.toArray, .int .i64 left] w fun e w' => e = .returned (.int .i64 (szr left (Cnt.cnt d))) ∧ Below w.heap.size w w' := by
  obtain ⟨a0, l0, k0, rfl, h0, h1⟩ := open_Line h
  have hcnt : Cnt.cnt d = Cnt.cnt d.Text := rfl
  have Hcnt := hid hcnt; clear hcnt
  go_enter Try.func41, Try.ntmps41
  have Hb : Hid (Below w.heap.size w w) := hid (Below.refl _ _)
  go_wp2_with fail
  refine (szIntS (left) (Slc.grow h0 ?_) (by omega) (by omega)).mono ?_
  · (repeat (first | refine Below.setCell ?_ (by simp; try omega) _ | refine Below.alloc ?_ (by simp; try omega) _ | exact Below.refl _ _ | exact Hb.out))
  rintro e w1 ⟨rfl, hb⟩
  have hz1 := hb.size
  try simp at hz1
  have hb0 : Below w.heap.size w w1 := by
    refine below_call ?_ hb
    (repeat (first | refine Below.setCell ?_ (by simp; try omega) _ | refine Below.alloc ?_ (by simp; try omega) _ | exact Below.refl _ _ | exact Hb.out))
  obtain ⟨hc1, hf1⟩ := bcell hb
  have Hb := hid hb0
  clear hb hb0
  by_cases hle0 : (Cnt.cnt d.Text : Int) ≤ left
  rotate_left
  · rw [szr_neg (by omega)]
    go_wp2
    go_ret
    exact ⟨ret_int (by have := Hcnt.out; rw [szr_neg (by omega)]), Hb.out⟩
  rw [szr_pos hle0]
  go_wp2
  go_ret
  exact ⟨ret_int (by have := Hcnt.out; rw [szr_pos (by omega)]; omega), Hb.out⟩
theorem markLine {lo : Nat} {w : World} {d : LineD} {b0 : List Nat} {a0 : Option Addr} {l0 k0 : Nat} (h0 : Own lo w b0 [.slice a0 l0 k0] d.Text)  (s : Nat) (hs : s + d.nkv ≤ topK) :
    Calls Try.prog 38 #[.agg #[.slice a0 l0 k0, .int .i64 d.At], .int .i64 (s : Int)] w fun e w' => e = .returned (.int .i64 ((s + d.nkv : Nat) : Int)) ∧ Own lo w' b0 [.slice a0 l0 k0] (d.mkv s).Text ∧ Tch (b0) w w' := by
  have hs : s + (Mk.nE d.Text) ≤ topK := hs
  unfold topK at hs
  have L0 := hid (fun x hx => (h0.lts x hx).2); have H0 := hid h0; clear h0
  have HT : Hid (Tch (b0) w w) := hid (Tch.refl _ _)
  go_enter Try.func38, Try.ntmps38
  go_wp2_with fail
  refine (markIntS (lo := lo) (Own.alloc H0.out _) (s) (by unfold topK; omega)).mono ?_
  rintro e w1 ⟨rfl, hO0, hT⟩
  have hz1 := hT.size; try simp at hz1
  have hL : ∀ x ∈ b0, x < w.heap.size := fun x hm => L0.out x hm
  have hcc1 := fun o => hT.cell (p := ⟨w.heap.size, o, none⟩) (by simp; try omega) (fun hm => by have := hL _ hm; simp at this)
  have HT := hid ((HT.out.alloc _).trans (hT.mono (by simp +contextual)))
  have H0 := hid hO0
  clear hL hT hO0
  go_wp2
  go_ret
  exact ⟨ret_int (by have e : d.nkv = Mk.nE d.Text := rfl; omega), H0.out, HT.out⟩
theorem heldLine {w : World} {bs : List Nat} {cs : List Value} {d : LineD} (s : Nat) (h : Rep.pt w bs cs (d.mkv s)) (hs : s + d.nkv ≤ topK) :
    Calls Try.prog 40 #[.agg cs.toArray, .int .i64 (s : Int)] w fun e w' => e = .returned (.int .i64 ((s + d.nkv : Nat) : Int)) ∧ Below w.heap.size w w' := by
  have hs : s + (Mk.nE d.Text) ≤ topK := hs
  unfold topK at hs
  obtain ⟨a0, l0, k0, rfl, h0, h1⟩ := open_Line h
  go_enter Try.func40, Try.ntmps40
  have Hb : Hid (Below w.heap.size w w) := hid (Below.refl _ _)
  go_wp2_with fail
  refine (heldIntS (s) (xs := d.Text) (Slc.grow h0 ?_) (by unfold topK; omega)).mono ?_
  · (repeat (first | refine Below.setCell ?_ (by simp; try omega) _ | refine Below.alloc ?_ (by simp; try omega) _ | exact Below.refl _ _ | exact Hb.out))
  rintro e w1 ⟨rfl, hb⟩
  have hz1 := hb.size
  try simp at hz1
  have hb0 : Below w.heap.size w w1 := by
    refine below_call ?_ hb
    (repeat (first | refine Below.setCell ?_ (by simp; try omega) _ | refine Below.alloc ?_ (by simp; try omega) _ | exact Below.refl _ _ | exact Hb.out))
  obtain ⟨hc1, hf1⟩ := bcell hb
  have Hb := hid hb0
  clear hb hb0
  go_wp2
  go_ret
  exact ⟨ret_int (by have e : d.nkv = Mk.nE d.Text := rfl; omega), Hb.out⟩
set_option maxHeartbeats 1600000 in
theorem toGrid {w : World} {bs : List Nat} {cs : List Value} {d : GridD} (h : Rep.pt w bs cs d) (hn : Cnt.cnt d ≤ 1048576) :
    Calls Try.prog 55 #[.agg cs.toArray] w (RetA w d) := by
  obtain ⟨a2, l2, k2, rfl, h0, h1, h2, h3, h4⟩ := open_Grid h
  have hn : Cnt.cnt d.Cells ≤ 1048576 := hn
  go_enter Try.func55, Try.ntmps55
  have Hb : Hid (Below w.heap.size w w) := hid (Below.refl _ _)
  go_wp2_with fail
  refine (toIntS (Slc.grow h2 ?_) (by have := hn; simp only [cnt_ints, cnt_bytes, cnt_list] at this; omega)).mono ?_
  · (repeat (first | refine Below.setCell ?_ (by simp; try omega) _ | refine Below.alloc ?_ (by simp; try omega) _ | exact Below.refl _ _ | exact Hb.out))
  rintro e w1 ⟨a2', l2', k2', b2', rfl, hO, hb⟩
  have hz1 := hb.size
  try simp at hz1
  have hb0 : Below w.heap.size w w1 := by
    refine below_call ?_ hb
    (repeat (first | refine Below.setCell ?_ (by simp; try omega) _ | refine Below.alloc ?_ (by simp; try omega) _ | exact Below.refl _ _ | exact Hb.out))
  obtain ⟨hc1, hf1⟩ := bcell hb
  have HN2 : ∀ b ∈ b2', _ ∧ b < w1.heap.size := fun b hb => hO.lts b hb
  simp at HN2
  have HO2 := hid (hO.mono (lo' := w.heap.size) (by simp; omega))
  have Hb := hid hb0
  clear hb hb0 hO
  go_wp2
  refine bodyPost_ret (v := .agg #[.int .i64 d.W, .int .i64 d.H, .slice a2' l2' k2', .int .i64 d.X, .int .i64 d.Y, .bool d.Wrap]) (by simp [results, Try.results55, go_sem, hc1]) rfl ?_
  refine ⟨[.int .i64 d.W, .int .i64 d.H, .slice a2' l2' k2', .int .i64 d.X, .int .i64 d.Y, .bool d.Wrap], b2', rfl, ?_, ?_⟩
  · refine own_Grid h0 h1 ?o2 h3 h4 
    case o2 => repeat (first | refine Own.setCell' _ ?_ (fun b hb => by have := HN2 b hb; simp; omega) | exact HO2.out | refine Own.grow ?_ (by assumption))
  · (repeat (first | refine Below.setCell ?_ (by simp; try omega) _ | refine Below.alloc ?_ (by simp; try omega) _ | exact Below.refl _ _ | exact Hb.out))
theorem eqGrid {w : World} {bs bs2 : List Nat} {cs cs2 : List Value} {d : GridD} (g1 : Rep.pt w bs cs d) (g2 : Rep.pt w bs2 cs2 d) :
    Calls Try.prog 57 #[.agg cs.toArray, .agg cs2.toArray] w fun e w' => e = .returned (.bool true) ∧ Below w.heap.size w w' := by
  obtain ⟨a2, l2, k2, rfl, h0, h1, h2, h3, h4⟩ := open_Grid g1
  obtain ⟨a2', l2', k2', rfl, h0', h1', h2', h3', h4'⟩ := open_Grid g2
  go_enter Try.func57, Try.ntmps57
  have Hb : Hid (Below w.heap.size w w) := hid (Below.refl _ _)
  go_wp2_with fail
  refine (eqIntS (Slc.grow h2 ?_) (Slc.grow h2' ?_)).mono ?_
  · (repeat (first | refine Below.setCell ?_ (by simp; try omega) _ | refine Below.alloc ?_ (by simp; try omega) _ | exact Below.refl _ _ | exact Hb.out))
  · (repeat (first | refine Below.setCell ?_ (by simp; try omega) _ | refine Below.alloc ?_ (by simp; try omega) _ | exact Below.refl _ _ | exact Hb.out))
  rintro e w1 ⟨rfl, hb⟩
  have hz1 := hb.size
  try simp at hz1
  have hb0 : Below w.heap.size w w1 := by
    refine below_call ?_ hb
    (repeat (first | refine Below.setCell ?_ (by simp; try omega) _ | refine Below.alloc ?_ (by simp; try omega) _ | exact Below.refl _ _ | exact Hb.out))
  obtain ⟨hc1, hf1⟩ := bcell hb
  have Hb := hid hb0
  clear hb hb0
  go_wp2
  go_ret
  exact ⟨rfl, Hb.out⟩
theorem szGrid {w : World} {bs : List Nat} {cs : List Value} {d : GridD} (left : Int) (h : Rep.pt w bs cs d) (hl : 0 ≤ left) (hl2 : left ≤ 1048576) :
    Calls Try.prog 53 #[.agg cs.toArray, .int .i64 left] w fun e w' => e = .returned (.int .i64 (szr left (Cnt.cnt d))) ∧ Below w.heap.size w w' := by
  obtain ⟨a2, l2, k2, rfl, h0, h1, h2, h3, h4⟩ := open_Grid h
  have hcnt : Cnt.cnt d = Cnt.cnt d.Cells := rfl
  have Hcnt := hid hcnt; clear hcnt
  go_enter Try.func53, Try.ntmps53
  have Hb : Hid (Below w.heap.size w w) := hid (Below.refl _ _)
  go_wp2_with fail
  refine (szIntS (left) (Slc.grow h2 ?_) (by omega) (by omega)).mono ?_
  · (repeat (first | refine Below.setCell ?_ (by simp; try omega) _ | refine Below.alloc ?_ (by simp; try omega) _ | exact Below.refl _ _ | exact Hb.out))
  rintro e w1 ⟨rfl, hb⟩
  have hz1 := hb.size
  try simp at hz1
  have hb0 : Below w.heap.size w w1 := by
    refine below_call ?_ hb
    (repeat (first | refine Below.setCell ?_ (by simp; try omega) _ | refine Below.alloc ?_ (by simp; try omega) _ | exact Below.refl _ _ | exact Hb.out))
  obtain ⟨hc1, hf1⟩ := bcell hb
  have Hb := hid hb0
  clear hb hb0
  by_cases hle0 : (Cnt.cnt d.Cells : Int) ≤ left
  rotate_left
  · rw [szr_neg (by omega)]
    go_wp2
    go_ret
    exact ⟨ret_int (by have := Hcnt.out; rw [szr_neg (by omega)]), Hb.out⟩
  rw [szr_pos hle0]
  go_wp2
  go_ret
  exact ⟨ret_int (by have := Hcnt.out; rw [szr_pos (by omega)]; omega), Hb.out⟩
theorem markGrid {lo : Nat} {w : World} {d : GridD} {b2 : List Nat} {a2 : Option Addr} {l2 k2 : Nat} (h2 : Own lo w b2 [.slice a2 l2 k2] d.Cells)  (s : Nat) (hs : s + d.nkv ≤ topK) :
    Calls Try.prog 69 #[.agg #[.int .i64 d.W, .int .i64 d.H, .slice a2 l2 k2, .int .i64 d.X, .int .i64 d.Y, .bool d.Wrap], .int .i64 (s : Int)] w fun e w' => e = .returned (.int .i64 ((s + d.nkv : Nat) : Int)) ∧ Own lo w' b2 [.slice a2 l2 k2] (d.mkv s).Cells ∧ Tch (b2) w w' := by
  have hs : s + (Mk.nE d.Cells) ≤ topK := hs
  unfold topK at hs
  have L2 := hid (fun x hx => (h2.lts x hx).2); have H2 := hid h2; clear h2
  have HT : Hid (Tch (b2) w w) := hid (Tch.refl _ _)
  go_enter Try.func69, Try.ntmps69
  go_wp2_with fail
  refine (markIntS (lo := lo) (Own.alloc H2.out _) (s) (by unfold topK; omega)).mono ?_
  rintro e w1 ⟨rfl, hO2, hT⟩
  have hz1 := hT.size; try simp at hz1
  have hL : ∀ x ∈ b2, x < w.heap.size := fun x hm => L2.out x hm
  have hcc1 := fun o => hT.cell (p := ⟨w.heap.size, o, none⟩) (by simp; try omega) (fun hm => by have := hL _ hm; simp at this)
  have HT := hid ((HT.out.alloc _).trans (hT.mono (by simp +contextual)))
  have H2 := hid hO2
  clear hL hT hO2
  go_wp2
  go_ret
  exact ⟨ret_int (by have e : d.nkv = Mk.nE d.Cells := rfl; omega), H2.out, HT.out⟩
theorem heldGrid {w : World} {bs : List Nat} {cs : List Value} {d : GridD} (s : Nat) (h : Rep.pt w bs cs (d.mkv s)) (hs : s + d.nkv ≤ topK) :
    Calls Try.prog 70 #[.agg cs.toArray, .int .i64 (s : Int)] w fun e w' => e = .returned (.int .i64 ((s + d.nkv : Nat) : Int)) ∧ Below w.heap.size w w' := by
  have hs : s + (Mk.nE d.Cells) ≤ topK := hs
  unfold topK at hs
  obtain ⟨a2, l2, k2, rfl, h0, h1, h2, h3, h4⟩ := open_Grid h
  go_enter Try.func70, Try.ntmps70
  have Hb : Hid (Below w.heap.size w w) := hid (Below.refl _ _)
  go_wp2_with fail
  refine (heldIntS (s) (xs := d.Cells) (Slc.grow h2 ?_) (by unfold topK; omega)).mono ?_
  · (repeat (first | refine Below.setCell ?_ (by simp; try omega) _ | refine Below.alloc ?_ (by simp; try omega) _ | exact Below.refl _ _ | exact Hb.out))
  rintro e w1 ⟨rfl, hb⟩
  have hz1 := hb.size
  try simp at hz1
  have hb0 : Below w.heap.size w w1 := by
    refine below_call ?_ hb
    (repeat (first | refine Below.setCell ?_ (by simp; try omega) _ | refine Below.alloc ?_ (by simp; try omega) _ | exact Below.refl _ _ | exact Hb.out))
  obtain ⟨hc1, hf1⟩ := bcell hb
  have Hb := hid hb0
  clear hb hb0
  go_wp2
  go_ret
  exact ⟨ret_int (by have e : d.nkv = Mk.nE d.Cells := rfl; omega), Hb.out⟩
set_option maxHeartbeats 1600000 in
theorem toPiece {w : World} {bs : List Nat} {cs : List Value} {d : PieceD} (h : Rep.pt w bs cs d) (hn : Cnt.cnt d ≤ 1048576) :
    Calls Try.prog 123 #[.agg cs.toArray] w (RetA w d) := by
  obtain ⟨a0, l0, k0, rfl, h0⟩ := open_Piece h
  have hn : Cnt.cnt d.Text ≤ 1048576 := hn
  go_enter Try.func123, Try.ntmps123
  have Hb : Hid (Below w.heap.size w w) := hid (Below.refl _ _)
  go_wp2_with fail
  refine (toIntS (Slc.grow h0 ?_) (by have := hn; simp only [cnt_ints, cnt_bytes, cnt_list] at this; omega)).mono ?_
  · (repeat (first | refine Below.setCell ?_ (by simp; try omega) _ | refine Below.alloc ?_ (by simp; try omega) _ | exact Below.refl _ _ | exact Hb.out))
  rintro e w1 ⟨a0', l0', k0', b0', rfl, hO, hb⟩
  have hz1 := hb.size
  try simp at hz1
  have hb0 : Below w.heap.size w w1 := by
    refine below_call ?_ hb
    (repeat (first | refine Below.setCell ?_ (by simp; try omega) _ | refine Below.alloc ?_ (by simp; try omega) _ | exact Below.refl _ _ | exact Hb.out))
  obtain ⟨hc1, hf1⟩ := bcell hb
  have HN0 : ∀ b ∈ b0', _ ∧ b < w1.heap.size := fun b hb => hO.lts b hb
  simp at HN0
  have HO0 := hid (hO.mono (lo' := w.heap.size) (by simp; omega))
  have Hb := hid hb0
  clear hb hb0 hO
  go_wp2
  refine bodyPost_ret (v := .agg #[.slice a0' l0' k0']) (by simp [results, Try.results123, go_sem, hc1]) rfl ?_
  refine ⟨[.slice a0' l0' k0'], b0', rfl, ?_, ?_⟩
  · refine own_Piece ?o0 
    case o0 => repeat (first | refine Own.setCell' _ ?_ (fun b hb => by have := HN0 b hb; simp; omega) | exact HO0.out | refine Own.grow ?_ (by assumption))
  · (repeat (first | refine Below.setCell ?_ (by simp; try omega) _ | refine Below.alloc ?_ (by simp; try omega) _ | exact Below.refl _ _ | exact Hb.out))
theorem eqPiece {w : World} {bs bs2 : List Nat} {cs cs2 : List Value} {d : PieceD} (g1 : Rep.pt w bs cs d) (g2 : Rep.pt w bs2 cs2 d) :
    Calls Try.prog 124 #[.agg cs.toArray, .agg cs2.toArray] w fun e w' => e = .returned (.bool true) ∧ Below w.heap.size w w' := by
  obtain ⟨a0, l0, k0, rfl, h0⟩ := open_Piece g1
  obtain ⟨a0', l0', k0', rfl, h0'⟩ := open_Piece g2
  go_enter Try.func124, Try.ntmps124
  have Hb : Hid (Below w.heap.size w w) := hid (Below.refl _ _)
  go_wp2_with fail
  refine (eqIntS (Slc.grow h0 ?_) (Slc.grow h0' ?_)).mono ?_
  · (repeat (first | refine Below.setCell ?_ (by simp; try omega) _ | refine Below.alloc ?_ (by simp; try omega) _ | exact Below.refl _ _ | exact Hb.out))
  · (repeat (first | refine Below.setCell ?_ (by simp; try omega) _ | refine Below.alloc ?_ (by simp; try omega) _ | exact Below.refl _ _ | exact Hb.out))
  rintro e w1 ⟨rfl, hb⟩
  have hz1 := hb.size
  try simp at hz1
  have hb0 : Below w.heap.size w w1 := by
    refine below_call ?_ hb
    (repeat (first | refine Below.setCell ?_ (by simp; try omega) _ | refine Below.alloc ?_ (by simp; try omega) _ | exact Below.refl _ _ | exact Hb.out))
  obtain ⟨hc1, hf1⟩ := bcell hb
  have Hb := hid hb0
  clear hb hb0
  go_wp2
  go_ret
  exact ⟨rfl, Hb.out⟩
theorem szPiece {w : World} {bs : List Nat} {cs : List Value} {d : PieceD} (left : Int) (h : Rep.pt w bs cs d) (hl : 0 ≤ left) (hl2 : left ≤ 1048576) :
    Calls Try.prog 122 #[.agg cs.toArray, .int .i64 left] w fun e w' => e = .returned (.int .i64 (szr left (Cnt.cnt d))) ∧ Below w.heap.size w w' := by
  obtain ⟨a0, l0, k0, rfl, h0⟩ := open_Piece h
  have hcnt : Cnt.cnt d = Cnt.cnt d.Text := rfl
  have Hcnt := hid hcnt; clear hcnt
  go_enter Try.func122, Try.ntmps122
  have Hb : Hid (Below w.heap.size w w) := hid (Below.refl _ _)
  go_wp2_with fail
  refine (szIntS (left) (Slc.grow h0 ?_) (by omega) (by omega)).mono ?_
  · (repeat (first | refine Below.setCell ?_ (by simp; try omega) _ | refine Below.alloc ?_ (by simp; try omega) _ | exact Below.refl _ _ | exact Hb.out))
  rintro e w1 ⟨rfl, hb⟩
  have hz1 := hb.size
  try simp at hz1
  have hb0 : Below w.heap.size w w1 := by
    refine below_call ?_ hb
    (repeat (first | refine Below.setCell ?_ (by simp; try omega) _ | refine Below.alloc ?_ (by simp; try omega) _ | exact Below.refl _ _ | exact Hb.out))
  obtain ⟨hc1, hf1⟩ := bcell hb
  have Hb := hid hb0
  clear hb hb0
  by_cases hle0 : (Cnt.cnt d.Text : Int) ≤ left
  rotate_left
  · rw [szr_neg (by omega)]
    go_wp2
    go_ret
    exact ⟨ret_int (by have := Hcnt.out; rw [szr_neg (by omega)]), Hb.out⟩
  rw [szr_pos hle0]
  go_wp2
  go_ret
  exact ⟨ret_int (by have := Hcnt.out; rw [szr_pos (by omega)]; omega), Hb.out⟩
theorem eqVt {w : World} {bs bs2 : List Nat} {cs cs2 : List Value} {d : VtD} (g1 : Rep.pt w bs cs d) (g2 : Rep.pt w bs2 cs2 d) :
    Calls Try.prog 64 #[.agg cs.toArray, .agg cs2.toArray] w fun e w' => e = .returned (.bool true) ∧ Below w.heap.size w w' := by
  obtain ⟨b2, b7, b8, a2, l2, k2, a7, l7, k7, a8, l8, k8, rfl, rfl, h0, h1, h2, h3, h4, h6, h7, h8, h9⟩ := open_Vt g1
  obtain ⟨b2', b7', b8', a2', l2', k2', a7', l7', k7', a8', l8', k8', rfl, rfl, h0', h1', h2', h3', h4', h6', h7', h8', h9'⟩ := open_Vt g2
  go_enter Try.func64, Try.ntmps64
  have Hb : Hid (Below w.heap.size w w) := hid (Below.refl _ _)
  go_wp2_with fail
  refine (eqGrid (grow (mk_Grid (d := d.Grid) h0 h1 h2 h3 h4) ?_) (grow (mk_Grid (d := d.Grid) h0' h1' h2' h3' h4') ?_)).mono ?_
  · (repeat (first | refine Below.setCell ?_ (by simp; try omega) _ | refine Below.alloc ?_ (by simp; try omega) _ | exact Below.refl _ _ | exact Hb.out))
  · (repeat (first | refine Below.setCell ?_ (by simp; try omega) _ | refine Below.alloc ?_ (by simp; try omega) _ | exact Below.refl _ _ | exact Hb.out))
  rintro e w1 ⟨rfl, hb⟩
  have hz1 := hb.size
  try simp at hz1
  have hb0 : Below w.heap.size w w1 := by
    refine below_call ?_ hb
    (repeat (first | refine Below.setCell ?_ (by simp; try omega) _ | refine Below.alloc ?_ (by simp; try omega) _ | exact Below.refl _ _ | exact Hb.out))
  obtain ⟨hc1, hf1⟩ := bcell hb
  have Hb := hid hb0
  clear hb hb0
  go_wp2_with fail
  refine (eqIntS (Slc.grow h7 ?_) (Slc.grow h7' ?_)).mono ?_
  · (repeat (first | refine Below.setCell ?_ (by simp; try omega) _ | refine Below.alloc ?_ (by simp; try omega) _ | exact Below.refl _ _ | exact Hb.out))
  · (repeat (first | refine Below.setCell ?_ (by simp; try omega) _ | refine Below.alloc ?_ (by simp; try omega) _ | exact Below.refl _ _ | exact Hb.out))
  rintro e w2 ⟨rfl, hb⟩
  have hz2 := hb.size
  try simp at hz2
  have hb0 : Below w.heap.size w w2 := by
    refine below_call ?_ hb
    (repeat (first | refine Below.setCell ?_ (by simp; try omega) _ | refine Below.alloc ?_ (by simp; try omega) _ | exact Below.refl _ _ | exact Hb.out))
  obtain ⟨hc2, hf2⟩ := bcell hb
  have Hb := hid hb0
  clear hb hb0
  have hcA2 := fun o => hc2 w.heap.size o (by omega)
  have hcB2 := fun o => hc2 (w.heap.size + 1) o (by omega)
  go_wp2_with fail
  refine (eqByteS (Slc.grow h8 ?_) (Slc.grow h8' ?_)).mono ?_
  · (repeat (first | refine Below.setCell ?_ (by simp; try omega) _ | refine Below.alloc ?_ (by simp; try omega) _ | exact Below.refl _ _ | exact Hb.out))
  · (repeat (first | refine Below.setCell ?_ (by simp; try omega) _ | refine Below.alloc ?_ (by simp; try omega) _ | exact Below.refl _ _ | exact Hb.out))
  rintro e w3 ⟨rfl, hb⟩
  have hz3 := hb.size
  try simp at hz3
  have hb0 : Below w.heap.size w w3 := by
    refine below_call ?_ hb
    (repeat (first | refine Below.setCell ?_ (by simp; try omega) _ | refine Below.alloc ?_ (by simp; try omega) _ | exact Below.refl _ _ | exact Hb.out))
  obtain ⟨hc3, hf3⟩ := bcell hb
  have Hb := hid hb0
  clear hb hb0
  have hcA3 := fun o => hc3 w.heap.size o (by omega)
  have hcB3 := fun o => hc3 (w.heap.size + 1) o (by omega)
  go_wp2
  go_ret
  exact ⟨rfl, Hb.out⟩
theorem markVt {lo : Nat} {w : World} {d : VtD} {b2 : List Nat} {a2 : Option Addr} {l2 k2 : Nat} {b7 : List Nat} {a7 : Option Addr} {l7 k7 : Nat} {b8 : List Nat} {a8 : Option Addr} {l8 k8 : Nat} (h2 : Own lo w b2 [.slice a2 l2 k2] d.Grid.Cells) (h7 : Own lo w b7 [.slice a7 l7 k7] d.Args) (h8 : Own lo w b8 [.slice a8 l8 k8] d.Part) (e2_7 : ∀ x ∈ b2, x ∉ b7) (e2_8 : ∀ x ∈ b2, x ∉ b8) (e7_8 : ∀ x ∈ b7, x ∉ b8) (s : Nat) (hs : s + d.nkv ≤ topK) :
    Calls Try.prog 65 #[.agg #[.int .i64 d.Grid.W, .int .i64 d.Grid.H, .slice a2 l2 k2, .int .i64 d.Grid.X, .int .i64 d.Grid.Y, .bool d.Grid.Wrap, .int .i64 d.State, .slice a7 l7 k7, .slice a8 l8 k8, .int .i64 d.Bells], .int .i64 (s : Int)] w fun e w' => e = .returned (.int .i64 ((s + d.nkv : Nat) : Int)) ∧ Own lo w' b2 [.slice a2 l2 k2] (d.mkv s).Grid.Cells ∧ Own lo w' b7 [.slice a7 l7 k7] (d.mkv s).Args ∧ Own lo w' b8 [.slice a8 l8 k8] (d.mkv s).Part ∧ Tch (b2 ++ (b7 ++ b8)) w w' := by
  have hs : s + (d.Grid.nkv + Mk.nE d.Args + Mk.nE d.Part) ≤ topK := hs
  unfold topK at hs
  have L2 := hid (fun x hx => (h2.lts x hx).2); have H2 := hid h2; clear h2
  have L7 := hid (fun x hx => (h7.lts x hx).2); have H7 := hid h7; clear h7
  have L8 := hid (fun x hx => (h8.lts x hx).2); have H8 := hid h8; clear h8
  have E2_7 := hid e2_7; clear e2_7
  have E2_8 := hid e2_8; clear e2_8
  have E7_8 := hid e7_8; clear e7_8
  have HT : Hid (Tch (b2 ++ (b7 ++ b8)) w w) := hid (Tch.refl _ _)
  go_enter Try.func65, Try.ntmps65
  go_wp2_with fail
  refine (markGrid (lo := lo) (d := d.Grid) (Own.alloc H2.out _)  (s) (by unfold topK; omega)).mono ?_
  rintro e w1 ⟨rfl, hO2, hT⟩
  have hz1 := hT.size; try simp at hz1
  have H7 := hid (Own.tch (Own.alloc H7.out _) hT (fun x hx hm => E2_7.out x hm hx))
  have H8 := hid (Own.tch (Own.alloc H8.out _) hT (fun x hx hm => E2_8.out x hm hx))
  have hL : ∀ x ∈ b2, x < w.heap.size := fun x hm => L2.out x hm
  have hcc1 := fun o => hT.cell (p := ⟨w.heap.size, o, none⟩) (by simp; try omega) (fun hm => by have := hL _ hm; simp at this)
  have HT := hid ((HT.out.alloc _).trans (hT.mono (by simp +contextual)))
  have H2 := hid hO2
  clear hL hT hO2
  go_wp2_with fail
  refine (markIntS (lo := lo) H7.out (s + d.Grid.nkv) (by unfold topK; omega)).mono ?_
  rintro e w2 ⟨rfl, hO7, hT⟩
  have hz2 := hT.size; try simp at hz2
  have H2 := hid (Own.tch H2.out hT (fun x hx hm => E2_7.out x hx hm))
  have H8 := hid (Own.tch H8.out hT (fun x hx hm => E7_8.out x hm hx))
  have hL : ∀ x ∈ b7, x < w.heap.size := fun x hm => L7.out x hm
  have hcc2 := fun o => hT.cell (p := ⟨w.heap.size, o, none⟩) (by simp; try omega) (fun hm => by have := hL _ hm; simp at this)
  have HT := hid ((HT.out).trans (hT.mono (by simp +contextual)))
  have H7 := hid hO7
  clear hL hT hO7
  go_wp2_with fail
  refine (markByteS (lo := lo) H8.out (s + d.Grid.nkv + Mk.nE d.Args) (by unfold topK; omega)).mono ?_
  rintro e w3 ⟨rfl, hO8, hT⟩
  have hz3 := hT.size; try simp at hz3
  have H2 := hid (Own.tch H2.out hT (fun x hx hm => E2_8.out x hx hm))
  have H7 := hid (Own.tch H7.out hT (fun x hx hm => E7_8.out x hx hm))
  have hL : ∀ x ∈ b8, x < w.heap.size := fun x hm => L8.out x hm
  have hcc3 := fun o => hT.cell (p := ⟨w.heap.size, o, none⟩) (by simp; try omega) (fun hm => by have := hL _ hm; simp at this)
  have HT := hid ((HT.out).trans (hT.mono (by simp +contextual)))
  have H8 := hid hO8
  clear hL hT hO8
  go_wp2
  go_ret
  exact ⟨ret_int (by have e : d.nkv = d.Grid.nkv + Mk.nE d.Args + Mk.nE d.Part := rfl; omega), H2.out, H7.out, H8.out, HT.out⟩
theorem heldVt {w : World} {bs : List Nat} {cs : List Value} {d : VtD} (s : Nat) (h : Rep.pt w bs cs (d.mkv s)) (hs : s + d.nkv ≤ topK) :
    Calls Try.prog 66 #[.agg cs.toArray, .int .i64 (s : Int)] w fun e w' => e = .returned (.int .i64 ((s + d.nkv : Nat) : Int)) ∧ Below w.heap.size w w' := by
  have hs : s + (d.Grid.nkv + Mk.nE d.Args + Mk.nE d.Part) ≤ topK := hs
  unfold topK at hs
  obtain ⟨b2, b7, b8, a2, l2, k2, a7, l7, k7, a8, l8, k8, rfl, rfl, h0, h1, h2, h3, h4, h6, h7, h8, h9⟩ := open_Vt h
  go_enter Try.func66, Try.ntmps66
  have Hb : Hid (Below w.heap.size w w) := hid (Below.refl _ _)
  go_wp2_with fail
  refine (heldGrid (d := d.Grid) (s) (grow (mk_Grid (d := d.Grid.mkv (s)) h0 h1 h2 h3 h4) ?_) (by unfold topK; omega)).mono ?_
  · (repeat (first | refine Below.setCell ?_ (by simp; try omega) _ | refine Below.alloc ?_ (by simp; try omega) _ | exact Below.refl _ _ | exact Hb.out))
  rintro e w1 ⟨rfl, hb⟩
  have hz1 := hb.size
  try simp at hz1
  have hb0 : Below w.heap.size w w1 := by
    refine below_call ?_ hb
    (repeat (first | refine Below.setCell ?_ (by simp; try omega) _ | refine Below.alloc ?_ (by simp; try omega) _ | exact Below.refl _ _ | exact Hb.out))
  obtain ⟨hc1, hf1⟩ := bcell hb
  have Hb := hid hb0
  clear hb hb0
  go_wp2_with fail
  refine (heldIntS (s + d.Grid.nkv) (xs := d.Args) (Slc.grow h7 ?_) (by unfold topK; omega)).mono ?_
  · (repeat (first | refine Below.setCell ?_ (by simp; try omega) _ | refine Below.alloc ?_ (by simp; try omega) _ | exact Below.refl _ _ | exact Hb.out))
  rintro e w2 ⟨rfl, hb⟩
  have hz2 := hb.size
  try simp at hz2
  have hb0 : Below w.heap.size w w2 := by
    refine below_call ?_ hb
    (repeat (first | refine Below.setCell ?_ (by simp; try omega) _ | refine Below.alloc ?_ (by simp; try omega) _ | exact Below.refl _ _ | exact Hb.out))
  obtain ⟨hc2, hf2⟩ := bcell hb
  have Hb := hid hb0
  clear hb hb0
  have hcA2 := fun o => hc2 w.heap.size o (by omega)
  go_wp2_with fail
  refine (heldByteS (s + d.Grid.nkv + Mk.nE d.Args) (xs := d.Part) (Slc.grow h8 ?_) (by unfold topK; omega)).mono ?_
  · (repeat (first | refine Below.setCell ?_ (by simp; try omega) _ | refine Below.alloc ?_ (by simp; try omega) _ | exact Below.refl _ _ | exact Hb.out))
  rintro e w3 ⟨rfl, hb⟩
  have hz3 := hb.size
  try simp at hz3
  have hb0 : Below w.heap.size w w3 := by
    refine below_call ?_ hb
    (repeat (first | refine Below.setCell ?_ (by simp; try omega) _ | refine Below.alloc ?_ (by simp; try omega) _ | exact Below.refl _ _ | exact Hb.out))
  obtain ⟨hc3, hf3⟩ := bcell hb
  have Hb := hid hb0
  clear hb hb0
  have hcA3 := fun o => hc3 w.heap.size o (by omega)
  go_wp2
  go_ret
  exact ⟨ret_int (by have e : d.nkv = d.Grid.nkv + Mk.nE d.Args + Mk.nE d.Part := rfl; omega), Hb.out⟩
end Go.Proofs.Ytmcfkmlbifhhjaa
