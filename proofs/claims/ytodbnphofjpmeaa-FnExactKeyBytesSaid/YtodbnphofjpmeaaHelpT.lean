/- Contracts of the laws' helpers on structures. -/
import Derived.Test.YtodbnphofjpmeaaHelpS
set_option linter.unusedSimpArgs false
set_option linter.unusedVariables false
namespace Go.Proofs.Ytodbnphofjpmeaa
open Go.RowKit Go.G6
set_option maxHeartbeats 800000
set_option maxRecDepth 10000
set_option maxHeartbeats 1600000 in
theorem toKey {w : World} {bs : List Nat} {cs : List Value} {d : KeyD} (h : Rep.pt w bs cs d) :
    Calls Try.prog 38 #[.agg cs.toArray] w (RetA w d) := by
  obtain ⟨rfl, rfl, h0, h1⟩ := open_Key h
  go_enter Try.func38, Try.ntmps38
  have Hb : Hid (Below w.heap.size w w) := hid (Below.refl _ _)
  go_wp2
  refine bodyPost_ret (v := .agg #[.int .i64 d.Kind, .int .i64 d.R]) (by simp [results, Try.results38, go_sem]) rfl ?_
  refine ⟨[.int .i64 d.Kind, .int .i64 d.R], [], rfl, ?_, ?_⟩
  · refine own_Key h0 h1 
  · (repeat (first | refine Below.setCell ?_ (by simp; try omega) _ | refine Below.alloc ?_ (by simp; try omega) _ | exact Below.refl _ _ | exact Hb.out))
set_option maxHeartbeats 1600000 in
theorem toHist {w : World} {bs : List Nat} {cs : List Value} {d : HistD} (h : Rep.pt w bs cs d) (hn : Cnt.cnt d ≤ 1048576) :
    Calls Try.prog 47 #[.agg cs.toArray] w (RetA w d) := by
  obtain ⟨a1, l1, k1, rfl, h0, h1⟩ := open_Hist h
  have hn : Cnt.cnt d.Lines ≤ 1048576 := hn
  go_enter Try.func47, Try.ntmps47
  have Hb : Hid (Below w.heap.size w w) := hid (Below.refl _ _)
  go_wp2_with fail
  refine (toStringS (Slc.grow h1 ?_) (by have := hn; simp only [cnt_ints, cnt_bytes, cnt_list] at this; omega)).mono ?_
  · (repeat (first | refine Below.setCell ?_ (by simp; try omega) _ | refine Below.alloc ?_ (by simp; try omega) _ | exact Below.refl _ _ | exact Hb.out))
  rintro e w1 ⟨a1', l1', k1', b1', rfl, hO, hb⟩
  have hz1 := hb.size
  simp at hz1
  have hb0 : Below w.heap.size w w1 := by
    refine below_call ?_ hb
    (repeat (first | refine Below.setCell ?_ (by simp; try omega) _ | refine Below.alloc ?_ (by simp; try omega) _ | exact Below.refl _ _ | exact Hb.out))
  obtain ⟨hc1, hf1⟩ := bcell hb
  have HN1 : ∀ b ∈ b1', _ ∧ b < w1.heap.size := fun b hb => hO.lts b hb
  simp at HN1
  have HO1 := hid (hO.mono (lo' := w.heap.size) (by simp; omega))
  have Hb := hid hb0
  clear hb hb0 hO
  go_wp2
  refine bodyPost_ret (v := .agg #[.int .i64 d.First, .slice a1' l1' k1']) (by simp [results, Try.results47, go_sem, hc1]) rfl ?_
  refine ⟨[.int .i64 d.First, .slice a1' l1' k1'], b1', rfl, ?_, ?_⟩
  · refine own_Hist h0 ?o1 
    case o1 => repeat (first | refine Own.setCell' _ ?_ (fun b hb => by have := HN1 b hb; simp; omega) | exact HO1.out | refine Own.grow ?_ (by assumption))
  · (repeat (first | refine Below.setCell ?_ (by simp; try omega) _ | refine Below.alloc ?_ (by simp; try omega) _ | exact Below.refl _ _ | exact Hb.out))
theorem eqHist {w : World} {bs bs2 : List Nat} {cs cs2 : List Value} {d : HistD} (g1 : Rep.pt w bs cs d) (g2 : Rep.pt w bs2 cs2 d) :
    Calls Try.prog 49 #[.agg cs.toArray, .agg cs2.toArray] w fun e w' => e = .returned (.bool true) ∧ Below w.heap.size w w' := by
  obtain ⟨a1, l1, k1, rfl, h0, h1⟩ := open_Hist g1
  obtain ⟨a1', l1', k1', rfl, h0', h1'⟩ := open_Hist g2
  go_enter Try.func49, Try.ntmps49
  have Hb : Hid (Below w.heap.size w w) := hid (Below.refl _ _)
  go_wp2_with fail
  refine (eqStringS (Slc.grow h1 ?_) (Slc.grow h1' ?_)).mono ?_
  · (repeat (first | refine Below.setCell ?_ (by simp; try omega) _ | refine Below.alloc ?_ (by simp; try omega) _ | exact Below.refl _ _ | exact Hb.out))
  · (repeat (first | refine Below.setCell ?_ (by simp; try omega) _ | refine Below.alloc ?_ (by simp; try omega) _ | exact Below.refl _ _ | exact Hb.out))
  rintro e w1 ⟨rfl, hb⟩
  have hz1 := hb.size
  simp at hz1
  have hb0 : Below w.heap.size w w1 := by
    refine below_call ?_ hb
    (repeat (first | refine Below.setCell ?_ (by simp; try omega) _ | refine Below.alloc ?_ (by simp; try omega) _ | exact Below.refl _ _ | exact Hb.out))
  obtain ⟨hc1, hf1⟩ := bcell hb
  have Hb := hid hb0
  clear hb hb0
  go_wp2
  go_ret
  exact ⟨rfl, Hb.out⟩
theorem szHist {w : World} {bs : List Nat} {cs : List Value} {d : HistD} (left : Int) (h : Rep.pt w bs cs d) (hl : 0 ≤ left) (hl2 : left ≤ 1048576) :
    Calls Try.prog 45 #[.agg cs.toArray, .int .i64 left] w fun e w' => e = .returned (.int .i64 (szr left (Cnt.cnt d))) ∧ Below w.heap.size w w' := by
  obtain ⟨a1, l1, k1, rfl, h0, h1⟩ := open_Hist h
  have hcnt : Cnt.cnt d = Cnt.cnt d.Lines := rfl
  have Hcnt := hid hcnt; clear hcnt
  go_enter Try.func45, Try.ntmps45
  have Hb : Hid (Below w.heap.size w w) := hid (Below.refl _ _)
  go_wp2_with fail
  refine (szStringS (left) (Slc.grow h1 ?_) (by omega) (by omega)).mono ?_
  · (repeat (first | refine Below.setCell ?_ (by simp; try omega) _ | refine Below.alloc ?_ (by simp; try omega) _ | exact Below.refl _ _ | exact Hb.out))
  rintro e w1 ⟨rfl, hb⟩
  have hz1 := hb.size
  simp at hz1
  have hb0 : Below w.heap.size w w1 := by
    refine below_call ?_ hb
    (repeat (first | refine Below.setCell ?_ (by simp; try omega) _ | refine Below.alloc ?_ (by simp; try omega) _ | exact Below.refl _ _ | exact Hb.out))
  obtain ⟨hc1, hf1⟩ := bcell hb
  have Hb := hid hb0
  clear hb hb0
  by_cases hle0 : (Cnt.cnt d.Lines : Int) ≤ left
  rotate_left
  · rw [szr_neg (by omega)]
    go_wp2
    go_ret
    exact ⟨ret_int (by have := Hcnt.out; rw [szr_neg (by omega)]), Hb.out⟩
  rw [szr_pos hle0]
  go_wp2
  go_ret
  exact ⟨ret_int (by have := Hcnt.out; rw [szr_pos (by omega)]; omega), Hb.out⟩
theorem markHist {lo : Nat} {w : World} {d : HistD} {b1 : List Nat} {a1 : Option Addr} {l1 k1 : Nat} (h1 : Own lo w b1 [.slice a1 l1 k1] d.Lines)  (s : Nat) (hs : s + d.nkv ≤ topK) :
    Calls Try.prog 52 #[.agg #[.int .i64 d.First, .slice a1 l1 k1], .int .i64 (s : Int)] w fun e w' => e = .returned (.int .i64 ((s + d.nkv : Nat) : Int)) ∧ Own lo w' b1 [.slice a1 l1 k1] (d.mkv s).Lines ∧ Tch (b1) w w' := by
  have hs : s + (Mk.nE d.Lines) ≤ topK := hs
  unfold topK at hs
  have L1 := hid (fun x hx => (h1.lts x hx).2); have H1 := hid h1; clear h1
  have HT : Hid (Tch (b1) w w) := hid (Tch.refl _ _)
  go_enter Try.func52, Try.ntmps52
  go_wp2_with fail
  refine (markStringS (lo := lo) (Own.alloc H1.out _) (s) (by unfold topK; omega)).mono ?_
  rintro e w1 ⟨rfl, hO1, hT⟩
  have hz1 := hT.size; simp at hz1
  have hL : ∀ x ∈ b1, x < w.heap.size := fun x hm => L1.out x hm
  have hcc1 := fun o => hT.cell (p := ⟨w.heap.size, o, none⟩) (by simp; try omega) (fun hm => by have := hL _ hm; simp at this)
  have HT := hid ((HT.out.alloc _).trans (hT.mono (by simp +contextual)))
  have H1 := hid hO1
  clear hL hT hO1
  go_wp2
  go_ret
  exact ⟨rfl, H1.out, HT.out⟩
theorem heldHist {w : World} {bs : List Nat} {cs : List Value} {d : HistD} (s : Nat) (h : Rep.pt w bs cs (d.mkv s)) (hs : s + d.nkv ≤ topK) :
    Calls Try.prog 53 #[.agg cs.toArray, .int .i64 (s : Int)] w fun e w' => e = .returned (.int .i64 ((s + d.nkv : Nat) : Int)) ∧ Below w.heap.size w w' := by
  have hs : s + (Mk.nE d.Lines) ≤ topK := hs
  unfold topK at hs
  obtain ⟨a1, l1, k1, rfl, h0, h1⟩ := open_Hist h
  go_enter Try.func53, Try.ntmps53
  have Hb : Hid (Below w.heap.size w w) := hid (Below.refl _ _)
  go_wp2_with fail
  refine (heldStringS (s) (xs := d.Lines) (Slc.grow h1 ?_) (by unfold topK; omega)).mono ?_
  · (repeat (first | refine Below.setCell ?_ (by simp; try omega) _ | refine Below.alloc ?_ (by simp; try omega) _ | exact Below.refl _ _ | exact Hb.out))
  rintro e w1 ⟨rfl, hb⟩
  have hz1 := hb.size
  simp at hz1
  have hb0 : Below w.heap.size w w1 := by
    refine below_call ?_ hb
    (repeat (first | refine Below.setCell ?_ (by simp; try omega) _ | refine Below.alloc ?_ (by simp; try omega) _ | exact Below.refl _ _ | exact Hb.out))
  obtain ⟨hc1, hf1⟩ := bcell hb
  have Hb := hid hb0
  clear hb hb0
  go_wp2
  go_ret
  exact ⟨rfl, Hb.out⟩
set_option maxHeartbeats 1600000 in
theorem toGrid {w : World} {bs : List Nat} {cs : List Value} {d : GridD} (h : Rep.pt w bs cs d) (hn : Cnt.cnt d ≤ 1048576) :
    Calls Try.prog 17 #[.agg cs.toArray] w (RetA w d) := by
  obtain ⟨a2, l2, k2, rfl, h0, h1, h2, h3, h4⟩ := open_Grid h
  have hn : Cnt.cnt d.Cells ≤ 1048576 := hn
  go_enter Try.func17, Try.ntmps17
  have Hb : Hid (Below w.heap.size w w) := hid (Below.refl _ _)
  go_wp2_with fail
  refine (toIntS (Slc.grow h2 ?_) (by have := hn; simp only [cnt_ints, cnt_bytes, cnt_list] at this; omega)).mono ?_
  · (repeat (first | refine Below.setCell ?_ (by simp; try omega) _ | refine Below.alloc ?_ (by simp; try omega) _ | exact Below.refl _ _ | exact Hb.out))
  rintro e w1 ⟨a2', l2', k2', b2', rfl, hO, hb⟩
  have hz1 := hb.size
  simp at hz1
  have hb0 : Below w.heap.size w w1 := by
    refine below_call ?_ hb
    (repeat (first | refine Below.setCell ?_ (by simp; try omega) _ | refine Below.alloc ?_ (by simp; try omega) _ | exact Below.refl _ _ | exact Hb.out))
  obtain ⟨hc1, hf1⟩ := bcell hb
  have HN2 : ∀ b ∈ b2', _ ∧ b < w1.heap.size := fun b hb => hO.lts b hb
  simp at HN2
  have HO2 := hid (hO.mono (lo' := w.heap.size) (by simp; omega))
  have Hb := hid hb0
  clear hb hb0 hO
  go_wp2
  refine bodyPost_ret (v := .agg #[.int .i64 d.W, .int .i64 d.H, .slice a2' l2' k2', .int .i64 d.X, .int .i64 d.Y, .bool d.Wrap]) (by simp [results, Try.results17, go_sem, hc1]) rfl ?_
  refine ⟨[.int .i64 d.W, .int .i64 d.H, .slice a2' l2' k2', .int .i64 d.X, .int .i64 d.Y, .bool d.Wrap], b2', rfl, ?_, ?_⟩
  · refine own_Grid h0 h1 ?o2 h3 h4 
    case o2 => repeat (first | refine Own.setCell' _ ?_ (fun b hb => by have := HN2 b hb; simp; omega) | exact HO2.out | refine Own.grow ?_ (by assumption))
  · (repeat (first | refine Below.setCell ?_ (by simp; try omega) _ | refine Below.alloc ?_ (by simp; try omega) _ | exact Below.refl _ _ | exact Hb.out))
theorem eqGrid {w : World} {bs bs2 : List Nat} {cs cs2 : List Value} {d : GridD} (g1 : Rep.pt w bs cs d) (g2 : Rep.pt w bs2 cs2 d) :
    Calls Try.prog 19 #[.agg cs.toArray, .agg cs2.toArray] w fun e w' => e = .returned (.bool true) ∧ Below w.heap.size w w' := by
  obtain ⟨a2, l2, k2, rfl, h0, h1, h2, h3, h4⟩ := open_Grid g1
  obtain ⟨a2', l2', k2', rfl, h0', h1', h2', h3', h4'⟩ := open_Grid g2
  go_enter Try.func19, Try.ntmps19
  have Hb : Hid (Below w.heap.size w w) := hid (Below.refl _ _)
  go_wp2_with fail
  refine (eqIntS (Slc.grow h2 ?_) (Slc.grow h2' ?_)).mono ?_
  · (repeat (first | refine Below.setCell ?_ (by simp; try omega) _ | refine Below.alloc ?_ (by simp; try omega) _ | exact Below.refl _ _ | exact Hb.out))
  · (repeat (first | refine Below.setCell ?_ (by simp; try omega) _ | refine Below.alloc ?_ (by simp; try omega) _ | exact Below.refl _ _ | exact Hb.out))
  rintro e w1 ⟨rfl, hb⟩
  have hz1 := hb.size
  simp at hz1
  have hb0 : Below w.heap.size w w1 := by
    refine below_call ?_ hb
    (repeat (first | refine Below.setCell ?_ (by simp; try omega) _ | refine Below.alloc ?_ (by simp; try omega) _ | exact Below.refl _ _ | exact Hb.out))
  obtain ⟨hc1, hf1⟩ := bcell hb
  have Hb := hid hb0
  clear hb hb0
  go_wp2
  go_ret
  exact ⟨rfl, Hb.out⟩
theorem szGrid {w : World} {bs : List Nat} {cs : List Value} {d : GridD} (left : Int) (h : Rep.pt w bs cs d) (hl : 0 ≤ left) (hl2 : left ≤ 1048576) :
    Calls Try.prog 15 #[.agg cs.toArray, .int .i64 left] w fun e w' => e = .returned (.int .i64 (szr left (Cnt.cnt d))) ∧ Below w.heap.size w w' := by
  obtain ⟨a2, l2, k2, rfl, h0, h1, h2, h3, h4⟩ := open_Grid h
  have hcnt : Cnt.cnt d = Cnt.cnt d.Cells := rfl
  have Hcnt := hid hcnt; clear hcnt
  go_enter Try.func15, Try.ntmps15
  have Hb : Hid (Below w.heap.size w w) := hid (Below.refl _ _)
  go_wp2_with fail
  refine (szIntS (left) (Slc.grow h2 ?_) (by omega) (by omega)).mono ?_
  · (repeat (first | refine Below.setCell ?_ (by simp; try omega) _ | refine Below.alloc ?_ (by simp; try omega) _ | exact Below.refl _ _ | exact Hb.out))
  rintro e w1 ⟨rfl, hb⟩
  have hz1 := hb.size
  simp at hz1
  have hb0 : Below w.heap.size w w1 := by
    refine below_call ?_ hb
    (repeat (first | refine Below.setCell ?_ (by simp; try omega) _ | refine Below.alloc ?_ (by simp; try omega) _ | exact Below.refl _ _ | exact Hb.out))
  obtain ⟨hc1, hf1⟩ := bcell hb
  have Hb := hid hb0
  clear hb hb0
  by_cases hle0 : (Cnt.cnt d.Cells : Int) ≤ left
  rotate_left
  · rw [szr_neg (by omega)]
    go_wp2
    go_ret
    exact ⟨ret_int (by have := Hcnt.out; rw [szr_neg (by omega)]), Hb.out⟩
  rw [szr_pos hle0]
  go_wp2
  go_ret
  exact ⟨ret_int (by have := Hcnt.out; rw [szr_pos (by omega)]; omega), Hb.out⟩
set_option maxHeartbeats 1600000 in
theorem toDec {w : World} {bs : List Nat} {cs : List Value} {d : DecD} (h : Rep.pt w bs cs d) (hn : Cnt.cnt d ≤ 1048576) :
    Calls Try.prog 42 #[.agg cs.toArray] w (RetA w d) := by
  obtain ⟨a1, l1, k1, rfl, h0, h1⟩ := open_Dec h
  have hn : Cnt.cnt d.Part ≤ 1048576 := hn
  go_enter Try.func42, Try.ntmps42
  have Hb : Hid (Below w.heap.size w w) := hid (Below.refl _ _)
  go_wp2_with fail
  refine (toByteS (Slc.grow h1 ?_) (by have := hn; simp only [cnt_ints, cnt_bytes, cnt_list] at this; omega)).mono ?_
  · (repeat (first | refine Below.setCell ?_ (by simp; try omega) _ | refine Below.alloc ?_ (by simp; try omega) _ | exact Below.refl _ _ | exact Hb.out))
  rintro e w1 ⟨a1', l1', k1', b1', rfl, hO, hb⟩
  have hz1 := hb.size
  simp at hz1
  have hb0 : Below w.heap.size w w1 := by
    refine below_call ?_ hb
    (repeat (first | refine Below.setCell ?_ (by simp; try omega) _ | refine Below.alloc ?_ (by simp; try omega) _ | exact Below.refl _ _ | exact Hb.out))
  obtain ⟨hc1, hf1⟩ := bcell hb
  have HN1 : ∀ b ∈ b1', _ ∧ b < w1.heap.size := fun b hb => hO.lts b hb
  simp at HN1
  have HO1 := hid (hO.mono (lo' := w.heap.size) (by simp; omega))
  have Hb := hid hb0
  clear hb hb0 hO
  go_wp2
  refine bodyPost_ret (v := .agg #[.int .i64 d.State, .slice a1' l1' k1']) (by simp [results, Try.results42, go_sem, hc1]) rfl ?_
  refine ⟨[.int .i64 d.State, .slice a1' l1' k1'], b1', rfl, ?_, ?_⟩
  · refine own_Dec h0 ?o1 
    case o1 => repeat (first | refine Own.setCell' _ ?_ (fun b hb => by have := HN1 b hb; simp; omega) | exact HO1.out | refine Own.grow ?_ (by assumption))
  · (repeat (first | refine Below.setCell ?_ (by simp; try omega) _ | refine Below.alloc ?_ (by simp; try omega) _ | exact Below.refl _ _ | exact Hb.out))
theorem eqDec {w : World} {bs bs2 : List Nat} {cs cs2 : List Value} {d : DecD} (g1 : Rep.pt w bs cs d) (g2 : Rep.pt w bs2 cs2 d) :
    Calls Try.prog 44 #[.agg cs.toArray, .agg cs2.toArray] w fun e w' => e = .returned (.bool true) ∧ Below w.heap.size w w' := by
  obtain ⟨a1, l1, k1, rfl, h0, h1⟩ := open_Dec g1
  obtain ⟨a1', l1', k1', rfl, h0', h1'⟩ := open_Dec g2
  go_enter Try.func44, Try.ntmps44
  have Hb : Hid (Below w.heap.size w w) := hid (Below.refl _ _)
  go_wp2_with fail
  refine (eqByteS (Slc.grow h1 ?_) (Slc.grow h1' ?_)).mono ?_
  · (repeat (first | refine Below.setCell ?_ (by simp; try omega) _ | refine Below.alloc ?_ (by simp; try omega) _ | exact Below.refl _ _ | exact Hb.out))
  · (repeat (first | refine Below.setCell ?_ (by simp; try omega) _ | refine Below.alloc ?_ (by simp; try omega) _ | exact Below.refl _ _ | exact Hb.out))
  rintro e w1 ⟨rfl, hb⟩
  have hz1 := hb.size
  simp at hz1
  have hb0 : Below w.heap.size w w1 := by
    refine below_call ?_ hb
    (repeat (first | refine Below.setCell ?_ (by simp; try omega) _ | refine Below.alloc ?_ (by simp; try omega) _ | exact Below.refl _ _ | exact Hb.out))
  obtain ⟨hc1, hf1⟩ := bcell hb
  have Hb := hid hb0
  clear hb hb0
  go_wp2
  go_ret
  exact ⟨rfl, Hb.out⟩
theorem szDec {w : World} {bs : List Nat} {cs : List Value} {d : DecD} (left : Int) (h : Rep.pt w bs cs d) (hl : 0 ≤ left) (hl2 : left ≤ 1048576) :
    Calls Try.prog 40 #[.agg cs.toArray, .int .i64 left] w fun e w' => e = .returned (.int .i64 (szr left (Cnt.cnt d))) ∧ Below w.heap.size w w' := by
  obtain ⟨a1, l1, k1, rfl, h0, h1⟩ := open_Dec h
  have hcnt : Cnt.cnt d = Cnt.cnt d.Part := rfl
  have Hcnt := hid hcnt; clear hcnt
  go_enter Try.func40, Try.ntmps40
  have Hb : Hid (Below w.heap.size w w) := hid (Below.refl _ _)
  go_wp2_with fail
  refine (szByteS (left) (Slc.grow h1 ?_) (by omega) (by omega)).mono ?_
  · (repeat (first | refine Below.setCell ?_ (by simp; try omega) _ | refine Below.alloc ?_ (by simp; try omega) _ | exact Below.refl _ _ | exact Hb.out))
  rintro e w1 ⟨rfl, hb⟩
  have hz1 := hb.size
  simp at hz1
  have hb0 : Below w.heap.size w w1 := by
    refine below_call ?_ hb
    (repeat (first | refine Below.setCell ?_ (by simp; try omega) _ | refine Below.alloc ?_ (by simp; try omega) _ | exact Below.refl _ _ | exact Hb.out))
  obtain ⟨hc1, hf1⟩ := bcell hb
  have Hb := hid hb0
  clear hb hb0
  by_cases hle0 : (Cnt.cnt d.Part : Int) ≤ left
  rotate_left
  · rw [szr_neg (by omega)]
    go_wp2
    go_ret
    exact ⟨ret_int (by have := Hcnt.out; rw [szr_neg (by omega)]), Hb.out⟩
  rw [szr_pos hle0]
  go_wp2
  go_ret
  exact ⟨ret_int (by have := Hcnt.out; rw [szr_pos (by omega)]; omega), Hb.out⟩
set_option maxHeartbeats 1600000 in
theorem toEntry {w : World} {bs : List Nat} {cs : List Value} {d : EntryD} (h : Rep.pt w bs cs d) :
    Calls Try.prog 91 #[.agg cs.toArray] w (RetA w d) := by
  obtain ⟨rfl, rfl, h0, h1⟩ := open_Entry h
  go_enter Try.func91, Try.ntmps91
  have Hb : Hid (Below w.heap.size w w) := hid (Below.refl _ _)
  go_wp2
  refine bodyPost_ret (v := .agg #[.int .i64 d.Num, .string d.Text]) (by simp [results, Try.results91, go_sem]) rfl ?_
  refine ⟨[.int .i64 d.Num, .string d.Text], [], rfl, ?_, ?_⟩
  · refine own_Entry h0 h1 
  · (repeat (first | refine Below.setCell ?_ (by simp; try omega) _ | refine Below.alloc ?_ (by simp; try omega) _ | exact Below.refl _ _ | exact Hb.out))
theorem eqEntry {w : World} {bs bs2 : List Nat} {cs cs2 : List Value} {d : EntryD} (g1 : Rep.pt w bs cs d) (g2 : Rep.pt w bs2 cs2 d) :
    Calls Try.prog 94 #[.agg cs.toArray, .agg cs2.toArray] w fun e w' => e = .returned (.bool true) ∧ Below w.heap.size w w' := by
  obtain ⟨rfl, rfl, h0, h1⟩ := open_Entry g1
  obtain ⟨rfl, rfl, h0', h1'⟩ := open_Entry g2
  go_enter Try.func94, Try.ntmps94
  have Hb : Hid (Below w.heap.size w w) := hid (Below.refl _ _)
  go_wp2
  go_ret
  exact ⟨rfl, (by repeat (first | refine Below.setCell ?_ (by simp; try omega) _ | refine Below.alloc ?_ (by simp; try omega) _ | exact Below.refl _ _ | exact Hb.out))⟩
theorem szEntry {w : World} {bs : List Nat} {cs : List Value} {d : EntryD} (left : Int) (h : Rep.pt w bs cs d) (hl : 0 ≤ left) (hl2 : left ≤ 1048576) :
    Calls Try.prog 88 #[.agg cs.toArray, .int .i64 left] w fun e w' => e = .returned (.int .i64 (szr left (Cnt.cnt d))) ∧ Below w.heap.size w w' := by
  obtain ⟨rfl, rfl, h0, h1⟩ := open_Entry h
  have hcnt : Cnt.cnt d = Cnt.cnt d.Text := rfl
  have Hcnt := hid hcnt; clear hcnt
  go_enter Try.func88, Try.ntmps88
  have Hb : Hid (Below w.heap.size w w) := hid (Below.refl _ _)
  have hcs0 : Cnt.cnt d.Text = d.Text.size := rfl
  have hmx0 : d.Text.size ≤ 9223372036854775807 := by first | assumption | (simp only [maxLen] at *; assumption) | (unfold maxLen at *; omega)
  by_cases hle0 : (d.Text.size : Int) ≤ left
  rotate_left
  · go_wp2
    go_ret
    exact ⟨ret_int (by have := Hcnt.out; rw [szr_neg (by omega)]), (by repeat (first | refine Below.setCell ?_ (by simp; try omega) _ | refine Below.alloc ?_ (by simp; try omega) _ | exact Below.refl _ _ | exact Hb.out))⟩
  go_wp2
  go_ret
  exact ⟨ret_int (by have := Hcnt.out; rw [szr_pos (by omega)]; omega), (by repeat (first | refine Below.setCell ?_ (by simp; try omega) _ | refine Below.alloc ?_ (by simp; try omega) _ | exact Below.refl _ _ | exact Hb.out))⟩
end Go.Proofs.Ytodbnphofjpmeaa
