/- Contracts of the laws' helpers on structures. -/
import Derived.Test.YtffinfpnmohnaaaHelpS
set_option linter.unusedSimpArgs false
set_option linter.unusedVariables false
namespace Go.Proofs.Ytffinfpnmohnaaa
open Go.RowKit Go.G6
set_option maxHeartbeats 800000
set_option maxRecDepth 10000
set_option maxHeartbeats 1600000 in
theorem toHist {w : World} {bs : List Nat} {cs : List Value} {d : HistD} (h : Rep.pt w bs cs d) (hn : Cnt.cnt d ≤ 1048576) :
    Calls Try.prog 52 #[.agg cs.toArray] w (RetA w d) := by
  obtain ⟨a1, l1, k1, rfl, h0, h1⟩ := open_Hist h
  have hn : Cnt.cnt d.Lines ≤ 1048576 := hn
  go_enter Try.func52, Try.ntmps52
  have Hb : Hid (Below w.heap.size w w) := hid (Below.refl _ _)
  go_wp2_with fail
  refine (toStringS (Slc.grow h1 ?_) (by first | exact hn | omega | (have := hn; simp only [cnt_ints, cnt_bytes, cnt_list] at this; omega))).mono ?_
  · (repeat (first | refine Below.setCell ?_ (by simp; try omega) _ | refine Below.alloc ?_ (by simp; try omega) _ | exact Below.refl _ _ | exact Hb.out))
  rintro e w1 ⟨a1', l1', k1', b1', rfl, hO, hb⟩
  have hz1 := hb.size
  try simp at hz1
  have hb0 : Below w.heap.size w w1 := by
    refine below_call ?_ hb
    (repeat (first | refine Below.setCell ?_ (by simp; try omega) _ | refine Below.alloc ?_ (by simp; try omega) _ | exact Below.refl _ _ | exact Hb.out))
  obtain ⟨hc1, hf1⟩ := bcell hb
  have HN1 : ∀ b ∈ b1', _ ∧ b < w1.heap.size := fun b hb => hO.lts b hb
  simp at HN1
  have HO1 := hid (hO.mono (lo' := w.heap.size) (by simp; omega))
  have Hb := hid hb0
  clear hb hb0 hO
  go_wp2
  refine bodyPost_ret (v := .agg #[.int .i64 d.First, .slice a1' l1' k1']) (by simp [results, Try.results52, go_sem, hc1]) rfl ?_
  refine ⟨[.int .i64 d.First, .slice a1' l1' k1'], b1', rfl, ?_, ?_⟩
  · refine own_Hist h0 ?o1 
    case o1 => repeat (first | refine Own.setCell' _ ?_ (fun b hb => by have := HN1 b hb; simp; omega) | exact HO1.out | refine Own.grow ?_ (by assumption))
  · (repeat (first | refine Below.setCell ?_ (by simp; try omega) _ | refine Below.alloc ?_ (by simp; try omega) _ | exact Below.refl _ _ | exact Hb.out))
theorem eqHist {w : World} {bs bs2 : List Nat} {cs cs2 : List Value} {d : HistD} (g1 : Rep.pt w bs cs d) (g2 : Rep.pt w bs2 cs2 d) :
    Calls Try.prog 54 #[.agg cs.toArray, .agg cs2.toArray] w fun e w' => e = .returned (.bool true) ∧ Below w.heap.size w w' := by
  obtain ⟨a1, l1, k1, rfl, h0, h1⟩ := open_Hist g1
  obtain ⟨a1', l1', k1', rfl, h0', h1'⟩ := open_Hist g2
  go_enter Try.func54, Try.ntmps54
  have Hb : Hid (Below w.heap.size w w) := hid (Below.refl _ _)
  go_wp2_with fail
  refine (eqStringS (Slc.grow h1 ?_) (Slc.grow h1' ?_)).mono ?_
  · (repeat (first | refine Below.setCell ?_ (by simp; try omega) _ | refine Below.alloc ?_ (by simp; try omega) _ | exact Below.refl _ _ | exact Hb.out))
  · (repeat (first | refine Below.setCell ?_ (by simp; try omega) _ | refine Below.alloc ?_ (by simp; try omega) _ | exact Below.refl _ _ | exact Hb.out))
  rintro e w1 ⟨rfl, hb⟩
  have hz1 := hb.size
  try simp at hz1
  have hb0 : Below w.heap.size w w1 := by
    refine below_call ?_ hb
    (repeat (first | refine Below.setCell ?_ (by simp; try omega) _ | refine Below.alloc ?_ (by simp; try omega) _ | exact Below.refl _ _ | exact Hb.out))
  obtain ⟨hc1, hf1⟩ := bcell hb
  have Hb := hid hb0
  clear hb hb0
  go_wp2
  go_ret
  exact ⟨rfl, Hb.out⟩
theorem szHist {w : World} {bs : List Nat} {cs : List Value} {d : HistD} (left : Int) (h : Rep.pt w bs cs d) (hl : 0 ≤ left) (hl2 : left ≤ 1048576) :
    Calls Try.prog 50 #[.agg cs.toArray, .int .i64 left] w fun e w' => e = .returned (.int .i64 (szr left (Cnt.cnt d))) ∧ Below w.heap.size w w' := by
  obtain ⟨a1, l1, k1, rfl, h0, h1⟩ := open_Hist h
  have hcnt : Cnt.cnt d = Cnt.cnt d.Lines := rfl
  have Hcnt := hid hcnt; clear hcnt
  go_enter Try.func50, Try.ntmps50
  have Hb : Hid (Below w.heap.size w w) := hid (Below.refl _ _)
  go_wp2_with fail
  refine (szStringS (left) (Slc.grow h1 ?_) (by omega) (by omega)).mono ?_
  · (repeat (first | refine Below.setCell ?_ (by simp; try omega) _ | refine Below.alloc ?_ (by simp; try omega) _ | exact Below.refl _ _ | exact Hb.out))
  rintro e w1 ⟨rfl, hb⟩
  have hz1 := hb.size
  try simp at hz1
  have hb0 : Below w.heap.size w w1 := by
    refine below_call ?_ hb
    (repeat (first | refine Below.setCell ?_ (by simp; try omega) _ | refine Below.alloc ?_ (by simp; try omega) _ | exact Below.refl _ _ | exact Hb.out))
  obtain ⟨hc1, hf1⟩ := bcell hb
  have Hb := hid hb0
  clear hb hb0
  by_cases hle0 : (Cnt.cnt d.Lines : Int) ≤ left
  rotate_left
  · rw [szr_neg (by omega)]
    go_wp2
    go_ret
    exact ⟨ret_int (by have := Hcnt.out; rw [szr_neg (by omega)]), Hb.out⟩
  rw [szr_pos hle0]
  go_wp2
  go_ret
  exact ⟨ret_int (by have := Hcnt.out; rw [szr_pos (by omega)]; omega), Hb.out⟩
theorem markHist {lo : Nat} {w : World} {d : HistD} {b1 : List Nat} {a1 : Option Addr} {l1 k1 : Nat} (h1 : Own lo w b1 [.slice a1 l1 k1] d.Lines)  (s : Nat) (hs : s + d.nkv ≤ topK) :
    Calls Try.prog 61 #[.agg #[.int .i64 d.First, .slice a1 l1 k1], .int .i64 (s : Int)] w fun e w' => e = .returned (.int .i64 ((s + d.nkv : Nat) : Int)) ∧ Own lo w' b1 [.slice a1 l1 k1] (d.mkv s).Lines ∧ Tch (b1) w w' := by
  have hs : s + (Mk.nE d.Lines) ≤ topK := hs
  unfold topK at hs
  have L1 := hid (fun x hx => (h1.lts x hx).2); have H1 := hid h1; clear h1
  have HT : Hid (Tch (b1) w w) := hid (Tch.refl _ _)
  go_enter Try.func61, Try.ntmps61
  go_wp2_with fail
  refine (markStringS (lo := lo) (Own.alloc H1.out _) (s) (by unfold topK; omega)).mono ?_
  rintro e w1 ⟨rfl, hO1, hT⟩
  have hz1 := hT.size; try simp at hz1
  have hL : ∀ x ∈ b1, x < w.heap.size := fun x hm => L1.out x hm
  have hcc1 := fun o => hT.cell (p := ⟨w.heap.size, o, none⟩) (by simp; try omega) (fun hm => by have := hL _ hm; simp at this)
  have HT := hid ((HT.out.alloc _).trans (hT.mono (by simp +contextual)))
  have H1 := hid hO1
  clear hL hT hO1
  go_wp2
  go_ret
  exact ⟨ret_int (by have e : d.nkv = Mk.nE d.Lines := rfl; omega), H1.out, HT.out⟩
theorem heldHist {w : World} {bs : List Nat} {cs : List Value} {d : HistD} (s : Nat) (h : Rep.pt w bs cs (d.mkv s)) (hs : s + d.nkv ≤ topK) :
    Calls Try.prog 62 #[.agg cs.toArray, .int .i64 (s : Int)] w fun e w' => e = .returned (.int .i64 ((s + d.nkv : Nat) : Int)) ∧ Below w.heap.size w w' := by
  have hs : s + (Mk.nE d.Lines) ≤ topK := hs
  unfold topK at hs
  obtain ⟨a1, l1, k1, rfl, h0, h1⟩ := open_Hist h
  go_enter Try.func62, Try.ntmps62
  have Hb : Hid (Below w.heap.size w w) := hid (Below.refl _ _)
  go_wp2_with fail
  refine (heldStringS (s) (xs := d.Lines) (Slc.grow h1 ?_) (by unfold topK; omega)).mono ?_
  · (repeat (first | refine Below.setCell ?_ (by simp; try omega) _ | refine Below.alloc ?_ (by simp; try omega) _ | exact Below.refl _ _ | exact Hb.out))
  rintro e w1 ⟨rfl, hb⟩
  have hz1 := hb.size
  try simp at hz1
  have hb0 : Below w.heap.size w w1 := by
    refine below_call ?_ hb
    (repeat (first | refine Below.setCell ?_ (by simp; try omega) _ | refine Below.alloc ?_ (by simp; try omega) _ | exact Below.refl _ _ | exact Hb.out))
  obtain ⟨hc1, hf1⟩ := bcell hb
  have Hb := hid hb0
  clear hb hb0
  go_wp2
  go_ret
  exact ⟨ret_int (by have e : d.nkv = Mk.nE d.Lines := rfl; omega), Hb.out⟩
set_option maxHeartbeats 1600000 in
theorem toGrid {w : World} {bs : List Nat} {cs : List Value} {d : GridD} (h : Rep.pt w bs cs d) (hn : Cnt.cnt d ≤ 1048576) :
    Calls Try.prog 35 #[.agg cs.toArray] w (RetA w d) := by
  obtain ⟨a2, l2, k2, rfl, h0, h1, h2, h3, h4⟩ := open_Grid h
  have hn : Cnt.cnt d.Cells ≤ 1048576 := hn
  go_enter Try.func35, Try.ntmps35
  have Hb : Hid (Below w.heap.size w w) := hid (Below.refl _ _)
  go_wp2_with fail
  refine (toIntS (Slc.grow h2 ?_) (by first | exact hn | omega | (have := hn; simp only [cnt_ints, cnt_bytes, cnt_list] at this; omega))).mono ?_
  · (repeat (first | refine Below.setCell ?_ (by simp; try omega) _ | refine Below.alloc ?_ (by simp; try omega) _ | exact Below.refl _ _ | exact Hb.out))
  rintro e w1 ⟨a2', l2', k2', b2', rfl, hO, hb⟩
  have hz1 := hb.size
  try simp at hz1
  have hb0 : Below w.heap.size w w1 := by
    refine below_call ?_ hb
    (repeat (first | refine Below.setCell ?_ (by simp; try omega) _ | refine Below.alloc ?_ (by simp; try omega) _ | exact Below.refl _ _ | exact Hb.out))
  obtain ⟨hc1, hf1⟩ := bcell hb
  have HN2 : ∀ b ∈ b2', _ ∧ b < w1.heap.size := fun b hb => hO.lts b hb
  simp at HN2
  have HO2 := hid (hO.mono (lo' := w.heap.size) (by simp; omega))
  have Hb := hid hb0
  clear hb hb0 hO
  go_wp2
  refine bodyPost_ret (v := .agg #[.int .i64 d.W, .int .i64 d.H, .slice a2' l2' k2', .int .i64 d.X, .int .i64 d.Y, .bool d.Wrap]) (by simp [results, Try.results35, go_sem, hc1]) rfl ?_
  refine ⟨[.int .i64 d.W, .int .i64 d.H, .slice a2' l2' k2', .int .i64 d.X, .int .i64 d.Y, .bool d.Wrap], b2', rfl, ?_, ?_⟩
  · refine own_Grid h0 h1 ?o2 h3 h4 
    case o2 => repeat (first | refine Own.setCell' _ ?_ (fun b hb => by have := HN2 b hb; simp; omega) | exact HO2.out | refine Own.grow ?_ (by assumption))
  · (repeat (first | refine Below.setCell ?_ (by simp; try omega) _ | refine Below.alloc ?_ (by simp; try omega) _ | exact Below.refl _ _ | exact Hb.out))
theorem eqGrid {w : World} {bs bs2 : List Nat} {cs cs2 : List Value} {d : GridD} (g1 : Rep.pt w bs cs d) (g2 : Rep.pt w bs2 cs2 d) :
    Calls Try.prog 37 #[.agg cs.toArray, .agg cs2.toArray] w fun e w' => e = .returned (.bool true) ∧ Below w.heap.size w w' := by
  obtain ⟨a2, l2, k2, rfl, h0, h1, h2, h3, h4⟩ := open_Grid g1
  obtain ⟨a2', l2', k2', rfl, h0', h1', h2', h3', h4'⟩ := open_Grid g2
  go_enter Try.func37, Try.ntmps37
  have Hb : Hid (Below w.heap.size w w) := hid (Below.refl _ _)
  go_wp2_with fail
  refine (eqIntS (Slc.grow h2 ?_) (Slc.grow h2' ?_)).mono ?_
  · (repeat (first | refine Below.setCell ?_ (by simp; try omega) _ | refine Below.alloc ?_ (by simp; try omega) _ | exact Below.refl _ _ | exact Hb.out))
  · (repeat (first | refine Below.setCell ?_ (by simp; try omega) _ | refine Below.alloc ?_ (by simp; try omega) _ | exact Below.refl _ _ | exact Hb.out))
  rintro e w1 ⟨rfl, hb⟩
  have hz1 := hb.size
  try simp at hz1
  have hb0 : Below w.heap.size w w1 := by
    refine below_call ?_ hb
    (repeat (first | refine Below.setCell ?_ (by simp; try omega) _ | refine Below.alloc ?_ (by simp; try omega) _ | exact Below.refl _ _ | exact Hb.out))
  obtain ⟨hc1, hf1⟩ := bcell hb
  have Hb := hid hb0
  clear hb hb0
  go_wp2
  go_ret
  exact ⟨rfl, Hb.out⟩
theorem szGrid {w : World} {bs : List Nat} {cs : List Value} {d : GridD} (left : Int) (h : Rep.pt w bs cs d) (hl : 0 ≤ left) (hl2 : left ≤ 1048576) :
    Calls Try.prog 33 #[.agg cs.toArray, .int .i64 left] w fun e w' => e = .returned (.int .i64 (szr left (Cnt.cnt d))) ∧ Below w.heap.size w w' := by
  obtain ⟨a2, l2, k2, rfl, h0, h1, h2, h3, h4⟩ := open_Grid h
  have hcnt : Cnt.cnt d = Cnt.cnt d.Cells := rfl
  have Hcnt := hid hcnt; clear hcnt
  go_enter Try.func33, Try.ntmps33
  have Hb : Hid (Below w.heap.size w w) := hid (Below.refl _ _)
  go_wp2_with fail
  refine (szIntS (left) (Slc.grow h2 ?_) (by omega) (by omega)).mono ?_
  · (repeat (first | refine Below.setCell ?_ (by simp; try omega) _ | refine Below.alloc ?_ (by simp; try omega) _ | exact Below.refl _ _ | exact Hb.out))
  rintro e w1 ⟨rfl, hb⟩
  have hz1 := hb.size
  try simp at hz1
  have hb0 : Below w.heap.size w w1 := by
    refine below_call ?_ hb
    (repeat (first | refine Below.setCell ?_ (by simp; try omega) _ | refine Below.alloc ?_ (by simp; try omega) _ | exact Below.refl _ _ | exact Hb.out))
  obtain ⟨hc1, hf1⟩ := bcell hb
  have Hb := hid hb0
  clear hb hb0
  by_cases hle0 : (Cnt.cnt d.Cells : Int) ≤ left
  rotate_left
  · rw [szr_neg (by omega)]
    go_wp2
    go_ret
    exact ⟨ret_int (by have := Hcnt.out; rw [szr_neg (by omega)]), Hb.out⟩
  rw [szr_pos hle0]
  go_wp2
  go_ret
  exact ⟨ret_int (by have := Hcnt.out; rw [szr_pos (by omega)]; omega), Hb.out⟩
theorem markGrid {lo : Nat} {w : World} {d : GridD} {b2 : List Nat} {a2 : Option Addr} {l2 k2 : Nat} (h2 : Own lo w b2 [.slice a2 l2 k2] d.Cells)  (s : Nat) (hs : s + d.nkv ≤ topK) :
    Calls Try.prog 38 #[.agg #[.int .i64 d.W, .int .i64 d.H, .slice a2 l2 k2, .int .i64 d.X, .int .i64 d.Y, .bool d.Wrap], .int .i64 (s : Int)] w fun e w' => e = .returned (.int .i64 ((s + d.nkv : Nat) : Int)) ∧ Own lo w' b2 [.slice a2 l2 k2] (d.mkv s).Cells ∧ Tch (b2) w w' := by
  have hs : s + (Mk.nE d.Cells) ≤ topK := hs
  unfold topK at hs
  have L2 := hid (fun x hx => (h2.lts x hx).2); have H2 := hid h2; clear h2
  have HT : Hid (Tch (b2) w w) := hid (Tch.refl _ _)
  go_enter Try.func38, Try.ntmps38
  go_wp2_with fail
  refine (markIntS (lo := lo) (Own.alloc H2.out _) (s) (by unfold topK; omega)).mono ?_
  rintro e w1 ⟨rfl, hO2, hT⟩
  have hz1 := hT.size; try simp at hz1
  have hL : ∀ x ∈ b2, x < w.heap.size := fun x hm => L2.out x hm
  have hcc1 := fun o => hT.cell (p := ⟨w.heap.size, o, none⟩) (by simp; try omega) (fun hm => by have := hL _ hm; simp at this)
  have HT := hid ((HT.out.alloc _).trans (hT.mono (by simp +contextual)))
  have H2 := hid hO2
  clear hL hT hO2
  go_wp2
  go_ret
  exact ⟨ret_int (by have e : d.nkv = Mk.nE d.Cells := rfl; omega), H2.out, HT.out⟩
theorem heldGrid {w : World} {bs : List Nat} {cs : List Value} {d : GridD} (s : Nat) (h : Rep.pt w bs cs (d.mkv s)) (hs : s + d.nkv ≤ topK) :
    Calls Try.prog 39 #[.agg cs.toArray, .int .i64 (s : Int)] w fun e w' => e = .returned (.int .i64 ((s + d.nkv : Nat) : Int)) ∧ Below w.heap.size w w' := by
  have hs : s + (Mk.nE d.Cells) ≤ topK := hs
  unfold topK at hs
  obtain ⟨a2, l2, k2, rfl, h0, h1, h2, h3, h4⟩ := open_Grid h
  go_enter Try.func39, Try.ntmps39
  have Hb : Hid (Below w.heap.size w w) := hid (Below.refl _ _)
  go_wp2_with fail
  refine (heldIntS (s) (xs := d.Cells) (Slc.grow h2 ?_) (by unfold topK; omega)).mono ?_
  · (repeat (first | refine Below.setCell ?_ (by simp; try omega) _ | refine Below.alloc ?_ (by simp; try omega) _ | exact Below.refl _ _ | exact Hb.out))
  rintro e w1 ⟨rfl, hb⟩
  have hz1 := hb.size
  try simp at hz1
  have hb0 : Below w.heap.size w w1 := by
    refine below_call ?_ hb
    (repeat (first | refine Below.setCell ?_ (by simp; try omega) _ | refine Below.alloc ?_ (by simp; try omega) _ | exact Below.refl _ _ | exact Hb.out))
  obtain ⟨hc1, hf1⟩ := bcell hb
  have Hb := hid hb0
  clear hb hb0
  go_wp2
  go_ret
  exact ⟨ret_int (by have e : d.nkv = Mk.nE d.Cells := rfl; omega), Hb.out⟩
set_option maxHeartbeats 1600000 in
theorem toDec {w : World} {bs : List Nat} {cs : List Value} {d : DecD} (h : Rep.pt w bs cs d) (hn : Cnt.cnt d ≤ 1048576) :
    Calls Try.prog 21 #[.agg cs.toArray] w (RetA w d) := by
  obtain ⟨a1, l1, k1, rfl, h0, h1⟩ := open_Dec h
  have hn : Cnt.cnt d.Part ≤ 1048576 := hn
  go_enter Try.func21, Try.ntmps21
  have Hb : Hid (Below w.heap.size w w) := hid (Below.refl _ _)
  go_wp2_with fail
  refine (toByteS (Slc.grow h1 ?_) (by first | exact hn | omega | (have := hn; simp only [cnt_ints, cnt_bytes, cnt_list] at this; omega))).mono ?_
  · (repeat (first | refine Below.setCell ?_ (by simp; try omega) _ | refine Below.alloc ?_ (by simp; try omega) _ | exact Below.refl _ _ | exact Hb.out))
  rintro e w1 ⟨a1', l1', k1', b1', rfl, hO, hb⟩
  have hz1 := hb.size
  try simp at hz1
  have hb0 : Below w.heap.size w w1 := by
    refine below_call ?_ hb
    (repeat (first | refine Below.setCell ?_ (by simp; try omega) _ | refine Below.alloc ?_ (by simp; try omega) _ | exact Below.refl _ _ | exact Hb.out))
  obtain ⟨hc1, hf1⟩ := bcell hb
  have HN1 : ∀ b ∈ b1', _ ∧ b < w1.heap.size := fun b hb => hO.lts b hb
  simp at HN1
  have HO1 := hid (hO.mono (lo' := w.heap.size) (by simp; omega))
  have Hb := hid hb0
  clear hb hb0 hO
  go_wp2
  refine bodyPost_ret (v := .agg #[.int .i64 d.State, .slice a1' l1' k1']) (by simp [results, Try.results21, go_sem, hc1]) rfl ?_
  refine ⟨[.int .i64 d.State, .slice a1' l1' k1'], b1', rfl, ?_, ?_⟩
  · refine own_Dec h0 ?o1 
    case o1 => repeat (first | refine Own.setCell' _ ?_ (fun b hb => by have := HN1 b hb; simp; omega) | exact HO1.out | refine Own.grow ?_ (by assumption))
  · (repeat (first | refine Below.setCell ?_ (by simp; try omega) _ | refine Below.alloc ?_ (by simp; try omega) _ | exact Below.refl _ _ | exact Hb.out))
theorem eqDec {w : World} {bs bs2 : List Nat} {cs cs2 : List Value} {d : DecD} (g1 : Rep.pt w bs cs d) (g2 : Rep.pt w bs2 cs2 d) :
    Calls Try.prog 23 #[.agg cs.toArray, .agg cs2.toArray] w fun e w' => e = .returned (.bool true) ∧ Below w.heap.size w w' := by
  obtain ⟨a1, l1, k1, rfl, h0, h1⟩ := open_Dec g1
  obtain ⟨a1', l1', k1', rfl, h0', h1'⟩ := open_Dec g2
  go_enter Try.func23, Try.ntmps23
  have Hb : Hid (Below w.heap.size w w) := hid (Below.refl _ _)
  go_wp2_with fail
  refine (eqByteS (Slc.grow h1 ?_) (Slc.grow h1' ?_)).mono ?_
  · (repeat (first | refine Below.setCell ?_ (by simp; try omega) _ | refine Below.alloc ?_ (by simp; try omega) _ | exact Below.refl _ _ | exact Hb.out))
  · (repeat (first | refine Below.setCell ?_ (by simp; try omega) _ | refine Below.alloc ?_ (by simp; try omega) _ | exact Below.refl _ _ | exact Hb.out))
  rintro e w1 ⟨rfl, hb⟩
  have hz1 := hb.size
  try simp at hz1
  have hb0 : Below w.heap.size w w1 := by
    refine below_call ?_ hb
    (repeat (first | refine Below.setCell ?_ (by simp; try omega) _ | refine Below.alloc ?_ (by simp; try omega) _ | exact Below.refl _ _ | exact Hb.out))
  obtain ⟨hc1, hf1⟩ := bcell hb
  have Hb := hid hb0
  clear hb hb0
  go_wp2
  go_ret
  exact ⟨rfl, Hb.out⟩
theorem szDec {w : World} {bs : List Nat} {cs : List Value} {d : DecD} (left : Int) (h : Rep.pt w bs cs d) (hl : 0 ≤ left) (hl2 : left ≤ 1048576) :
    Calls Try.prog 19 #[.agg cs.toArray, .int .i64 left] w fun e w' => e = .returned (.int .i64 (szr left (Cnt.cnt d))) ∧ Below w.heap.size w w' := by
  obtain ⟨a1, l1, k1, rfl, h0, h1⟩ := open_Dec h
  have hcnt : Cnt.cnt d = Cnt.cnt d.Part := rfl
  have Hcnt := hid hcnt; clear hcnt
  go_enter Try.func19, Try.ntmps19
  have Hb : Hid (Below w.heap.size w w) := hid (Below.refl _ _)
  go_wp2_with fail
  refine (szByteS (left) (Slc.grow h1 ?_) (by omega) (by omega)).mono ?_
  · (repeat (first | refine Below.setCell ?_ (by simp; try omega) _ | refine Below.alloc ?_ (by simp; try omega) _ | exact Below.refl _ _ | exact Hb.out))
  rintro e w1 ⟨rfl, hb⟩
  have hz1 := hb.size
  try simp at hz1
  have hb0 : Below w.heap.size w w1 := by
    refine below_call ?_ hb
    (repeat (first | refine Below.setCell ?_ (by simp; try omega) _ | refine Below.alloc ?_ (by simp; try omega) _ | exact Below.refl _ _ | exact Hb.out))
  obtain ⟨hc1, hf1⟩ := bcell hb
  have Hb := hid hb0
  clear hb hb0
  by_cases hle0 : (Cnt.cnt d.Part : Int) ≤ left
  rotate_left
  · rw [szr_neg (by omega)]
    go_wp2
    go_ret
    exact ⟨ret_int (by have := Hcnt.out; rw [szr_neg (by omega)]), Hb.out⟩
  rw [szr_pos hle0]
  go_wp2
  go_ret
  exact ⟨ret_int (by have := Hcnt.out; rw [szr_pos (by omega)]; omega), Hb.out⟩
set_option maxHeartbeats 1600000 in
theorem toPiece {w : World} {bs : List Nat} {cs : List Value} {d : PieceD} (h : Rep.pt w bs cs d) (hn : Cnt.cnt d ≤ 1048576) :
    Calls Try.prog 167 #[.agg cs.toArray] w (RetA w d) := by
  obtain ⟨a0, l0, k0, rfl, h0⟩ := open_Piece h
  have hn : Cnt.cnt d.Text ≤ 1048576 := hn
  go_enter Try.func167, Try.ntmps167
  have Hb : Hid (Below w.heap.size w w) := hid (Below.refl _ _)
  go_wp2_with fail
  refine (toIntS (Slc.grow h0 ?_) (by first | exact hn | omega | (have := hn; simp only [cnt_ints, cnt_bytes, cnt_list] at this; omega))).mono ?_
  · (repeat (first | refine Below.setCell ?_ (by simp; try omega) _ | refine Below.alloc ?_ (by simp; try omega) _ | exact Below.refl _ _ | exact Hb.out))
  rintro e w1 ⟨a0', l0', k0', b0', rfl, hO, hb⟩
  have hz1 := hb.size
  try simp at hz1
  have hb0 : Below w.heap.size w w1 := by
    refine below_call ?_ hb
    (repeat (first | refine Below.setCell ?_ (by simp; try omega) _ | refine Below.alloc ?_ (by simp; try omega) _ | exact Below.refl _ _ | exact Hb.out))
  obtain ⟨hc1, hf1⟩ := bcell hb
  have HN0 : ∀ b ∈ b0', _ ∧ b < w1.heap.size := fun b hb => hO.lts b hb
  simp at HN0
  have HO0 := hid (hO.mono (lo' := w.heap.size) (by simp; omega))
  have Hb := hid hb0
  clear hb hb0 hO
  go_wp2
  refine bodyPost_ret (v := .agg #[.slice a0' l0' k0']) (by simp [results, Try.results167, go_sem, hc1]) rfl ?_
  refine ⟨[.slice a0' l0' k0'], b0', rfl, ?_, ?_⟩
  · refine own_Piece ?o0 
    case o0 => repeat (first | refine Own.setCell' _ ?_ (fun b hb => by have := HN0 b hb; simp; omega) | exact HO0.out | refine Own.grow ?_ (by assumption))
  · (repeat (first | refine Below.setCell ?_ (by simp; try omega) _ | refine Below.alloc ?_ (by simp; try omega) _ | exact Below.refl _ _ | exact Hb.out))
theorem eqPiece {w : World} {bs bs2 : List Nat} {cs cs2 : List Value} {d : PieceD} (g1 : Rep.pt w bs cs d) (g2 : Rep.pt w bs2 cs2 d) :
    Calls Try.prog 169 #[.agg cs.toArray, .agg cs2.toArray] w fun e w' => e = .returned (.bool true) ∧ Below w.heap.size w w' := by
  obtain ⟨a0, l0, k0, rfl, h0⟩ := open_Piece g1
  obtain ⟨a0', l0', k0', rfl, h0'⟩ := open_Piece g2
  go_enter Try.func169, Try.ntmps169
  have Hb : Hid (Below w.heap.size w w) := hid (Below.refl _ _)
  go_wp2_with fail
  refine (eqIntS (Slc.grow h0 ?_) (Slc.grow h0' ?_)).mono ?_
  · (repeat (first | refine Below.setCell ?_ (by simp; try omega) _ | refine Below.alloc ?_ (by simp; try omega) _ | exact Below.refl _ _ | exact Hb.out))
  · (repeat (first | refine Below.setCell ?_ (by simp; try omega) _ | refine Below.alloc ?_ (by simp; try omega) _ | exact Below.refl _ _ | exact Hb.out))
  rintro e w1 ⟨rfl, hb⟩
  have hz1 := hb.size
  try simp at hz1
  have hb0 : Below w.heap.size w w1 := by
    refine below_call ?_ hb
    (repeat (first | refine Below.setCell ?_ (by simp; try omega) _ | refine Below.alloc ?_ (by simp; try omega) _ | exact Below.refl _ _ | exact Hb.out))
  obtain ⟨hc1, hf1⟩ := bcell hb
  have Hb := hid hb0
  clear hb hb0
  go_wp2
  go_ret
  exact ⟨rfl, Hb.out⟩
theorem szPiece {w : World} {bs : List Nat} {cs : List Value} {d : PieceD} (left : Int) (h : Rep.pt w bs cs d) (hl : 0 ≤ left) (hl2 : left ≤ 1048576) :
    Calls Try.prog 165 #[.agg cs.toArray, .int .i64 left] w fun e w' => e = .returned (.int .i64 (szr left (Cnt.cnt d))) ∧ Below w.heap.size w w' := by
  obtain ⟨a0, l0, k0, rfl, h0⟩ := open_Piece h
  have hcnt : Cnt.cnt d = Cnt.cnt d.Text := rfl
  have Hcnt := hid hcnt; clear hcnt
  go_enter Try.func165, Try.ntmps165
  have Hb : Hid (Below w.heap.size w w) := hid (Below.refl _ _)
  go_wp2_with fail
  refine (szIntS (left) (Slc.grow h0 ?_) (by omega) (by omega)).mono ?_
  · (repeat (first | refine Below.setCell ?_ (by simp; try omega) _ | refine Below.alloc ?_ (by simp; try omega) _ | exact Below.refl _ _ | exact Hb.out))
  rintro e w1 ⟨rfl, hb⟩
  have hz1 := hb.size
  try simp at hz1
  have hb0 : Below w.heap.size w w1 := by
    refine below_call ?_ hb
    (repeat (first | refine Below.setCell ?_ (by simp; try omega) _ | refine Below.alloc ?_ (by simp; try omega) _ | exact Below.refl _ _ | exact Hb.out))
  obtain ⟨hc1, hf1⟩ := bcell hb
  have Hb := hid hb0
  clear hb hb0
  by_cases hle0 : (Cnt.cnt d.Text : Int) ≤ left
  rotate_left
  · rw [szr_neg (by omega)]
    go_wp2
    go_ret
    exact ⟨ret_int (by have := Hcnt.out; rw [szr_neg (by omega)]), Hb.out⟩
  rw [szr_pos hle0]
  go_wp2
  go_ret
  exact ⟨ret_int (by have := Hcnt.out; rw [szr_pos (by omega)]; omega), Hb.out⟩
set_option maxHeartbeats 1600000 in
theorem toVt {w : World} {bs : List Nat} {cs : List Value} {d : VtD} (h : Rep.pt w bs cs d) (hn : Cnt.cnt d ≤ 1048576) :
    Calls Try.prog 26 #[.agg cs.toArray] w (RetA w d) := by
  obtain ⟨b2, b7, b8, a2, l2, k2, a7, l7, k7, a8, l8, k8, rfl, rfl, h0, h1, h2, h3, h4, h6, h7, h8, h9⟩ := open_Vt h
  have hn : Cnt.cnt d.Grid + Cnt.cnt d.Args + Cnt.cnt d.Part ≤ 1048576 := hn
  go_enter Try.func26, Try.ntmps26
  have Hb : Hid (Below w.heap.size w w) := hid (Below.refl _ _)
  go_wp2_with fail
  refine (toGrid (grow (mk_Grid (d := d.Grid) h0 h1 h2 h3 h4) ?_) (by omega)).mono ?_
  · (repeat (first | refine Below.setCell ?_ (by simp; try omega) _ | refine Below.alloc ?_ (by simp; try omega) _ | exact Below.refl _ _ | exact Hb.out))
  rintro e w1 ⟨cs', bs', rfl, hO, hb⟩
  obtain ⟨a2', l2', k2', rfl, q0, q1, q2, q3, q4⟩ := open_Grid hO.1
  obtain ⟨b2', rfl⟩ : ∃ x, x = bs' := ⟨_, rfl⟩
  have hz1 := hb.size
  try simp at hz1
  have hb0 : Below w.heap.size w w1 := by
    refine below_call ?_ hb
    (repeat (first | refine Below.setCell ?_ (by simp; try omega) _ | refine Below.alloc ?_ (by simp; try omega) _ | exact Below.refl _ _ | exact Hb.out))
  obtain ⟨hc1, hf1⟩ := bcell hb
  have hO := (parts_Grid hO q2)
  have HN2 : ∀ b ∈ b2', _ ∧ b < w1.heap.size := fun b hb => hO.lts b hb
  simp at HN2
  have HO2 := hid (hO.mono (lo' := w.heap.size) (by simp; omega))
  have Hb := hid hb0
  clear hb hb0 hO
  go_wp2_with fail
  refine (toIntS (Slc.grow h7 ?_) (by first | exact hn | omega | (have := hn; simp only [cnt_ints, cnt_bytes, cnt_list] at this; omega))).mono ?_
  · (repeat (first | refine Below.setCell ?_ (by simp; try omega) _ | refine Below.alloc ?_ (by simp; try omega) _ | exact Below.refl _ _ | exact Hb.out))
  rintro e w2 ⟨a7', l7', k7', b7', rfl, hO, hb⟩
  have hz2 := hb.size
  try simp at hz2
  have hb0 : Below w.heap.size w w2 := by
    refine below_call ?_ hb
    (repeat (first | refine Below.setCell ?_ (by simp; try omega) _ | refine Below.alloc ?_ (by simp; try omega) _ | exact Below.refl _ _ | exact Hb.out))
  obtain ⟨hc2, hf2⟩ := bcell hb
  have hcA2 := fun o => hc2 (w.heap.size) o (by simp; omega)
  have hfA2 := fun o => hf2 (w.heap.size) o (by simp; omega)
  have hcB2 := fun o => hc2 (w.heap.size + 1) o (by simp; omega)
  have hfB2 := fun o => hf2 (w.heap.size + 1) o (by simp; omega)
  have hcC2 := fun o => hc2 (w.heap.size + 1 + 1) o (by simp; omega)
  have hfC2 := fun o => hf2 (w.heap.size + 1 + 1) o (by simp; omega)
  have HO2 : Hid (Own w.heap.size w2 b2' [.slice a2' l2' k2'] d.Grid.Cells) := by
    refine hid (Own.grow ?_ hb)
    repeat (first | refine Own.setCell' _ ?_ (fun b hb => by have := HN2 b hb; simp; omega) | exact HO2.out)
  have HN7 : ∀ b ∈ b7', _ ∧ b < w2.heap.size := fun b hb => hO.lts b hb
  simp at HN7
  have HO7 := hid (hO.mono (lo' := w.heap.size) (by simp; omega))
  have Hb := hid hb0
  clear hb hb0 hO
  go_wp2_with fail
  refine (toByteS (Slc.grow h8 ?_) (by first | exact hn | omega | (have := hn; simp only [cnt_ints, cnt_bytes, cnt_list] at this; omega))).mono ?_
  · (repeat (first | refine Below.setCell ?_ (by simp; try omega) _ | refine Below.alloc ?_ (by simp; try omega) _ | exact Below.refl _ _ | exact Hb.out))
  rintro e w3 ⟨a8', l8', k8', b8', rfl, hO, hb⟩
  have hz3 := hb.size
  try simp at hz3
  have hb0 : Below w.heap.size w w3 := by
    refine below_call ?_ hb
    (repeat (first | refine Below.setCell ?_ (by simp; try omega) _ | refine Below.alloc ?_ (by simp; try omega) _ | exact Below.refl _ _ | exact Hb.out))
  obtain ⟨hc3, hf3⟩ := bcell hb
  have hcA3 := fun o => hc3 (w.heap.size) o (by simp; omega)
  have hfA3 := fun o => hf3 (w.heap.size) o (by simp; omega)
  have hcB3 := fun o => hc3 (w.heap.size + 1) o (by simp; omega)
  have hfB3 := fun o => hf3 (w.heap.size + 1) o (by simp; omega)
  have hcC3 := fun o => hc3 (w.heap.size + 1 + 1) o (by simp; omega)
  have hfC3 := fun o => hf3 (w.heap.size + 1 + 1) o (by simp; omega)
  have HO2 : Hid (Own w.heap.size w3 b2' [.slice a2' l2' k2'] d.Grid.Cells) := by
    refine hid (Own.grow ?_ hb)
    repeat (first | refine Own.setCell' _ ?_ (fun b hb => by have := HN2 b hb; simp; omega) | exact HO2.out)
  have HO7 : Hid (Own w.heap.size w3 b7' [.slice a7' l7' k7'] d.Args) := by
    refine hid (Own.grow ?_ hb)
    repeat (first | refine Own.setCell' _ ?_ (fun b hb => by have := HN7 b hb; simp; omega) | exact HO7.out)
  have HN8 : ∀ b ∈ b8', _ ∧ b < w3.heap.size := fun b hb => hO.lts b hb
  simp at HN8
  have HO8 := hid (hO.mono (lo' := w.heap.size) (by simp; omega))
  have Hb := hid hb0
  clear hb hb0 hO
  go_wp2
  refine bodyPost_ret (v := .agg #[.int .i64 d.Grid.W, .int .i64 d.Grid.H, .slice a2' l2' k2', .int .i64 d.Grid.X, .int .i64 d.Grid.Y, .bool d.Grid.Wrap, .int .i64 d.State, .slice a7' l7' k7', .slice a8' l8' k8', .int .i64 d.Bells]) (by simp [results, Try.results26, go_sem, hc1, hc2, hcA2, hcB2, hcC2, hc3, hcA3, hcB3, hcC3]) rfl ?_
  refine ⟨[.int .i64 d.Grid.W, .int .i64 d.Grid.H, .slice a2' l2' k2', .int .i64 d.Grid.X, .int .i64 d.Grid.Y, .bool d.Grid.Wrap, .int .i64 d.State, .slice a7' l7' k7', .slice a8' l8' k8', .int .i64 d.Bells], b2' ++ (b7' ++ b8'), rfl, ?_, ?_⟩
  · refine own_Vt h0 h1 ?o2 h3 h4 h6 ?o7 ?o8 h9 ?e2_7 ?e2_8 ?e7_8
    case o2 => repeat (first | refine Own.setCell' _ ?_ (fun b hb => by have := HN2 b hb; simp; omega) | exact HO2.out | refine Own.grow ?_ (by assumption))
    case o7 => repeat (first | refine Own.setCell' _ ?_ (fun b hb => by have := HN7 b hb; simp; omega) | exact HO7.out | refine Own.grow ?_ (by assumption))
    case o8 => repeat (first | refine Own.setCell' _ ?_ (fun b hb => by have := HN8 b hb; simp; omega) | exact HO8.out | refine Own.grow ?_ (by assumption))
    case e2_7 => first | exact E2_7.out | exact fun x hx hx' => by have := HN2 x hx; have := HN7 x hx'; omega
    case e2_8 => first | exact E2_8.out | exact fun x hx hx' => by have := HN2 x hx; have := HN8 x hx'; omega
    case e7_8 => first | exact E7_8.out | exact fun x hx hx' => by have := HN7 x hx; have := HN8 x hx'; omega
  · (repeat (first | refine Below.setCell ?_ (by simp; try omega) _ | refine Below.alloc ?_ (by simp; try omega) _ | exact Below.refl _ _ | exact Hb.out))
theorem eqVt {w : World} {bs bs2 : List Nat} {cs cs2 : List Value} {d : VtD} (g1 : Rep.pt w bs cs d) (g2 : Rep.pt w bs2 cs2 d) :
    Calls Try.prog 28 #[.agg cs.toArray, .agg cs2.toArray] w fun e w' => e = .returned (.bool true) ∧ Below w.heap.size w w' := by
  obtain ⟨b2, b7, b8, a2, l2, k2, a7, l7, k7, a8, l8, k8, rfl, rfl, h0, h1, h2, h3, h4, h6, h7, h8, h9⟩ := open_Vt g1
  obtain ⟨b2', b7', b8', a2', l2', k2', a7', l7', k7', a8', l8', k8', rfl, rfl, h0', h1', h2', h3', h4', h6', h7', h8', h9'⟩ := open_Vt g2
  go_enter Try.func28, Try.ntmps28
  have Hb : Hid (Below w.heap.size w w) := hid (Below.refl _ _)
  go_wp2_with fail
  refine (eqGrid (grow (mk_Grid (d := d.Grid) h0 h1 h2 h3 h4) ?_) (grow (mk_Grid (d := d.Grid) h0' h1' h2' h3' h4') ?_)).mono ?_
  · (repeat (first | refine Below.setCell ?_ (by simp; try omega) _ | refine Below.alloc ?_ (by simp; try omega) _ | exact Below.refl _ _ | exact Hb.out))
  · (repeat (first | refine Below.setCell ?_ (by simp; try omega) _ | refine Below.alloc ?_ (by simp; try omega) _ | exact Below.refl _ _ | exact Hb.out))
  rintro e w1 ⟨rfl, hb⟩
  have hz1 := hb.size
  try simp at hz1
  have hb0 : Below w.heap.size w w1 := by
    refine below_call ?_ hb
    (repeat (first | refine Below.setCell ?_ (by simp; try omega) _ | refine Below.alloc ?_ (by simp; try omega) _ | exact Below.refl _ _ | exact Hb.out))
  obtain ⟨hc1, hf1⟩ := bcell hb
  have Hb := hid hb0
  clear hb hb0
  go_wp2_with fail
  refine (eqIntS (Slc.grow h7 ?_) (Slc.grow h7' ?_)).mono ?_
  · (repeat (first | refine Below.setCell ?_ (by simp; try omega) _ | refine Below.alloc ?_ (by simp; try omega) _ | exact Below.refl _ _ | exact Hb.out))
  · (repeat (first | refine Below.setCell ?_ (by simp; try omega) _ | refine Below.alloc ?_ (by simp; try omega) _ | exact Below.refl _ _ | exact Hb.out))
  rintro e w2 ⟨rfl, hb⟩
  have hz2 := hb.size
  try simp at hz2
  have hb0 : Below w.heap.size w w2 := by
    refine below_call ?_ hb
    (repeat (first | refine Below.setCell ?_ (by simp; try omega) _ | refine Below.alloc ?_ (by simp; try omega) _ | exact Below.refl _ _ | exact Hb.out))
  obtain ⟨hc2, hf2⟩ := bcell hb
  have Hb := hid hb0
  clear hb hb0
  have hcA2 := fun o => hc2 w.heap.size o (by omega)
  have hcB2 := fun o => hc2 (w.heap.size + 1) o (by omega)
  go_wp2_with fail
  refine (eqByteS (Slc.grow h8 ?_) (Slc.grow h8' ?_)).mono ?_
  · (repeat (first | refine Below.setCell ?_ (by simp; try omega) _ | refine Below.alloc ?_ (by simp; try omega) _ | exact Below.refl _ _ | exact Hb.out))
  · (repeat (first | refine Below.setCell ?_ (by simp; try omega) _ | refine Below.alloc ?_ (by simp; try omega) _ | exact Below.refl _ _ | exact Hb.out))
  rintro e w3 ⟨rfl, hb⟩
  have hz3 := hb.size
  try simp at hz3
  have hb0 : Below w.heap.size w w3 := by
    refine below_call ?_ hb
    (repeat (first | refine Below.setCell ?_ (by simp; try omega) _ | refine Below.alloc ?_ (by simp; try omega) _ | exact Below.refl _ _ | exact Hb.out))
  obtain ⟨hc3, hf3⟩ := bcell hb
  have Hb := hid hb0
  clear hb hb0
  have hcA3 := fun o => hc3 w.heap.size o (by omega)
  have hcB3 := fun o => hc3 (w.heap.size + 1) o (by omega)
  go_wp2
  go_ret
  exact ⟨rfl, Hb.out⟩
theorem szVt {w : World} {bs : List Nat} {cs : List Value} {d : VtD} (left : Int) (h : Rep.pt w bs cs d) (hl : 0 ≤ left) (hl2 : left ≤ 1048576) :
    Calls Try.prog 24 #[.agg cs.toArray, .int .i64 left] w fun e w' => e = .returned (.int .i64 (szr left (Cnt.cnt d))) ∧ Below w.heap.size w w' := by
  obtain ⟨b2, b7, b8, a2, l2, k2, a7, l7, k7, a8, l8, k8, rfl, rfl, h0, h1, h2, h3, h4, h6, h7, h8, h9⟩ := open_Vt h
  have hcnt : Cnt.cnt d = Cnt.cnt d.Grid + Cnt.cnt d.Args + Cnt.cnt d.Part := rfl
  have Hcnt := hid hcnt; clear hcnt
  go_enter Try.func24, Try.ntmps24
  have Hb : Hid (Below w.heap.size w w) := hid (Below.refl _ _)
  go_wp2_with fail
  refine (szGrid (left) (grow (mk_Grid (d := d.Grid) h0 h1 h2 h3 h4) ?_) (by omega) (by omega)).mono ?_
  · (repeat (first | refine Below.setCell ?_ (by simp; try omega) _ | refine Below.alloc ?_ (by simp; try omega) _ | exact Below.refl _ _ | exact Hb.out))
  rintro e w1 ⟨rfl, hb⟩
  have hz1 := hb.size
  try simp at hz1
  have hb0 : Below w.heap.size w w1 := by
    refine below_call ?_ hb
    (repeat (first | refine Below.setCell ?_ (by simp; try omega) _ | refine Below.alloc ?_ (by simp; try omega) _ | exact Below.refl _ _ | exact Hb.out))
  obtain ⟨hc1, hf1⟩ := bcell hb
  have Hb := hid hb0
  clear hb hb0
  by_cases hle0 : (Cnt.cnt d.Grid : Int) ≤ left
  rotate_left
  · rw [szr_neg (by omega)]
    go_wp2
    go_ret
    exact ⟨ret_int (by have := Hcnt.out; rw [szr_neg (by omega)]), Hb.out⟩
  rw [szr_pos hle0]
  go_wp2_with fail
  refine (szIntS (left - (Cnt.cnt d.Grid : Int)) (Slc.grow h7 ?_) (by omega) (by omega)).mono ?_
  · (repeat (first | refine Below.setCell ?_ (by simp; try omega) _ | refine Below.alloc ?_ (by simp; try omega) _ | exact Below.refl _ _ | exact Hb.out))
  rintro e w2 ⟨rfl, hb⟩
  have hz2 := hb.size
  try simp at hz2
  have hb0 : Below w.heap.size w w2 := by
    refine below_call ?_ hb
    (repeat (first | refine Below.setCell ?_ (by simp; try omega) _ | refine Below.alloc ?_ (by simp; try omega) _ | exact Below.refl _ _ | exact Hb.out))
  obtain ⟨hc2, hf2⟩ := bcell hb
  have Hb := hid hb0
  clear hb hb0
  have hcA2 := fun o => hc2 w.heap.size o (by omega)
  by_cases hle1 : (Cnt.cnt d.Args : Int) ≤ left - (Cnt.cnt d.Grid : Int)
  rotate_left
  · rw [szr_neg (by omega)]
    go_wp2
    go_ret
    exact ⟨ret_int (by have := Hcnt.out; rw [szr_neg (by omega)]), Hb.out⟩
  rw [szr_pos hle1]
  go_wp2_with fail
  refine (szByteS (left - (Cnt.cnt d.Grid : Int) - (Cnt.cnt d.Args : Int)) (Slc.grow h8 ?_) (by omega) (by omega)).mono ?_
  · (repeat (first | refine Below.setCell ?_ (by simp; try omega) _ | refine Below.alloc ?_ (by simp; try omega) _ | exact Below.refl _ _ | exact Hb.out))
  rintro e w3 ⟨rfl, hb⟩
  have hz3 := hb.size
  try simp at hz3
  have hb0 : Below w.heap.size w w3 := by
    refine below_call ?_ hb
    (repeat (first | refine Below.setCell ?_ (by simp; try omega) _ | refine Below.alloc ?_ (by simp; try omega) _ | exact Below.refl _ _ | exact Hb.out))
  obtain ⟨hc3, hf3⟩ := bcell hb
  have Hb := hid hb0
  clear hb hb0
  have hcA3 := fun o => hc3 w.heap.size o (by omega)
  by_cases hle2 : (Cnt.cnt d.Part : Int) ≤ left - (Cnt.cnt d.Grid : Int) - (Cnt.cnt d.Args : Int)
  rotate_left
  · rw [szr_neg (by omega)]
    go_wp2
    go_ret
    exact ⟨ret_int (by have := Hcnt.out; rw [szr_neg (by omega)]), Hb.out⟩
  rw [szr_pos hle2]
  go_wp2
  go_ret
  exact ⟨ret_int (by have := Hcnt.out; rw [szr_pos (by omega)]; omega), Hb.out⟩
theorem markVt {lo : Nat} {w : World} {d : VtD} {b2 : List Nat} {a2 : Option Addr} {l2 k2 : Nat} {b7 : List Nat} {a7 : Option Addr} {l7 k7 : Nat} {b8 : List Nat} {a8 : Option Addr} {l8 k8 : Nat} (h2 : Own lo w b2 [.slice a2 l2 k2] d.Grid.Cells) (h7 : Own lo w b7 [.slice a7 l7 k7] d.Args) (h8 : Own lo w b8 [.slice a8 l8 k8] d.Part) (e2_7 : ∀ x ∈ b2, x ∉ b7) (e2_8 : ∀ x ∈ b2, x ∉ b8) (e7_8 : ∀ x ∈ b7, x ∉ b8) (s : Nat) (hs : s + d.nkv ≤ topK) :
    Calls Try.prog 31 #[.agg #[.int .i64 d.Grid.W, .int .i64 d.Grid.H, .slice a2 l2 k2, .int .i64 d.Grid.X, .int .i64 d.Grid.Y, .bool d.Grid.Wrap, .int .i64 d.State, .slice a7 l7 k7, .slice a8 l8 k8, .int .i64 d.Bells], .int .i64 (s : Int)] w fun e w' => e = .returned (.int .i64 ((s + d.nkv : Nat) : Int)) ∧ Own lo w' b2 [.slice a2 l2 k2] (d.mkv s).Grid.Cells ∧ Own lo w' b7 [.slice a7 l7 k7] (d.mkv s).Args ∧ Own lo w' b8 [.slice a8 l8 k8] (d.mkv s).Part ∧ Tch (b2 ++ (b7 ++ b8)) w w' := by
  have hs : s + (d.Grid.nkv + Mk.nE d.Args + Mk.nE d.Part) ≤ topK := hs
  unfold topK at hs
  have L2 := hid (fun x hx => (h2.lts x hx).2); have H2 := hid h2; clear h2
  have L7 := hid (fun x hx => (h7.lts x hx).2); have H7 := hid h7; clear h7
  have L8 := hid (fun x hx => (h8.lts x hx).2); have H8 := hid h8; clear h8
  have E2_7 := hid e2_7; clear e2_7
  have E2_8 := hid e2_8; clear e2_8
  have E7_8 := hid e7_8; clear e7_8
  have HT : Hid (Tch (b2 ++ (b7 ++ b8)) w w) := hid (Tch.refl _ _)
  go_enter Try.func31, Try.ntmps31
  go_wp2_with fail
  refine (markGrid (lo := lo) (d := d.Grid) (Own.alloc H2.out _)  (s) (by unfold topK; omega)).mono ?_
  rintro e w1 ⟨rfl, hO2, hT⟩
  have hz1 := hT.size; try simp at hz1
  have H7 := hid (Own.tch (Own.alloc H7.out _) hT (fun x hx hm => E2_7.out x hm hx))
  have H8 := hid (Own.tch (Own.alloc H8.out _) hT (fun x hx hm => E2_8.out x hm hx))
  have hL : ∀ x ∈ b2, x < w.heap.size := fun x hm => L2.out x hm
  have hcc1 := fun o => hT.cell (p := ⟨w.heap.size, o, none⟩) (by simp; try omega) (fun hm => by have := hL _ hm; simp at this)
  have HT := hid ((HT.out.alloc _).trans (hT.mono (by simp +contextual)))
  have H2 := hid hO2
  clear hL hT hO2
  go_wp2_with fail
  refine (markIntS (lo := lo) H7.out (s + d.Grid.nkv) (by unfold topK; omega)).mono ?_
  rintro e w2 ⟨rfl, hO7, hT⟩
  have hz2 := hT.size; try simp at hz2
  have H2 := hid (Own.tch H2.out hT (fun x hx hm => E2_7.out x hx hm))
  have H8 := hid (Own.tch H8.out hT (fun x hx hm => E7_8.out x hm hx))
  have hL : ∀ x ∈ b7, x < w.heap.size := fun x hm => L7.out x hm
  have hcc2 := fun o => hT.cell (p := ⟨w.heap.size, o, none⟩) (by simp; try omega) (fun hm => by have := hL _ hm; simp at this)
  have HT := hid ((HT.out).trans (hT.mono (by simp +contextual)))
  have H7 := hid hO7
  clear hL hT hO7
  go_wp2_with fail
  refine (markByteS (lo := lo) H8.out (s + d.Grid.nkv + Mk.nE d.Args) (by unfold topK; omega)).mono ?_
  rintro e w3 ⟨rfl, hO8, hT⟩
  have hz3 := hT.size; try simp at hz3
  have H2 := hid (Own.tch H2.out hT (fun x hx hm => E2_8.out x hx hm))
  have H7 := hid (Own.tch H7.out hT (fun x hx hm => E7_8.out x hx hm))
  have hL : ∀ x ∈ b8, x < w.heap.size := fun x hm => L8.out x hm
  have hcc3 := fun o => hT.cell (p := ⟨w.heap.size, o, none⟩) (by simp; try omega) (fun hm => by have := hL _ hm; simp at this)
  have HT := hid ((HT.out).trans (hT.mono (by simp +contextual)))
  have H8 := hid hO8
  clear hL hT hO8
  go_wp2
  go_ret
  exact ⟨ret_int (by have e : d.nkv = d.Grid.nkv + Mk.nE d.Args + Mk.nE d.Part := rfl; omega), H2.out, H7.out, H8.out, HT.out⟩
theorem heldVt {w : World} {bs : List Nat} {cs : List Value} {d : VtD} (s : Nat) (h : Rep.pt w bs cs (d.mkv s)) (hs : s + d.nkv ≤ topK) :
    Calls Try.prog 32 #[.agg cs.toArray, .int .i64 (s : Int)] w fun e w' => e = .returned (.int .i64 ((s + d.nkv : Nat) : Int)) ∧ Below w.heap.size w w' := by
  have hs : s + (d.Grid.nkv + Mk.nE d.Args + Mk.nE d.Part) ≤ topK := hs
  unfold topK at hs
  obtain ⟨b2, b7, b8, a2, l2, k2, a7, l7, k7, a8, l8, k8, rfl, rfl, h0, h1, h2, h3, h4, h6, h7, h8, h9⟩ := open_Vt h
  go_enter Try.func32, Try.ntmps32
  have Hb : Hid (Below w.heap.size w w) := hid (Below.refl _ _)
  go_wp2_with fail
  refine (heldGrid (d := d.Grid) (s) (grow (mk_Grid (d := d.Grid.mkv (s)) h0 h1 h2 h3 h4) ?_) (by unfold topK; omega)).mono ?_
  · (repeat (first | refine Below.setCell ?_ (by simp; try omega) _ | refine Below.alloc ?_ (by simp; try omega) _ | exact Below.refl _ _ | exact Hb.out))
  rintro e w1 ⟨rfl, hb⟩
  have hz1 := hb.size
  try simp at hz1
  have hb0 : Below w.heap.size w w1 := by
    refine below_call ?_ hb
    (repeat (first | refine Below.setCell ?_ (by simp; try omega) _ | refine Below.alloc ?_ (by simp; try omega) _ | exact Below.refl _ _ | exact Hb.out))
  obtain ⟨hc1, hf1⟩ := bcell hb
  have Hb := hid hb0
  clear hb hb0
  go_wp2_with fail
  refine (heldIntS (s + d.Grid.nkv) (xs := d.Args) (Slc.grow h7 ?_) (by unfold topK; omega)).mono ?_
  · (repeat (first | refine Below.setCell ?_ (by simp; try omega) _ | refine Below.alloc ?_ (by simp; try omega) _ | exact Below.refl _ _ | exact Hb.out))
  rintro e w2 ⟨rfl, hb⟩
  have hz2 := hb.size
  try simp at hz2
  have hb0 : Below w.heap.size w w2 := by
    refine below_call ?_ hb
    (repeat (first | refine Below.setCell ?_ (by simp; try omega) _ | refine Below.alloc ?_ (by simp; try omega) _ | exact Below.refl _ _ | exact Hb.out))
  obtain ⟨hc2, hf2⟩ := bcell hb
  have Hb := hid hb0
  clear hb hb0
  have hcA2 := fun o => hc2 w.heap.size o (by omega)
  go_wp2_with fail
  refine (heldByteS (s + d.Grid.nkv + Mk.nE d.Args) (xs := d.Part) (Slc.grow h8 ?_) (by unfold topK; omega)).mono ?_
  · (repeat (first | refine Below.setCell ?_ (by simp; try omega) _ | refine Below.alloc ?_ (by simp; try omega) _ | exact Below.refl _ _ | exact Hb.out))
  rintro e w3 ⟨rfl, hb⟩
  have hz3 := hb.size
  try simp at hz3
  have hb0 : Below w.heap.size w w3 := by
    refine below_call ?_ hb
    (repeat (first | refine Below.setCell ?_ (by simp; try omega) _ | refine Below.alloc ?_ (by simp; try omega) _ | exact Below.refl _ _ | exact Hb.out))
  obtain ⟨hc3, hf3⟩ := bcell hb
  have Hb := hid hb0
  clear hb hb0
  have hcA3 := fun o => hc3 w.heap.size o (by omega)
  go_wp2
  go_ret
  exact ⟨ret_int (by have e : d.nkv = d.Grid.nkv + Mk.nE d.Args + Mk.nE d.Part := rfl; omega), Hb.out⟩
set_option maxHeartbeats 1600000 in
theorem toEntry {w : World} {bs : List Nat} {cs : List Value} {d : EntryD} (h : Rep.pt w bs cs d) :
    Calls Try.prog 124 #[.agg cs.toArray] w (RetA w d) := by
  obtain ⟨rfl, rfl, h0, h1⟩ := open_Entry h
  go_enter Try.func124, Try.ntmps124
  have Hb : Hid (Below w.heap.size w w) := hid (Below.refl _ _)
  go_wp2
  refine bodyPost_ret (v := .agg #[.int .i64 d.Num, .string d.Text]) (by simp [results, Try.results124, go_sem]) rfl ?_
  refine ⟨[.int .i64 d.Num, .string d.Text], [], rfl, ?_, ?_⟩
  · refine own_Entry h0 h1 
  · (repeat (first | refine Below.setCell ?_ (by simp; try omega) _ | refine Below.alloc ?_ (by simp; try omega) _ | exact Below.refl _ _ | exact Hb.out))
theorem eqEntry {w : World} {bs bs2 : List Nat} {cs cs2 : List Value} {d : EntryD} (g1 : Rep.pt w bs cs d) (g2 : Rep.pt w bs2 cs2 d) :
    Calls Try.prog 127 #[.agg cs.toArray, .agg cs2.toArray] w fun e w' => e = .returned (.bool true) ∧ Below w.heap.size w w' := by
  obtain ⟨rfl, rfl, h0, h1⟩ := open_Entry g1
  obtain ⟨rfl, rfl, h0', h1'⟩ := open_Entry g2
  go_enter Try.func127, Try.ntmps127
  have Hb : Hid (Below w.heap.size w w) := hid (Below.refl _ _)
  go_wp2
  go_ret
  exact ⟨rfl, (by repeat (first | refine Below.setCell ?_ (by simp; try omega) _ | refine Below.alloc ?_ (by simp; try omega) _ | exact Below.refl _ _ | exact Hb.out))⟩
theorem szEntry {w : World} {bs : List Nat} {cs : List Value} {d : EntryD} (left : Int) (h : Rep.pt w bs cs d) (hl : 0 ≤ left) (hl2 : left ≤ 1048576) :
    Calls Try.prog 121 #[.agg cs.toArray, .int .i64 left] w fun e w' => e = .returned (.int .i64 (szr left (Cnt.cnt d))) ∧ Below w.heap.size w w' := by
  obtain ⟨rfl, rfl, h0, h1⟩ := open_Entry h
  have hcnt : Cnt.cnt d = Cnt.cnt d.Text := rfl
  have Hcnt := hid hcnt; clear hcnt
  go_enter Try.func121, Try.ntmps121
  have Hb : Hid (Below w.heap.size w w) := hid (Below.refl _ _)
  have hcs0 : Cnt.cnt d.Text = d.Text.size := rfl
  have hmx0 : d.Text.size ≤ 9223372036854775807 := by first | assumption | (simp only [maxLen] at *; assumption) | (unfold maxLen at *; omega)
  by_cases hle0 : (d.Text.size : Int) ≤ left
  rotate_left
  · go_wp2
    go_ret
    exact ⟨ret_int (by have := Hcnt.out; rw [szr_neg (by omega)]), (by repeat (first | refine Below.setCell ?_ (by simp; try omega) _ | refine Below.alloc ?_ (by simp; try omega) _ | exact Below.refl _ _ | exact Hb.out))⟩
  go_wp2
  go_ret
  exact ⟨ret_int (by have := Hcnt.out; rw [szr_pos (by omega)]; omega), (by repeat (first | refine Below.setCell ?_ (by simp; try omega) _ | refine Below.alloc ?_ (by simp; try omega) _ | exact Below.refl _ _ | exact Hb.out))⟩
set_option maxHeartbeats 1600000 in
theorem toNode {w : World} {bs : List Nat} {cs : List Value} {d : NodeD} (h : Rep.pt w bs cs d) (hn : Cnt.cnt d ≤ 1048576) :
    Calls Try.prog 203 #[.agg cs.toArray] w (RetA w d) := by
  obtain ⟨b1, b2, a1, l1, k1, a2, l2, k2, rfl, rfl, h0, h1, h2⟩ := open_Node h
  have hn : Cnt.cnt d.Body + Cnt.cnt d.Safe ≤ 1048576 := hn
  go_enter Try.func203, Try.ntmps203
  have Hb : Hid (Below w.heap.size w w) := hid (Below.refl _ _)
  go_wp2_with fail
  refine (toByteS (Slc.grow h1 ?_) (by first | exact hn | omega | (have := hn; simp only [cnt_ints, cnt_bytes, cnt_list] at this; omega))).mono ?_
  · (repeat (first | refine Below.setCell ?_ (by simp; try omega) _ | refine Below.alloc ?_ (by simp; try omega) _ | exact Below.refl _ _ | exact Hb.out))
  rintro e w1 ⟨a1', l1', k1', b1', rfl, hO, hb⟩
  have hz1 := hb.size
  try simp at hz1
  have hb0 : Below w.heap.size w w1 := by
    refine below_call ?_ hb
    (repeat (first | refine Below.setCell ?_ (by simp; try omega) _ | refine Below.alloc ?_ (by simp; try omega) _ | exact Below.refl _ _ | exact Hb.out))
  obtain ⟨hc1, hf1⟩ := bcell hb
  have HN1 : ∀ b ∈ b1', _ ∧ b < w1.heap.size := fun b hb => hO.lts b hb
  simp at HN1
  have HO1 := hid (hO.mono (lo' := w.heap.size) (by simp; omega))
  have Hb := hid hb0
  clear hb hb0 hO
  go_wp2_with fail
  refine (toByteS (Slc.grow h2 ?_) (by first | exact hn | omega | (have := hn; simp only [cnt_ints, cnt_bytes, cnt_list] at this; omega))).mono ?_
  · (repeat (first | refine Below.setCell ?_ (by simp; try omega) _ | refine Below.alloc ?_ (by simp; try omega) _ | exact Below.refl _ _ | exact Hb.out))
  rintro e w2 ⟨a2', l2', k2', b2', rfl, hO, hb⟩
  have hz2 := hb.size
  try simp at hz2
  have hb0 : Below w.heap.size w w2 := by
    refine below_call ?_ hb
    (repeat (first | refine Below.setCell ?_ (by simp; try omega) _ | refine Below.alloc ?_ (by simp; try omega) _ | exact Below.refl _ _ | exact Hb.out))
  obtain ⟨hc2, hf2⟩ := bcell hb
  have hcA2 := fun o => hc2 (w.heap.size) o (by simp; omega)
  have hfA2 := fun o => hf2 (w.heap.size) o (by simp; omega)
  have hcB2 := fun o => hc2 (w.heap.size + 1) o (by simp; omega)
  have hfB2 := fun o => hf2 (w.heap.size + 1) o (by simp; omega)
  have hcC2 := fun o => hc2 (w.heap.size + 1 + 1) o (by simp; omega)
  have hfC2 := fun o => hf2 (w.heap.size + 1 + 1) o (by simp; omega)
  have HO1 : Hid (Own w.heap.size w2 b1' [.slice a1' l1' k1'] d.Body) := by
    refine hid (Own.grow ?_ hb)
    repeat (first | refine Own.setCell' _ ?_ (fun b hb => by have := HN1 b hb; simp; omega) | exact HO1.out)
  have HN2 : ∀ b ∈ b2', _ ∧ b < w2.heap.size := fun b hb => hO.lts b hb
  simp at HN2
  have HO2 := hid (hO.mono (lo' := w.heap.size) (by simp; omega))
  have Hb := hid hb0
  clear hb hb0 hO
  go_wp2
  refine bodyPost_ret (v := .agg #[.int .i64 d.Id, .slice a1' l1' k1', .slice a2' l2' k2']) (by simp [results, Try.results203, go_sem, hc1, hc2, hcA2, hcB2, hcC2]) rfl ?_
  refine ⟨[.int .i64 d.Id, .slice a1' l1' k1', .slice a2' l2' k2'], b1' ++ b2', rfl, ?_, ?_⟩
  · refine own_Node h0 ?o1 ?o2 ?e1_2
    case o1 => repeat (first | refine Own.setCell' _ ?_ (fun b hb => by have := HN1 b hb; simp; omega) | exact HO1.out | refine Own.grow ?_ (by assumption))
    case o2 => repeat (first | refine Own.setCell' _ ?_ (fun b hb => by have := HN2 b hb; simp; omega) | exact HO2.out | refine Own.grow ?_ (by assumption))
    case e1_2 => first | exact E1_2.out | exact fun x hx hx' => by have := HN1 x hx; have := HN2 x hx'; omega
  · (repeat (first | refine Below.setCell ?_ (by simp; try omega) _ | refine Below.alloc ?_ (by simp; try omega) _ | exact Below.refl _ _ | exact Hb.out))
theorem eqNode {w : World} {bs bs2 : List Nat} {cs cs2 : List Value} {d : NodeD} (g1 : Rep.pt w bs cs d) (g2 : Rep.pt w bs2 cs2 d) :
    Calls Try.prog 197 #[.agg cs.toArray, .agg cs2.toArray] w fun e w' => e = .returned (.bool true) ∧ Below w.heap.size w w' := by
  obtain ⟨b1, b2, a1, l1, k1, a2, l2, k2, rfl, rfl, h0, h1, h2⟩ := open_Node g1
  obtain ⟨b1', b2', a1', l1', k1', a2', l2', k2', rfl, rfl, h0', h1', h2'⟩ := open_Node g2
  go_enter Try.func197, Try.ntmps197
  have Hb : Hid (Below w.heap.size w w) := hid (Below.refl _ _)
  go_wp2_with fail
  refine (eqByteS (Slc.grow h1 ?_) (Slc.grow h1' ?_)).mono ?_
  · (repeat (first | refine Below.setCell ?_ (by simp; try omega) _ | refine Below.alloc ?_ (by simp; try omega) _ | exact Below.refl _ _ | exact Hb.out))
  · (repeat (first | refine Below.setCell ?_ (by simp; try omega) _ | refine Below.alloc ?_ (by simp; try omega) _ | exact Below.refl _ _ | exact Hb.out))
  rintro e w1 ⟨rfl, hb⟩
  have hz1 := hb.size
  try simp at hz1
  have hb0 : Below w.heap.size w w1 := by
    refine below_call ?_ hb
    (repeat (first | refine Below.setCell ?_ (by simp; try omega) _ | refine Below.alloc ?_ (by simp; try omega) _ | exact Below.refl _ _ | exact Hb.out))
  obtain ⟨hc1, hf1⟩ := bcell hb
  have Hb := hid hb0
  clear hb hb0
  go_wp2_with fail
  refine (eqByteS (Slc.grow h2 ?_) (Slc.grow h2' ?_)).mono ?_
  · (repeat (first | refine Below.setCell ?_ (by simp; try omega) _ | refine Below.alloc ?_ (by simp; try omega) _ | exact Below.refl _ _ | exact Hb.out))
  · (repeat (first | refine Below.setCell ?_ (by simp; try omega) _ | refine Below.alloc ?_ (by simp; try omega) _ | exact Below.refl _ _ | exact Hb.out))
  rintro e w2 ⟨rfl, hb⟩
  have hz2 := hb.size
  try simp at hz2
  have hb0 : Below w.heap.size w w2 := by
    refine below_call ?_ hb
    (repeat (first | refine Below.setCell ?_ (by simp; try omega) _ | refine Below.alloc ?_ (by simp; try omega) _ | exact Below.refl _ _ | exact Hb.out))
  obtain ⟨hc2, hf2⟩ := bcell hb
  have Hb := hid hb0
  clear hb hb0
  have hcA2 := fun o => hc2 w.heap.size o (by omega)
  have hcB2 := fun o => hc2 (w.heap.size + 1) o (by omega)
  go_wp2
  go_ret
  exact ⟨rfl, Hb.out⟩
theorem szNode {w : World} {bs : List Nat} {cs : List Value} {d : NodeD} (left : Int) (h : Rep.pt w bs cs d) (hl : 0 ≤ left) (hl2 : left ≤ 1048576) :
    Calls Try.prog 200 #[.agg cs.toArray, .int .i64 left] w fun e w' => e = .returned (.int .i64 (szr left (Cnt.cnt d))) ∧ Below w.heap.size w w' := by
  obtain ⟨b1, b2, a1, l1, k1, a2, l2, k2, rfl, rfl, h0, h1, h2⟩ := open_Node h
  have hcnt : Cnt.cnt d = Cnt.cnt d.Body + Cnt.cnt d.Safe := rfl
  have Hcnt := hid hcnt; clear hcnt
  go_enter Try.func200, Try.ntmps200
  have Hb : Hid (Below w.heap.size w w) := hid (Below.refl _ _)
  go_wp2_with fail
  refine (szByteS (left) (Slc.grow h1 ?_) (by omega) (by omega)).mono ?_
  · (repeat (first | refine Below.setCell ?_ (by simp; try omega) _ | refine Below.alloc ?_ (by simp; try omega) _ | exact Below.refl _ _ | exact Hb.out))
  rintro e w1 ⟨rfl, hb⟩
  have hz1 := hb.size
  try simp at hz1
  have hb0 : Below w.heap.size w w1 := by
    refine below_call ?_ hb
    (repeat (first | refine Below.setCell ?_ (by simp; try omega) _ | refine Below.alloc ?_ (by simp; try omega) _ | exact Below.refl _ _ | exact Hb.out))
  obtain ⟨hc1, hf1⟩ := bcell hb
  have Hb := hid hb0
  clear hb hb0
  by_cases hle0 : (Cnt.cnt d.Body : Int) ≤ left
  rotate_left
  · rw [szr_neg (by omega)]
    go_wp2
    go_ret
    exact ⟨ret_int (by have := Hcnt.out; rw [szr_neg (by omega)]), Hb.out⟩
  rw [szr_pos hle0]
  go_wp2_with fail
  refine (szByteS (left - (Cnt.cnt d.Body : Int)) (Slc.grow h2 ?_) (by omega) (by omega)).mono ?_
  · (repeat (first | refine Below.setCell ?_ (by simp; try omega) _ | refine Below.alloc ?_ (by simp; try omega) _ | exact Below.refl _ _ | exact Hb.out))
  rintro e w2 ⟨rfl, hb⟩
  have hz2 := hb.size
  try simp at hz2
  have hb0 : Below w.heap.size w w2 := by
    refine below_call ?_ hb
    (repeat (first | refine Below.setCell ?_ (by simp; try omega) _ | refine Below.alloc ?_ (by simp; try omega) _ | exact Below.refl _ _ | exact Hb.out))
  obtain ⟨hc2, hf2⟩ := bcell hb
  have Hb := hid hb0
  clear hb hb0
  have hcA2 := fun o => hc2 w.heap.size o (by omega)
  by_cases hle1 : (Cnt.cnt d.Safe : Int) ≤ left - (Cnt.cnt d.Body : Int)
  rotate_left
  · rw [szr_neg (by omega)]
    go_wp2
    go_ret
    exact ⟨ret_int (by have := Hcnt.out; rw [szr_neg (by omega)]), Hb.out⟩
  rw [szr_pos hle1]
  go_wp2
  go_ret
  exact ⟨ret_int (by have := Hcnt.out; rw [szr_pos (by omega)]; omega), Hb.out⟩
set_option maxHeartbeats 1600000 in
theorem toLink {w : World} {bs : List Nat} {cs : List Value} {d : LinkD} (h : Rep.pt w bs cs d) :
    Calls Try.prog 204 #[.agg cs.toArray] w (RetA w d) := by
  obtain ⟨rfl, rfl, h0, h1⟩ := open_Link h
  go_enter Try.func204, Try.ntmps204
  have Hb : Hid (Below w.heap.size w w) := hid (Below.refl _ _)
  go_wp2
  refine bodyPost_ret (v := .agg #[.string d.Name, .int .i64 d.Id]) (by simp [results, Try.results204, go_sem]) rfl ?_
  refine ⟨[.string d.Name, .int .i64 d.Id], [], rfl, ?_, ?_⟩
  · refine own_Link h0 h1 
  · (repeat (first | refine Below.setCell ?_ (by simp; try omega) _ | refine Below.alloc ?_ (by simp; try omega) _ | exact Below.refl _ _ | exact Hb.out))
theorem eqLink {w : World} {bs bs2 : List Nat} {cs cs2 : List Value} {d : LinkD} (g1 : Rep.pt w bs cs d) (g2 : Rep.pt w bs2 cs2 d) :
    Calls Try.prog 198 #[.agg cs.toArray, .agg cs2.toArray] w fun e w' => e = .returned (.bool true) ∧ Below w.heap.size w w' := by
  obtain ⟨rfl, rfl, h0, h1⟩ := open_Link g1
  obtain ⟨rfl, rfl, h0', h1'⟩ := open_Link g2
  go_enter Try.func198, Try.ntmps198
  have Hb : Hid (Below w.heap.size w w) := hid (Below.refl _ _)
  go_wp2
  go_ret
  exact ⟨rfl, (by repeat (first | refine Below.setCell ?_ (by simp; try omega) _ | refine Below.alloc ?_ (by simp; try omega) _ | exact Below.refl _ _ | exact Hb.out))⟩
theorem szLink {w : World} {bs : List Nat} {cs : List Value} {d : LinkD} (left : Int) (h : Rep.pt w bs cs d) (hl : 0 ≤ left) (hl2 : left ≤ 1048576) :
    Calls Try.prog 201 #[.agg cs.toArray, .int .i64 left] w fun e w' => e = .returned (.int .i64 (szr left (Cnt.cnt d))) ∧ Below w.heap.size w w' := by
  obtain ⟨rfl, rfl, h0, h1⟩ := open_Link h
  have hcnt : Cnt.cnt d = Cnt.cnt d.Name := rfl
  have Hcnt := hid hcnt; clear hcnt
  go_enter Try.func201, Try.ntmps201
  have Hb : Hid (Below w.heap.size w w) := hid (Below.refl _ _)
  have hcs0 : Cnt.cnt d.Name = d.Name.size := rfl
  have hmx0 : d.Name.size ≤ 9223372036854775807 := by first | assumption | (simp only [maxLen] at *; assumption) | (unfold maxLen at *; omega)
  by_cases hle0 : (d.Name.size : Int) ≤ left
  rotate_left
  · go_wp2
    go_ret
    exact ⟨ret_int (by have := Hcnt.out; rw [szr_neg (by omega)]), (by repeat (first | refine Below.setCell ?_ (by simp; try omega) _ | refine Below.alloc ?_ (by simp; try omega) _ | exact Below.refl _ _ | exact Hb.out))⟩
  go_wp2
  go_ret
  exact ⟨ret_int (by have := Hcnt.out; rw [szr_pos (by omega)]; omega), (by repeat (first | refine Below.setCell ?_ (by simp; try omega) _ | refine Below.alloc ?_ (by simp; try omega) _ | exact Below.refl _ _ | exact Hb.out))⟩
set_option maxHeartbeats 1600000 in
theorem toTurn {w : World} {bs : List Nat} {cs : List Value} {d : TurnD} (h : Rep.pt w bs cs d) :
    Calls Try.prog 205 #[.agg cs.toArray] w (RetA w d) := by
  obtain ⟨rfl, rfl, h0, h1, h2, h3⟩ := open_Turn h
  go_enter Try.func205, Try.ntmps205
  have Hb : Hid (Below w.heap.size w w) := hid (Below.refl _ _)
  go_wp2
  refine bodyPost_ret (v := .agg #[.int .i64 d.Kind, .string d.Name, .string d.To, .int .i64 d.Id]) (by simp [results, Try.results205, go_sem]) rfl ?_
  refine ⟨[.int .i64 d.Kind, .string d.Name, .string d.To, .int .i64 d.Id], [], rfl, ?_, ?_⟩
  · refine own_Turn h0 h1 h2 h3 
  · (repeat (first | refine Below.setCell ?_ (by simp; try omega) _ | refine Below.alloc ?_ (by simp; try omega) _ | exact Below.refl _ _ | exact Hb.out))
theorem eqTurn {w : World} {bs bs2 : List Nat} {cs cs2 : List Value} {d : TurnD} (g1 : Rep.pt w bs cs d) (g2 : Rep.pt w bs2 cs2 d) :
    Calls Try.prog 199 #[.agg cs.toArray, .agg cs2.toArray] w fun e w' => e = .returned (.bool true) ∧ Below w.heap.size w w' := by
  obtain ⟨rfl, rfl, h0, h1, h2, h3⟩ := open_Turn g1
  obtain ⟨rfl, rfl, h0', h1', h2', h3'⟩ := open_Turn g2
  go_enter Try.func199, Try.ntmps199
  have Hb : Hid (Below w.heap.size w w) := hid (Below.refl _ _)
  go_wp2
  go_ret
  exact ⟨rfl, (by repeat (first | refine Below.setCell ?_ (by simp; try omega) _ | refine Below.alloc ?_ (by simp; try omega) _ | exact Below.refl _ _ | exact Hb.out))⟩
theorem szTurn {w : World} {bs : List Nat} {cs : List Value} {d : TurnD} (left : Int) (h : Rep.pt w bs cs d) (hl : 0 ≤ left) (hl2 : left ≤ 1048576) :
    Calls Try.prog 202 #[.agg cs.toArray, .int .i64 left] w fun e w' => e = .returned (.int .i64 (szr left (Cnt.cnt d))) ∧ Below w.heap.size w w' := by
  obtain ⟨rfl, rfl, h0, h1, h2, h3⟩ := open_Turn h
  have hcnt : Cnt.cnt d = Cnt.cnt d.Name + Cnt.cnt d.To := rfl
  have Hcnt := hid hcnt; clear hcnt
  go_enter Try.func202, Try.ntmps202
  have Hb : Hid (Below w.heap.size w w) := hid (Below.refl _ _)
  have hcs0 : Cnt.cnt d.Name = d.Name.size := rfl
  have hmx0 : d.Name.size ≤ 9223372036854775807 := by first | assumption | (simp only [maxLen] at *; assumption) | (unfold maxLen at *; omega)
  by_cases hle0 : (d.Name.size : Int) ≤ left
  rotate_left
  · go_wp2
    go_ret
    exact ⟨ret_int (by have := Hcnt.out; rw [szr_neg (by omega)]), (by repeat (first | refine Below.setCell ?_ (by simp; try omega) _ | refine Below.alloc ?_ (by simp; try omega) _ | exact Below.refl _ _ | exact Hb.out))⟩
  have hcs1 : Cnt.cnt d.To = d.To.size := rfl
  have hmx1 : d.To.size ≤ 9223372036854775807 := by first | assumption | (simp only [maxLen] at *; assumption) | (unfold maxLen at *; omega)
  by_cases hle1 : (d.To.size : Int) ≤ left - (d.Name.size : Int)
  rotate_left
  · go_wp2
    go_ret
    exact ⟨ret_int (by have := Hcnt.out; rw [szr_neg (by omega)]), (by repeat (first | refine Below.setCell ?_ (by simp; try omega) _ | refine Below.alloc ?_ (by simp; try omega) _ | exact Below.refl _ _ | exact Hb.out))⟩
  go_wp2
  go_ret
  exact ⟨ret_int (by have := Hcnt.out; rw [szr_pos (by omega)]; omega), (by repeat (first | refine Below.setCell ?_ (by simp; try omega) _ | refine Below.alloc ?_ (by simp; try omega) _ | exact Below.refl _ _ | exact Hb.out))⟩
end Go.Proofs.Ytffinfpnmohnaaa
