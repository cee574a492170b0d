/- Contracts of the laws' helpers on structures. -/
import Derived.Test.YtndhhongkigikaaHelpS
set_option linter.unusedSimpArgs false
set_option linter.unusedVariables false
namespace Go.Proofs.Ytndhhongkigikaa
open Go.RowKit Go.G6
set_option maxHeartbeats 800000
set_option maxRecDepth 10000
set_option maxHeartbeats 1600000 in
theorem toHist {w : World} {bs : List Nat} {cs : List Value} {d : HistD} (h : Rep.pt w bs cs d) (hn : Cnt.cnt d ≤ 1048576) :
    Calls Try.prog 41 #[.agg cs.toArray] w (RetA w d) := by
  obtain ⟨a1, l1, k1, rfl, h0, h1⟩ := open_Hist h
  have hn : Cnt.cnt d.Lines ≤ 1048576 := hn
  go_enter Try.func41, Try.ntmps41
  have Hb : Hid (Below w.heap.size w w) := hid (Below.refl _ _)
  go_wp2_with fail
  refine (toStringS (Slc.grow h1 ?_) (by first | exact hn | omega | (have := hn; simp only [cnt_ints, cnt_bytes, cnt_list] at this; omega))).mono ?_
  · (repeat (first | refine Below.setCell ?_ (by simp; try omega) _ | refine Below.alloc ?_ (by simp; try omega) _ | exact Below.refl _ _ | exact Hb.out))
  rintro e w1 ⟨a1', l1', k1', b1', rfl, hO, hb⟩
  have hz1 := hb.size
  try simp at hz1
  have hb0 : Below w.heap.size w w1 := by
    refine below_call ?_ hb
    (repeat (first | refine Below.setCell ?_ (by simp; try omega) _ | refine Below.alloc ?_ (by simp; try omega) _ | exact Below.refl _ _ | exact Hb.out))
  obtain ⟨hc1, hf1⟩ := bcell hb
  have HN1 : ∀ b ∈ b1', _ ∧ b < w1.heap.size := fun b hb => hO.lts b hb
  simp at HN1
  have HO1 := hid (hO.mono (lo' := w.heap.size) (by simp; omega))
  have Hb := hid hb0
  clear hb hb0 hO
  go_wp2
  refine bodyPost_ret (v := .agg #[.int .i64 d.First, .slice a1' l1' k1']) (by simp [results, Try.results41, go_sem, hc1]) rfl ?_
  refine ⟨[.int .i64 d.First, .slice a1' l1' k1'], b1', rfl, ?_, ?_⟩
  · refine own_Hist h0 ?o1 
    case o1 => repeat (first | refine Own.setCell' _ ?_ (fun b hb => by have := HN1 b hb; simp; omega) | exact HO1.out | refine Own.grow ?_ (by assumption))
  · (repeat (first | refine Below.setCell ?_ (by simp; try omega) _ | refine Below.alloc ?_ (by simp; try omega) _ | exact Below.refl _ _ | exact Hb.out))
theorem eqHist {w : World} {bs bs2 : List Nat} {cs cs2 : List Value} {d : HistD} (g1 : Rep.pt w bs cs d) (g2 : Rep.pt w bs2 cs2 d) :
    Calls Try.prog 43 #[.agg cs.toArray, .agg cs2.toArray] w fun e w' => e = .returned (.bool true) ∧ Below w.heap.size w w' := by
  obtain ⟨a1, l1, k1, rfl, h0, h1⟩ := open_Hist g1
  obtain ⟨a1', l1', k1', rfl, h0', h1'⟩ := open_Hist g2
  go_enter Try.func43, Try.ntmps43
  have Hb : Hid (Below w.heap.size w w) := hid (Below.refl _ _)
  go_wp2_with fail
  refine (eqStringS (Slc.grow h1 ?_) (Slc.grow h1' ?_)).mono ?_
  · (repeat (first | refine Below.setCell ?_ (by simp; try omega) _ | refine Below.alloc ?_ (by simp; try omega) _ | exact Below.refl _ _ | exact Hb.out))
  · (repeat (first | refine Below.setCell ?_ (by simp; try omega) _ | refine Below.alloc ?_ (by simp; try omega) _ | exact Below.refl _ _ | exact Hb.out))
  rintro e w1 ⟨rfl, hb⟩
  have hz1 := hb.size
  try simp at hz1
  have hb0 : Below w.heap.size w w1 := by
    refine below_call ?_ hb
    (repeat (first | refine Below.setCell ?_ (by simp; try omega) _ | refine Below.alloc ?_ (by simp; try omega) _ | exact Below.refl _ _ | exact Hb.out))
  obtain ⟨hc1, hf1⟩ := bcell hb
  have Hb := hid hb0
  clear hb hb0
  go_wp2
  go_ret
  exact ⟨rfl, Hb.out⟩
theorem szHist {w : World} {bs : List Nat} {cs : List Value} {d : HistD} (left : Int) (h : Rep.pt w bs cs d) (hl : 0 ≤ left) (hl2 : left ≤ 1048576) :
    Calls Try.prog 39 #[.agg cs.toArray, .int .i64 left] w fun e w' => e = .returned (.int .i64 (szr left (Cnt.cnt d))) ∧ Below w.heap.size w w' := by
  obtain ⟨a1, l1, k1, rfl, h0, h1⟩ := open_Hist h
  have hcnt : Cnt.cnt d = Cnt.cnt d.Lines := rfl
  have Hcnt := hid hcnt; clear hcnt
  go_enter Try.func39, Try.ntmps39
  have Hb : Hid (Below w.heap.size w w) := hid (Below.refl _ _)
  go_wp2_with fail
  refine (szStringS (left) (Slc.grow h1 ?_) (by omega) (by omega)).mono ?_
  · (repeat (first | refine Below.setCell ?_ (by simp; try omega) _ | refine Below.alloc ?_ (by simp; try omega) _ | exact Below.refl _ _ | exact Hb.out))
  rintro e w1 ⟨rfl, hb⟩
  have hz1 := hb.size
  try simp at hz1
  have hb0 : Below w.heap.size w w1 := by
    refine below_call ?_ hb
    (repeat (first | refine Below.setCell ?_ (by simp; try omega) _ | refine Below.alloc ?_ (by simp; try omega) _ | exact Below.refl _ _ | exact Hb.out))
  obtain ⟨hc1, hf1⟩ := bcell hb
  have Hb := hid hb0
  clear hb hb0
  by_cases hle0 : (Cnt.cnt d.Lines : Int) ≤ left
  rotate_left
  · rw [szr_neg (by omega)]
    go_wp2
    go_ret
    exact ⟨ret_int (by have := Hcnt.out; rw [szr_neg (by omega)]), Hb.out⟩
  rw [szr_pos hle0]
  go_wp2
  go_ret
  exact ⟨ret_int (by have := Hcnt.out; rw [szr_pos (by omega)]; omega), Hb.out⟩
theorem markHist {lo : Nat} {w : World} {d : HistD} {b1 : List Nat} {a1 : Option Addr} {l1 k1 : Nat} (h1 : Own lo w b1 [.slice a1 l1 k1] d.Lines)  (s : Nat) (hs : s + d.nkv ≤ topK) :
    Calls Try.prog 44 #[.agg #[.int .i64 d.First, .slice a1 l1 k1], .int .i64 (s : Int)] w fun e w' => e = .returned (.int .i64 ((s + d.nkv : Nat) : Int)) ∧ Own lo w' b1 [.slice a1 l1 k1] (d.mkv s).Lines ∧ Tch (b1) w w' := by
  have hs : s + (Mk.nE d.Lines) ≤ topK := hs
  unfold topK at hs
  have L1 := hid (fun x hx => (h1.lts x hx).2); have H1 := hid h1; clear h1
  have HT : Hid (Tch (b1) w w) := hid (Tch.refl _ _)
  go_enter Try.func44, Try.ntmps44
  go_wp2_with fail
  refine (markStringS (lo := lo) (Own.alloc H1.out _) (s) (by unfold topK; omega)).mono ?_
  rintro e w1 ⟨rfl, hO1, hT⟩
  have hz1 := hT.size; try simp at hz1
  have hL : ∀ x ∈ b1, x < w.heap.size := fun x hm => L1.out x hm
  have hcc1 := fun o => hT.cell (p := ⟨w.heap.size, o, none⟩) (by simp; try omega) (fun hm => by have := hL _ hm; simp at this)
  have HT := hid ((HT.out.alloc _).trans (hT.mono (by simp +contextual)))
  have H1 := hid hO1
  clear hL hT hO1
  go_wp2
  go_ret
  exact ⟨ret_int (by have e : d.nkv = Mk.nE d.Lines := rfl; omega), H1.out, HT.out⟩
theorem heldHist {w : World} {bs : List Nat} {cs : List Value} {d : HistD} (s : Nat) (h : Rep.pt w bs cs (d.mkv s)) (hs : s + d.nkv ≤ topK) :
    Calls Try.prog 45 #[.agg cs.toArray, .int .i64 (s : Int)] w fun e w' => e = .returned (.int .i64 ((s + d.nkv : Nat) : Int)) ∧ Below w.heap.size w w' := by
  have hs : s + (Mk.nE d.Lines) ≤ topK := hs
  unfold topK at hs
  obtain ⟨a1, l1, k1, rfl, h0, h1⟩ := open_Hist h
  go_enter Try.func45, Try.ntmps45
  have Hb : Hid (Below w.heap.size w w) := hid (Below.refl _ _)
  go_wp2_with fail
  refine (heldStringS (s) (xs := d.Lines) (Slc.grow h1 ?_) (by unfold topK; omega)).mono ?_
  · (repeat (first | refine Below.setCell ?_ (by simp; try omega) _ | refine Below.alloc ?_ (by simp; try omega) _ | exact Below.refl _ _ | exact Hb.out))
  rintro e w1 ⟨rfl, hb⟩
  have hz1 := hb.size
  try simp at hz1
  have hb0 : Below w.heap.size w w1 := by
    refine below_call ?_ hb
    (repeat (first | refine Below.setCell ?_ (by simp; try omega) _ | refine Below.alloc ?_ (by simp; try omega) _ | exact Below.refl _ _ | exact Hb.out))
  obtain ⟨hc1, hf1⟩ := bcell hb
  have Hb := hid hb0
  clear hb hb0
  go_wp2
  go_ret
  exact ⟨ret_int (by have e : d.nkv = Mk.nE d.Lines := rfl; omega), Hb.out⟩
set_option maxHeartbeats 1600000 in
theorem toLine {w : World} {bs : List Nat} {cs : List Value} {d : LineD} (h : Rep.pt w bs cs d) (hn : Cnt.cnt d ≤ 1048576) :
    Calls Try.prog 17 #[.agg cs.toArray] w (RetA w d) := by
  obtain ⟨a0, l0, k0, rfl, h0, h1⟩ := open_Line h
  have hn : Cnt.cnt d.Text ≤ 1048576 := hn
  go_enter Try.func17, Try.ntmps17
  have Hb : Hid (Below w.heap.size w w) := hid (Below.refl _ _)
  go_wp2_with fail
  refine (toIntS (Slc.grow h0 ?_) (by first | exact hn | omega | (have := hn; simp only [cnt_ints, cnt_bytes, cnt_list] at this; omega))).mono ?_
  · (repeat (first | refine Below.setCell ?_ (by simp; try omega) _ | refine Below.alloc ?_ (by simp; try omega) _ | exact Below.refl _ _ | exact Hb.out))
  rintro e w1 ⟨a0', l0', k0', b0', rfl, hO, hb⟩
  have hz1 := hb.size
  try simp at hz1
  have hb0 : Below w.heap.size w w1 := by
    refine below_call ?_ hb
    (repeat (first | refine Below.setCell ?_ (by simp; try omega) _ | refine Below.alloc ?_ (by simp; try omega) _ | exact Below.refl _ _ | exact Hb.out))
  obtain ⟨hc1, hf1⟩ := bcell hb
  have HN0 : ∀ b ∈ b0', _ ∧ b < w1.heap.size := fun b hb => hO.lts b hb
  simp at HN0
  have HO0 := hid (hO.mono (lo' := w.heap.size) (by simp; omega))
  have Hb := hid hb0
  clear hb hb0 hO
  go_wp2
  refine bodyPost_ret (v := .agg #[.slice a0' l0' k0', .int .i64 d.At]) (by simp [results, Try.results17, go_sem, hc1]) rfl ?_
  refine ⟨[.slice a0' l0' k0', .int .i64 d.At], b0', rfl, ?_, ?_⟩
  · refine own_Line ?o0 h1 
    case o0 => repeat (first | refine Own.setCell' _ ?_ (fun b hb => by have := HN0 b hb; simp; omega) | exact HO0.out | refine Own.grow ?_ (by assumption))
  · (repeat (first | refine Below.setCell ?_ (by simp; try omega) _ | refine Below.alloc ?_ (by simp; try omega) _ | exact Below.refl _ _ | exact Hb.out))
theorem eqLine {w : World} {bs bs2 : List Nat} {cs cs2 : List Value} {d : LineD} (g1 : Rep.pt w bs cs d) (g2 : Rep.pt w bs2 cs2 d) :
    Calls Try.prog 19 #[.agg cs.toArray, .agg cs2.toArray] w fun e w' => e = .returned (.bool true) ∧ Below w.heap.size w w' := by
  obtain ⟨a0, l0, k0, rfl, h0, h1⟩ := open_Line g1
  obtain ⟨a0', l0', k0', rfl, h0', h1'⟩ := open_Line g2
  go_enter Try.func19, Try.ntmps19
  have Hb : Hid (Below w.heap.size w w) := hid (Below.refl _ _)
  go_wp2_with fail
  refine (eqIntS (Slc.grow h0 ?_) (Slc.grow h0' ?_)).mono ?_
  · (repeat (first | refine Below.setCell ?_ (by simp; try omega) _ | refine Below.alloc ?_ (by simp; try omega) _ | exact Below.refl _ _ | exact Hb.out))
  · (repeat (first | refine Below.setCell ?_ (by simp; try omega) _ | refine Below.alloc ?_ (by simp; try omega) _ | exact Below.refl _ _ | exact Hb.out))
  rintro e w1 ⟨rfl, hb⟩
  have hz1 := hb.size
  try simp at hz1
  have hb0 : Below w.heap.size w w1 := by
    refine below_call ?_ hb
    (repeat (first | refine Below.setCell ?_ (by simp; try omega) _ | refine Below.alloc ?_ (by simp; try omega) _ | exact Below.refl _ _ | exact Hb.out))
  obtain ⟨hc1, hf1⟩ := bcell hb
  have Hb := hid hb0
  clear hb hb0
  go_wp2
  go_ret
  exact ⟨rfl, Hb.out⟩
theorem szLine {w : World} {bs : List Nat} {cs : List Value} {d : LineD} (left : Int) (h : Rep.pt w bs cs d) (hl : 0 ≤ left) (hl2 : left ≤ 1048576) :
    Calls Try.prog 15 #[.agg cs.toArray, .int .i64 left] w fun e w' => e = .returned (.int .i64 (szr left (Cnt.cnt d))) ∧ Below w.heap.size w w' := by
  obtain ⟨a0, l0, k0, rfl, h0, h1⟩ := open_Line h
  have hcnt : Cnt.cnt d = Cnt.cnt d.Text := rfl
  have Hcnt := hid hcnt; clear hcnt
  go_enter Try.func15, Try.ntmps15
  have Hb : Hid (Below w.heap.size w w) := hid (Below.refl _ _)
  go_wp2_with fail
  refine (szIntS (left) (Slc.grow h0 ?_) (by omega) (by omega)).mono ?_
  · (repeat (first | refine Below.setCell ?_ (by simp; try omega) _ | refine Below.alloc ?_ (by simp; try omega) _ | exact Below.refl _ _ | exact Hb.out))
  rintro e w1 ⟨rfl, hb⟩
  have hz1 := hb.size
  try simp at hz1
  have hb0 : Below w.heap.size w w1 := by
    refine below_call ?_ hb
    (repeat (first | refine Below.setCell ?_ (by simp; try omega) _ | refine Below.alloc ?_ (by simp; try omega) _ | exact Below.refl _ _ | exact Hb.out))
  obtain ⟨hc1, hf1⟩ := bcell hb
  have Hb := hid hb0
  clear hb hb0
  by_cases hle0 : (Cnt.cnt d.Text : Int) ≤ left
  rotate_left
  · rw [szr_neg (by omega)]
    go_wp2
    go_ret
    exact ⟨ret_int (by have := Hcnt.out; rw [szr_neg (by omega)]), Hb.out⟩
  rw [szr_pos hle0]
  go_wp2
  go_ret
  exact ⟨ret_int (by have := Hcnt.out; rw [szr_pos (by omega)]; omega), Hb.out⟩
theorem markLine {lo : Nat} {w : World} {d : LineD} {b0 : List Nat} {a0 : Option Addr} {l0 k0 : Nat} (h0 : Own lo w b0 [.slice a0 l0 k0] d.Text)  (s : Nat) (hs : s + d.nkv ≤ topK) :
    Calls Try.prog 20 #[.agg #[.slice a0 l0 k0, .int .i64 d.At], .int .i64 (s : Int)] w fun e w' => e = .returned (.int .i64 ((s + d.nkv : Nat) : Int)) ∧ Own lo w' b0 [.slice a0 l0 k0] (d.mkv s).Text ∧ Tch (b0) w w' := by
  have hs : s + (Mk.nE d.Text) ≤ topK := hs
  unfold topK at hs
  have L0 := hid (fun x hx => (h0.lts x hx).2); have H0 := hid h0; clear h0
  have HT : Hid (Tch (b0) w w) := hid (Tch.refl _ _)
  go_enter Try.func20, Try.ntmps20
  go_wp2_with fail
  refine (markIntS (lo := lo) (Own.alloc H0.out _) (s) (by unfold topK; omega)).mono ?_
  rintro e w1 ⟨rfl, hO0, hT⟩
  have hz1 := hT.size; try simp at hz1
  have hL : ∀ x ∈ b0, x < w.heap.size := fun x hm => L0.out x hm
  have hcc1 := fun o => hT.cell (p := ⟨w.heap.size, o, none⟩) (by simp; try omega) (fun hm => by have := hL _ hm; simp at this)
  have HT := hid ((HT.out.alloc _).trans (hT.mono (by simp +contextual)))
  have H0 := hid hO0
  clear hL hT hO0
  go_wp2
  go_ret
  exact ⟨ret_int (by have e : d.nkv = Mk.nE d.Text := rfl; omega), H0.out, HT.out⟩
theorem heldLine {w : World} {bs : List Nat} {cs : List Value} {d : LineD} (s : Nat) (h : Rep.pt w bs cs (d.mkv s)) (hs : s + d.nkv ≤ topK) :
    Calls Try.prog 21 #[.agg cs.toArray, .int .i64 (s : Int)] w fun e w' => e = .returned (.int .i64 ((s + d.nkv : Nat) : Int)) ∧ Below w.heap.size w w' := by
  have hs : s + (Mk.nE d.Text) ≤ topK := hs
  unfold topK at hs
  obtain ⟨a0, l0, k0, rfl, h0, h1⟩ := open_Line h
  go_enter Try.func21, Try.ntmps21
  have Hb : Hid (Below w.heap.size w w) := hid (Below.refl _ _)
  go_wp2_with fail
  refine (heldIntS (s) (xs := d.Text) (Slc.grow h0 ?_) (by unfold topK; omega)).mono ?_
  · (repeat (first | refine Below.setCell ?_ (by simp; try omega) _ | refine Below.alloc ?_ (by simp; try omega) _ | exact Below.refl _ _ | exact Hb.out))
  rintro e w1 ⟨rfl, hb⟩
  have hz1 := hb.size
  try simp at hz1
  have hb0 : Below w.heap.size w w1 := by
    refine below_call ?_ hb
    (repeat (first | refine Below.setCell ?_ (by simp; try omega) _ | refine Below.alloc ?_ (by simp; try omega) _ | exact Below.refl _ _ | exact Hb.out))
  obtain ⟨hc1, hf1⟩ := bcell hb
  have Hb := hid hb0
  clear hb hb0
  go_wp2
  go_ret
  exact ⟨ret_int (by have e : d.nkv = Mk.nE d.Text := rfl; omega), Hb.out⟩
set_option maxHeartbeats 1600000 in
theorem toGrid {w : World} {bs : List Nat} {cs : List Value} {d : GridD} (h : Rep.pt w bs cs d) (hn : Cnt.cnt d ≤ 1048576) :
    Calls Try.prog 52 #[.agg cs.toArray] w (RetA w d) := by
  obtain ⟨a2, l2, k2, rfl, h0, h1, h2, h3, h4⟩ := open_Grid h
  have hn : Cnt.cnt d.Cells ≤ 1048576 := hn
  go_enter Try.func52, Try.ntmps52
  have Hb : Hid (Below w.heap.size w w) := hid (Below.refl _ _)
  go_wp2_with fail
  refine (toIntS (Slc.grow h2 ?_) (by first | exact hn | omega | (have := hn; simp only [cnt_ints, cnt_bytes, cnt_list] at this; omega))).mono ?_
  · (repeat (first | refine Below.setCell ?_ (by simp; try omega) _ | refine Below.alloc ?_ (by simp; try omega) _ | exact Below.refl _ _ | exact Hb.out))
  rintro e w1 ⟨a2', l2', k2', b2', rfl, hO, hb⟩
  have hz1 := hb.size
  try simp at hz1
  have hb0 : Below w.heap.size w w1 := by
    refine below_call ?_ hb
    (repeat (first | refine Below.setCell ?_ (by simp; try omega) _ | refine Below.alloc ?_ (by simp; try omega) _ | exact Below.refl _ _ | exact Hb.out))
  obtain ⟨hc1, hf1⟩ := bcell hb
  have HN2 : ∀ b ∈ b2', _ ∧ b < w1.heap.size := fun b hb => hO.lts b hb
  simp at HN2
  have HO2 := hid (hO.mono (lo' := w.heap.size) (by simp; omega))
  have Hb := hid hb0
  clear hb hb0 hO
  go_wp2
  refine bodyPost_ret (v := .agg #[.int .i64 d.W, .int .i64 d.H, .slice a2' l2' k2', .int .i64 d.X, .int .i64 d.Y, .bool d.Wrap]) (by simp [results, Try.results52, go_sem, hc1]) rfl ?_
  refine ⟨[.int .i64 d.W, .int .i64 d.H, .slice a2' l2' k2', .int .i64 d.X, .int .i64 d.Y, .bool d.Wrap], b2', rfl, ?_, ?_⟩
  · refine own_Grid h0 h1 ?o2 h3 h4 
    case o2 => repeat (first | refine Own.setCell' _ ?_ (fun b hb => by have := HN2 b hb; simp; omega) | exact HO2.out | refine Own.grow ?_ (by assumption))
  · (repeat (first | refine Below.setCell ?_ (by simp; try omega) _ | refine Below.alloc ?_ (by simp; try omega) _ | exact Below.refl _ _ | exact Hb.out))
theorem eqGrid {w : World} {bs bs2 : List Nat} {cs cs2 : List Value} {d : GridD} (g1 : Rep.pt w bs cs d) (g2 : Rep.pt w bs2 cs2 d) :
    Calls Try.prog 54 #[.agg cs.toArray, .agg cs2.toArray] w fun e w' => e = .returned (.bool true) ∧ Below w.heap.size w w' := by
  obtain ⟨a2, l2, k2, rfl, h0, h1, h2, h3, h4⟩ := open_Grid g1
  obtain ⟨a2', l2', k2', rfl, h0', h1', h2', h3', h4'⟩ := open_Grid g2
  go_enter Try.func54, Try.ntmps54
  have Hb : Hid (Below w.heap.size w w) := hid (Below.refl _ _)
  go_wp2_with fail
  refine (eqIntS (Slc.grow h2 ?_) (Slc.grow h2' ?_)).mono ?_
  · (repeat (first | refine Below.setCell ?_ (by simp; try omega) _ | refine Below.alloc ?_ (by simp; try omega) _ | exact Below.refl _ _ | exact Hb.out))
  · (repeat (first | refine Below.setCell ?_ (by simp; try omega) _ | refine Below.alloc ?_ (by simp; try omega) _ | exact Below.refl _ _ | exact Hb.out))
  rintro e w1 ⟨rfl, hb⟩
  have hz1 := hb.size
  try simp at hz1
  have hb0 : Below w.heap.size w w1 := by
    refine below_call ?_ hb
    (repeat (first | refine Below.setCell ?_ (by simp; try omega) _ | refine Below.alloc ?_ (by simp; try omega) _ | exact Below.refl _ _ | exact Hb.out))
  obtain ⟨hc1, hf1⟩ := bcell hb
  have Hb := hid hb0
  clear hb hb0
  go_wp2
  go_ret
  exact ⟨rfl, Hb.out⟩
theorem szGrid {w : World} {bs : List Nat} {cs : List Value} {d : GridD} (left : Int) (h : Rep.pt w bs cs d) (hl : 0 ≤ left) (hl2 : left ≤ 1048576) :
    Calls Try.prog 50 #[.agg cs.toArray, .int .i64 left] w fun e w' => e = .returned (.int .i64 (szr left (Cnt.cnt d))) ∧ Below w.heap.size w w' := by
  obtain ⟨a2, l2, k2, rfl, h0, h1, h2, h3, h4⟩ := open_Grid h
  have hcnt : Cnt.cnt d = Cnt.cnt d.Cells := rfl
  have Hcnt := hid hcnt; clear hcnt
  go_enter Try.func50, Try.ntmps50
  have Hb : Hid (Below w.heap.size w w) := hid (Below.refl _ _)
  go_wp2_with fail
  refine (szIntS (left) (Slc.grow h2 ?_) (by omega) (by omega)).mono ?_
  · (repeat (first | refine Below.setCell ?_ (by simp; try omega) _ | refine Below.alloc ?_ (by simp; try omega) _ | exact Below.refl _ _ | exact Hb.out))
  rintro e w1 ⟨rfl, hb⟩
  have hz1 := hb.size
  try simp at hz1
  have hb0 : Below w.heap.size w w1 := by
    refine below_call ?_ hb
    (repeat (first | refine Below.setCell ?_ (by simp; try omega) _ | refine Below.alloc ?_ (by simp; try omega) _ | exact Below.refl _ _ | exact Hb.out))
  obtain ⟨hc1, hf1⟩ := bcell hb
  have Hb := hid hb0
  clear hb hb0
  by_cases hle0 : (Cnt.cnt d.Cells : Int) ≤ left
  rotate_left
  · rw [szr_neg (by omega)]
    go_wp2
    go_ret
    exact ⟨ret_int (by have := Hcnt.out; rw [szr_neg (by omega)]), Hb.out⟩
  rw [szr_pos hle0]
  go_wp2
  go_ret
  exact ⟨ret_int (by have := Hcnt.out; rw [szr_pos (by omega)]; omega), Hb.out⟩
theorem markGrid {lo : Nat} {w : World} {d : GridD} {b2 : List Nat} {a2 : Option Addr} {l2 k2 : Nat} (h2 : Own lo w b2 [.slice a2 l2 k2] d.Cells)  (s : Nat) (hs : s + d.nkv ≤ topK) :
    Calls Try.prog 57 #[.agg #[.int .i64 d.W, .int .i64 d.H, .slice a2 l2 k2, .int .i64 d.X, .int .i64 d.Y, .bool d.Wrap], .int .i64 (s : Int)] w fun e w' => e = .returned (.int .i64 ((s + d.nkv : Nat) : Int)) ∧ Own lo w' b2 [.slice a2 l2 k2] (d.mkv s).Cells ∧ Tch (b2) w w' := by
  have hs : s + (Mk.nE d.Cells) ≤ topK := hs
  unfold topK at hs
  have L2 := hid (fun x hx => (h2.lts x hx).2); have H2 := hid h2; clear h2
  have HT : Hid (Tch (b2) w w) := hid (Tch.refl _ _)
  go_enter Try.func57, Try.ntmps57
  go_wp2_with fail
  refine (markIntS (lo := lo) (Own.alloc H2.out _) (s) (by unfold topK; omega)).mono ?_
  rintro e w1 ⟨rfl, hO2, hT⟩
  have hz1 := hT.size; try simp at hz1
  have hL : ∀ x ∈ b2, x < w.heap.size := fun x hm => L2.out x hm
  have hcc1 := fun o => hT.cell (p := ⟨w.heap.size, o, none⟩) (by simp; try omega) (fun hm => by have := hL _ hm; simp at this)
  have HT := hid ((HT.out.alloc _).trans (hT.mono (by simp +contextual)))
  have H2 := hid hO2
  clear hL hT hO2
  go_wp2
  go_ret
  exact ⟨ret_int (by have e : d.nkv = Mk.nE d.Cells := rfl; omega), H2.out, HT.out⟩
theorem heldGrid {w : World} {bs : List Nat} {cs : List Value} {d : GridD} (s : Nat) (h : Rep.pt w bs cs (d.mkv s)) (hs : s + d.nkv ≤ topK) :
    Calls Try.prog 58 #[.agg cs.toArray, .int .i64 (s : Int)] w fun e w' => e = .returned (.int .i64 ((s + d.nkv : Nat) : Int)) ∧ Below w.heap.size w w' := by
  have hs : s + (Mk.nE d.Cells) ≤ topK := hs
  unfold topK at hs
  obtain ⟨a2, l2, k2, rfl, h0, h1, h2, h3, h4⟩ := open_Grid h
  go_enter Try.func58, Try.ntmps58
  have Hb : Hid (Below w.heap.size w w) := hid (Below.refl _ _)
  go_wp2_with fail
  refine (heldIntS (s) (xs := d.Cells) (Slc.grow h2 ?_) (by unfold topK; omega)).mono ?_
  · (repeat (first | refine Below.setCell ?_ (by simp; try omega) _ | refine Below.alloc ?_ (by simp; try omega) _ | exact Below.refl _ _ | exact Hb.out))
  rintro e w1 ⟨rfl, hb⟩
  have hz1 := hb.size
  try simp at hz1
  have hb0 : Below w.heap.size w w1 := by
    refine below_call ?_ hb
    (repeat (first | refine Below.setCell ?_ (by simp; try omega) _ | refine Below.alloc ?_ (by simp; try omega) _ | exact Below.refl _ _ | exact Hb.out))
  obtain ⟨hc1, hf1⟩ := bcell hb
  have Hb := hid hb0
  clear hb hb0
  go_wp2
  go_ret
  exact ⟨ret_int (by have e : d.nkv = Mk.nE d.Cells := rfl; omega), Hb.out⟩
set_option maxHeartbeats 1600000 in
theorem toDec {w : World} {bs : List Nat} {cs : List Value} {d : DecD} (h : Rep.pt w bs cs d) (hn : Cnt.cnt d ≤ 1048576) :
    Calls Try.prog 70 #[.agg cs.toArray] w (RetA w d) := by
  obtain ⟨a1, l1, k1, rfl, h0, h1⟩ := open_Dec h
  have hn : Cnt.cnt d.Part ≤ 1048576 := hn
  go_enter Try.func70, Try.ntmps70
  have Hb : Hid (Below w.heap.size w w) := hid (Below.refl _ _)
  go_wp2_with fail
  refine (toByteS (Slc.grow h1 ?_) (by first | exact hn | omega | (have := hn; simp only [cnt_ints, cnt_bytes, cnt_list] at this; omega))).mono ?_
  · (repeat (first | refine Below.setCell ?_ (by simp; try omega) _ | refine Below.alloc ?_ (by simp; try omega) _ | exact Below.refl _ _ | exact Hb.out))
  rintro e w1 ⟨a1', l1', k1', b1', rfl, hO, hb⟩
  have hz1 := hb.size
  try simp at hz1
  have hb0 : Below w.heap.size w w1 := by
    refine below_call ?_ hb
    (repeat (first | refine Below.setCell ?_ (by simp; try omega) _ | refine Below.alloc ?_ (by simp; try omega) _ | exact Below.refl _ _ | exact Hb.out))
  obtain ⟨hc1, hf1⟩ := bcell hb
  have HN1 : ∀ b ∈ b1', _ ∧ b < w1.heap.size := fun b hb => hO.lts b hb
  simp at HN1
  have HO1 := hid (hO.mono (lo' := w.heap.size) (by simp; omega))
  have Hb := hid hb0
  clear hb hb0 hO
  go_wp2
  refine bodyPost_ret (v := .agg #[.int .i64 d.State, .slice a1' l1' k1']) (by simp [results, Try.results70, go_sem, hc1]) rfl ?_
  refine ⟨[.int .i64 d.State, .slice a1' l1' k1'], b1', rfl, ?_, ?_⟩
  · refine own_Dec h0 ?o1 
    case o1 => repeat (first | refine Own.setCell' _ ?_ (fun b hb => by have := HN1 b hb; simp; omega) | exact HO1.out | refine Own.grow ?_ (by assumption))
  · (repeat (first | refine Below.setCell ?_ (by simp; try omega) _ | refine Below.alloc ?_ (by simp; try omega) _ | exact Below.refl _ _ | exact Hb.out))
theorem eqDec {w : World} {bs bs2 : List Nat} {cs cs2 : List Value} {d : DecD} (g1 : Rep.pt w bs cs d) (g2 : Rep.pt w bs2 cs2 d) :
    Calls Try.prog 72 #[.agg cs.toArray, .agg cs2.toArray] w fun e w' => e = .returned (.bool true) ∧ Below w.heap.size w w' := by
  obtain ⟨a1, l1, k1, rfl, h0, h1⟩ := open_Dec g1
  obtain ⟨a1', l1', k1', rfl, h0', h1'⟩ := open_Dec g2
  go_enter Try.func72, Try.ntmps72
  have Hb : Hid (Below w.heap.size w w) := hid (Below.refl _ _)
  go_wp2_with fail
  refine (eqByteS (Slc.grow h1 ?_) (Slc.grow h1' ?_)).mono ?_
  · (repeat (first | refine Below.setCell ?_ (by simp; try omega) _ | refine Below.alloc ?_ (by simp; try omega) _ | exact Below.refl _ _ | exact Hb.out))
  · (repeat (first | refine Below.setCell ?_ (by simp; try omega) _ | refine Below.alloc ?_ (by simp; try omega) _ | exact Below.refl _ _ | exact Hb.out))
  rintro e w1 ⟨rfl, hb⟩
  have hz1 := hb.size
  try simp at hz1
  have hb0 : Below w.heap.size w w1 := by
    refine below_call ?_ hb
    (repeat (first | refine Below.setCell ?_ (by simp; try omega) _ | refine Below.alloc ?_ (by simp; try omega) _ | exact Below.refl _ _ | exact Hb.out))
  obtain ⟨hc1, hf1⟩ := bcell hb
  have Hb := hid hb0
  clear hb hb0
  go_wp2
  go_ret
  exact ⟨rfl, Hb.out⟩
theorem szDec {w : World} {bs : List Nat} {cs : List Value} {d : DecD} (left : Int) (h : Rep.pt w bs cs d) (hl : 0 ≤ left) (hl2 : left ≤ 1048576) :
    Calls Try.prog 68 #[.agg cs.toArray, .int .i64 left] w fun e w' => e = .returned (.int .i64 (szr left (Cnt.cnt d))) ∧ Below w.heap.size w w' := by
  obtain ⟨a1, l1, k1, rfl, h0, h1⟩ := open_Dec h
  have hcnt : Cnt.cnt d = Cnt.cnt d.Part := rfl
  have Hcnt := hid hcnt; clear hcnt
  go_enter Try.func68, Try.ntmps68
  have Hb : Hid (Below w.heap.size w w) := hid (Below.refl _ _)
  go_wp2_with fail
  refine (szByteS (left) (Slc.grow h1 ?_) (by omega) (by omega)).mono ?_
  · (repeat (first | refine Below.setCell ?_ (by simp; try omega) _ | refine Below.alloc ?_ (by simp; try omega) _ | exact Below.refl _ _ | exact Hb.out))
  rintro e w1 ⟨rfl, hb⟩
  have hz1 := hb.size
  try simp at hz1
  have hb0 : Below w.heap.size w w1 := by
    refine below_call ?_ hb
    (repeat (first | refine Below.setCell ?_ (by simp; try omega) _ | refine Below.alloc ?_ (by simp; try omega) _ | exact Below.refl _ _ | exact Hb.out))
  obtain ⟨hc1, hf1⟩ := bcell hb
  have Hb := hid hb0
  clear hb hb0
  by_cases hle0 : (Cnt.cnt d.Part : Int) ≤ left
  rotate_left
  · rw [szr_neg (by omega)]
    go_wp2
    go_ret
    exact ⟨ret_int (by have := Hcnt.out; rw [szr_neg (by omega)]), Hb.out⟩
  rw [szr_pos hle0]
  go_wp2
  go_ret
  exact ⟨ret_int (by have := Hcnt.out; rw [szr_pos (by omega)]; omega), Hb.out⟩
set_option maxHeartbeats 1600000 in
theorem toPiece {w : World} {bs : List Nat} {cs : List Value} {d : PieceD} (h : Rep.pt w bs cs d) (hn : Cnt.cnt d ≤ 1048576) :
    Calls Try.prog 142 #[.agg cs.toArray] w (RetA w d) := by
  obtain ⟨a0, l0, k0, rfl, h0⟩ := open_Piece h
  have hn : Cnt.cnt d.Text ≤ 1048576 := hn
  go_enter Try.func142, Try.ntmps142
  have Hb : Hid (Below w.heap.size w w) := hid (Below.refl _ _)
  go_wp2_with fail
  refine (toIntS (Slc.grow h0 ?_) (by first | exact hn | omega | (have := hn; simp only [cnt_ints, cnt_bytes, cnt_list] at this; omega))).mono ?_
  · (repeat (first | refine Below.setCell ?_ (by simp; try omega) _ | refine Below.alloc ?_ (by simp; try omega) _ | exact Below.refl _ _ | exact Hb.out))
  rintro e w1 ⟨a0', l0', k0', b0', rfl, hO, hb⟩
  have hz1 := hb.size
  try simp at hz1
  have hb0 : Below w.heap.size w w1 := by
    refine below_call ?_ hb
    (repeat (first | refine Below.setCell ?_ (by simp; try omega) _ | refine Below.alloc ?_ (by simp; try omega) _ | exact Below.refl _ _ | exact Hb.out))
  obtain ⟨hc1, hf1⟩ := bcell hb
  have HN0 : ∀ b ∈ b0', _ ∧ b < w1.heap.size := fun b hb => hO.lts b hb
  simp at HN0
  have HO0 := hid (hO.mono (lo' := w.heap.size) (by simp; omega))
  have Hb := hid hb0
  clear hb hb0 hO
  go_wp2
  refine bodyPost_ret (v := .agg #[.slice a0' l0' k0']) (by simp [results, Try.results142, go_sem, hc1]) rfl ?_
  refine ⟨[.slice a0' l0' k0'], b0', rfl, ?_, ?_⟩
  · refine own_Piece ?o0 
    case o0 => repeat (first | refine Own.setCell' _ ?_ (fun b hb => by have := HN0 b hb; simp; omega) | exact HO0.out | refine Own.grow ?_ (by assumption))
  · (repeat (first | refine Below.setCell ?_ (by simp; try omega) _ | refine Below.alloc ?_ (by simp; try omega) _ | exact Below.refl _ _ | exact Hb.out))
theorem eqPiece {w : World} {bs bs2 : List Nat} {cs cs2 : List Value} {d : PieceD} (g1 : Rep.pt w bs cs d) (g2 : Rep.pt w bs2 cs2 d) :
    Calls Try.prog 144 #[.agg cs.toArray, .agg cs2.toArray] w fun e w' => e = .returned (.bool true) ∧ Below w.heap.size w w' := by
  obtain ⟨a0, l0, k0, rfl, h0⟩ := open_Piece g1
  obtain ⟨a0', l0', k0', rfl, h0'⟩ := open_Piece g2
  go_enter Try.func144, Try.ntmps144
  have Hb : Hid (Below w.heap.size w w) := hid (Below.refl _ _)
  go_wp2_with fail
  refine (eqIntS (Slc.grow h0 ?_) (Slc.grow h0' ?_)).mono ?_
  · (repeat (first | refine Below.setCell ?_ (by simp; try omega) _ | refine Below.alloc ?_ (by simp; try omega) _ | exact Below.refl _ _ | exact Hb.out))
  · (repeat (first | refine Below.setCell ?_ (by simp; try omega) _ | refine Below.alloc ?_ (by simp; try omega) _ | exact Below.refl _ _ | exact Hb.out))
  rintro e w1 ⟨rfl, hb⟩
  have hz1 := hb.size
  try simp at hz1
  have hb0 : Below w.heap.size w w1 := by
    refine below_call ?_ hb
    (repeat (first | refine Below.setCell ?_ (by simp; try omega) _ | refine Below.alloc ?_ (by simp; try omega) _ | exact Below.refl _ _ | exact Hb.out))
  obtain ⟨hc1, hf1⟩ := bcell hb
  have Hb := hid hb0
  clear hb hb0
  go_wp2
  go_ret
  exact ⟨rfl, Hb.out⟩
theorem szPiece {w : World} {bs : List Nat} {cs : List Value} {d : PieceD} (left : Int) (h : Rep.pt w bs cs d) (hl : 0 ≤ left) (hl2 : left ≤ 1048576) :
    Calls Try.prog 141 #[.agg cs.toArray, .int .i64 left] w fun e w' => e = .returned (.int .i64 (szr left (Cnt.cnt d))) ∧ Below w.heap.size w w' := by
  obtain ⟨a0, l0, k0, rfl, h0⟩ := open_Piece h
  have hcnt : Cnt.cnt d = Cnt.cnt d.Text := rfl
  have Hcnt := hid hcnt; clear hcnt
  go_enter Try.func141, Try.ntmps141
  have Hb : Hid (Below w.heap.size w w) := hid (Below.refl _ _)
  go_wp2_with fail
  refine (szIntS (left) (Slc.grow h0 ?_) (by omega) (by omega)).mono ?_
  · (repeat (first | refine Below.setCell ?_ (by simp; try omega) _ | refine Below.alloc ?_ (by simp; try omega) _ | exact Below.refl _ _ | exact Hb.out))
  rintro e w1 ⟨rfl, hb⟩
  have hz1 := hb.size
  try simp at hz1
  have hb0 : Below w.heap.size w w1 := by
    refine below_call ?_ hb
    (repeat (first | refine Below.setCell ?_ (by simp; try omega) _ | refine Below.alloc ?_ (by simp; try omega) _ | exact Below.refl _ _ | exact Hb.out))
  obtain ⟨hc1, hf1⟩ := bcell hb
  have Hb := hid hb0
  clear hb hb0
  by_cases hle0 : (Cnt.cnt d.Text : Int) ≤ left
  rotate_left
  · rw [szr_neg (by omega)]
    go_wp2
    go_ret
    exact ⟨ret_int (by have := Hcnt.out; rw [szr_neg (by omega)]), Hb.out⟩
  rw [szr_pos hle0]
  go_wp2
  go_ret
  exact ⟨ret_int (by have := Hcnt.out; rw [szr_pos (by omega)]; omega), Hb.out⟩
end Go.Proofs.Ytndhhongkigikaa
