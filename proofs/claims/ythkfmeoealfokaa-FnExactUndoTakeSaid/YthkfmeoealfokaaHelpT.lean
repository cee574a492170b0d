/- Contracts of the laws' helpers on structures. -/
import Derived.Test.YthkfmeoealfokaaHelpS
set_option linter.unusedSimpArgs false
set_option linter.unusedVariables false
namespace Go.Proofs.Ythkfmeoealfokaa
open Go.RowKit Go.G6
set_option maxHeartbeats 800000
set_option maxRecDepth 10000
theorem eqHist {w : World} {bs bs2 : List Nat} {cs cs2 : List Value} {d : HistD} (g1 : Rep.pt w bs cs d) (g2 : Rep.pt w bs2 cs2 d) :
    Calls Try.prog 53 #[.agg cs.toArray, .agg cs2.toArray] w fun e w' => e = .returned (.bool true) ∧ Below w.heap.size w w' := by
  obtain ⟨a1, l1, k1, rfl, h0, h1⟩ := open_Hist g1
  obtain ⟨a1', l1', k1', rfl, h0', h1'⟩ := open_Hist g2
  go_enter Try.func53, Try.ntmps53
  have Hb : Hid (Below w.heap.size w w) := hid (Below.refl _ _)
  go_wp2_with fail
  refine (eqStringS (Slc.grow h1 ?_) (Slc.grow h1' ?_)).mono ?_
  · (repeat (first | refine Below.setCell ?_ (by simp; try omega) _ | refine Below.alloc ?_ (by simp; try omega) _ | exact Below.refl _ _ | exact Hb.out))
  · (repeat (first | refine Below.setCell ?_ (by simp; try omega) _ | refine Below.alloc ?_ (by simp; try omega) _ | exact Below.refl _ _ | exact Hb.out))
  rintro e w1 ⟨rfl, hb⟩
  have hz1 := hb.size
  try simp at hz1
  have hb0 : Below w.heap.size w w1 := by
    refine below_call ?_ hb
    (repeat (first | refine Below.setCell ?_ (by simp; try omega) _ | refine Below.alloc ?_ (by simp; try omega) _ | exact Below.refl _ _ | exact Hb.out))
  obtain ⟨hc1, hf1⟩ := bcell hb
  have Hb := hid hb0
  clear hb hb0
  go_wp2
  go_ret
  exact ⟨rfl, Hb.out⟩
theorem markHist {lo : Nat} {w : World} {d : HistD} {b1 : List Nat} {a1 : Option Addr} {l1 k1 : Nat} (h1 : Own lo w b1 [.slice a1 l1 k1] d.Lines)  (s : Nat) (hs : s + d.nkv ≤ topK) :
    Calls Try.prog 56 #[.agg #[.int .i64 d.First, .slice a1 l1 k1], .int .i64 (s : Int)] w fun e w' => e = .returned (.int .i64 ((s + d.nkv : Nat) : Int)) ∧ Own lo w' b1 [.slice a1 l1 k1] (d.mkv s).Lines ∧ Tch (b1) w w' := by
  have hs : s + (Mk.nE d.Lines) ≤ topK := hs
  unfold topK at hs
  have L1 := hid (fun x hx => (h1.lts x hx).2); have H1 := hid h1; clear h1
  have HT : Hid (Tch (b1) w w) := hid (Tch.refl _ _)
  go_enter Try.func56, Try.ntmps56
  go_wp2_with fail
  refine (markStringS (lo := lo) (Own.alloc H1.out _) (s) (by unfold topK; omega)).mono ?_
  rintro e w1 ⟨rfl, hO1, hT⟩
  have hz1 := hT.size; try simp at hz1
  have hL : ∀ x ∈ b1, x < w.heap.size := fun x hm => L1.out x hm
  have hcc1 := fun o => hT.cell (p := ⟨w.heap.size, o, none⟩) (by simp; try omega) (fun hm => by have := hL _ hm; simp at this)
  have HT := hid ((HT.out.alloc _).trans (hT.mono (by simp +contextual)))
  have H1 := hid hO1
  clear hL hT hO1
  go_wp2
  go_ret
  exact ⟨ret_int (by have e : d.nkv = Mk.nE d.Lines := rfl; omega), H1.out, HT.out⟩
theorem heldHist {w : World} {bs : List Nat} {cs : List Value} {d : HistD} (s : Nat) (h : Rep.pt w bs cs (d.mkv s)) (hs : s + d.nkv ≤ topK) :
    Calls Try.prog 57 #[.agg cs.toArray, .int .i64 (s : Int)] w fun e w' => e = .returned (.int .i64 ((s + d.nkv : Nat) : Int)) ∧ Below w.heap.size w w' := by
  have hs : s + (Mk.nE d.Lines) ≤ topK := hs
  unfold topK at hs
  obtain ⟨a1, l1, k1, rfl, h0, h1⟩ := open_Hist h
  go_enter Try.func57, Try.ntmps57
  have Hb : Hid (Below w.heap.size w w) := hid (Below.refl _ _)
  go_wp2_with fail
  refine (heldStringS (s) (xs := d.Lines) (Slc.grow h1 ?_) (by unfold topK; omega)).mono ?_
  · (repeat (first | refine Below.setCell ?_ (by simp; try omega) _ | refine Below.alloc ?_ (by simp; try omega) _ | exact Below.refl _ _ | exact Hb.out))
  rintro e w1 ⟨rfl, hb⟩
  have hz1 := hb.size
  try simp at hz1
  have hb0 : Below w.heap.size w w1 := by
    refine below_call ?_ hb
    (repeat (first | refine Below.setCell ?_ (by simp; try omega) _ | refine Below.alloc ?_ (by simp; try omega) _ | exact Below.refl _ _ | exact Hb.out))
  obtain ⟨hc1, hf1⟩ := bcell hb
  have Hb := hid hb0
  clear hb hb0
  go_wp2
  go_ret
  exact ⟨ret_int (by have e : d.nkv = Mk.nE d.Lines := rfl; omega), Hb.out⟩
set_option maxHeartbeats 1600000 in
theorem toLine {w : World} {bs : List Nat} {cs : List Value} {d : LineD} (h : Rep.pt w bs cs d) (hn : Cnt.cnt d ≤ 1048576) :
    Calls Try.prog 46 #[.agg cs.toArray] w (RetA w d) := by
  obtain ⟨a0, l0, k0, rfl, h0, h1⟩ := open_Line h
  have hn : Cnt.cnt d.Text ≤ 1048576 := hn
  go_enter Try.func46, Try.ntmps46
  have Hb : Hid (Below w.heap.size w w) := hid (Below.refl _ _)
  go_wp2_with fail
  refine (toIntS (Slc.grow h0 ?_) (by first | exact hn | omega | (have := hn; simp only [cnt_ints, cnt_bytes, cnt_list] at this; omega))).mono ?_
  · (repeat (first | refine Below.setCell ?_ (by simp; try omega) _ | refine Below.alloc ?_ (by simp; try omega) _ | exact Below.refl _ _ | exact Hb.out))
  rintro e w1 ⟨a0', l0', k0', b0', rfl, hO, hb⟩
  have hz1 := hb.size
  try simp at hz1
  have hb0 : Below w.heap.size w w1 := by
    refine below_call ?_ hb
    (repeat (first | refine Below.setCell ?_ (by simp; try omega) _ | refine Below.alloc ?_ (by simp; try omega) _ | exact Below.refl _ _ | exact Hb.out))
  obtain ⟨hc1, hf1⟩ := bcell hb
  have HN0 : ∀ b ∈ b0', _ ∧ b < w1.heap.size := fun b hb => hO.lts b hb
  simp at HN0
  have HO0 := hid (hO.mono (lo' := w.heap.size) (by simp; omega))
  have Hb := hid hb0
  clear hb hb0 hO
  go_wp2
  refine bodyPost_ret (v := .agg #[.slice a0' l0' k0', .int .i64 d.At]) (by simp [results, Try.results46, go_sem, hc1]) rfl ?_
  refine ⟨[.slice a0' l0' k0', .int .i64 d.At], b0', rfl, ?_, ?_⟩
  · refine own_Line ?o0 h1 
    case o0 => repeat (first | refine Own.setCell' _ ?_ (fun b hb => by have := HN0 b hb; simp; omega) | exact HO0.out | refine Own.grow ?_ (by assumption))
  · (repeat (first | refine Below.setCell ?_ (by simp; try omega) _ | refine Below.alloc ?_ (by simp; try omega) _ | exact Below.refl _ _ | exact Hb.out))
theorem eqLine {w : World} {bs bs2 : List Nat} {cs cs2 : List Value} {d : LineD} (g1 : Rep.pt w bs cs d) (g2 : Rep.pt w bs2 cs2 d) :
    Calls Try.prog 39 #[.agg cs.toArray, .agg cs2.toArray] w fun e w' => e = .returned (.bool true) ∧ Below w.heap.size w w' := by
  obtain ⟨a0, l0, k0, rfl, h0, h1⟩ := open_Line g1
  obtain ⟨a0', l0', k0', rfl, h0', h1'⟩ := open_Line g2
  go_enter Try.func39, Try.ntmps39
  have Hb : Hid (Below w.heap.size w w) := hid (Below.refl _ _)
  go_wp2_with fail
  refine (eqIntS (Slc.grow h0 ?_) (Slc.grow h0' ?_)).mono ?_
  · (repeat (first | refine Below.setCell ?_ (by simp; try omega) _ | refine Below.alloc ?_ (by simp; try omega) _ | exact Below.refl _ _ | exact Hb.out))
  · (repeat (first | refine Below.setCell ?_ (by simp; try omega) _ | refine Below.alloc ?_ (by simp; try omega) _ | exact Below.refl _ _ | exact Hb.out))
  rintro e w1 ⟨rfl, hb⟩
  have hz1 := hb.size
  try simp at hz1
  have hb0 : Below w.heap.size w w1 := by
    refine below_call ?_ hb
    (repeat (first | refine Below.setCell ?_ (by simp; try omega) _ | refine Below.alloc ?_ (by simp; try omega) _ | exact Below.refl _ _ | exact Hb.out))
  obtain ⟨hc1, hf1⟩ := bcell hb
  have Hb := hid hb0
  clear hb hb0
  go_wp2
  go_ret
  exact ⟨rfl, Hb.out⟩
theorem szLine {w : World} {bs : List Nat} {cs : List Value} {d : LineD} (left : Int) (h : Rep.pt w bs cs d) (hl : 0 ≤ left) (hl2 : left ≤ 1048576) :
    Calls Try.prog 44 #[.agg cs.toArray, .int .i64 left] w fun e w' => e = .returned (.int .i64 (szr left (Cnt.cnt d))) ∧ Below w.heap.size w w' := by
  obtain ⟨a0, l0, k0, rfl, h0, h1⟩ := open_Line h
  have hcnt : Cnt.cnt d = Cnt.cnt d.Text := rfl
  have Hcnt := hid hcnt; clear hcnt
  go_enter Try.func44, Try.ntmps44
  have Hb : Hid (Below w.heap.size w w) := hid (Below.refl _ _)
  go_wp2_with fail
  refine (szIntS (left) (Slc.grow h0 ?_) (by omega) (by omega)).mono ?_
  · (repeat (first | refine Below.setCell ?_ (by simp; try omega) _ | refine Below.alloc ?_ (by simp; try omega) _ | exact Below.refl _ _ | exact Hb.out))
  rintro e w1 ⟨rfl, hb⟩
  have hz1 := hb.size
  try simp at hz1
  have hb0 : Below w.heap.size w w1 := by
    refine below_call ?_ hb
    (repeat (first | refine Below.setCell ?_ (by simp; try omega) _ | refine Below.alloc ?_ (by simp; try omega) _ | exact Below.refl _ _ | exact Hb.out))
  obtain ⟨hc1, hf1⟩ := bcell hb
  have Hb := hid hb0
  clear hb hb0
  by_cases hle0 : (Cnt.cnt d.Text : Int) ≤ left
  rotate_left
  · rw [szr_neg (by omega)]
    go_wp2
    go_ret
    exact ⟨ret_int (by have := Hcnt.out; rw [szr_neg (by omega)]), Hb.out⟩
  rw [szr_pos hle0]
  go_wp2
  go_ret
  exact ⟨ret_int (by have := Hcnt.out; rw [szr_pos (by omega)]; omega), Hb.out⟩
theorem markLine {lo : Nat} {w : World} {d : LineD} {b0 : List Nat} {a0 : Option Addr} {l0 k0 : Nat} (h0 : Own lo w b0 [.slice a0 l0 k0] d.Text)  (s : Nat) (hs : s + d.nkv ≤ topK) :
    Calls Try.prog 41 #[.agg #[.slice a0 l0 k0, .int .i64 d.At], .int .i64 (s : Int)] w fun e w' => e = .returned (.int .i64 ((s + d.nkv : Nat) : Int)) ∧ Own lo w' b0 [.slice a0 l0 k0] (d.mkv s).Text ∧ Tch (b0) w w' := by
  have hs : s + (Mk.nE d.Text) ≤ topK := hs
  unfold topK at hs
  have L0 := hid (fun x hx => (h0.lts x hx).2); have H0 := hid h0; clear h0
  have HT : Hid (Tch (b0) w w) := hid (Tch.refl _ _)
  go_enter Try.func41, Try.ntmps41
  go_wp2_with fail
  refine (markIntS (lo := lo) (Own.alloc H0.out _) (s) (by unfold topK; omega)).mono ?_
  rintro e w1 ⟨rfl, hO0, hT⟩
  have hz1 := hT.size; try simp at hz1
  have hL : ∀ x ∈ b0, x < w.heap.size := fun x hm => L0.out x hm
  have hcc1 := fun o => hT.cell (p := ⟨w.heap.size, o, none⟩) (by simp; try omega) (fun hm => by have := hL _ hm; simp at this)
  have HT := hid ((HT.out.alloc _).trans (hT.mono (by simp +contextual)))
  have H0 := hid hO0
  clear hL hT hO0
  go_wp2
  go_ret
  exact ⟨ret_int (by have e : d.nkv = Mk.nE d.Text := rfl; omega), H0.out, HT.out⟩
theorem heldLine {w : World} {bs : List Nat} {cs : List Value} {d : LineD} (s : Nat) (h : Rep.pt w bs cs (d.mkv s)) (hs : s + d.nkv ≤ topK) :
    Calls Try.prog 43 #[.agg cs.toArray, .int .i64 (s : Int)] w fun e w' => e = .returned (.int .i64 ((s + d.nkv : Nat) : Int)) ∧ Below w.heap.size w w' := by
  have hs : s + (Mk.nE d.Text) ≤ topK := hs
  unfold topK at hs
  obtain ⟨a0, l0, k0, rfl, h0, h1⟩ := open_Line h
  go_enter Try.func43, Try.ntmps43
  have Hb : Hid (Below w.heap.size w w) := hid (Below.refl _ _)
  go_wp2_with fail
  refine (heldIntS (s) (xs := d.Text) (Slc.grow h0 ?_) (by unfold topK; omega)).mono ?_
  · (repeat (first | refine Below.setCell ?_ (by simp; try omega) _ | refine Below.alloc ?_ (by simp; try omega) _ | exact Below.refl _ _ | exact Hb.out))
  rintro e w1 ⟨rfl, hb⟩
  have hz1 := hb.size
  try simp at hz1
  have hb0 : Below w.heap.size w w1 := by
    refine below_call ?_ hb
    (repeat (first | refine Below.setCell ?_ (by simp; try omega) _ | refine Below.alloc ?_ (by simp; try omega) _ | exact Below.refl _ _ | exact Hb.out))
  obtain ⟨hc1, hf1⟩ := bcell hb
  have Hb := hid hb0
  clear hb hb0
  go_wp2
  go_ret
  exact ⟨ret_int (by have e : d.nkv = Mk.nE d.Text := rfl; omega), Hb.out⟩
set_option maxHeartbeats 1600000 in
theorem toPiece {w : World} {bs : List Nat} {cs : List Value} {d : PieceD} (h : Rep.pt w bs cs d) (hn : Cnt.cnt d ≤ 1048576) :
    Calls Try.prog 102 #[.agg cs.toArray] w (RetA w d) := by
  obtain ⟨a0, l0, k0, rfl, h0⟩ := open_Piece h
  have hn : Cnt.cnt d.Text ≤ 1048576 := hn
  go_enter Try.func102, Try.ntmps102
  have Hb : Hid (Below w.heap.size w w) := hid (Below.refl _ _)
  go_wp2_with fail
  refine (toIntS (Slc.grow h0 ?_) (by first | exact hn | omega | (have := hn; simp only [cnt_ints, cnt_bytes, cnt_list] at this; omega))).mono ?_
  · (repeat (first | refine Below.setCell ?_ (by simp; try omega) _ | refine Below.alloc ?_ (by simp; try omega) _ | exact Below.refl _ _ | exact Hb.out))
  rintro e w1 ⟨a0', l0', k0', b0', rfl, hO, hb⟩
  have hz1 := hb.size
  try simp at hz1
  have hb0 : Below w.heap.size w w1 := by
    refine below_call ?_ hb
    (repeat (first | refine Below.setCell ?_ (by simp; try omega) _ | refine Below.alloc ?_ (by simp; try omega) _ | exact Below.refl _ _ | exact Hb.out))
  obtain ⟨hc1, hf1⟩ := bcell hb
  have HN0 : ∀ b ∈ b0', _ ∧ b < w1.heap.size := fun b hb => hO.lts b hb
  simp at HN0
  have HO0 := hid (hO.mono (lo' := w.heap.size) (by simp; omega))
  have Hb := hid hb0
  clear hb hb0 hO
  go_wp2
  refine bodyPost_ret (v := .agg #[.slice a0' l0' k0']) (by simp [results, Try.results102, go_sem, hc1]) rfl ?_
  refine ⟨[.slice a0' l0' k0'], b0', rfl, ?_, ?_⟩
  · refine own_Piece ?o0 
    case o0 => repeat (first | refine Own.setCell' _ ?_ (fun b hb => by have := HN0 b hb; simp; omega) | exact HO0.out | refine Own.grow ?_ (by assumption))
  · (repeat (first | refine Below.setCell ?_ (by simp; try omega) _ | refine Below.alloc ?_ (by simp; try omega) _ | exact Below.refl _ _ | exact Hb.out))
theorem eqPiece {w : World} {bs bs2 : List Nat} {cs cs2 : List Value} {d : PieceD} (g1 : Rep.pt w bs cs d) (g2 : Rep.pt w bs2 cs2 d) :
    Calls Try.prog 104 #[.agg cs.toArray, .agg cs2.toArray] w fun e w' => e = .returned (.bool true) ∧ Below w.heap.size w w' := by
  obtain ⟨a0, l0, k0, rfl, h0⟩ := open_Piece g1
  obtain ⟨a0', l0', k0', rfl, h0'⟩ := open_Piece g2
  go_enter Try.func104, Try.ntmps104
  have Hb : Hid (Below w.heap.size w w) := hid (Below.refl _ _)
  go_wp2_with fail
  refine (eqIntS (Slc.grow h0 ?_) (Slc.grow h0' ?_)).mono ?_
  · (repeat (first | refine Below.setCell ?_ (by simp; try omega) _ | refine Below.alloc ?_ (by simp; try omega) _ | exact Below.refl _ _ | exact Hb.out))
  · (repeat (first | refine Below.setCell ?_ (by simp; try omega) _ | refine Below.alloc ?_ (by simp; try omega) _ | exact Below.refl _ _ | exact Hb.out))
  rintro e w1 ⟨rfl, hb⟩
  have hz1 := hb.size
  try simp at hz1
  have hb0 : Below w.heap.size w w1 := by
    refine below_call ?_ hb
    (repeat (first | refine Below.setCell ?_ (by simp; try omega) _ | refine Below.alloc ?_ (by simp; try omega) _ | exact Below.refl _ _ | exact Hb.out))
  obtain ⟨hc1, hf1⟩ := bcell hb
  have Hb := hid hb0
  clear hb hb0
  go_wp2
  go_ret
  exact ⟨rfl, Hb.out⟩
theorem szPiece {w : World} {bs : List Nat} {cs : List Value} {d : PieceD} (left : Int) (h : Rep.pt w bs cs d) (hl : 0 ≤ left) (hl2 : left ≤ 1048576) :
    Calls Try.prog 100 #[.agg cs.toArray, .int .i64 left] w fun e w' => e = .returned (.int .i64 (szr left (Cnt.cnt d))) ∧ Below w.heap.size w w' := by
  obtain ⟨a0, l0, k0, rfl, h0⟩ := open_Piece h
  have hcnt : Cnt.cnt d = Cnt.cnt d.Text := rfl
  have Hcnt := hid hcnt; clear hcnt
  go_enter Try.func100, Try.ntmps100
  have Hb : Hid (Below w.heap.size w w) := hid (Below.refl _ _)
  go_wp2_with fail
  refine (szIntS (left) (Slc.grow h0 ?_) (by omega) (by omega)).mono ?_
  · (repeat (first | refine Below.setCell ?_ (by simp; try omega) _ | refine Below.alloc ?_ (by simp; try omega) _ | exact Below.refl _ _ | exact Hb.out))
  rintro e w1 ⟨rfl, hb⟩
  have hz1 := hb.size
  try simp at hz1
  have hb0 : Below w.heap.size w w1 := by
    refine below_call ?_ hb
    (repeat (first | refine Below.setCell ?_ (by simp; try omega) _ | refine Below.alloc ?_ (by simp; try omega) _ | exact Below.refl _ _ | exact Hb.out))
  obtain ⟨hc1, hf1⟩ := bcell hb
  have Hb := hid hb0
  clear hb hb0
  by_cases hle0 : (Cnt.cnt d.Text : Int) ≤ left
  rotate_left
  · rw [szr_neg (by omega)]
    go_wp2
    go_ret
    exact ⟨ret_int (by have := Hcnt.out; rw [szr_neg (by omega)]), Hb.out⟩
  rw [szr_pos hle0]
  go_wp2
  go_ret
  exact ⟨ret_int (by have := Hcnt.out; rw [szr_pos (by omega)]; omega), Hb.out⟩
set_option maxHeartbeats 1600000 in
theorem toEntry {w : World} {bs : List Nat} {cs : List Value} {d : EntryD} (h : Rep.pt w bs cs d) :
    Calls Try.prog 92 #[.agg cs.toArray] w (RetA w d) := by
  obtain ⟨rfl, rfl, h0, h1⟩ := open_Entry h
  go_enter Try.func92, Try.ntmps92
  have Hb : Hid (Below w.heap.size w w) := hid (Below.refl _ _)
  go_wp2
  refine bodyPost_ret (v := .agg #[.int .i64 d.Num, .string d.Text]) (by simp [results, Try.results92, go_sem]) rfl ?_
  refine ⟨[.int .i64 d.Num, .string d.Text], [], rfl, ?_, ?_⟩
  · refine own_Entry h0 h1 
  · (repeat (first | refine Below.setCell ?_ (by simp; try omega) _ | refine Below.alloc ?_ (by simp; try omega) _ | exact Below.refl _ _ | exact Hb.out))
theorem eqEntry {w : World} {bs bs2 : List Nat} {cs cs2 : List Value} {d : EntryD} (g1 : Rep.pt w bs cs d) (g2 : Rep.pt w bs2 cs2 d) :
    Calls Try.prog 96 #[.agg cs.toArray, .agg cs2.toArray] w fun e w' => e = .returned (.bool true) ∧ Below w.heap.size w w' := by
  obtain ⟨rfl, rfl, h0, h1⟩ := open_Entry g1
  obtain ⟨rfl, rfl, h0', h1'⟩ := open_Entry g2
  go_enter Try.func96, Try.ntmps96
  have Hb : Hid (Below w.heap.size w w) := hid (Below.refl _ _)
  go_wp2
  go_ret
  exact ⟨rfl, (by repeat (first | refine Below.setCell ?_ (by simp; try omega) _ | refine Below.alloc ?_ (by simp; try omega) _ | exact Below.refl _ _ | exact Hb.out))⟩
theorem szEntry {w : World} {bs : List Nat} {cs : List Value} {d : EntryD} (left : Int) (h : Rep.pt w bs cs d) (hl : 0 ≤ left) (hl2 : left ≤ 1048576) :
    Calls Try.prog 89 #[.agg cs.toArray, .int .i64 left] w fun e w' => e = .returned (.int .i64 (szr left (Cnt.cnt d))) ∧ Below w.heap.size w w' := by
  obtain ⟨rfl, rfl, h0, h1⟩ := open_Entry h
  have hcnt : Cnt.cnt d = Cnt.cnt d.Text := rfl
  have Hcnt := hid hcnt; clear hcnt
  go_enter Try.func89, Try.ntmps89
  have Hb : Hid (Below w.heap.size w w) := hid (Below.refl _ _)
  have hcs0 : Cnt.cnt d.Text = d.Text.size := rfl
  have hmx0 : d.Text.size ≤ 9223372036854775807 := by first | assumption | (simp only [maxLen] at *; assumption) | (unfold maxLen at *; omega)
  by_cases hle0 : (d.Text.size : Int) ≤ left
  rotate_left
  · go_wp2
    go_ret
    exact ⟨ret_int (by have := Hcnt.out; rw [szr_neg (by omega)]), (by repeat (first | refine Below.setCell ?_ (by simp; try omega) _ | refine Below.alloc ?_ (by simp; try omega) _ | exact Below.refl _ _ | exact Hb.out))⟩
  go_wp2
  go_ret
  exact ⟨ret_int (by have := Hcnt.out; rw [szr_pos (by omega)]; omega), (by repeat (first | refine Below.setCell ?_ (by simp; try omega) _ | refine Below.alloc ?_ (by simp; try omega) _ | exact Below.refl _ _ | exact Hb.out))⟩
end Go.Proofs.Ythkfmeoealfokaa
