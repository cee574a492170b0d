/- Contracts of the laws' helpers on disks, stores, trials. -/
import Derived.Test.YtdjcjilipgpnmaaGreatKHelpN
set_option linter.unusedSimpArgs false
set_option linter.unusedVariables false
namespace Go.Proofs.YtdjcjilipgpnmaaGreat
open Go.RowKit Go.G6
set_option maxHeartbeats 800000
set_option maxRecDepth 10000
set_option maxHeartbeats 1600000 in
theorem toDisk {w : World} {bs : List Nat} {cs : List Value} {d : DiskD} (h : Rep.pt w bs cs d) (hn : Cnt.cnt d ≤ 1048576) :
  Calls Tryz.prog 23 #[.agg cs.toArray] w (RetA w d) := by
 obtain ⟨b3, b4, b5, a3, l3, k3, a4, l4, k4, a5, l5, k5, rfl, rfl, h0, h1, h2, h3, h4, h5⟩ := open_Disk h
 have hn : Cnt.cnt d.Nodes + Cnt.cnt d.Kept + Cnt.cnt d.Turns ≤ 1048576 := hn
 go_enter Tryz.func23, Tryz.ntmps23
 have Hb : Hid (Below w.heap.size w w) := hid (Below.refl _ _)
 go_wp2_with fail
 refine (toNodeS (Slc.grow h3 ?_) (by first | exact hn | omega | (have := hn; simp only [cnt_ints, cnt_bytes, cnt_list] at this; omega))).mono ?_
 ·(repeat (first | refine Below.setCell ?_ (by simp; try omega) _ | refine Below.alloc ?_ (by simp; try omega) _ | exact Below.refl _ _ | exact Hb.out))
 rintro e w1 ⟨a3', l3', k3', b3', rfl, hO, hb⟩
 have hz1 := hb.size
 try simp at hz1
 have hb0 : Below w.heap.size w w1 := by
  refine below_call ?_ hb
  (repeat (first | refine Below.setCell ?_ (by simp; try omega) _ | refine Below.alloc ?_ (by simp; try omega) _ | exact Below.refl _ _ | exact Hb.out))
 obtain ⟨hc1, hf1⟩ := bcell hb
 have HN3 : ∀ b ∈ b3', _ ∧ b < w1.heap.size := fun b hb => hO.lts b hb
 simp at HN3
 have HO3 := hid (hO.mono (lo' := w.heap.size) (by simp; omega))
 have Hb := hid hb0
 clear hb hb0 hO
 go_wp2_with fail
 refine (toLinkS (Slc.grow h4 ?_) (by first | exact hn | omega | (have := hn; simp only [cnt_ints, cnt_bytes, cnt_list] at this; omega))).mono ?_
 ·(repeat (first | refine Below.setCell ?_ (by simp; try omega) _ | refine Below.alloc ?_ (by simp; try omega) _ | exact Below.refl _ _ | exact Hb.out))
 rintro e w2 ⟨a4', l4', k4', b4', rfl, hO, hb⟩
 have hz2 := hb.size
 try simp at hz2
 have hb0 : Below w.heap.size w w2 := by
  refine below_call ?_ hb
  (repeat (first | refine Below.setCell ?_ (by simp; try omega) _ | refine Below.alloc ?_ (by simp; try omega) _ | exact Below.refl _ _ | exact Hb.out))
 obtain ⟨hc2, hf2⟩ := bcell hb
 have hcA2 := fun o => hc2 (w.heap.size) o (by simp; omega)
 have hfA2 := fun o => hf2 (w.heap.size) o (by simp; omega)
 have hcB2 := fun o => hc2 (w.heap.size + 1) o (by simp; omega)
 have hfB2 := fun o => hf2 (w.heap.size + 1) o (by simp; omega)
 have hcC2 := fun o => hc2 (w.heap.size + 1 + 1) o (by simp; omega)
 have hfC2 := fun o => hf2 (w.heap.size + 1 + 1) o (by simp; omega)
 have HO3 : Hid (Own w.heap.size w2 b3' [.slice a3' l3' k3'] d.Nodes) := by
  refine hid (Own.grow ?_ hb)
  repeat (first | refine Own.setCell' _ ?_ (fun b hb => by have := HN3 b hb; simp; omega) | exact HO3.out)
 have HN4 : ∀ b ∈ b4', _ ∧ b < w2.heap.size := fun b hb => hO.lts b hb
 simp at HN4
 have HO4 := hid (hO.mono (lo' := w.heap.size) (by simp; omega))
 have Hb := hid hb0
 clear hb hb0 hO
 go_wp2_with fail
 refine (toTurnS (Slc.grow h5 ?_) (by first | exact hn | omega | (have := hn; simp only [cnt_ints, cnt_bytes, cnt_list] at this; omega))).mono ?_
 ·(repeat (first | refine Below.setCell ?_ (by simp; try omega) _ | refine Below.alloc ?_ (by simp; try omega) _ | exact Below.refl _ _ | exact Hb.out))
 rintro e w3 ⟨a5', l5', k5', b5', rfl, hO, hb⟩
 have hz3 := hb.size
 try simp at hz3
 have hb0 : Below w.heap.size w w3 := by
  refine below_call ?_ hb
  (repeat (first | refine Below.setCell ?_ (by simp; try omega) _ | refine Below.alloc ?_ (by simp; try omega) _ | exact Below.refl _ _ | exact Hb.out))
 obtain ⟨hc3, hf3⟩ := bcell hb
 have hcA3 := fun o => hc3 (w.heap.size) o (by simp; omega)
 have hfA3 := fun o => hf3 (w.heap.size) o (by simp; omega)
 have hcB3 := fun o => hc3 (w.heap.size + 1) o (by simp; omega)
 have hfB3 := fun o => hf3 (w.heap.size + 1) o (by simp; omega)
 have hcC3 := fun o => hc3 (w.heap.size + 1 + 1) o (by simp; omega)
 have hfC3 := fun o => hf3 (w.heap.size + 1 + 1) o (by simp; omega)
 have HO3 : Hid (Own w.heap.size w3 b3' [.slice a3' l3' k3'] d.Nodes) := by
  refine hid (Own.grow ?_ hb)
  repeat (first | refine Own.setCell' _ ?_ (fun b hb => by have := HN3 b hb; simp; omega) | exact HO3.out)
 have HO4 : Hid (Own w.heap.size w3 b4' [.slice a4' l4' k4'] d.Kept) := by
  refine hid (Own.grow ?_ hb)
  repeat (first | refine Own.setCell' _ ?_ (fun b hb => by have := HN4 b hb; simp; omega) | exact HO4.out)
 have HN5 : ∀ b ∈ b5', _ ∧ b < w3.heap.size := fun b hb => hO.lts b hb
 simp at HN5
 have HO5 := hid (hO.mono (lo' := w.heap.size) (by simp; omega))
 have Hb := hid hb0
 clear hb hb0 hO
 go_wp2
 refine bodyPost_ret (v := .agg #[.int .i64 d.Room, .int .i64 d.Fuse, .int .i64 d.Next, .slice a3' l3' k3', .slice a4' l4' k4', .slice a5' l5' k5']) (by simp [results, Tryz.results23, go_sem, hc1, hc2, hcA2, hcB2, hcC2, hc3, hcA3, hcB3, hcC3]) rfl ?_
 refine ⟨[.int .i64 d.Room, .int .i64 d.Fuse, .int .i64 d.Next, .slice a3' l3' k3', .slice a4' l4' k4', .slice a5' l5' k5'], b3' ++ (b4' ++ b5'), rfl, ?_, ?_⟩
 ·refine own_Disk h0 h1 h2 ?o3 ?o4 ?o5 ?e3_4 ?e3_5 ?e4_5
  case o3 => repeat (first | refine Own.setCell' _ ?_ (fun b hb => by have := HN3 b hb; simp; omega) | exact HO3.out | refine Own.grow ?_ (by assumption))
  case o4 => repeat (first | refine Own.setCell' _ ?_ (fun b hb => by have := HN4 b hb; simp; omega) | exact HO4.out | refine Own.grow ?_ (by assumption))
  case o5 => repeat (first | refine Own.setCell' _ ?_ (fun b hb => by have := HN5 b hb; simp; omega) | exact HO5.out | refine Own.grow ?_ (by assumption))
  case e3_4 => first | exact E3_4.out | exact fun x hx hx' => by have := HN3 x hx; have := HN4 x hx'; omega
  case e3_5 => first | exact E3_5.out | exact fun x hx hx' => by have := HN3 x hx; have := HN5 x hx'; omega
  case e4_5 => first | exact E4_5.out | exact fun x hx hx' => by have := HN4 x hx; have := HN5 x hx'; omega
 ·(repeat (first | refine Below.setCell ?_ (by simp; try omega) _ | refine Below.alloc ?_ (by simp; try omega) _ | exact Below.refl _ _ | exact Hb.out))
theorem eqDisk {w : World} {bs bs2 : List Nat} {cs cs2 : List Value} {d : DiskD} (g1 : Rep.pt w bs cs d) (g2 : Rep.pt w bs2 cs2 d) :
  Calls Tryz.prog 32 #[.agg cs.toArray, .agg cs2.toArray] w fun e w' => e = .returned (.bool true) ∧ Below w.heap.size w w' := by
 obtain ⟨b3, b4, b5, a3, l3, k3, a4, l4, k4, a5, l5, k5, rfl, rfl, h0, h1, h2, h3, h4, h5⟩ := open_Disk g1
 obtain ⟨b3', b4', b5', a3', l3', k3', a4', l4', k4', a5', l5', k5', rfl, rfl, h0', h1', h2', h3', h4', h5'⟩ := open_Disk g2
 go_enter Tryz.func32, Tryz.ntmps32
 have Hb : Hid (Below w.heap.size w w) := hid (Below.refl _ _)
 go_wp2_with fail
 refine (eqNodeS (Slc.grow h3 ?_) (Slc.grow h3' ?_)).mono ?_
 ·(repeat (first | refine Below.setCell ?_ (by simp; try omega) _ | refine Below.alloc ?_ (by simp; try omega) _ | exact Below.refl _ _ | exact Hb.out))
 ·(repeat (first | refine Below.setCell ?_ (by simp; try omega) _ | refine Below.alloc ?_ (by simp; try omega) _ | exact Below.refl _ _ | exact Hb.out))
 rintro e w1 ⟨rfl, hb⟩
 have hz1 := hb.size
 try simp at hz1
 have hb0 : Below w.heap.size w w1 := by
  refine below_call ?_ hb
  (repeat (first | refine Below.setCell ?_ (by simp; try omega) _ | refine Below.alloc ?_ (by simp; try omega) _ | exact Below.refl _ _ | exact Hb.out))
 obtain ⟨hc1, hf1⟩ := bcell hb
 have Hb := hid hb0
 clear hb hb0
 go_wp2_with fail
 refine (eqLinkS (Slc.grow h4 ?_) (Slc.grow h4' ?_)).mono ?_
 ·(repeat (first | refine Below.setCell ?_ (by simp; try omega) _ | refine Below.alloc ?_ (by simp; try omega) _ | exact Below.refl _ _ | exact Hb.out))
 ·(repeat (first | refine Below.setCell ?_ (by simp; try omega) _ | refine Below.alloc ?_ (by simp; try omega) _ | exact Below.refl _ _ | exact Hb.out))
 rintro e w2 ⟨rfl, hb⟩
 have hz2 := hb.size
 try simp at hz2
 have hb0 : Below w.heap.size w w2 := by
  refine below_call ?_ hb
  (repeat (first | refine Below.setCell ?_ (by simp; try omega) _ | refine Below.alloc ?_ (by simp; try omega) _ | exact Below.refl _ _ | exact Hb.out))
 obtain ⟨hc2, hf2⟩ := bcell hb
 have Hb := hid hb0
 clear hb hb0
 have hcA2 := fun o => hc2 w.heap.size o (by omega)
 have hcB2 := fun o => hc2 (w.heap.size + 1) o (by omega)
 go_wp2_with fail
 refine (eqTurnS (Slc.grow h5 ?_) (Slc.grow h5' ?_)).mono ?_
 ·(repeat (first | refine Below.setCell ?_ (by simp; try omega) _ | refine Below.alloc ?_ (by simp; try omega) _ | exact Below.refl _ _ | exact Hb.out))
 ·(repeat (first | refine Below.setCell ?_ (by simp; try omega) _ | refine Below.alloc ?_ (by simp; try omega) _ | exact Below.refl _ _ | exact Hb.out))
 rintro e w3 ⟨rfl, hb⟩
 have hz3 := hb.size
 try simp at hz3
 have hb0 : Below w.heap.size w w3 := by
  refine below_call ?_ hb
  (repeat (first | refine Below.setCell ?_ (by simp; try omega) _ | refine Below.alloc ?_ (by simp; try omega) _ | exact Below.refl _ _ | exact Hb.out))
 obtain ⟨hc3, hf3⟩ := bcell hb
 have Hb := hid hb0
 clear hb hb0
 have hcA3 := fun o => hc3 w.heap.size o (by omega)
 have hcB3 := fun o => hc3 (w.heap.size + 1) o (by omega)
 go_wp2
 go_ret
 exact ⟨rfl, Hb.out⟩
theorem szDisk {w : World} {bs : List Nat} {cs : List Value} {d : DiskD} (left : Int) (h : Rep.pt w bs cs d) (hl : 0 ≤ left) (hl2 : left ≤ 1048576) :
  Calls Tryz.prog 14 #[.agg cs.toArray, .int .i64 left] w fun e w' => e = .returned (.int .i64 (szr left (Cnt.cnt d))) ∧ Below w.heap.size w w' := by
 obtain ⟨b3, b4, b5, a3, l3, k3, a4, l4, k4, a5, l5, k5, rfl, rfl, h0, h1, h2, h3, h4, h5⟩ := open_Disk h
 have hcnt : Cnt.cnt d = Cnt.cnt d.Nodes + Cnt.cnt d.Kept + Cnt.cnt d.Turns := rfl
 have Hcnt := hid hcnt; clear hcnt
 go_enter Tryz.func14, Tryz.ntmps14
 have Hb : Hid (Below w.heap.size w w) := hid (Below.refl _ _)
 go_wp2_with fail
 refine (szNodeS (left) (Slc.grow h3 ?_) (by omega) (by omega)).mono ?_
 ·(repeat (first | refine Below.setCell ?_ (by simp; try omega) _ | refine Below.alloc ?_ (by simp; try omega) _ | exact Below.refl _ _ | exact Hb.out))
 rintro e w1 ⟨rfl, hb⟩
 have hz1 := hb.size
 try simp at hz1
 have hb0 : Below w.heap.size w w1 := by
  refine below_call ?_ hb
  (repeat (first | refine Below.setCell ?_ (by simp; try omega) _ | refine Below.alloc ?_ (by simp; try omega) _ | exact Below.refl _ _ | exact Hb.out))
 obtain ⟨hc1, hf1⟩ := bcell hb
 have Hb := hid hb0
 clear hb hb0
 by_cases hle0 : (Cnt.cnt d.Nodes : Int) ≤ left
 rotate_left
 ·rw [szr_neg (by omega)]
  go_wp2
  go_ret
  exact ⟨ret_int (by have := Hcnt.out; rw [szr_neg (by omega)]), Hb.out⟩
 rw [szr_pos hle0]
 go_wp2_with fail
 refine (szLinkS (left - (Cnt.cnt d.Nodes : Int)) (Slc.grow h4 ?_) (by omega) (by omega)).mono ?_
 ·(repeat (first | refine Below.setCell ?_ (by simp; try omega) _ | refine Below.alloc ?_ (by simp; try omega) _ | exact Below.refl _ _ | exact Hb.out))
 rintro e w2 ⟨rfl, hb⟩
 have hz2 := hb.size
 try simp at hz2
 have hb0 : Below w.heap.size w w2 := by
  refine below_call ?_ hb
  (repeat (first | refine Below.setCell ?_ (by simp; try omega) _ | refine Below.alloc ?_ (by simp; try omega) _ | exact Below.refl _ _ | exact Hb.out))
 obtain ⟨hc2, hf2⟩ := bcell hb
 have Hb := hid hb0
 clear hb hb0
 have hcA2 := fun o => hc2 w.heap.size o (by omega)
 by_cases hle1 : (Cnt.cnt d.Kept : Int) ≤ left - (Cnt.cnt d.Nodes : Int)
 rotate_left
 ·rw [szr_neg (by omega)]
  go_wp2
  go_ret
  exact ⟨ret_int (by have := Hcnt.out; rw [szr_neg (by omega)]), Hb.out⟩
 rw [szr_pos hle1]
 go_wp2_with fail
 refine (szTurnS (left - (Cnt.cnt d.Nodes : Int) - (Cnt.cnt d.Kept : Int)) (Slc.grow h5 ?_) (by omega) (by omega)).mono ?_
 ·(repeat (first | refine Below.setCell ?_ (by simp; try omega) _ | refine Below.alloc ?_ (by simp; try omega) _ | exact Below.refl _ _ | exact Hb.out))
 rintro e w3 ⟨rfl, hb⟩
 have hz3 := hb.size
 try simp at hz3
 have hb0 : Below w.heap.size w w3 := by
  refine below_call ?_ hb
  (repeat (first | refine Below.setCell ?_ (by simp; try omega) _ | refine Below.alloc ?_ (by simp; try omega) _ | exact Below.refl _ _ | exact Hb.out))
 obtain ⟨hc3, hf3⟩ := bcell hb
 have Hb := hid hb0
 clear hb hb0
 have hcA3 := fun o => hc3 w.heap.size o (by omega)
 by_cases hle2 : (Cnt.cnt d.Turns : Int) ≤ left - (Cnt.cnt d.Nodes : Int) - (Cnt.cnt d.Kept : Int)
 rotate_left
 ·rw [szr_neg (by omega)]
  go_wp2
  go_ret
  exact ⟨ret_int (by have := Hcnt.out; rw [szr_neg (by omega)]), Hb.out⟩
 rw [szr_pos hle2]
 go_wp2
 go_ret
 exact ⟨ret_int (by have := Hcnt.out; rw [szr_pos (by omega)]; omega), Hb.out⟩
set_option maxHeartbeats 1600000 in
theorem toStore {w : World} {bs : List Nat} {cs : List Value} {d : StoreD} (h : Rep.pt w bs cs d) (hn : Cnt.cnt d ≤ 1048576) :
  Calls Tryz.prog 7 #[.agg cs.toArray] w (RetA w d) := by
 obtain ⟨b3, b4, b5, b8, a3, l3, k3, a4, l4, k4, a5, l5, k5, a8, l8, k8, rfl, rfl, h0, h1, h2, h3, h4, h5, h6, h7, h8, h9⟩ := open_Store h
 have hn : Cnt.cnt d.Disk + Cnt.cnt d.Ents ≤ 1048576 := hn
 go_enter Tryz.func7, Tryz.ntmps7
 have Hb : Hid (Below w.heap.size w w) := hid (Below.refl _ _)
 go_wp2_with fail
 refine (toDisk (grow (mk_Disk (d := d.Disk) h0 h1 h2 h3 h4 h5) ?_) (by omega)).mono ?_
 ·(repeat (first | refine Below.setCell ?_ (by simp; try omega) _ | refine Below.alloc ?_ (by simp; try omega) _ | exact Below.refl _ _ | exact Hb.out))
 rintro e w1 ⟨cs', bs', rfl, hO, hb⟩
 obtain ⟨b3', b4', b5', a3', l3', k3', a4', l4', k4', a5', l5', k5', rfl, rfl, q0, q1, q2, q3, q4, q5⟩ := open_Disk hO.1
 have hP := parts_Disk hO q3 q4 q5
 have hz1 := hb.size
 try simp at hz1
 have hb0 : Below w.heap.size w w1 := by
  refine below_call ?_ hb
  (repeat (first | refine Below.setCell ?_ (by simp; try omega) _ | refine Below.alloc ?_ (by simp; try omega) _ | exact Below.refl _ _ | exact Hb.out))
 obtain ⟨hc1, hf1⟩ := bcell hb
 have hO3 := hP.1
 have HN3 : ∀ b ∈ b3', _ ∧ b < w1.heap.size := fun b hb => hO3.lts b hb
 simp at HN3
 have HO3 := hid (hO3.mono (lo' := w.heap.size) (by simp; omega))
 have hO4 := hP.2.1
 have HN4 : ∀ b ∈ b4', _ ∧ b < w1.heap.size := fun b hb => hO4.lts b hb
 simp at HN4
 have HO4 := hid (hO4.mono (lo' := w.heap.size) (by simp; omega))
 have hO5 := hP.2.2.1
 have HN5 : ∀ b ∈ b5', _ ∧ b < w1.heap.size := fun b hb => hO5.lts b hb
 simp at HN5
 have HO5 := hid (hO5.mono (lo' := w.heap.size) (by simp; omega))
 have E3_4 := hid (hP.2.2.2.1)
 have E3_5 := hid (hP.2.2.2.2.1)
 have E4_5 := hid (hP.2.2.2.2.2)
 clear hP hO3 hO4 hO5
 have Hb := hid hb0
 clear hb hb0 hO
 go_wp2_with fail
 refine (toEntryS (Slc.grow h8 ?_) (by first | exact hn | omega | (have := hn; simp only [cnt_ints, cnt_bytes, cnt_list] at this; omega))).mono ?_
 ·(repeat (first | refine Below.setCell ?_ (by simp; try omega) _ | refine Below.alloc ?_ (by simp; try omega) _ | exact Below.refl _ _ | exact Hb.out))
 rintro e w2 ⟨a8', l8', k8', b8', rfl, hO, hb⟩
 have hz2 := hb.size
 try simp at hz2
 have hb0 : Below w.heap.size w w2 := by
  refine below_call ?_ hb
  (repeat (first | refine Below.setCell ?_ (by simp; try omega) _ | refine Below.alloc ?_ (by simp; try omega) _ | exact Below.refl _ _ | exact Hb.out))
 obtain ⟨hc2, hf2⟩ := bcell hb
 have hcA2 := fun o => hc2 (w.heap.size) o (by simp; omega)
 have hfA2 := fun o => hf2 (w.heap.size) o (by simp; omega)
 have hcB2 := fun o => hc2 (w.heap.size + 1) o (by simp; omega)
 have hfB2 := fun o => hf2 (w.heap.size + 1) o (by simp; omega)
 have hcC2 := fun o => hc2 (w.heap.size + 1 + 1) o (by simp; omega)
 have hfC2 := fun o => hf2 (w.heap.size + 1 + 1) o (by simp; omega)
 have HO3 : Hid (Own w.heap.size w2 b3' [.slice a3' l3' k3'] d.Disk.Nodes) := by
  refine hid (Own.grow ?_ hb)
  repeat (first | refine Own.setCell' _ ?_ (fun b hb => by have := HN3 b hb; simp; omega) | exact HO3.out)
 have HO4 : Hid (Own w.heap.size w2 b4' [.slice a4' l4' k4'] d.Disk.Kept) := by
  refine hid (Own.grow ?_ hb)
  repeat (first | refine Own.setCell' _ ?_ (fun b hb => by have := HN4 b hb; simp; omega) | exact HO4.out)
 have HO5 : Hid (Own w.heap.size w2 b5' [.slice a5' l5' k5'] d.Disk.Turns) := by
  refine hid (Own.grow ?_ hb)
  repeat (first | refine Own.setCell' _ ?_ (fun b hb => by have := HN5 b hb; simp; omega) | exact HO5.out)
 have HN8 : ∀ b ∈ b8', _ ∧ b < w2.heap.size := fun b hb => hO.lts b hb
 simp at HN8
 have HO8 := hid (hO.mono (lo' := w.heap.size) (by simp; omega))
 have Hb := hid hb0
 clear hb hb0 hO
 go_wp2
 refine bodyPost_ret (v := .agg #[.int .i64 d.Disk.Room, .int .i64 d.Disk.Fuse, .int .i64 d.Disk.Next, .slice a3' l3' k3', .slice a4' l4' k4', .slice a5' l5' k5', .int .i64 d.Keep, .int .i64 d.Size, .slice a8' l8' k8', .int .i64 d.Len]) (by simp [results, Tryz.results7, go_sem, hc1, hc2, hcA2, hcB2, hcC2]) rfl ?_
 refine ⟨[.int .i64 d.Disk.Room, .int .i64 d.Disk.Fuse, .int .i64 d.Disk.Next, .slice a3' l3' k3', .slice a4' l4' k4', .slice a5' l5' k5', .int .i64 d.Keep, .int .i64 d.Size, .slice a8' l8' k8', .int .i64 d.Len], b3' ++ (b4' ++ (b5' ++ b8')), rfl, ?_, ?_⟩
 ·refine own_Store h0 h1 h2 ?o3 ?o4 ?o5 h6 h7 ?o8 h9 ?e3_4 ?e3_5 ?e3_8 ?e4_5 ?e4_8 ?e5_8
  case o3 => repeat (first | refine Own.setCell' _ ?_ (fun b hb => by have := HN3 b hb; simp; omega) | exact HO3.out | refine Own.grow ?_ (by assumption))
  case o4 => repeat (first | refine Own.setCell' _ ?_ (fun b hb => by have := HN4 b hb; simp; omega) | exact HO4.out | refine Own.grow ?_ (by assumption))
  case o5 => repeat (first | refine Own.setCell' _ ?_ (fun b hb => by have := HN5 b hb; simp; omega) | exact HO5.out | refine Own.grow ?_ (by assumption))
  case o8 => repeat (first | refine Own.setCell' _ ?_ (fun b hb => by have := HN8 b hb; simp; omega) | exact HO8.out | refine Own.grow ?_ (by assumption))
  case e3_4 => first | exact E3_4.out | exact fun x hx hx' => by have := HN3 x hx; have := HN4 x hx'; omega
  case e3_5 => first | exact E3_5.out | exact fun x hx hx' => by have := HN3 x hx; have := HN5 x hx'; omega
  case e3_8 => first | exact E3_8.out | exact fun x hx hx' => by have := HN3 x hx; have := HN8 x hx'; omega
  case e4_5 => first | exact E4_5.out | exact fun x hx hx' => by have := HN4 x hx; have := HN5 x hx'; omega
  case e4_8 => first | exact E4_8.out | exact fun x hx hx' => by have := HN4 x hx; have := HN8 x hx'; omega
  case e5_8 => first | exact E5_8.out | exact fun x hx hx' => by have := HN5 x hx; have := HN8 x hx'; omega
 ·(repeat (first | refine Below.setCell ?_ (by simp; try omega) _ | refine Below.alloc ?_ (by simp; try omega) _ | exact Below.refl _ _ | exact Hb.out))
theorem eqStore {w : World} {bs bs2 : List Nat} {cs cs2 : List Value} {d : StoreD} (g1 : Rep.pt w bs cs d) (g2 : Rep.pt w bs2 cs2 d) :
  Calls Tryz.prog 9 #[.agg cs.toArray, .agg cs2.toArray] w fun e w' => e = .returned (.bool true) ∧ Below w.heap.size w w' := by
 obtain ⟨b3, b4, b5, b8, a3, l3, k3, a4, l4, k4, a5, l5, k5, a8, l8, k8, rfl, rfl, h0, h1, h2, h3, h4, h5, h6, h7, h8, h9⟩ := open_Store g1
 obtain ⟨b3', b4', b5', b8', a3', l3', k3', a4', l4', k4', a5', l5', k5', a8', l8', k8', rfl, rfl, h0', h1', h2', h3', h4', h5', h6', h7', h8', h9'⟩ := open_Store g2
 go_enter Tryz.func9, Tryz.ntmps9
 have Hb : Hid (Below w.heap.size w w) := hid (Below.refl _ _)
 go_wp2_with fail
 refine (eqDisk (grow (mk_Disk (d := d.Disk) h0 h1 h2 h3 h4 h5) ?_) (grow (mk_Disk (d := d.Disk) h0' h1' h2' h3' h4' h5') ?_)).mono ?_
 ·(repeat (first | refine Below.setCell ?_ (by simp; try omega) _ | refine Below.alloc ?_ (by simp; try omega) _ | exact Below.refl _ _ | exact Hb.out))
 ·(repeat (first | refine Below.setCell ?_ (by simp; try omega) _ | refine Below.alloc ?_ (by simp; try omega) _ | exact Below.refl _ _ | exact Hb.out))
 rintro e w1 ⟨rfl, hb⟩
 have hz1 := hb.size
 try simp at hz1
 have hb0 : Below w.heap.size w w1 := by
  refine below_call ?_ hb
  (repeat (first | refine Below.setCell ?_ (by simp; try omega) _ | refine Below.alloc ?_ (by simp; try omega) _ | exact Below.refl _ _ | exact Hb.out))
 obtain ⟨hc1, hf1⟩ := bcell hb
 have Hb := hid hb0
 clear hb hb0
 go_wp2_with fail
 refine (eqEntryS (Slc.grow h8 ?_) (Slc.grow h8' ?_)).mono ?_
 ·(repeat (first | refine Below.setCell ?_ (by simp; try omega) _ | refine Below.alloc ?_ (by simp; try omega) _ | exact Below.refl _ _ | exact Hb.out))
 ·(repeat (first | refine Below.setCell ?_ (by simp; try omega) _ | refine Below.alloc ?_ (by simp; try omega) _ | exact Below.refl _ _ | exact Hb.out))
 rintro e w2 ⟨rfl, hb⟩
 have hz2 := hb.size
 try simp at hz2
 have hb0 : Below w.heap.size w w2 := by
  refine below_call ?_ hb
  (repeat (first | refine Below.setCell ?_ (by simp; try omega) _ | refine Below.alloc ?_ (by simp; try omega) _ | exact Below.refl _ _ | exact Hb.out))
 obtain ⟨hc2, hf2⟩ := bcell hb
 have Hb := hid hb0
 clear hb hb0
 have hcA2 := fun o => hc2 w.heap.size o (by omega)
 have hcB2 := fun o => hc2 (w.heap.size + 1) o (by omega)
 go_wp2
 go_ret
 exact ⟨rfl, Hb.out⟩
theorem szStore {w : World} {bs : List Nat} {cs : List Value} {d : StoreD} (left : Int) (h : Rep.pt w bs cs d) (hl : 0 ≤ left) (hl2 : left ≤ 1048576) :
  Calls Tryz.prog 5 #[.agg cs.toArray, .int .i64 left] w fun e w' => e = .returned (.int .i64 (szr left (Cnt.cnt d))) ∧ Below w.heap.size w w' := by
 obtain ⟨b3, b4, b5, b8, a3, l3, k3, a4, l4, k4, a5, l5, k5, a8, l8, k8, rfl, rfl, h0, h1, h2, h3, h4, h5, h6, h7, h8, h9⟩ := open_Store h
 have hcnt : Cnt.cnt d = Cnt.cnt d.Disk + Cnt.cnt d.Ents := rfl
 have Hcnt := hid hcnt; clear hcnt
 go_enter Tryz.func5, Tryz.ntmps5
 have Hb : Hid (Below w.heap.size w w) := hid (Below.refl _ _)
 go_wp2_with fail
 refine (szDisk (left) (grow (mk_Disk (d := d.Disk) h0 h1 h2 h3 h4 h5) ?_) (by omega) (by omega)).mono ?_
 ·(repeat (first | refine Below.setCell ?_ (by simp; try omega) _ | refine Below.alloc ?_ (by simp; try omega) _ | exact Below.refl _ _ | exact Hb.out))
 rintro e w1 ⟨rfl, hb⟩
 have hz1 := hb.size
 try simp at hz1
 have hb0 : Below w.heap.size w w1 := by
  refine below_call ?_ hb
  (repeat (first | refine Below.setCell ?_ (by simp; try omega) _ | refine Below.alloc ?_ (by simp; try omega) _ | exact Below.refl _ _ | exact Hb.out))
 obtain ⟨hc1, hf1⟩ := bcell hb
 have Hb := hid hb0
 clear hb hb0
 by_cases hle0 : (Cnt.cnt d.Disk : Int) ≤ left
 rotate_left
 ·rw [szr_neg (by omega)]
  go_wp2
  go_ret
  exact ⟨ret_int (by have := Hcnt.out; rw [szr_neg (by omega)]), Hb.out⟩
 rw [szr_pos hle0]
 go_wp2_with fail
 refine (szEntryS (left - (Cnt.cnt d.Disk : Int)) (Slc.grow h8 ?_) (by omega) (by omega)).mono ?_
 ·(repeat (first | refine Below.setCell ?_ (by simp; try omega) _ | refine Below.alloc ?_ (by simp; try omega) _ | exact Below.refl _ _ | exact Hb.out))
 rintro e w2 ⟨rfl, hb⟩
 have hz2 := hb.size
 try simp at hz2
 have hb0 : Below w.heap.size w w2 := by
  refine below_call ?_ hb
  (repeat (first | refine Below.setCell ?_ (by simp; try omega) _ | refine Below.alloc ?_ (by simp; try omega) _ | exact Below.refl _ _ | exact Hb.out))
 obtain ⟨hc2, hf2⟩ := bcell hb
 have Hb := hid hb0
 clear hb hb0
 have hcA2 := fun o => hc2 w.heap.size o (by omega)
 by_cases hle1 : (Cnt.cnt d.Ents : Int) ≤ left - (Cnt.cnt d.Disk : Int)
 rotate_left
 ·rw [szr_neg (by omega)]
  go_wp2
  go_ret
  exact ⟨ret_int (by have := Hcnt.out; rw [szr_neg (by omega)]), Hb.out⟩
 rw [szr_pos hle1]
 go_wp2
 go_ret
 exact ⟨ret_int (by have := Hcnt.out; rw [szr_pos (by omega)]; omega), Hb.out⟩
end Go.Proofs.YtdjcjilipgpnmaaGreat
