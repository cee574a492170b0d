/- Contracts of the laws' helpers on structures. -/
import Derived.Test.YtdjcjilipgpnmaaGreatKLiftT
set_option linter.unusedSimpArgs false
set_option linter.unusedVariables false
namespace Go.Proofs.YtdjcjilipgpnmaaGreat
open Go.RowKit Go.G6
set_option maxHeartbeats 800000
set_option maxRecDepth 10000
set_option maxHeartbeats 1600000 in
theorem toEntry {w : World} {bs : List Nat} {cs : List Value} {d : EntryD} (h : Rep.pt w bs cs d) :
  Calls Tryz.prog 58 #[.agg cs.toArray] w (RetA w d) := by
 obtain ⟨rfl, rfl, h0, h1⟩ := open_Entry h
 go_enter Tryz.func58, Tryz.ntmps58
 have Hb : Hid (Below w.heap.size w w) := hid (Below.refl _ _)
 go_wp2
 refine bodyPost_ret (v := .agg #[.int .i64 d.Num, .string d.Text]) (by simp [results, Tryz.results58, go_sem]) rfl ?_
 refine ⟨[.int .i64 d.Num, .string d.Text], [], rfl, ?_, ?_⟩
 ·refine own_Entry h0 h1
 ·(repeat (first | refine Below.setCell ?_ (by simp; try omega) _ | refine Below.alloc ?_ (by simp; try omega) _ | exact Below.refl _ _ | exact Hb.out))
theorem eqEntry {w : World} {bs bs2 : List Nat} {cs cs2 : List Value} {d : EntryD} (g1 : Rep.pt w bs cs d) (g2 : Rep.pt w bs2 cs2 d) :
  Calls Tryz.prog 77 #[.agg cs.toArray, .agg cs2.toArray] w fun e w' => e = .returned (.bool true) ∧ Below w.heap.size w w' := by
 obtain ⟨rfl, rfl, h0, h1⟩ := open_Entry g1
 obtain ⟨rfl, rfl, h0', h1'⟩ := open_Entry g2
 go_enter Tryz.func77, Tryz.ntmps77
 have Hb : Hid (Below w.heap.size w w) := hid (Below.refl _ _)
 go_wp2
 go_ret
 exact ⟨rfl, (by repeat (first | refine Below.setCell ?_ (by simp; try omega) _ | refine Below.alloc ?_ (by simp; try omega) _ | exact Below.refl _ _ | exact Hb.out))⟩
theorem szEntry {w : World} {bs : List Nat} {cs : List Value} {d : EntryD} (left : Int) (h : Rep.pt w bs cs d) (hl : 0 ≤ left) (hl2 : left ≤ 1048576) :
  Calls Tryz.prog 45 #[.agg cs.toArray, .int .i64 left] w fun e w' => e = .returned (.int .i64 (szr left (Cnt.cnt d))) ∧ Below w.heap.size w w' := by
 obtain ⟨rfl, rfl, h0, h1⟩ := open_Entry h
 have hcnt : Cnt.cnt d = Cnt.cnt d.Text := rfl
 have Hcnt := hid hcnt; clear hcnt
 go_enter Tryz.func45, Tryz.ntmps45
 have Hb : Hid (Below w.heap.size w w) := hid (Below.refl _ _)
 have hcs0 : Cnt.cnt d.Text = d.Text.size := rfl
 have hmx0 : d.Text.size ≤ 9223372036854775807 := by first | assumption | (simp only [maxLen] at *; assumption) | (unfold maxLen at *; omega)
 by_cases hle0 : (d.Text.size : Int) ≤ left
 rotate_left
 ·go_wp2
  go_ret
  exact ⟨ret_int (by have := Hcnt.out; rw [szr_neg (by omega)]), (by repeat (first | refine Below.setCell ?_ (by simp; try omega) _ | refine Below.alloc ?_ (by simp; try omega) _ | exact Below.refl _ _ | exact Hb.out))⟩
 go_wp2
 go_ret
 exact ⟨ret_int (by have := Hcnt.out; rw [szr_pos (by omega)]; omega), (by repeat (first | refine Below.setCell ?_ (by simp; try omega) _ | refine Below.alloc ?_ (by simp; try omega) _ | exact Below.refl _ _ | exact Hb.out))⟩
set_option maxHeartbeats 1600000 in
theorem toNode {w : World} {bs : List Nat} {cs : List Value} {d : NodeD} (h : Rep.pt w bs cs d) (hn : Cnt.cnt d ≤ 1048576) :
  Calls Tryz.prog 101 #[.agg cs.toArray] w (RetA w d) := by
 obtain ⟨b1, b2, a1, l1, k1, a2, l2, k2, rfl, rfl, h0, h1, h2⟩ := open_Node h
 have hn : Cnt.cnt d.Body + Cnt.cnt d.Safe ≤ 1048576 := hn
 go_enter Tryz.func101, Tryz.ntmps101
 have Hb : Hid (Below w.heap.size w w) := hid (Below.refl _ _)
 go_wp2_with fail
 refine (toByteS (Slc.grow h1 ?_) (by first | exact hn | omega | (have := hn; simp only [cnt_ints, cnt_bytes, cnt_list] at this; omega))).mono ?_
 ·(repeat (first | refine Below.setCell ?_ (by simp; try omega) _ | refine Below.alloc ?_ (by simp; try omega) _ | exact Below.refl _ _ | exact Hb.out))
 rintro e w1 ⟨a1', l1', k1', b1', rfl, hO, hb⟩
 have hz1 := hb.size
 try simp at hz1
 have hb0 : Below w.heap.size w w1 := by
  refine below_call ?_ hb
  (repeat (first | refine Below.setCell ?_ (by simp; try omega) _ | refine Below.alloc ?_ (by simp; try omega) _ | exact Below.refl _ _ | exact Hb.out))
 obtain ⟨hc1, hf1⟩ := bcell hb
 have HN1 : ∀ b ∈ b1', _ ∧ b < w1.heap.size := fun b hb => hO.lts b hb
 simp at HN1
 have HO1 := hid (hO.mono (lo' := w.heap.size) (by simp; omega))
 have Hb := hid hb0
 clear hb hb0 hO
 go_wp2_with fail
 refine (toByteS (Slc.grow h2 ?_) (by first | exact hn | omega | (have := hn; simp only [cnt_ints, cnt_bytes, cnt_list] at this; omega))).mono ?_
 ·(repeat (first | refine Below.setCell ?_ (by simp; try omega) _ | refine Below.alloc ?_ (by simp; try omega) _ | exact Below.refl _ _ | exact Hb.out))
 rintro e w2 ⟨a2', l2', k2', b2', rfl, hO, hb⟩
 have hz2 := hb.size
 try simp at hz2
 have hb0 : Below w.heap.size w w2 := by
  refine below_call ?_ hb
  (repeat (first | refine Below.setCell ?_ (by simp; try omega) _ | refine Below.alloc ?_ (by simp; try omega) _ | exact Below.refl _ _ | exact Hb.out))
 obtain ⟨hc2, hf2⟩ := bcell hb
 have hcA2 := fun o => hc2 (w.heap.size) o (by simp; omega)
 have hfA2 := fun o => hf2 (w.heap.size) o (by simp; omega)
 have hcB2 := fun o => hc2 (w.heap.size + 1) o (by simp; omega)
 have hfB2 := fun o => hf2 (w.heap.size + 1) o (by simp; omega)
 have hcC2 := fun o => hc2 (w.heap.size + 1 + 1) o (by simp; omega)
 have hfC2 := fun o => hf2 (w.heap.size + 1 + 1) o (by simp; omega)
 have HO1 : Hid (Own w.heap.size w2 b1' [.slice a1' l1' k1'] d.Body) := by
  refine hid (Own.grow ?_ hb)
  repeat (first | refine Own.setCell' _ ?_ (fun b hb => by have := HN1 b hb; simp; omega) | exact HO1.out)
 have HN2 : ∀ b ∈ b2', _ ∧ b < w2.heap.size := fun b hb => hO.lts b hb
 simp at HN2
 have HO2 := hid (hO.mono (lo' := w.heap.size) (by simp; omega))
 have Hb := hid hb0
 clear hb hb0 hO
 go_wp2
 refine bodyPost_ret (v := .agg #[.int .i64 d.Id, .slice a1' l1' k1', .slice a2' l2' k2']) (by simp [results, Tryz.results101, go_sem, hc1, hc2, hcA2, hcB2, hcC2]) rfl ?_
 refine ⟨[.int .i64 d.Id, .slice a1' l1' k1', .slice a2' l2' k2'], b1' ++ b2', rfl, ?_, ?_⟩
 ·refine own_Node h0 ?o1 ?o2 ?e1_2
  case o1 => repeat (first | refine Own.setCell' _ ?_ (fun b hb => by have := HN1 b hb; simp; omega) | exact HO1.out | refine Own.grow ?_ (by assumption))
  case o2 => repeat (first | refine Own.setCell' _ ?_ (fun b hb => by have := HN2 b hb; simp; omega) | exact HO2.out | refine Own.grow ?_ (by assumption))
  case e1_2 => first | exact E1_2.out | exact fun x hx hx' => by have := HN1 x hx; have := HN2 x hx'; omega
 ·(repeat (first | refine Below.setCell ?_ (by simp; try omega) _ | refine Below.alloc ?_ (by simp; try omega) _ | exact Below.refl _ _ | exact Hb.out))
theorem eqNode {w : World} {bs bs2 : List Nat} {cs cs2 : List Value} {d : NodeD} (g1 : Rep.pt w bs cs d) (g2 : Rep.pt w bs2 cs2 d) :
  Calls Tryz.prog 110 #[.agg cs.toArray, .agg cs2.toArray] w fun e w' => e = .returned (.bool true) ∧ Below w.heap.size w w' := by
 obtain ⟨b1, b2, a1, l1, k1, a2, l2, k2, rfl, rfl, h0, h1, h2⟩ := open_Node g1
 obtain ⟨b1', b2', a1', l1', k1', a2', l2', k2', rfl, rfl, h0', h1', h2'⟩ := open_Node g2
 go_enter Tryz.func110, Tryz.ntmps110
 have Hb : Hid (Below w.heap.size w w) := hid (Below.refl _ _)
 go_wp2_with fail
 refine (eqByteS (Slc.grow h1 ?_) (Slc.grow h1' ?_)).mono ?_
 ·(repeat (first | refine Below.setCell ?_ (by simp; try omega) _ | refine Below.alloc ?_ (by simp; try omega) _ | exact Below.refl _ _ | exact Hb.out))
 ·(repeat (first | refine Below.setCell ?_ (by simp; try omega) _ | refine Below.alloc ?_ (by simp; try omega) _ | exact Below.refl _ _ | exact Hb.out))
 rintro e w1 ⟨rfl, hb⟩
 have hz1 := hb.size
 try simp at hz1
 have hb0 : Below w.heap.size w w1 := by
  refine below_call ?_ hb
  (repeat (first | refine Below.setCell ?_ (by simp; try omega) _ | refine Below.alloc ?_ (by simp; try omega) _ | exact Below.refl _ _ | exact Hb.out))
 obtain ⟨hc1, hf1⟩ := bcell hb
 have Hb := hid hb0
 clear hb hb0
 go_wp2_with fail
 refine (eqByteS (Slc.grow h2 ?_) (Slc.grow h2' ?_)).mono ?_
 ·(repeat (first | refine Below.setCell ?_ (by simp; try omega) _ | refine Below.alloc ?_ (by simp; try omega) _ | exact Below.refl _ _ | exact Hb.out))
 ·(repeat (first | refine Below.setCell ?_ (by simp; try omega) _ | refine Below.alloc ?_ (by simp; try omega) _ | exact Below.refl _ _ | exact Hb.out))
 rintro e w2 ⟨rfl, hb⟩
 have hz2 := hb.size
 try simp at hz2
 have hb0 : Below w.heap.size w w2 := by
  refine below_call ?_ hb
  (repeat (first | refine Below.setCell ?_ (by simp; try omega) _ | refine Below.alloc ?_ (by simp; try omega) _ | exact Below.refl _ _ | exact Hb.out))
 obtain ⟨hc2, hf2⟩ := bcell hb
 have Hb := hid hb0
 clear hb hb0
 have hcA2 := fun o => hc2 w.heap.size o (by omega)
 have hcB2 := fun o => hc2 (w.heap.size + 1) o (by omega)
 go_wp2
 go_ret
 exact ⟨rfl, Hb.out⟩
theorem szNode {w : World} {bs : List Nat} {cs : List Value} {d : NodeD} (left : Int) (h : Rep.pt w bs cs d) (hl : 0 ≤ left) (hl2 : left ≤ 1048576) :
  Calls Tryz.prog 85 #[.agg cs.toArray, .int .i64 left] w fun e w' => e = .returned (.int .i64 (szr left (Cnt.cnt d))) ∧ Below w.heap.size w w' := by
 obtain ⟨b1, b2, a1, l1, k1, a2, l2, k2, rfl, rfl, h0, h1, h2⟩ := open_Node h
 have hcnt : Cnt.cnt d = Cnt.cnt d.Body + Cnt.cnt d.Safe := rfl
 have Hcnt := hid hcnt; clear hcnt
 go_enter Tryz.func85, Tryz.ntmps85
 have Hb : Hid (Below w.heap.size w w) := hid (Below.refl _ _)
 go_wp2_with fail
 refine (szByteS (left) (Slc.grow h1 ?_) (by omega) (by omega)).mono ?_
 ·(repeat (first | refine Below.setCell ?_ (by simp; try omega) _ | refine Below.alloc ?_ (by simp; try omega) _ | exact Below.refl _ _ | exact Hb.out))
 rintro e w1 ⟨rfl, hb⟩
 have hz1 := hb.size
 try simp at hz1
 have hb0 : Below w.heap.size w w1 := by
  refine below_call ?_ hb
  (repeat (first | refine Below.setCell ?_ (by simp; try omega) _ | refine Below.alloc ?_ (by simp; try omega) _ | exact Below.refl _ _ | exact Hb.out))
 obtain ⟨hc1, hf1⟩ := bcell hb
 have Hb := hid hb0
 clear hb hb0
 by_cases hle0 : (Cnt.cnt d.Body : Int) ≤ left
 rotate_left
 ·rw [szr_neg (by omega)]
  go_wp2
  go_ret
  exact ⟨ret_int (by have := Hcnt.out; rw [szr_neg (by omega)]), Hb.out⟩
 rw [szr_pos hle0]
 go_wp2_with fail
 refine (szByteS (left - (Cnt.cnt d.Body : Int)) (Slc.grow h2 ?_) (by omega) (by omega)).mono ?_
 ·(repeat (first | refine Below.setCell ?_ (by simp; try omega) _ | refine Below.alloc ?_ (by simp; try omega) _ | exact Below.refl _ _ | exact Hb.out))
 rintro e w2 ⟨rfl, hb⟩
 have hz2 := hb.size
 try simp at hz2
 have hb0 : Below w.heap.size w w2 := by
  refine below_call ?_ hb
  (repeat (first | refine Below.setCell ?_ (by simp; try omega) _ | refine Below.alloc ?_ (by simp; try omega) _ | exact Below.refl _ _ | exact Hb.out))
 obtain ⟨hc2, hf2⟩ := bcell hb
 have Hb := hid hb0
 clear hb hb0
 have hcA2 := fun o => hc2 w.heap.size o (by omega)
 by_cases hle1 : (Cnt.cnt d.Safe : Int) ≤ left - (Cnt.cnt d.Body : Int)
 rotate_left
 ·rw [szr_neg (by omega)]
  go_wp2
  go_ret
  exact ⟨ret_int (by have := Hcnt.out; rw [szr_neg (by omega)]), Hb.out⟩
 rw [szr_pos hle1]
 go_wp2
 go_ret
 exact ⟨ret_int (by have := Hcnt.out; rw [szr_pos (by omega)]; omega), Hb.out⟩
set_option maxHeartbeats 1600000 in
theorem toLink {w : World} {bs : List Nat} {cs : List Value} {d : LinkD} (h : Rep.pt w bs cs d) :
  Calls Tryz.prog 102 #[.agg cs.toArray] w (RetA w d) := by
 obtain ⟨rfl, rfl, h0, h1⟩ := open_Link h
 go_enter Tryz.func102, Tryz.ntmps102
 have Hb : Hid (Below w.heap.size w w) := hid (Below.refl _ _)
 go_wp2
 refine bodyPost_ret (v := .agg #[.string d.Name, .int .i64 d.Id]) (by simp [results, Tryz.results102, go_sem]) rfl ?_
 refine ⟨[.string d.Name, .int .i64 d.Id], [], rfl, ?_, ?_⟩
 ·refine own_Link h0 h1
 ·(repeat (first | refine Below.setCell ?_ (by simp; try omega) _ | refine Below.alloc ?_ (by simp; try omega) _ | exact Below.refl _ _ | exact Hb.out))
theorem eqLink {w : World} {bs bs2 : List Nat} {cs cs2 : List Value} {d : LinkD} (g1 : Rep.pt w bs cs d) (g2 : Rep.pt w bs2 cs2 d) :
  Calls Tryz.prog 111 #[.agg cs.toArray, .agg cs2.toArray] w fun e w' => e = .returned (.bool true) ∧ Below w.heap.size w w' := by
 obtain ⟨rfl, rfl, h0, h1⟩ := open_Link g1
 obtain ⟨rfl, rfl, h0', h1'⟩ := open_Link g2
 go_enter Tryz.func111, Tryz.ntmps111
 have Hb : Hid (Below w.heap.size w w) := hid (Below.refl _ _)
 go_wp2
 go_ret
 exact ⟨rfl, (by repeat (first | refine Below.setCell ?_ (by simp; try omega) _ | refine Below.alloc ?_ (by simp; try omega) _ | exact Below.refl _ _ | exact Hb.out))⟩
theorem szLink {w : World} {bs : List Nat} {cs : List Value} {d : LinkD} (left : Int) (h : Rep.pt w bs cs d) (hl : 0 ≤ left) (hl2 : left ≤ 1048576) :
  Calls Tryz.prog 86 #[.agg cs.toArray, .int .i64 left] w fun e w' => e = .returned (.int .i64 (szr left (Cnt.cnt d))) ∧ Below w.heap.size w w' := by
 obtain ⟨rfl, rfl, h0, h1⟩ := open_Link h
 have hcnt : Cnt.cnt d = Cnt.cnt d.Name := rfl
 have Hcnt := hid hcnt; clear hcnt
 go_enter Tryz.func86, Tryz.ntmps86
 have Hb : Hid (Below w.heap.size w w) := hid (Below.refl _ _)
 have hcs0 : Cnt.cnt d.Name = d.Name.size := rfl
 have hmx0 : d.Name.size ≤ 9223372036854775807 := by first | assumption | (simp only [maxLen] at *; assumption) | (unfold maxLen at *; omega)
 by_cases hle0 : (d.Name.size : Int) ≤ left
 rotate_left
 ·go_wp2
  go_ret
  exact ⟨ret_int (by have := Hcnt.out; rw [szr_neg (by omega)]), (by repeat (first | refine Below.setCell ?_ (by simp; try omega) _ | refine Below.alloc ?_ (by simp; try omega) _ | exact Below.refl _ _ | exact Hb.out))⟩
 go_wp2
 go_ret
 exact ⟨ret_int (by have := Hcnt.out; rw [szr_pos (by omega)]; omega), (by repeat (first | refine Below.setCell ?_ (by simp; try omega) _ | refine Below.alloc ?_ (by simp; try omega) _ | exact Below.refl _ _ | exact Hb.out))⟩
set_option maxHeartbeats 1600000 in
theorem toTurn {w : World} {bs : List Nat} {cs : List Value} {d : TurnD} (h : Rep.pt w bs cs d) :
  Calls Tryz.prog 103 #[.agg cs.toArray] w (RetA w d) := by
 obtain ⟨rfl, rfl, h0, h1, h2, h3⟩ := open_Turn h
 go_enter Tryz.func103, Tryz.ntmps103
 have Hb : Hid (Below w.heap.size w w) := hid (Below.refl _ _)
 go_wp2
 refine bodyPost_ret (v := .agg #[.int .i64 d.Kind, .string d.Name, .string d.To, .int .i64 d.Id]) (by simp [results, Tryz.results103, go_sem]) rfl ?_
 refine ⟨[.int .i64 d.Kind, .string d.Name, .string d.To, .int .i64 d.Id], [], rfl, ?_, ?_⟩
 ·refine own_Turn h0 h1 h2 h3
 ·(repeat (first | refine Below.setCell ?_ (by simp; try omega) _ | refine Below.alloc ?_ (by simp; try omega) _ | exact Below.refl _ _ | exact Hb.out))
theorem eqTurn {w : World} {bs bs2 : List Nat} {cs cs2 : List Value} {d : TurnD} (g1 : Rep.pt w bs cs d) (g2 : Rep.pt w bs2 cs2 d) :
  Calls Tryz.prog 112 #[.agg cs.toArray, .agg cs2.toArray] w fun e w' => e = .returned (.bool true) ∧ Below w.heap.size w w' := by
 obtain ⟨rfl, rfl, h0, h1, h2, h3⟩ := open_Turn g1
 obtain ⟨rfl, rfl, h0', h1', h2', h3'⟩ := open_Turn g2
 go_enter Tryz.func112, Tryz.ntmps112
 have Hb : Hid (Below w.heap.size w w) := hid (Below.refl _ _)
 go_wp2
 go_ret
 exact ⟨rfl, (by repeat (first | refine Below.setCell ?_ (by simp; try omega) _ | refine Below.alloc ?_ (by simp; try omega) _ | exact Below.refl _ _ | exact Hb.out))⟩
theorem szTurn {w : World} {bs : List Nat} {cs : List Value} {d : TurnD} (left : Int) (h : Rep.pt w bs cs d) (hl : 0 ≤ left) (hl2 : left ≤ 1048576) :
  Calls Tryz.prog 87 #[.agg cs.toArray, .int .i64 left] w fun e w' => e = .returned (.int .i64 (szr left (Cnt.cnt d))) ∧ Below w.heap.size w w' := by
 obtain ⟨rfl, rfl, h0, h1, h2, h3⟩ := open_Turn h
 have hcnt : Cnt.cnt d = Cnt.cnt d.Name + Cnt.cnt d.To := rfl
 have Hcnt := hid hcnt; clear hcnt
 go_enter Tryz.func87, Tryz.ntmps87
 have Hb : Hid (Below w.heap.size w w) := hid (Below.refl _ _)
 have hcs0 : Cnt.cnt d.Name = d.Name.size := rfl
 have hmx0 : d.Name.size ≤ 9223372036854775807 := by first | assumption | (simp only [maxLen] at *; assumption) | (unfold maxLen at *; omega)
 by_cases hle0 : (d.Name.size : Int) ≤ left
 rotate_left
 ·go_wp2
  go_ret
  exact ⟨ret_int (by have := Hcnt.out; rw [szr_neg (by omega)]), (by repeat (first | refine Below.setCell ?_ (by simp; try omega) _ | refine Below.alloc ?_ (by simp; try omega) _ | exact Below.refl _ _ | exact Hb.out))⟩
 have hcs1 : Cnt.cnt d.To = d.To.size := rfl
 have hmx1 : d.To.size ≤ 9223372036854775807 := by first | assumption | (simp only [maxLen] at *; assumption) | (unfold maxLen at *; omega)
 by_cases hle1 : (d.To.size : Int) ≤ left - (d.Name.size : Int)
 rotate_left
 ·go_wp2
  go_ret
  exact ⟨ret_int (by have := Hcnt.out; rw [szr_neg (by omega)]), (by repeat (first | refine Below.setCell ?_ (by simp; try omega) _ | refine Below.alloc ?_ (by simp; try omega) _ | exact Below.refl _ _ | exact Hb.out))⟩
 go_wp2
 go_ret
 exact ⟨ret_int (by have := Hcnt.out; rw [szr_pos (by omega)]; omega), (by repeat (first | refine Below.setCell ?_ (by simp; try omega) _ | refine Below.alloc ?_ (by simp; try omega) _ | exact Below.refl _ _ | exact Hb.out))⟩
end Go.Proofs.YtdjcjilipgpnmaaGreat
