/- Disks are valid, as the reference asks it (printed by gendskok.py). -/
import Derived.Test.YtdjcjilipgpnmaaGreatKDskM
import Derived.Test.YtdjcjilipgpnmaaGreatKDirS
set_option linter.unusedSimpArgs false
set_option linter.unusedVariables false
namespace Go.G6
open Go Go.RowKit Rep
def blt (a b : ByteArray) : Bool := Op.bytesLess a.toList b.toList
def nodesOk (next : Int) : Int → List NodeD → Bool
 | _, [] => true
 | last, x :: l => decide (last < x.Id) && decide (x.Id < next) && nodesOk next x.Id l
def prevOk (p : Option ByteArray) (s : ByteArray) : Bool := match p with | none => true | some q => blt q s
def keptS : Option ByteArray → List LinkD → Bool
 | _, [] => true
 | p, x :: l => nameOk x.Name && decide (1 ≤ x.Id) && prevOk p x.Name && keptS (some x.Name) l
def idsFrom (nodes : List Int) : List Int → List Int → Bool
 | _, [] => true
 | don, n :: l => !hasI don n && hasI nodes n && idsFrom nodes (don ++ [n]) l
def turnsOk : List LinkD → List TurnD → Bool
 | _, [] => true
 | dir, t :: l => turnFit dir t && turnsOk (dirTurn dir t) l
structure RangeOk (d : DiskD) : Prop where
 r1 : 0 ≤ d.Room
 r2 : d.Room ≤ 60000
 r3 : -1 ≤ d.Fuse
 r4 : d.Fuse ≤ 1000
 r5 : 1 ≤ d.Next
 r6 : d.Next ≤ 1000000
 r7 : d.Nodes.length ≤ 8
 r8 : d.Kept.length ≤ 8
 r9 : d.Turns.length ≤ 40
def rangeB (d : DiskD) : Bool := decide (0 ≤ d.Room) && decide (d.Room ≤ 60000) && decide (-1 ≤ d.Fuse) && decide (d.Fuse ≤ 1000) && decide (1 ≤ d.Next) && decide (d.Next ≤ 1000000) && decide (d.Nodes.length ≤ 8) && decide (d.Kept.length ≤ 8) && decide (d.Turns.length ≤ 40)
theorem rangeB_iff (d : DiskD) : rangeB d = true ↔ RangeOk d := by
 unfold rangeB
 simp only [Bool.and_eq_true, decide_eq_true_eq]
 constructor
 ·rintro ⟨⟨⟨⟨⟨⟨⟨⟨a, b⟩, c⟩, e⟩, f⟩, g⟩, h⟩, i⟩, j⟩
  exact ⟨a, b, c, e, f, g, h, i, j⟩
 ·rintro ⟨a, b, c, e, f, g, h, i, j⟩
  exact ⟨⟨⟨⟨⟨⟨⟨⟨a, b⟩, c⟩, e⟩, f⟩, g⟩, h⟩, i⟩, j⟩
theorem rangeB_no {d : DiskD} (h : ¬ RangeOk d) : rangeB d = false := by
 cases hr : rangeB d
 ·rfl
 ·exact absurd ((rangeB_iff d).1 hr) h
def idNodes (l : List NodeD) : List Int := l.map (·.Id)
theorem idNodes_step {l : List NodeD} {k : Nat} (h : k < l.length) : idNodes (l.take (k + 1)) = idNodes (l.take k) ++ [l[k].Id] := by
 unfold idNodes; rw [List.take_succ_eq_append_getElem h, List.map_append]; rfl
def diskOk (d : DiskD) : Bool := rangeB d && (nodesOk d.Next 0 d.Nodes && (keptS none d.Kept && (decide ((diskIds d).length = d.Nodes.length) && (idsFrom (idNodes d.Nodes) [] (diskIds d) && (turnsOk d.Kept d.Turns && decide ((diskUsed d : Int) ≤ d.Room))))))
end Go.G6
namespace Go.Proofs.YtdjcjilipgpnmaaGreat
open Go.RowKit Go.G6
set_option maxHeartbeats 6000000
set_option maxRecDepth 10000
theorem s_DiskOk {w : World} {bs : List Nat} {cs : List Value} {d : DiskD} (h : Rep.pt w bs cs d) (hs : Small d) :
  Calls Tryz.prog 46 #[.agg cs.toArray] w fun e w' => e = .returned (.bool (diskOk d)) ∧ Below w.heap.size w w' := by
 obtain ⟨b3, b4, b5, a3, l3, k3, a4, l4, k4, a5, l5, k5, rfl, hcs, h0, h1, h2, h3, h4, h5⟩ := open_Disk h
 obtain rfl := h3.len_eq
 obtain rfl := h4.len_eq
 obtain rfl := h5.len_eq
 obtain ⟨i0, hi, hz0, hz1, hz2⟩ := info_parts info_intF
 have m3 := h3.max; have m4 := h4.max; have m5 := h5.max
 have H3 := hid h3; have H4 := hid h4; have H5 := hid h5; have H0 := hid h; have HS := hid hs
 have HX := hid (Bx.new w cs.toArray 35 rfl)
 have I0 := hid (show (Tryz.prog.info? 35).map (·.size) = some cs.length by rw [hcs]; kernel_rfl)
 have x0 := bx_at HX.out 0 (v := .int .i64 d.Room) (by rw [hcs]; rfl)
 have x1 := bx_at HX.out 1 (v := .int .i64 d.Fuse) (by rw [hcs]; rfl)
 have x2 := bx_at HX.out 2 (v := .int .i64 d.Next) (by rw [hcs]; rfl)
 have x3 := bx_at HX.out 3 (v := .slice a3 d.Nodes.length k3) (by rw [hcs]; rfl)
 have x4 := bx_at HX.out 4 (v := .slice a4 d.Kept.length k4) (by rw [hcs]; rfl)
 have x5 := bx_at HX.out 5 (v := .slice a5 d.Turns.length k5) (by rw [hcs]; rfl)
 clear h h0 h1 h2 h3 h4 h5 hcs hs
 have hb0 := hid ((Below.refl w.heap.size w).alloc (Nat.le_refl _) (.cells cs.toArray 35))
 obtain ⟨wA, hwA⟩ : ∃ wA, wA = w.alloc (.cells cs.toArray 35) := ⟨_, rfl⟩
 rw [← hwA] at hb0 x0 x1 x2 x3 x4 x5 HX
 go_enter Tryz.func46, Tryz.ntmps46
 go_upto_region 1 with fail
 rw [← hwA]
 clear hwA
 by_cases r1 : d.Room < 0
 ·have E := hid (show diskOk d = false by unfold diskOk; rw [rangeB_no fun h => by have := h.r1; omega]; rfl)
  clear m3 m4 m5
  go_wp2
  go_ret
  exact ⟨ret_bool (by rw [E.out]), hb0.out⟩
 by_cases r2 : 60000 < d.Room
 ·have E := hid (show diskOk d = false by unfold diskOk; rw [rangeB_no fun h => by have := h.r2; omega]; rfl)
  clear m3 m4 m5
  go_wp2
  go_ret
  exact ⟨ret_bool (by rw [E.out]), hb0.out⟩
 by_cases r3 : d.Fuse < -1
 ·have E := hid (show diskOk d = false by unfold diskOk; rw [rangeB_no fun h => by have := h.r3; omega]; rfl)
  clear m3 m4 m5
  go_wp2
  go_ret
  exact ⟨ret_bool (by rw [E.out]), hb0.out⟩
 by_cases r4 : 1000 < d.Fuse
 ·have E := hid (show diskOk d = false by unfold diskOk; rw [rangeB_no fun h => by have := h.r4; omega]; rfl)
  clear m3 m4 m5
  go_wp2
  go_ret
  exact ⟨ret_bool (by rw [E.out]), hb0.out⟩
 by_cases r5 : d.Next < 1
 ·have E := hid (show diskOk d = false by unfold diskOk; rw [rangeB_no fun h => by have := h.r5; omega]; rfl)
  clear m3 m4 m5
  go_wp2
  go_ret
  exact ⟨ret_bool (by rw [E.out]), hb0.out⟩
 by_cases r6 : 1000000 < d.Next
 ·have E := hid (show diskOk d = false by unfold diskOk; rw [rangeB_no fun h => by have := h.r6; omega]; rfl)
  clear m3 m4 m5
  go_wp2
  go_ret
  exact ⟨ret_bool (by rw [E.out]), hb0.out⟩
 by_cases r7 : (8 : Int) < (d.Nodes.length : Int)
 ·have E := hid (show diskOk d = false by unfold diskOk; rw [rangeB_no fun h => by have := h.r7; omega]; rfl)
  clear m3 m4 m5
  go_wp2
  go_ret
  exact ⟨ret_bool (by rw [E.out]), hb0.out⟩
 by_cases r8 : (8 : Int) < (d.Kept.length : Int)
 ·have E := hid (show diskOk d = false by unfold diskOk; rw [rangeB_no fun h => by have := h.r8; omega]; rfl)
  clear m3 m4 m5
  go_wp2
  go_ret
  exact ⟨ret_bool (by rw [E.out]), hb0.out⟩
 by_cases r9 : (40 : Int) < (d.Turns.length : Int)
 ·have E := hid (show diskOk d = false by unfold diskOk; rw [rangeB_no fun h => by have := h.r9; omega]; rfl)
  clear m3 m4 m5
  go_wp2
  go_ret
  exact ⟨ret_bool (by rw [E.out]), hb0.out⟩
 have hR : RangeOk d := ⟨by omega, by omega, by omega, by omega, by omega, by omega, by omega, by omega, by omega⟩
 have E1 := hid (show diskOk d = (nodesOk d.Next 0 d.Nodes && (keptS none d.Kept && (decide ((diskIds d).length = d.Nodes.length) && (idsFrom (idNodes d.Nodes) [] (diskIds d) && (turnsOk d.Kept d.Turns && decide ((diskUsed d : Int) ≤ d.Room)))))) by unfold diskOk; rw [(rangeB_iff d).2 hR]; rfl)
 have HR := hid hR
 have l0 := World.block_lt_of_cell? _ _ x0
 have L0 := hid l0
 have X0 := hid x0; have X2 := hid x2; have X3 := hid x3; have X4 := hid x4; have X5 := hid x5
 have HO := hid (show OwnL wA.heap.size (wA.alloc (.cells #[] 3)) 3 (.slice (some ⟨wA.heap.size, 0, none⟩) 0 0) [wA.heap.size] ([] : List Int) from ownL_empty rfl (Nat.le_refl _))
 have hB := hid (show Below wA.heap.size wA (wA.alloc (.cells #[] 3)) from (Below.refl _ _).alloc (Nat.le_refl _) _)
 go_upto_region 4 with fail
 have x3' := ((bcell hB.out).1 _ 3 l0).trans x3
 clear hR x0 x1 x2 x3 x4 x5 l0 m4 m5
 clear r1 r2 r3 r4 r5 r6 r7 r8 r9
 go_wp2_with fail
 go_loopw [3, 64] (fun o i wr => ∃ (k : Nat) (p : Option Addr) (c : Nat) (b' : List Nat) (m : Nat) (don : List Int) (last : Int), k ≤ d.Nodes.length ∧ m = don.length ∧ m = k ∧ o = .slice p m c ∧ i = .int .i64 (k : Int) ∧ OwnL wA.heap.size wr 3 (.slice p m c) b' don ∧ don = idNodes (d.Nodes.take k) ∧ nodesOk d.Next 0 d.Nodes = nodesOk d.Next last (d.Nodes.drop k) ∧ (k = 0 ∧ last = 0 ∨ ∃ j, ∃ hj : j < d.Nodes.length, k = j + 1 ∧ last = d.Nodes[j].Id ∧ 1 ≤ last) ∧ Below wA.heap.size wA wr) (fun _ i _ => d.Nodes.length - (intOf i).toNat)
 case atStart => exact ⟨0, some ⟨wA.heap.size, 0, none⟩, 0, [wA.heap.size], 0, [], 0, Nat.zero_le _, rfl, rfl, rfl, rfl, HO.out, rfl, rfl, .inl ⟨rfl, rfl⟩, hB.out⟩
 case round =>
  obtain ⟨k, p, c, b', m, don, last, hk, hm, hmk, rfl, rfl, hO, hd, hno, hpv, hb⟩ := hrel
  obtain rfl : m = k := hmk
  have HOr := hid hO; have HD := hid hd; have HBr := hid hb; have HM := hid hm; have HNO := hid hno; have HPV := hid hpv
  clear hO hd hm HO hB hno hpv
  have hn8 := HR.out.r7
  by_cases hlt : m < d.Nodes.length
  ·obtain ⟨b1, o1, cs1, _, rfl, _, hp1, _, hA1⟩ := (H3.out.grow (hb0.out.trans (hb.mono hb0.out.size))).elem m hlt
   obtain ⟨y1, y2, e1, n1, f1, e2, n2, f2, rfl, rfl, q1, q2, q3⟩ := open_Node hp1
   have c0 : wr.cell? ⟨b1, o1 + m * 3, none⟩ = some _ := hA1 0 _ rfl
   have c1 : wr.cell? ⟨b1, o1 + m * 3 + 1, none⟩ = some _ := hA1 1 _ rfl
   have c2 : wr.cell? ⟨b1, o1 + m * 3 + 2, none⟩ = some _ := hA1 2 _ rfl
   have hst : nodesOk d.Next last (d.Nodes.drop m) = (decide (last < d.Nodes[m].Id) && decide (d.Nodes[m].Id < d.Next) && nodesOk d.Next d.Nodes[m].Id (d.Nodes.drop (m + 1))) := by
    rw [List.drop_eq_getElem_cons hlt]; rfl
   have hst2 := idNodes_step hlt
   have hki : (m : Int) < (d.Nodes.length : Int) := by omega
   have hpr : ∀ j : Nat, m = j + 1 → wr.cell? ⟨b1, o1 + j * 3, none⟩ = some (.int .i64 last) ∧ 1 ≤ last := by
    intro j hj
    rcases HPV.out with ⟨h1, _⟩ | ⟨j', hj', h1, h2, h3⟩
    ·omega
    ·obtain rfl : j = j' := by omega
     obtain ⟨b2, o2, cs2, _, e2, _, hp2, _, hA2⟩ := (H3.out.grow (hb0.out.trans (hb.mono hb0.out.size))).elem j hj'
     obtain ⟨rfl, rfl⟩ : b1 = b2 ∧ o1 = o2 := by simpa using e2
     obtain ⟨_, _, _, _, _, _, _, _, _, rfl, _, _, _⟩ := open_Node hp2
     rw [h2]
     exact ⟨hA2 0 _ rfl, by rw [← h2]; exact h3⟩
   have hp0 : m = 0 → last = 0 := by
    intro h0
    rcases HPV.out with ⟨_, h1⟩ | ⟨j', hj', h1, h2, h3⟩
    ·exact h1
    ·omega
   have HPR := hid hpr; have HP0 := hid hp0
   obtain ⟨x, hx⟩ : ∃ x, x = d.Nodes[m].Id := ⟨_, rfl⟩
   rw [← hx] at hst hst2 c0 q1
   have HX1 := hid (show ∃ hj : m < d.Nodes.length, x = d.Nodes[m].Id from ⟨hlt, hx⟩)
   have HST := hid hst; have HST2 := hid hst2; have Q1 := hid q1
   have HB3 := hid (HBr.out.alloc HBr.out.size (.cells #[.int .i64 x, .slice e1 n1 f1, .slice e2 n2 f2] 104))
   have HO3 := hid (HOr.out.alloc (.cells #[.int .i64 x, .slice e1 n1 f1, .slice e2 n2 f2] 104))
   have z2 := ((bcell hb).1 _ 2 L0.out).trans X2.out
   have z3 := ((bcell hb).1 _ 3 L0.out).trans X3.out
   have hF := hid fun (hl : ¬ last < x ∨ ¬ x < d.Next) => show diskOk d = false by
    rw [E1.out, HNO.out, HST.out]; rcases hl with h | h <;> simp [h]
   have lr : w.heap.size < wr.heap.size := Nat.lt_of_lt_of_le L0.out HBr.out.size
   have LR := hid lr
   clear hst hst2 hp1 hA1 hx q1 q2 q3 hpr hp0 HPV lr
   go_upto_region 7 with fail
   refine late_genw (fun w4 hw4 => ?_)
   rw [← hw4] at HB3 HO3
   have hbb : Below wr.heap.size wr w4 := by rw [hw4]; exact (Below.refl _ _).alloc (Nat.le_refl _) _
   have X := show Bx w4 wr.heap.size #[.int .i64 x, .slice e1 n1 f1, .slice e2 n2 f2] by rw [hw4]; exact Bx.new _ _ _ rfl
   have y0 : w4.cell? ⟨wr.heap.size, 0, none⟩ = some (.int .i64 x) := X.out 0
   have z2 := ((bcell hbb).1 _ 2 LR.out).trans z2
   have z3 := ((bcell hbb).1 _ 3 LR.out).trans z3
   have d0 := fun (j : Nat) (hj : m = j + 1) => ((bcell hbb).1 b1 (o1 + j * 3) (World.block_lt_of_cell? wr _ c0)).trans (HPR.out j hj).1
   have D0 := hid d0
   have HB4 := HB3; have HO4 := HO3
   clear hw4 hbb X c0 c1 c2 hb d0 HB3 HO3
   by_cases g1 : x < 1
   ·have C1 := hid (decide_eq_true g1)
    have E := hid (hF.out (.inl (by
     by_cases h0 : m = 0
     ·have := HP0.out h0; omega
     ·have := (HPR.out (m - 1) (by omega)).2; omega)))
    as_aux_lemma =>
     go_wp2_with fail
     refine late_start (fun W => W.cell? ⟨wr.heap.size, 0, none⟩ = some (.int .i64 x) ∧ W.cell? ⟨w.heap.size, 2, none⟩ = some (.int .i64 d.Next) ∧ W.cell? ⟨w.heap.size, 3, none⟩ = some (.slice (some ⟨b1, o1, none⟩) d.Nodes.length k3)) 99 (by kernel_rfl) ?_ (fun hS => ?_)
     ·exact ⟨y0, z2, z3⟩
     refine ltk 0 rfl ?_
     try simp only [Act.put, putZ, List.getElem_toArray, List.getElem_cons_zero, List.getElem_cons_succ]
     refine ltk 1 rfl ?_
     try simp only [Act.put, putZ, List.getElem_toArray, List.getElem_cons_zero, List.getElem_cons_succ]
     refine late_one (i := 2) rfl (by kernel_rfl) (fun K9 hK9 => ?_)
     go_simp
     try rw [C1.out]
     refine hK9.out _ _ (fun _ => ?_) (fun hS9 => ?_)
     ·(try dsimp only); exact hS
     replace hS := hS9 (by decide)
     clear hK9 K9 hS9
     try simp only [Act.put, putZ, List.getElem_toArray, List.getElem_cons_zero, List.getElem_cons_succ]
     refine ltk 3 rfl ?_
     try simp only [Act.put, putZ, List.getElem_toArray, List.getElem_cons_zero, List.getElem_cons_succ]
     refine lsk 4 rfl ?_
     try simp only [Act.put, putZ, List.getElem_toArray, List.getElem_cons_zero, List.getElem_cons_succ]
     refine lsk 5 rfl ?_
     try simp only [Act.put, putZ, List.getElem_toArray, List.getElem_cons_zero, List.getElem_cons_succ]
     refine lsk 6 rfl ?_
     try simp only [Act.put, putZ, List.getElem_toArray, List.getElem_cons_zero, List.getElem_cons_succ]
     refine lsk 7 rfl ?_
     try simp only [Act.put, putZ, List.getElem_toArray, List.getElem_cons_zero, List.getElem_cons_succ]
     refine lsk 8 rfl ?_
     try simp only [Act.put, putZ, List.getElem_toArray, List.getElem_cons_zero, List.getElem_cons_succ]
     refine ltq 9 rfl ?_
     try simp only [Act.put, putZ, List.getElem_toArray, List.getElem_cons_zero, List.getElem_cons_succ]
     refine ltq 10 rfl ?_
     try simp only [Act.put, putZ, List.getElem_toArray, List.getElem_cons_zero, List.getElem_cons_succ]
     refine lsk 11 rfl ?_
     try simp only [Act.put, putZ, List.getElem_toArray, List.getElem_cons_zero, List.getElem_cons_succ]
     refine lsk 12 rfl ?_
     try simp only [Act.put, putZ, List.getElem_toArray, List.getElem_cons_zero, List.getElem_cons_succ]
     refine lsk 13 rfl ?_
     try simp only [Act.put, putZ, List.getElem_toArray, List.getElem_cons_zero, List.getElem_cons_succ]
     refine lsk 14 rfl ?_
     try simp only [Act.put, putZ, List.getElem_toArray, List.getElem_cons_zero, List.getElem_cons_succ]
     refine lsk 15 rfl ?_
     try simp only [Act.put, putZ, List.getElem_toArray, List.getElem_cons_zero, List.getElem_cons_succ]
     refine lsk 16 rfl ?_
     try simp only [Act.put, putZ, List.getElem_toArray, List.getElem_cons_zero, List.getElem_cons_succ]
     refine lsk 17 rfl ?_
     try simp only [Act.put, putZ, List.getElem_toArray, List.getElem_cons_zero, List.getElem_cons_succ]
     refine lsk 18 rfl ?_
     try simp only [Act.put, putZ, List.getElem_toArray, List.getElem_cons_zero, List.getElem_cons_succ]
     refine lsk 19 rfl ?_
     try simp only [Act.put, putZ, List.getElem_toArray, List.getElem_cons_zero, List.getElem_cons_succ]
     refine lsk 20 rfl ?_
     try simp only [Act.put, putZ, List.getElem_toArray, List.getElem_cons_zero, List.getElem_cons_succ]
     refine lsk 21 rfl ?_
     try simp only [Act.put, putZ, List.getElem_toArray, List.getElem_cons_zero, List.getElem_cons_succ]
     refine lsk 22 rfl ?_
     try simp only [Act.put, putZ, List.getElem_toArray, List.getElem_cons_zero, List.getElem_cons_succ]
     refine lsk 23 rfl ?_
     try simp only [Act.put, putZ, List.getElem_toArray, List.getElem_cons_zero, List.getElem_cons_succ]
     refine lsk 24 rfl ?_
     try simp only [Act.put, putZ, List.getElem_toArray, List.getElem_cons_zero, List.getElem_cons_succ]
     refine late_one (i := 25) rfl (by kernel_rfl) (fun K9 hK9 => ?_)
     go_simp
     refine hK9.out _ _ (fun _ => ?_) (fun hS9 => ?_)
     ·(try dsimp only); exact hS
     replace hS := hS9 (by decide)
     clear hK9 K9 hS9
     try simp only [Act.put, putZ, List.getElem_toArray, List.getElem_cons_zero, List.getElem_cons_succ]
     refine late_done (by kernel_rfl) ?_ _
     go_wp2
     go_ret
     exact ⟨ret_bool (by rw [E.out]), (hb0.out.trans ((HB4.out.drew).mono hb0.out.size))⟩
   have C1 := hid (decide_eq_false g1)
   by_cases g2 : d.Next ≤ x
   ·have C2 := hid (decide_eq_true g2)
    have E := hid (hF.out (.inr (by omega)))
    as_aux_lemma =>
     go_wp2_with fail
     refine late_start (fun W => W.cell? ⟨wr.heap.size, 0, none⟩ = some (.int .i64 x) ∧ W.cell? ⟨w.heap.size, 2, none⟩ = some (.int .i64 d.Next) ∧ W.cell? ⟨w.heap.size, 3, none⟩ = some (.slice (some ⟨b1, o1, none⟩) d.Nodes.length k3)) 99 (by kernel_rfl) ?_ (fun hS => ?_)
     ·exact ⟨y0, z2, z3⟩
     refine ltk 0 rfl ?_
     try simp only [Act.put, putZ, List.getElem_toArray, List.getElem_cons_zero, List.getElem_cons_succ]
     refine ltk 1 rfl ?_
     try simp only [Act.put, putZ, List.getElem_toArray, List.getElem_cons_zero, List.getElem_cons_succ]
     refine late_one (i := 2) rfl (by kernel_rfl) (fun K9 hK9 => ?_)
     go_simp
     try rw [C1.out]
     refine hK9.out _ _ (fun _ => ?_) (fun hS9 => ?_)
     ·(try dsimp only); exact hS
     replace hS := hS9 (by decide)
     clear hK9 K9 hS9
     try simp only [Act.put, putZ, List.getElem_toArray, List.getElem_cons_zero, List.getElem_cons_succ]
     refine ltk 3 rfl ?_
     try simp only [Act.put, putZ, List.getElem_toArray, List.getElem_cons_zero, List.getElem_cons_succ]
     refine ltq 4 rfl ?_
     try simp only [Act.put, putZ, List.getElem_toArray, List.getElem_cons_zero, List.getElem_cons_succ]
     refine ltq 5 rfl ?_
     try simp only [Act.put, putZ, List.getElem_toArray, List.getElem_cons_zero, List.getElem_cons_succ]
     refine ltq 6 rfl ?_
     try simp only [Act.put, putZ, List.getElem_toArray, List.getElem_cons_zero, List.getElem_cons_succ]
     refine ltq 7 rfl ?_
     try simp only [Act.put, putZ, List.getElem_toArray, List.getElem_cons_zero, List.getElem_cons_succ]
     refine late_one (i := 8) rfl (by kernel_rfl) (fun K9 hK9 => ?_)
     go_simp
     try rw [C2.out]
     refine hK9.out _ _ (fun _ => ?_) (fun hS9 => ?_)
     ·(try dsimp only); exact hS
     replace hS := hS9 (by decide)
     clear hK9 K9 hS9
     try simp only [Act.put, putZ, List.getElem_toArray, List.getElem_cons_zero, List.getElem_cons_succ]
     refine ltq 9 rfl ?_
     try simp only [Act.put, putZ, List.getElem_toArray, List.getElem_cons_zero, List.getElem_cons_succ]
     refine ltq 10 rfl ?_
     try simp only [Act.put, putZ, List.getElem_toArray, List.getElem_cons_zero, List.getElem_cons_succ]
     refine lsk 11 rfl ?_
     try simp only [Act.put, putZ, List.getElem_toArray, List.getElem_cons_zero, List.getElem_cons_succ]
     refine lsk 12 rfl ?_
     try simp only [Act.put, putZ, List.getElem_toArray, List.getElem_cons_zero, List.getElem_cons_succ]
     refine lsk 13 rfl ?_
     try simp only [Act.put, putZ, List.getElem_toArray, List.getElem_cons_zero, List.getElem_cons_succ]
     refine lsk 14 rfl ?_
     try simp only [Act.put, putZ, List.getElem_toArray, List.getElem_cons_zero, List.getElem_cons_succ]
     refine lsk 15 rfl ?_
     try simp only [Act.put, putZ, List.getElem_toArray, List.getElem_cons_zero, List.getElem_cons_succ]
     refine lsk 16 rfl ?_
     try simp only [Act.put, putZ, List.getElem_toArray, List.getElem_cons_zero, List.getElem_cons_succ]
     refine lsk 17 rfl ?_
     try simp only [Act.put, putZ, List.getElem_toArray, List.getElem_cons_zero, List.getElem_cons_succ]
     refine lsk 18 rfl ?_
     try simp only [Act.put, putZ, List.getElem_toArray, List.getElem_cons_zero, List.getElem_cons_succ]
     refine lsk 19 rfl ?_
     try simp only [Act.put, putZ, List.getElem_toArray, List.getElem_cons_zero, List.getElem_cons_succ]
     refine lsk 20 rfl ?_
     try simp only [Act.put, putZ, List.getElem_toArray, List.getElem_cons_zero, List.getElem_cons_succ]
     refine lsk 21 rfl ?_
     try simp only [Act.put, putZ, List.getElem_toArray, List.getElem_cons_zero, List.getElem_cons_succ]
     refine lsk 22 rfl ?_
     try simp only [Act.put, putZ, List.getElem_toArray, List.getElem_cons_zero, List.getElem_cons_succ]
     refine lsk 23 rfl ?_
     try simp only [Act.put, putZ, List.getElem_toArray, List.getElem_cons_zero, List.getElem_cons_succ]
     refine lsk 24 rfl ?_
     try simp only [Act.put, putZ, List.getElem_toArray, List.getElem_cons_zero, List.getElem_cons_succ]
     refine late_one (i := 25) rfl (by kernel_rfl) (fun K9 hK9 => ?_)
     go_simp
     refine hK9.out _ _ (fun _ => ?_) (fun hS9 => ?_)
     ·(try dsimp only); exact hS
     replace hS := hS9 (by decide)
     clear hK9 K9 hS9
     try simp only [Act.put, putZ, List.getElem_toArray, List.getElem_cons_zero, List.getElem_cons_succ]
     refine late_done (by kernel_rfl) ?_ _
     go_wp2
     go_ret
     exact ⟨ret_bool (by rw [E.out]), (hb0.out.trans ((HB4.out.drew).mono hb0.out.size))⟩
   have C2 := hid (decide_eq_false g2)
   by_cases g3 : m = 0
   ·have hl0 := HP0.out g3
    have E := hid (show nodesOk d.Next 0 d.Nodes = nodesOk d.Next x (d.Nodes.drop (m + 1)) by rw [HNO.out, HST.out, decide_eq_true (by omega), decide_eq_true (by omega)]; rfl)
    subst g3
    as_aux_lemma =>
     go_wp2_with fail
     refine late_start (fun W => W.cell? ⟨wr.heap.size, 0, none⟩ = some (.int .i64 x) ∧ W.cell? ⟨w.heap.size, 2, none⟩ = some (.int .i64 d.Next) ∧ W.cell? ⟨w.heap.size, 3, none⟩ = some (.slice (some ⟨b1, o1, none⟩) d.Nodes.length k3)) 99 (by kernel_rfl) ?_ (fun hS => ?_)
     ·exact ⟨y0, z2, z3⟩
     refine ltk 0 rfl ?_
     try simp only [Act.put, putZ, List.getElem_toArray, List.getElem_cons_zero, List.getElem_cons_succ]
     refine ltk 1 rfl ?_
     try simp only [Act.put, putZ, List.getElem_toArray, List.getElem_cons_zero, List.getElem_cons_succ]
     refine late_one (i := 2) rfl (by kernel_rfl) (fun K9 hK9 => ?_)
     go_simp
     try rw [C1.out]
     refine hK9.out _ _ (fun _ => ?_) (fun hS9 => ?_)
     ·(try dsimp only); exact hS
     replace hS := hS9 (by decide)
     clear hK9 K9 hS9
     try simp only [Act.put, putZ, List.getElem_toArray, List.getElem_cons_zero, List.getElem_cons_succ]
     refine ltk 3 rfl ?_
     try simp only [Act.put, putZ, List.getElem_toArray, List.getElem_cons_zero, List.getElem_cons_succ]
     refine ltq 4 rfl ?_
     try simp only [Act.put, putZ, List.getElem_toArray, List.getElem_cons_zero, List.getElem_cons_succ]
     refine ltq 5 rfl ?_
     try simp only [Act.put, putZ, List.getElem_toArray, List.getElem_cons_zero, List.getElem_cons_succ]
     refine ltq 6 rfl ?_
     try simp only [Act.put, putZ, List.getElem_toArray, List.getElem_cons_zero, List.getElem_cons_succ]
     refine ltq 7 rfl ?_
     try simp only [Act.put, putZ, List.getElem_toArray, List.getElem_cons_zero, List.getElem_cons_succ]
     refine late_one (i := 8) rfl (by kernel_rfl) (fun K9 hK9 => ?_)
     go_simp
     try rw [C2.out]
     refine hK9.out _ _ (fun _ => ?_) (fun hS9 => ?_)
     ·(try dsimp only); exact hS
     replace hS := hS9 (by decide)
     clear hK9 K9 hS9
     try simp only [Act.put, putZ, List.getElem_toArray, List.getElem_cons_zero, List.getElem_cons_succ]
     refine ltq 9 rfl ?_
     try simp only [Act.put, putZ, List.getElem_toArray, List.getElem_cons_zero, List.getElem_cons_succ]
     refine ltq 10 rfl ?_
     try simp only [Act.put, putZ, List.getElem_toArray, List.getElem_cons_zero, List.getElem_cons_succ]
     refine ltq 11 rfl ?_
     try simp only [Act.put, putZ, List.getElem_toArray, List.getElem_cons_zero, List.getElem_cons_succ]
     refine late_one (i := 12) rfl (by kernel_rfl) (fun K9 hK9 => ?_)
     go_simp
     refine hK9.out _ _ (fun _ => ?_) (fun hS9 => ?_)
     ·(try dsimp only); exact hS
     replace hS := hS9 (by decide)
     clear hK9 K9 hS9
     try simp only [Act.put, putZ, List.getElem_toArray, List.getElem_cons_zero, List.getElem_cons_succ]
     refine ltq 13 rfl ?_
     try simp only [Act.put, putZ, List.getElem_toArray, List.getElem_cons_zero, List.getElem_cons_succ]
     refine lsk 14 rfl ?_
     try simp only [Act.put, putZ, List.getElem_toArray, List.getElem_cons_zero, List.getElem_cons_succ]
     refine lsk 15 rfl ?_
     try simp only [Act.put, putZ, List.getElem_toArray, List.getElem_cons_zero, List.getElem_cons_succ]
     refine lsk 16 rfl ?_
     try simp only [Act.put, putZ, List.getElem_toArray, List.getElem_cons_zero, List.getElem_cons_succ]
     refine lsk 17 rfl ?_
     try simp only [Act.put, putZ, List.getElem_toArray, List.getElem_cons_zero, List.getElem_cons_succ]
     refine lsk 18 rfl ?_
     try simp only [Act.put, putZ, List.getElem_toArray, List.getElem_cons_zero, List.getElem_cons_succ]
     refine lsk 19 rfl ?_
     try simp only [Act.put, putZ, List.getElem_toArray, List.getElem_cons_zero, List.getElem_cons_succ]
     refine lsk 20 rfl ?_
     try simp only [Act.put, putZ, List.getElem_toArray, List.getElem_cons_zero, List.getElem_cons_succ]
     refine lsk 21 rfl ?_
     try simp only [Act.put, putZ, List.getElem_toArray, List.getElem_cons_zero, List.getElem_cons_succ]
     refine lsk 22 rfl ?_
     try simp only [Act.put, putZ, List.getElem_toArray, List.getElem_cons_zero, List.getElem_cons_succ]
     refine lsk 23 rfl ?_
     try simp only [Act.put, putZ, List.getElem_toArray, List.getElem_cons_zero, List.getElem_cons_succ]
     refine ltq 24 rfl ?_
     try simp only [Act.put, putZ, List.getElem_toArray, List.getElem_cons_zero, List.getElem_cons_succ]
     refine late_one (i := 25) rfl (by kernel_rfl) (fun K9 hK9 => ?_)
     go_simp
     refine hK9.out _ _ (fun _ => ?_) (fun hS9 => ?_)
     ·(try dsimp only); exact hS
     replace hS := hS9 (by decide)
     clear hK9 K9 hS9
     try simp only [Act.put, putZ, List.getElem_toArray, List.getElem_cons_zero, List.getElem_cons_succ]
     refine late_done (by kernel_rfl) ?_ _
     have HO5 := hid (show OwnL wA.heap.size (w4.drew) 3 (.slice p (0) c) b' don from HO4.out.grow (Below.refl _ _).drew)
     have HB5 := hid (HB4.out.drew)
     have cx : (w4.drew).cell? ⟨wr.heap.size, 0, none⟩ = some (.int .i64 x) := y0
     obtain ⟨w5, hw5⟩ : ∃ w5, w5 = w4.drew := ⟨_, rfl⟩
     rw [← hw5] at HO5 HB5 cx ⊢
     clear hw5 y0 z2 z3 HO4 HB4
     go_wp2_with (at_builtin; refine wp_append rfl _ _ 126 rfl 3 i0 (.int .i64 0) 8 Tryz.underlying126 hi hz0 hz1 hz2 rfl (lo := wA.heap.size) (bs := b') (xs := (don)) rfl ?own1 (b2 := []) (ys := [x]) rfl ?src1 List.nodup_nil (fun b hb => by cases hb) ?qa1 ?qb1 ?qc1 ?_)
     case own1 => exact HO5.out.alloc _
     case src1 => exact src_new (pt_i Q1.out) (by simp) _ _
     case qa1 => have := HM.out; (try simp only [List.length_append, List.length_cons, List.length_nil] at this ⊢); omega
     case qb1 => have := HM.out; (try simp only [List.length_append, List.length_cons, List.length_nil] at this ⊢); omega
     try (case qc1 => have := HB5.out.size; simp at this ⊢; omega)
     intro p6 c6 w6 b6 hO6 hT6 hm6
     have HL6 := hid (show (don).length + 1 = 0 + 1 by rw [HM.out])
     obtain ⟨d6, hd6⟩ : ∃ d, d = (don) ++ [x] := ⟨_, rfl⟩
     rw [← hd6] at hO6
     have HO6 := hid (show OwnL wA.heap.size w6 3 (.slice p6 (0 + 1) c6) b6 d6 by have h1 := hO6; rw [HL6.out] at h1; exact h1)
     rw [HL6.out]
     have HB6 := hid (below_tch (HB5.out.alloc HB5.out.size _) hT6 (HO5.out.alloc _).lts)
     have HM6 := hid (show 0 + 1 = d6.length by rw [hd6, List.length_append, HM.out]; rfl)
     have HE6 := hid hd6
     have HT6 := hid hT6
     clear hO6 hT6 hm6 HL6 hd6
     go_wp2
     exact ⟨⟨0 + 1, p6, c6, b6, 0 + 1, d6, x, by omega, HM6.out, rfl, rfl, by go_num, HO6.out, by rw [HE6.out, HST2.out, HD.out], E.out, .inr ⟨0, HX1.out.1, rfl, HX1.out.2, by omega⟩, HB6.out⟩, by simp [intOf]; try omega⟩
   obtain ⟨j, rfl⟩ : ∃ j, m = j + 1 := ⟨m - 1, by omega⟩
   have dj := D0.out j rfl
   have hl1 := (HPR.out j rfl).2
   have W1 := hid (show wrap64 ((j : Int) + 1 - 1) = (j : Int) by rw [IntWalk.wrap64_in _ (by omega)]; omega)
   have W2 := hid (show wrap64 (j : Int) = (j : Int) by rw [IntWalk.wrap64_in _ (by omega)])
   have W3 := hid (show IntKind.i64.wrap ((j : Int) + 1 - 1) = (j : Int) by rw [wrapI (by omega)]; omega)
   have W4 := hid (show IntKind.i64.wrap (j : Int) = (j : Int) from wrapI (by omega))
   have hji : (j : Int) < (d.Nodes.length : Int) := by omega
   have hjp : (0 : Int) < (j : Int) + 1 := by omega
   have C3 := hid (decide_eq_true hjp)
   by_cases g4 : x ≤ last
   ·have C4 := hid (decide_eq_true g4)
    have E := hid (hF.out (.inl (by omega)))
    have hw1 := W1.out; have hw2 := W2.out; have hw3 := W3.out; have hw4 := W4.out
    as_aux_lemma =>
     go_wp2_with fail
     refine late_start (fun W => W.cell? ⟨wr.heap.size, 0, none⟩ = some (.int .i64 x) ∧ W.cell? ⟨w.heap.size, 2, none⟩ = some (.int .i64 d.Next) ∧ W.cell? ⟨w.heap.size, 3, none⟩ = some (.slice (some ⟨b1, o1, none⟩) d.Nodes.length k3) ∧ W.cell? ⟨b1, o1 + j * 3, none⟩ = some (.int .i64 last)) 99 (by kernel_rfl) ?_ (fun hS => ?_)
     ·exact ⟨y0, z2, z3, dj⟩
     refine ltk 0 rfl ?_
     try simp only [Act.put, putZ, List.getElem_toArray, List.getElem_cons_zero, List.getElem_cons_succ]
     refine ltk 1 rfl ?_
     try simp only [Act.put, putZ, List.getElem_toArray, List.getElem_cons_zero, List.getElem_cons_succ]
     refine late_one (i := 2) rfl (by kernel_rfl) (fun K9 hK9 => ?_)
     go_simp
     try rw [C1.out]
     refine hK9.out _ _ (fun _ => ?_) (fun hS9 => ?_)
     ·(try dsimp only); exact hS
     replace hS := hS9 (by decide)
     clear hK9 K9 hS9
     try simp only [Act.put, putZ, List.getElem_toArray, List.getElem_cons_zero, List.getElem_cons_succ]
     refine ltk 3 rfl ?_
     try simp only [Act.put, putZ, List.getElem_toArray, List.getElem_cons_zero, List.getElem_cons_succ]
     refine ltq 4 rfl ?_
     try simp only [Act.put, putZ, List.getElem_toArray, List.getElem_cons_zero, List.getElem_cons_succ]
     refine ltq 5 rfl ?_
     try simp only [Act.put, putZ, List.getElem_toArray, List.getElem_cons_zero, List.getElem_cons_succ]
     refine ltq 6 rfl ?_
     try simp only [Act.put, putZ, List.getElem_toArray, List.getElem_cons_zero, List.getElem_cons_succ]
     refine ltq 7 rfl ?_
     try simp only [Act.put, putZ, List.getElem_toArray, List.getElem_cons_zero, List.getElem_cons_succ]
     refine late_one (i := 8) rfl (by kernel_rfl) (fun K9 hK9 => ?_)
     go_simp
     try rw [C2.out]
     refine hK9.out _ _ (fun _ => ?_) (fun hS9 => ?_)
     ·(try dsimp only); exact hS
     replace hS := hS9 (by decide)
     clear hK9 K9 hS9
     try simp only [Act.put, putZ, List.getElem_toArray, List.getElem_cons_zero, List.getElem_cons_succ]
     refine ltq 9 rfl ?_
     try simp only [Act.put, putZ, List.getElem_toArray, List.getElem_cons_zero, List.getElem_cons_succ]
     refine ltq 10 rfl ?_
     try simp only [Act.put, putZ, List.getElem_toArray, List.getElem_cons_zero, List.getElem_cons_succ]
     refine ltq 11 rfl ?_
     try simp only [Act.put, putZ, List.getElem_toArray, List.getElem_cons_zero, List.getElem_cons_succ]
     refine late_one (i := 12) rfl (by kernel_rfl) (fun K9 hK9 => ?_)
     go_simp
     try rw [C3.out]
     refine hK9.out _ _ (fun _ => ?_) (fun hS9 => ?_)
     ·(try dsimp only); exact hS
     replace hS := hS9 (by decide)
     clear hK9 K9 hS9
     try simp only [Act.put, putZ, List.getElem_toArray, List.getElem_cons_zero, List.getElem_cons_succ]
     refine ltq 13 rfl ?_
     try simp only [Act.put, putZ, List.getElem_toArray, List.getElem_cons_zero, List.getElem_cons_succ]
     refine ltq 14 rfl ?_
     try simp only [Act.put, putZ, List.getElem_toArray, List.getElem_cons_zero, List.getElem_cons_succ]
     refine ltq 15 rfl ?_
     try simp only [Act.put, putZ, List.getElem_toArray, List.getElem_cons_zero, List.getElem_cons_succ]
     refine ltq 16 rfl ?_
     try simp only [Act.put, putZ, List.getElem_toArray, List.getElem_cons_zero, List.getElem_cons_succ]
     refine ltq 17 rfl ?_
     try simp only [Act.put, putZ, List.getElem_toArray, List.getElem_cons_zero, List.getElem_cons_succ]
     refine ltq 18 rfl ?_
     try simp only [Act.put, putZ, List.getElem_toArray, List.getElem_cons_zero, List.getElem_cons_succ]
     refine ltq 19 rfl ?_
     try simp only [Act.put, putZ, List.getElem_toArray, List.getElem_cons_zero, List.getElem_cons_succ]
     refine ltq 20 rfl ?_
     try simp only [Act.put, putZ, List.getElem_toArray, List.getElem_cons_zero, List.getElem_cons_succ]
     refine ltq 21 rfl ?_
     try simp only [Act.put, putZ, List.getElem_toArray, List.getElem_cons_zero, List.getElem_cons_succ]
     refine ltq 22 rfl ?_
     try simp only [Act.put, putZ, List.getElem_toArray, List.getElem_cons_zero, List.getElem_cons_succ]
     refine late_one (i := 23) rfl (by kernel_rfl) (fun K9 hK9 => ?_)
     go_simp
     try rw [C4.out]
     refine hK9.out _ _ (fun _ => ?_) (fun hS9 => ?_)
     ·(try dsimp only); exact hS
     replace hS := hS9 (by decide)
     clear hK9 K9 hS9
     try simp only [Act.put, putZ, List.getElem_toArray, List.getElem_cons_zero, List.getElem_cons_succ]
     refine ltq 24 rfl ?_
     try simp only [Act.put, putZ, List.getElem_toArray, List.getElem_cons_zero, List.getElem_cons_succ]
     refine late_one (i := 25) rfl (by kernel_rfl) (fun K9 hK9 => ?_)
     go_simp
     refine hK9.out _ _ (fun _ => ?_) (fun hS9 => ?_)
     ·(try dsimp only); exact hS
     replace hS := hS9 (by decide)
     clear hK9 K9 hS9
     try simp only [Act.put, putZ, List.getElem_toArray, List.getElem_cons_zero, List.getElem_cons_succ]
     refine late_done (by kernel_rfl) ?_ _
     clear hw1 hw2 hw3 hw4
     go_wp2
     go_ret
     exact ⟨ret_bool (by rw [E.out]), (hb0.out.trans ((HB4.out.drew).mono hb0.out.size))⟩
   ·have C4 := hid (decide_eq_false g4)
    have E := hid (show nodesOk d.Next 0 d.Nodes = nodesOk d.Next x (d.Nodes.drop (j + 1 + 1)) by rw [HNO.out, HST.out, decide_eq_true (by omega), decide_eq_true (by omega)]; rfl)
    have hw1 := W1.out; have hw2 := W2.out; have hw3 := W3.out; have hw4 := W4.out
    as_aux_lemma =>
     go_wp2_with fail
     refine late_start (fun W => W.cell? ⟨wr.heap.size, 0, none⟩ = some (.int .i64 x) ∧ W.cell? ⟨w.heap.size, 2, none⟩ = some (.int .i64 d.Next) ∧ W.cell? ⟨w.heap.size, 3, none⟩ = some (.slice (some ⟨b1, o1, none⟩) d.Nodes.length k3) ∧ W.cell? ⟨b1, o1 + j * 3, none⟩ = some (.int .i64 last)) 99 (by kernel_rfl) ?_ (fun hS => ?_)
     ·exact ⟨y0, z2, z3, dj⟩
     refine ltk 0 rfl ?_
     try simp only [Act.put, putZ, List.getElem_toArray, List.getElem_cons_zero, List.getElem_cons_succ]
     refine ltk 1 rfl ?_
     try simp only [Act.put, putZ, List.getElem_toArray, List.getElem_cons_zero, List.getElem_cons_succ]
     refine late_one (i := 2) rfl (by kernel_rfl) (fun K9 hK9 => ?_)
     go_simp
     try rw [C1.out]
     refine hK9.out _ _ (fun _ => ?_) (fun hS9 => ?_)
     ·(try dsimp only); exact hS
     replace hS := hS9 (by decide)
     clear hK9 K9 hS9
     try simp only [Act.put, putZ, List.getElem_toArray, List.getElem_cons_zero, List.getElem_cons_succ]
     refine ltk 3 rfl ?_
     try simp only [Act.put, putZ, List.getElem_toArray, List.getElem_cons_zero, List.getElem_cons_succ]
     refine ltq 4 rfl ?_
     try simp only [Act.put, putZ, List.getElem_toArray, List.getElem_cons_zero, List.getElem_cons_succ]
     refine ltq 5 rfl ?_
     try simp only [Act.put, putZ, List.getElem_toArray, List.getElem_cons_zero, List.getElem_cons_succ]
     refine ltq 6 rfl ?_
     try simp only [Act.put, putZ, List.getElem_toArray, List.getElem_cons_zero, List.getElem_cons_succ]
     refine ltq 7 rfl ?_
     try simp only [Act.put, putZ, List.getElem_toArray, List.getElem_cons_zero, List.getElem_cons_succ]
     refine late_one (i := 8) rfl (by kernel_rfl) (fun K9 hK9 => ?_)
     go_simp
     try rw [C2.out]
     refine hK9.out _ _ (fun _ => ?_) (fun hS9 => ?_)
     ·(try dsimp only); exact hS
     replace hS := hS9 (by decide)
     clear hK9 K9 hS9
     try simp only [Act.put, putZ, List.getElem_toArray, List.getElem_cons_zero, List.getElem_cons_succ]
     refine ltq 9 rfl ?_
     try simp only [Act.put, putZ, List.getElem_toArray, List.getElem_cons_zero, List.getElem_cons_succ]
     refine ltq 10 rfl ?_
     try simp only [Act.put, putZ, List.getElem_toArray, List.getElem_cons_zero, List.getElem_cons_succ]
     refine ltq 11 rfl ?_
     try simp only [Act.put, putZ, List.getElem_toArray, List.getElem_cons_zero, List.getElem_cons_succ]
     refine late_one (i := 12) rfl (by kernel_rfl) (fun K9 hK9 => ?_)
     go_simp
     try rw [C3.out]
     refine hK9.out _ _ (fun _ => ?_) (fun hS9 => ?_)
     ·(try dsimp only); exact hS
     replace hS := hS9 (by decide)
     clear hK9 K9 hS9
     try simp only [Act.put, putZ, List.getElem_toArray, List.getElem_cons_zero, List.getElem_cons_succ]
     refine ltq 13 rfl ?_
     try simp only [Act.put, putZ, List.getElem_toArray, List.getElem_cons_zero, List.getElem_cons_succ]
     refine ltq 14 rfl ?_
     try simp only [Act.put, putZ, List.getElem_toArray, List.getElem_cons_zero, List.getElem_cons_succ]
     refine ltq 15 rfl ?_
     try simp only [Act.put, putZ, List.getElem_toArray, List.getElem_cons_zero, List.getElem_cons_succ]
     refine ltq 16 rfl ?_
     try simp only [Act.put, putZ, List.getElem_toArray, List.getElem_cons_zero, List.getElem_cons_succ]
     refine ltq 17 rfl ?_
     try simp only [Act.put, putZ, List.getElem_toArray, List.getElem_cons_zero, List.getElem_cons_succ]
     refine ltq 18 rfl ?_
     try simp only [Act.put, putZ, List.getElem_toArray, List.getElem_cons_zero, List.getElem_cons_succ]
     refine ltq 19 rfl ?_
     try simp only [Act.put, putZ, List.getElem_toArray, List.getElem_cons_zero, List.getElem_cons_succ]
     refine ltq 20 rfl ?_
     try simp only [Act.put, putZ, List.getElem_toArray, List.getElem_cons_zero, List.getElem_cons_succ]
     refine ltq 21 rfl ?_
     try simp only [Act.put, putZ, List.getElem_toArray, List.getElem_cons_zero, List.getElem_cons_succ]
     refine ltq 22 rfl ?_
     try simp only [Act.put, putZ, List.getElem_toArray, List.getElem_cons_zero, List.getElem_cons_succ]
     refine late_one (i := 23) rfl (by kernel_rfl) (fun K9 hK9 => ?_)
     go_simp
     try rw [C4.out]
     refine hK9.out _ _ (fun _ => ?_) (fun hS9 => ?_)
     ·(try dsimp only); exact hS
     replace hS := hS9 (by decide)
     clear hK9 K9 hS9
     try simp only [Act.put, putZ, List.getElem_toArray, List.getElem_cons_zero, List.getElem_cons_succ]
     refine ltq 24 rfl ?_
     try simp only [Act.put, putZ, List.getElem_toArray, List.getElem_cons_zero, List.getElem_cons_succ]
     refine late_one (i := 25) rfl (by kernel_rfl) (fun K9 hK9 => ?_)
     go_simp
     refine hK9.out _ _ (fun _ => ?_) (fun hS9 => ?_)
     ·(try dsimp only); exact hS
     replace hS := hS9 (by decide)
     clear hK9 K9 hS9
     try simp only [Act.put, putZ, List.getElem_toArray, List.getElem_cons_zero, List.getElem_cons_succ]
     refine late_done (by kernel_rfl) ?_ _
     clear hw1 hw2 hw3 hw4
     have HO5 := hid (show OwnL wA.heap.size (w4.drew) 3 (.slice p (j + 1) c) b' don from HO4.out.grow (Below.refl _ _).drew)
     have HB5 := hid (HB4.out.drew)
     have cx : (w4.drew).cell? ⟨wr.heap.size, 0, none⟩ = some (.int .i64 x) := y0
     obtain ⟨w5, hw5⟩ : ∃ w5, w5 = w4.drew := ⟨_, rfl⟩
     rw [← hw5] at HO5 HB5 cx ⊢
     clear hw5 y0 z2 z3 HO4 HB4
     go_wp2_with (at_builtin; refine wp_append rfl _ _ 126 rfl 3 i0 (.int .i64 0) 8 Tryz.underlying126 hi hz0 hz1 hz2 rfl (lo := wA.heap.size) (bs := b') (xs := (don)) rfl ?own2 (b2 := []) (ys := [x]) rfl ?src2 List.nodup_nil (fun b hb => by cases hb) ?qa2 ?qb2 ?qc2 ?_)
     case own2 => exact HO5.out.alloc _
     case src2 => exact src_new (pt_i Q1.out) (by simp) _ _
     case qa2 => have := HM.out; (try simp only [List.length_append, List.length_cons, List.length_nil] at this ⊢); omega
     case qb2 => have := HM.out; (try simp only [List.length_append, List.length_cons, List.length_nil] at this ⊢); omega
     try (case qc2 => have := HB5.out.size; simp at this ⊢; omega)
     intro p6 c6 w6 b6 hO6 hT6 hm6
     have HL6 := hid (show (don).length + 1 = (j + 1) + 1 by rw [HM.out])
     obtain ⟨d6, hd6⟩ : ∃ d, d = (don) ++ [x] := ⟨_, rfl⟩
     rw [← hd6] at hO6
     have HO6 := hid (show OwnL wA.heap.size w6 3 (.slice p6 ((j + 1) + 1) c6) b6 d6 by have h1 := hO6; rw [HL6.out] at h1; exact h1)
     rw [HL6.out]
     have HB6 := hid (below_tch (HB5.out.alloc HB5.out.size _) hT6 (HO5.out.alloc _).lts)
     have HM6 := hid (show (j + 1) + 1 = d6.length by rw [hd6, List.length_append, HM.out]; rfl)
     have HE6 := hid hd6
     have HT6 := hid hT6
     clear hO6 hT6 hm6 HL6 hd6
     go_wp2
     exact ⟨⟨(j + 1) + 1, p6, c6, b6, (j + 1) + 1, d6, x, by omega, HM6.out, rfl, rfl, by go_num, HO6.out, by rw [HE6.out, HST2.out, HD.out], E.out, .inr ⟨(j + 1), HX1.out.1, rfl, HX1.out.2, by omega⟩, HB6.out⟩, by simp [intOf]; try omega⟩
  ·obtain rfl : m = d.Nodes.length := by omega
   have hki : ¬ (d.Nodes.length : Int) < (d.Nodes.length : Int) := by omega
   have HND := hid (show don = idNodes d.Nodes by rw [HD.out, List.take_length])
   cases hnok : nodesOk d.Next 0 d.Nodes
   ·exact absurd hnok (by rw [HNO.out, List.drop_length]; simp [nodesOk])
   have E2 := hid (show diskOk d = (keptS none d.Kept && (decide ((diskIds d).length = d.Nodes.length) && (idsFrom (idNodes d.Nodes) [] (diskIds d) && (turnsOk d.Kept d.Turns && decide ((diskUsed d : Int) ≤ d.Room))))) by rw [E1.out, hnok, Bool.true_and])
   have z4 := ((bcell hb).1 _ 4 L0.out).trans X4.out
   have HNM := hid (show don.length = d.Nodes.length from HM.out.symm)
   obtain ⟨mN, hmN⟩ : ∃ mN, mN = d.Nodes.length := ⟨_, rfl⟩
   have HMN := hid hmN
   clear hnok hb HNO HPV
   go_upto_region 12 with fail
   as_aux_lemma =>
    go_loopw [104] (fun i wr => ∃ (k : Nat) (pv : Option ByteArray), k ≤ d.Kept.length ∧ i = .int .i64 (k : Int) ∧ OwnL wA.heap.size wr 3 (.slice p d.Nodes.length c) b' don ∧ keptS none d.Kept = keptS pv (d.Kept.drop k) ∧ (k = 0 ∧ pv = none ∨ ∃ j, ∃ hj : j < d.Kept.length, k = j + 1 ∧ pv = some d.Kept[j].Name) ∧ Below wA.heap.size wA wr) (fun i _ => d.Kept.length - (intOf i).toNat)
    case atStart => exact ⟨0, none, Nat.zero_le _, rfl, HOr.out, rfl, .inl ⟨rfl, rfl⟩, HBr.out⟩
    case round =>
     clear HOr HBr
     obtain ⟨k, pv, hk, rfl, hO, hno, hpv, hb⟩ := hrel
     have HOr := hid hO; have HBr := hid hb; have HNO := hid hno; have HPV := hid hpv
     clear hO hno hpv z4
     have hn8 := HR.out.r8
     by_cases hlt : k < d.Kept.length
     ·obtain ⟨b1, o1, cs1, _, rfl, _, hp1, _, hA1⟩ := (H4.out.grow (hb0.out.trans (hb.mono hb0.out.size))).elem k hlt
      obtain ⟨_, rfl, q1, q2⟩ := open_Link hp1
      have c0 : wr.cell? ⟨b1, o1 + k * 2, none⟩ = some _ := hA1 0 _ rfl
      have c1 : wr.cell? ⟨b1, o1 + k * 2 + 1, none⟩ = some _ := hA1 1 _ rfl
      have hst : keptS pv (d.Kept.drop k) = (nameOk d.Kept[k].Name && decide (1 ≤ d.Kept[k].Id) && prevOk pv d.Kept[k].Name && keptS (some d.Kept[k].Name) (d.Kept.drop (k + 1))) := by
       rw [List.drop_eq_getElem_cons hlt]; rfl
      have hki : (k : Int) < (d.Kept.length : Int) := by omega
      have hpr : ∀ j : Nat, k = j + 1 → ∃ pn, wr.cell? ⟨b1, o1 + j * 2, none⟩ = some (.string pn) ∧ pv = some pn := by
       intro j hj
       rcases HPV.out with ⟨h1, _⟩ | ⟨j', hj', h1, h2⟩
       ·omega
       ·obtain rfl : j = j' := by omega
        obtain ⟨b2, o2, cs2, _, e2, _, hp2, _, hA2⟩ := (H4.out.grow (hb0.out.trans (hb.mono hb0.out.size))).elem j hj'
        obtain ⟨rfl, rfl⟩ : b1 = b2 ∧ o1 = o2 := by simpa using e2
        obtain ⟨_, rfl, _, _⟩ := open_Link hp2
        exact ⟨_, hA2 0 _ rfl, h2⟩
      have hp0 : k = 0 → pv = none := by
       intro h0
       rcases HPV.out with ⟨_, h1⟩ | ⟨j', hj', h1, h2⟩
       ·exact h1
       ·omega
      have HPR := hid hpr; have HP0 := hid hp0
      obtain ⟨x, hx⟩ : ∃ x, x = d.Kept[k] := ⟨_, rfl⟩
      rw [← hx] at hst c0 c1 q1 q2
      have HX1 := hid (show ∃ hj : k < d.Kept.length, x = d.Kept[k] from ⟨hlt, hx⟩)
      have HST := hid hst; have QX := hid q1
      have HB3 := hid (HBr.out.alloc HBr.out.size (.cells #[.string x.Name, .int .i64 x.Id] 127))
      have HO3 := hid (HOr.out.alloc (.cells #[.string x.Name, .int .i64 x.Id] 127))
      have z4 := ((bcell hb).1 _ 4 L0.out).trans X4.out
      have hF := hid fun (hl : nameOk x.Name = false ∨ decide (1 ≤ x.Id) = false ∨ prevOk pv x.Name = false) => show diskOk d = false by
       rw [E2.out, HNO.out, HST.out]; rcases hl with h | h | h <;> rw [h] <;> simp
      have lr : w.heap.size < wr.heap.size := Nat.lt_of_lt_of_le L0.out HBr.out.size
      have LR := hid lr
      clear hst hp1 hA1 hx q1 q2 hpr hp0 HPV lr
      go_upto_region 14 with fail
      refine late_genw (fun w4 hw4 => ?_)
      rw [← hw4] at HB3 HO3
      have hbb : Below wr.heap.size wr w4 := by rw [hw4]; exact (Below.refl _ _).alloc (Nat.le_refl _) _
      have X := show Bx w4 wr.heap.size #[.string x.Name, .int .i64 x.Id] by rw [hw4]; exact Bx.new _ _ _ rfl
      have y0 : w4.cell? ⟨wr.heap.size, 0, none⟩ = some (.string x.Name) := X.out 0
      have y1 : w4.cell? ⟨wr.heap.size, 1, none⟩ = some (.int .i64 x.Id) := X.out 1
      have z4 := ((bcell hbb).1 _ 4 LR.out).trans z4
      have d0 := fun (j : Nat) (hj : k = j + 1) => show ∃ pn, w4.cell? ⟨b1, o1 + j * 2, none⟩ = some (.string pn) ∧ pv = some pn from let ⟨pn, h1, h2⟩ := HPR.out j hj; ⟨pn, ((bcell hbb).1 b1 (o1 + j * 2) (World.block_lt_of_cell? wr _ c0)).trans h1, h2⟩
      have D0 := hid d0
      have HB4 := HB3; have HO4 := HO3
      have HB5 := hid (HB3.out.drew); have HO5 := hid (HO3.out.drew)
      clear hw4 hbb X c0 c1 hb d0 HB3 HO3
      cases hnm : nameOk x.Name
      ·have NM := hid hnm
       have E := hid (hF.out (.inl hnm))
       clear hnm
       as_aux_lemma =>
        go_wp2_with fail
        refine late_start (fun W => W.cell? ⟨wr.heap.size, 0, none⟩ = some (.string x.Name) ∧ W.cell? ⟨wr.heap.size, 1, none⟩ = some (.int .i64 x.Id) ∧ W.cell? ⟨w.heap.size, 4, none⟩ = some (.slice (some ⟨b1, o1, none⟩) d.Kept.length k4)) 99 (by kernel_rfl) ?_ (fun hS => ?_)
        ·exact ⟨y0, y1, z4⟩
        refine ltk 0 rfl ?_
        try simp only [Act.put, putZ, List.getElem_toArray, List.getElem_cons_zero, List.getElem_cons_succ]
        refine ltk 1 rfl ?_
        try simp only [Act.put, putZ, List.getElem_toArray, List.getElem_cons_zero, List.getElem_cons_succ]
        refine late_one (i := 2) rfl (by kernel_rfl) (fun K9 hK9 => ?_)
        go_simp
        refine (s_NameOk x.Name QX.out _).mono ?_
        rintro e w5 ⟨rfl, rfl⟩
        rw [NM.out]
        go_wp2_with fail
        refine hK9.out _ _ (fun _ => ?_) (fun hS9 => ?_)
        ·(try dsimp only); exact hS
        replace hS := hS9 (by decide)
        clear hK9 K9 hS9
        try simp only [Act.put, putZ, List.getElem_toArray, List.getElem_cons_zero, List.getElem_cons_succ]
        refine late_one (i := 3) rfl (by kernel_rfl) (fun K9 hK9 => ?_)
        go_simp
        refine hK9.out _ _ (fun _ => ?_) (fun hS9 => ?_)
        ·(try dsimp only); exact hS
        replace hS := hS9 (by decide)
        clear hK9 K9 hS9
        try simp only [Act.put, putZ, List.getElem_toArray, List.getElem_cons_zero, List.getElem_cons_succ]
        refine ltk 4 rfl ?_
        try simp only [Act.put, putZ, List.getElem_toArray, List.getElem_cons_zero, List.getElem_cons_succ]
        refine lsk 5 rfl ?_
        try simp only [Act.put, putZ, List.getElem_toArray, List.getElem_cons_zero, List.getElem_cons_succ]
        refine lsk 6 rfl ?_
        try simp only [Act.put, putZ, List.getElem_toArray, List.getElem_cons_zero, List.getElem_cons_succ]
        refine lsk 7 rfl ?_
        try simp only [Act.put, putZ, List.getElem_toArray, List.getElem_cons_zero, List.getElem_cons_succ]
        refine ltq 8 rfl ?_
        try simp only [Act.put, putZ, List.getElem_toArray, List.getElem_cons_zero, List.getElem_cons_succ]
        refine ltq 9 rfl ?_
        try simp only [Act.put, putZ, List.getElem_toArray, List.getElem_cons_zero, List.getElem_cons_succ]
        refine lsk 10 rfl ?_
        try simp only [Act.put, putZ, List.getElem_toArray, List.getElem_cons_zero, List.getElem_cons_succ]
        refine lsk 11 rfl ?_
        try simp only [Act.put, putZ, List.getElem_toArray, List.getElem_cons_zero, List.getElem_cons_succ]
        refine lsk 12 rfl ?_
        try simp only [Act.put, putZ, List.getElem_toArray, List.getElem_cons_zero, List.getElem_cons_succ]
        refine lsk 13 rfl ?_
        try simp only [Act.put, putZ, List.getElem_toArray, List.getElem_cons_zero, List.getElem_cons_succ]
        refine lsk 14 rfl ?_
        try simp only [Act.put, putZ, List.getElem_toArray, List.getElem_cons_zero, List.getElem_cons_succ]
        refine lsk 15 rfl ?_
        try simp only [Act.put, putZ, List.getElem_toArray, List.getElem_cons_zero, List.getElem_cons_succ]
        refine lsk 16 rfl ?_
        try simp only [Act.put, putZ, List.getElem_toArray, List.getElem_cons_zero, List.getElem_cons_succ]
        refine lsk 17 rfl ?_
        try simp only [Act.put, putZ, List.getElem_toArray, List.getElem_cons_zero, List.getElem_cons_succ]
        refine lsk 18 rfl ?_
        try simp only [Act.put, putZ, List.getElem_toArray, List.getElem_cons_zero, List.getElem_cons_succ]
        refine lsk 19 rfl ?_
        try simp only [Act.put, putZ, List.getElem_toArray, List.getElem_cons_zero, List.getElem_cons_succ]
        refine lsk 20 rfl ?_
        try simp only [Act.put, putZ, List.getElem_toArray, List.getElem_cons_zero, List.getElem_cons_succ]
        refine lsk 21 rfl ?_
        try simp only [Act.put, putZ, List.getElem_toArray, List.getElem_cons_zero, List.getElem_cons_succ]
        refine lsk 22 rfl ?_
        try simp only [Act.put, putZ, List.getElem_toArray, List.getElem_cons_zero, List.getElem_cons_succ]
        refine lsk 23 rfl ?_
        try simp only [Act.put, putZ, List.getElem_toArray, List.getElem_cons_zero, List.getElem_cons_succ]
        refine late_one (i := 24) rfl (by kernel_rfl) (fun K9 hK9 => ?_)
        go_simp
        refine hK9.out _ _ (fun _ => ?_) (fun hS9 => ?_)
        ·(try dsimp only); exact hS
        replace hS := hS9 (by decide)
        clear hK9 K9 hS9
        try simp only [Act.put, putZ, List.getElem_toArray, List.getElem_cons_zero, List.getElem_cons_succ]
        refine late_done (by kernel_rfl) ?_ _
        go_wp2
        go_ret
        exact ⟨ret_bool (by rw [E.out]), hb0.out.trans (HB5.out.mono hb0.out.size)⟩
      have NM := hid hnm
      clear hnm
      by_cases g1 : x.Id < 1
      ·have C1 := hid (decide_eq_true g1)
       have E := hid (hF.out (.inr (.inl (decide_eq_false (by omega)))))
       as_aux_lemma =>
        go_wp2_with fail
        refine late_start (fun W => W.cell? ⟨wr.heap.size, 0, none⟩ = some (.string x.Name) ∧ W.cell? ⟨wr.heap.size, 1, none⟩ = some (.int .i64 x.Id) ∧ W.cell? ⟨w.heap.size, 4, none⟩ = some (.slice (some ⟨b1, o1, none⟩) d.Kept.length k4)) 99 (by kernel_rfl) ?_ (fun hS => ?_)
        ·exact ⟨y0, y1, z4⟩
        refine ltk 0 rfl ?_
        try simp only [Act.put, putZ, List.getElem_toArray, List.getElem_cons_zero, List.getElem_cons_succ]
        refine ltk 1 rfl ?_
        try simp only [Act.put, putZ, List.getElem_toArray, List.getElem_cons_zero, List.getElem_cons_succ]
        refine late_one (i := 2) rfl (by kernel_rfl) (fun K9 hK9 => ?_)
        go_simp
        refine (s_NameOk x.Name QX.out _).mono ?_
        rintro e w5 ⟨rfl, rfl⟩
        rw [NM.out]
        go_wp2_with fail
        refine hK9.out _ _ (fun _ => ?_) (fun hS9 => ?_)
        ·(try dsimp only); exact hS
        replace hS := hS9 (by decide)
        clear hK9 K9 hS9
        try simp only [Act.put, putZ, List.getElem_toArray, List.getElem_cons_zero, List.getElem_cons_succ]
        refine late_one (i := 3) rfl (by kernel_rfl) (fun K9 hK9 => ?_)
        go_simp
        refine hK9.out _ _ (fun _ => ?_) (fun hS9 => ?_)
        ·(try dsimp only); exact hS
        replace hS := hS9 (by decide)
        clear hK9 K9 hS9
        try simp only [Act.put, putZ, List.getElem_toArray, List.getElem_cons_zero, List.getElem_cons_succ]
        refine ltk 4 rfl ?_
        try simp only [Act.put, putZ, List.getElem_toArray, List.getElem_cons_zero, List.getElem_cons_succ]
        refine ltq 5 rfl ?_
        try simp only [Act.put, putZ, List.getElem_toArray, List.getElem_cons_zero, List.getElem_cons_succ]
        refine ltq 6 rfl ?_
        try simp only [Act.put, putZ, List.getElem_toArray, List.getElem_cons_zero, List.getElem_cons_succ]
        refine late_one (i := 7) rfl (by kernel_rfl) (fun K9 hK9 => ?_)
        go_simp
        try rw [C1.out]
        refine hK9.out _ _ (fun _ => ?_) (fun hS9 => ?_)
        ·(try dsimp only); exact hS
        replace hS := hS9 (by decide)
        clear hK9 K9 hS9
        try simp only [Act.put, putZ, List.getElem_toArray, List.getElem_cons_zero, List.getElem_cons_succ]
        refine ltq 8 rfl ?_
        try simp only [Act.put, putZ, List.getElem_toArray, List.getElem_cons_zero, List.getElem_cons_succ]
        refine ltq 9 rfl ?_
        try simp only [Act.put, putZ, List.getElem_toArray, List.getElem_cons_zero, List.getElem_cons_succ]
        refine lsk 10 rfl ?_
        try simp only [Act.put, putZ, List.getElem_toArray, List.getElem_cons_zero, List.getElem_cons_succ]
        refine lsk 11 rfl ?_
        try simp only [Act.put, putZ, List.getElem_toArray, List.getElem_cons_zero, List.getElem_cons_succ]
        refine lsk 12 rfl ?_
        try simp only [Act.put, putZ, List.getElem_toArray, List.getElem_cons_zero, List.getElem_cons_succ]
        refine lsk 13 rfl ?_
        try simp only [Act.put, putZ, List.getElem_toArray, List.getElem_cons_zero, List.getElem_cons_succ]
        refine lsk 14 rfl ?_
        try simp only [Act.put, putZ, List.getElem_toArray, List.getElem_cons_zero, List.getElem_cons_succ]
        refine lsk 15 rfl ?_
        try simp only [Act.put, putZ, List.getElem_toArray, List.getElem_cons_zero, List.getElem_cons_succ]
        refine lsk 16 rfl ?_
        try simp only [Act.put, putZ, List.getElem_toArray, List.getElem_cons_zero, List.getElem_cons_succ]
        refine lsk 17 rfl ?_
        try simp only [Act.put, putZ, List.getElem_toArray, List.getElem_cons_zero, List.getElem_cons_succ]
        refine lsk 18 rfl ?_
        try simp only [Act.put, putZ, List.getElem_toArray, List.getElem_cons_zero, List.getElem_cons_succ]
        refine lsk 19 rfl ?_
        try simp only [Act.put, putZ, List.getElem_toArray, List.getElem_cons_zero, List.getElem_cons_succ]
        refine lsk 20 rfl ?_
        try simp only [Act.put, putZ, List.getElem_toArray, List.getElem_cons_zero, List.getElem_cons_succ]
        refine lsk 21 rfl ?_
        try simp only [Act.put, putZ, List.getElem_toArray, List.getElem_cons_zero, List.getElem_cons_succ]
        refine lsk 22 rfl ?_
        try simp only [Act.put, putZ, List.getElem_toArray, List.getElem_cons_zero, List.getElem_cons_succ]
        refine lsk 23 rfl ?_
        try simp only [Act.put, putZ, List.getElem_toArray, List.getElem_cons_zero, List.getElem_cons_succ]
        refine late_one (i := 24) rfl (by kernel_rfl) (fun K9 hK9 => ?_)
        go_simp
        refine hK9.out _ _ (fun _ => ?_) (fun hS9 => ?_)
        ·(try dsimp only); exact hS
        replace hS := hS9 (by decide)
        clear hK9 K9 hS9
        try simp only [Act.put, putZ, List.getElem_toArray, List.getElem_cons_zero, List.getElem_cons_succ]
        refine late_done (by kernel_rfl) ?_ _
        go_wp2
        go_ret
        exact ⟨ret_bool (by rw [E.out]), hb0.out.trans (HB5.out.mono hb0.out.size)⟩
      have C1 := hid (decide_eq_false g1)
      have G1 := hid (show decide (1 ≤ x.Id) = true from decide_eq_true (by omega))
      clear g1
      by_cases g3 : k = 0
      ·have hp0 := HP0.out g3
       have E := hid (show keptS none d.Kept = keptS (some x.Name) (d.Kept.drop (k + 1)) by rw [HNO.out, HST.out, NM.out, G1.out, hp0]; rfl)
       clear hp0
       subst g3
       as_aux_lemma =>
        go_wp2_with fail
        refine late_start (fun W => W.cell? ⟨wr.heap.size, 0, none⟩ = some (.string x.Name) ∧ W.cell? ⟨wr.heap.size, 1, none⟩ = some (.int .i64 x.Id) ∧ W.cell? ⟨w.heap.size, 4, none⟩ = some (.slice (some ⟨b1, o1, none⟩) d.Kept.length k4)) 99 (by kernel_rfl) ?_ (fun hS => ?_)
        ·exact ⟨y0, y1, z4⟩
        refine ltk 0 rfl ?_
        try simp only [Act.put, putZ, List.getElem_toArray, List.getElem_cons_zero, List.getElem_cons_succ]
        refine ltk 1 rfl ?_
        try simp only [Act.put, putZ, List.getElem_toArray, List.getElem_cons_zero, List.getElem_cons_succ]
        refine late_one (i := 2) rfl (by kernel_rfl) (fun K9 hK9 => ?_)
        go_simp
        refine (s_NameOk x.Name QX.out _).mono ?_
        rintro e w5 ⟨rfl, rfl⟩
        rw [NM.out]
        go_wp2_with fail
        refine hK9.out _ _ (fun _ => ?_) (fun hS9 => ?_)
        ·(try dsimp only); exact hS
        replace hS := hS9 (by decide)
        clear hK9 K9 hS9
        try simp only [Act.put, putZ, List.getElem_toArray, List.getElem_cons_zero, List.getElem_cons_succ]
        refine late_one (i := 3) rfl (by kernel_rfl) (fun K9 hK9 => ?_)
        go_simp
        refine hK9.out _ _ (fun _ => ?_) (fun hS9 => ?_)
        ·(try dsimp only); exact hS
        replace hS := hS9 (by decide)
        clear hK9 K9 hS9
        try simp only [Act.put, putZ, List.getElem_toArray, List.getElem_cons_zero, List.getElem_cons_succ]
        refine ltk 4 rfl ?_
        try simp only [Act.put, putZ, List.getElem_toArray, List.getElem_cons_zero, List.getElem_cons_succ]
        refine ltq 5 rfl ?_
        try simp only [Act.put, putZ, List.getElem_toArray, List.getElem_cons_zero, List.getElem_cons_succ]
        refine ltq 6 rfl ?_
        try simp only [Act.put, putZ, List.getElem_toArray, List.getElem_cons_zero, List.getElem_cons_succ]
        refine late_one (i := 7) rfl (by kernel_rfl) (fun K9 hK9 => ?_)
        go_simp
        try rw [C1.out]
        refine hK9.out _ _ (fun _ => ?_) (fun hS9 => ?_)
        ·(try dsimp only); exact hS
        replace hS := hS9 (by decide)
        clear hK9 K9 hS9
        try simp only [Act.put, putZ, List.getElem_toArray, List.getElem_cons_zero, List.getElem_cons_succ]
        refine ltq 8 rfl ?_
        try simp only [Act.put, putZ, List.getElem_toArray, List.getElem_cons_zero, List.getElem_cons_succ]
        refine ltq 9 rfl ?_
        try simp only [Act.put, putZ, List.getElem_toArray, List.getElem_cons_zero, List.getElem_cons_succ]
        refine ltq 10 rfl ?_
        try simp only [Act.put, putZ, List.getElem_toArray, List.getElem_cons_zero, List.getElem_cons_succ]
        refine late_one (i := 11) rfl (by kernel_rfl) (fun K9 hK9 => ?_)
        go_simp
        refine hK9.out _ _ (fun _ => ?_) (fun hS9 => ?_)
        ·(try dsimp only); exact hS
        replace hS := hS9 (by decide)
        clear hK9 K9 hS9
        try simp only [Act.put, putZ, List.getElem_toArray, List.getElem_cons_zero, List.getElem_cons_succ]
        refine ltq 12 rfl ?_
        try simp only [Act.put, putZ, List.getElem_toArray, List.getElem_cons_zero, List.getElem_cons_succ]
        refine lsk 13 rfl ?_
        try simp only [Act.put, putZ, List.getElem_toArray, List.getElem_cons_zero, List.getElem_cons_succ]
        refine lsk 14 rfl ?_
        try simp only [Act.put, putZ, List.getElem_toArray, List.getElem_cons_zero, List.getElem_cons_succ]
        refine lsk 15 rfl ?_
        try simp only [Act.put, putZ, List.getElem_toArray, List.getElem_cons_zero, List.getElem_cons_succ]
        refine lsk 16 rfl ?_
        try simp only [Act.put, putZ, List.getElem_toArray, List.getElem_cons_zero, List.getElem_cons_succ]
        refine lsk 17 rfl ?_
        try simp only [Act.put, putZ, List.getElem_toArray, List.getElem_cons_zero, List.getElem_cons_succ]
        refine lsk 18 rfl ?_
        try simp only [Act.put, putZ, List.getElem_toArray, List.getElem_cons_zero, List.getElem_cons_succ]
        refine lsk 19 rfl ?_
        try simp only [Act.put, putZ, List.getElem_toArray, List.getElem_cons_zero, List.getElem_cons_succ]
        refine lsk 20 rfl ?_
        try simp only [Act.put, putZ, List.getElem_toArray, List.getElem_cons_zero, List.getElem_cons_succ]
        refine lsk 21 rfl ?_
        try simp only [Act.put, putZ, List.getElem_toArray, List.getElem_cons_zero, List.getElem_cons_succ]
        refine lsk 22 rfl ?_
        try simp only [Act.put, putZ, List.getElem_toArray, List.getElem_cons_zero, List.getElem_cons_succ]
        refine ltq 23 rfl ?_
        try simp only [Act.put, putZ, List.getElem_toArray, List.getElem_cons_zero, List.getElem_cons_succ]
        refine late_one (i := 24) rfl (by kernel_rfl) (fun K9 hK9 => ?_)
        go_simp
        refine hK9.out _ _ (fun _ => ?_) (fun hS9 => ?_)
        ·(try dsimp only); exact hS
        replace hS := hS9 (by decide)
        clear hK9 K9 hS9
        try simp only [Act.put, putZ, List.getElem_toArray, List.getElem_cons_zero, List.getElem_cons_succ]
        refine late_done (by kernel_rfl) ?_ _
        go_wp2
        exact ⟨⟨0 + 1, some x.Name, by omega, by go_num, HO5.out, E.out, .inr ⟨0, HX1.out.1, rfl, congrArg (fun y => some y.Name) HX1.out.2⟩, HB5.out⟩, by simp [intOf]; try omega⟩
      obtain ⟨j, rfl⟩ : ∃ j, k = j + 1 := ⟨k - 1, by omega⟩
      obtain ⟨pn, dj, hpn⟩ := D0.out j rfl
      have hji : (j : Int) < (d.Kept.length : Int) := by omega
      have C3 := hid (show decide ((0 : Int) < (j : Int) + 1) = true from decide_eq_true (by omega))
      have W1 := hid (show wrap64 ((j : Int) + 1 - 1) = (j : Int) by rw [IntWalk.wrap64_in _ (by omega)]; omega)
      have W2 := hid (show wrap64 (j : Int) = (j : Int) by rw [IntWalk.wrap64_in _ (by omega)])
      have W3 := hid (show IntKind.i64.wrap ((j : Int) + 1 - 1) = (j : Int) by rw [wrapI (by omega)]; omega)
      have W4 := hid (show IntKind.i64.wrap (j : Int) = (j : Int) from wrapI (by omega))
      cases hq : Op.bytesLess pn.toList x.Name.toList
      ·have C4 := hid hq
       have E := hid (hF.out (.inr (.inr (by rw [hpn]; exact hq))))
       clear hq hpn
       have hw1 := W1.out; have hw2 := W2.out; have hw3 := W3.out; have hw4 := W4.out
       as_aux_lemma =>
        go_wp2_with fail
        refine late_start (fun W => W.cell? ⟨wr.heap.size, 0, none⟩ = some (.string x.Name) ∧ W.cell? ⟨wr.heap.size, 1, none⟩ = some (.int .i64 x.Id) ∧ W.cell? ⟨w.heap.size, 4, none⟩ = some (.slice (some ⟨b1, o1, none⟩) d.Kept.length k4) ∧ W.cell? ⟨b1, o1 + j * 2, none⟩ = some (.string pn)) 99 (by kernel_rfl) ?_ (fun hS => ?_)
        ·exact ⟨y0, y1, z4, dj⟩
        refine ltk 0 rfl ?_
        try simp only [Act.put, putZ, List.getElem_toArray, List.getElem_cons_zero, List.getElem_cons_succ]
        refine ltk 1 rfl ?_
        try simp only [Act.put, putZ, List.getElem_toArray, List.getElem_cons_zero, List.getElem_cons_succ]
        refine late_one (i := 2) rfl (by kernel_rfl) (fun K9 hK9 => ?_)
        go_simp
        refine (s_NameOk x.Name QX.out _).mono ?_
        rintro e w5 ⟨rfl, rfl⟩
        rw [NM.out]
        go_wp2_with fail
        refine hK9.out _ _ (fun _ => ?_) (fun hS9 => ?_)
        ·(try dsimp only); exact hS
        replace hS := hS9 (by decide)
        clear hK9 K9 hS9
        try simp only [Act.put, putZ, List.getElem_toArray, List.getElem_cons_zero, List.getElem_cons_succ]
        refine late_one (i := 3) rfl (by kernel_rfl) (fun K9 hK9 => ?_)
        go_simp
        refine hK9.out _ _ (fun _ => ?_) (fun hS9 => ?_)
        ·(try dsimp only); exact hS
        replace hS := hS9 (by decide)
        clear hK9 K9 hS9
        try simp only [Act.put, putZ, List.getElem_toArray, List.getElem_cons_zero, List.getElem_cons_succ]
        refine ltk 4 rfl ?_
        try simp only [Act.put, putZ, List.getElem_toArray, List.getElem_cons_zero, List.getElem_cons_succ]
        refine ltq 5 rfl ?_
        try simp only [Act.put, putZ, List.getElem_toArray, List.getElem_cons_zero, List.getElem_cons_succ]
        refine ltq 6 rfl ?_
        try simp only [Act.put, putZ, List.getElem_toArray, List.getElem_cons_zero, List.getElem_cons_succ]
        refine late_one (i := 7) rfl (by kernel_rfl) (fun K9 hK9 => ?_)
        go_simp
        try rw [C1.out]
        refine hK9.out _ _ (fun _ => ?_) (fun hS9 => ?_)
        ·(try dsimp only); exact hS
        replace hS := hS9 (by decide)
        clear hK9 K9 hS9
        try simp only [Act.put, putZ, List.getElem_toArray, List.getElem_cons_zero, List.getElem_cons_succ]
        refine ltq 8 rfl ?_
        try simp only [Act.put, putZ, List.getElem_toArray, List.getElem_cons_zero, List.getElem_cons_succ]
        refine ltq 9 rfl ?_
        try simp only [Act.put, putZ, List.getElem_toArray, List.getElem_cons_zero, List.getElem_cons_succ]
        refine ltq 10 rfl ?_
        try simp only [Act.put, putZ, List.getElem_toArray, List.getElem_cons_zero, List.getElem_cons_succ]
        refine late_one (i := 11) rfl (by kernel_rfl) (fun K9 hK9 => ?_)
        go_simp
        try rw [C3.out]
        refine hK9.out _ _ (fun _ => ?_) (fun hS9 => ?_)
        ·(try dsimp only); exact hS
        replace hS := hS9 (by decide)
        clear hK9 K9 hS9
        try simp only [Act.put, putZ, List.getElem_toArray, List.getElem_cons_zero, List.getElem_cons_succ]
        refine ltq 12 rfl ?_
        try simp only [Act.put, putZ, List.getElem_toArray, List.getElem_cons_zero, List.getElem_cons_succ]
        refine ltq 13 rfl ?_
        try simp only [Act.put, putZ, List.getElem_toArray, List.getElem_cons_zero, List.getElem_cons_succ]
        refine ltq 14 rfl ?_
        try simp only [Act.put, putZ, List.getElem_toArray, List.getElem_cons_zero, List.getElem_cons_succ]
        refine ltq 15 rfl ?_
        try simp only [Act.put, putZ, List.getElem_toArray, List.getElem_cons_zero, List.getElem_cons_succ]
        refine ltq 16 rfl ?_
        try simp only [Act.put, putZ, List.getElem_toArray, List.getElem_cons_zero, List.getElem_cons_succ]
        refine ltq 17 rfl ?_
        try simp only [Act.put, putZ, List.getElem_toArray, List.getElem_cons_zero, List.getElem_cons_succ]
        refine ltq 18 rfl ?_
        try simp only [Act.put, putZ, List.getElem_toArray, List.getElem_cons_zero, List.getElem_cons_succ]
        refine ltq 19 rfl ?_
        try simp only [Act.put, putZ, List.getElem_toArray, List.getElem_cons_zero, List.getElem_cons_succ]
        refine ltq 20 rfl ?_
        try simp only [Act.put, putZ, List.getElem_toArray, List.getElem_cons_zero, List.getElem_cons_succ]
        refine ltq 21 rfl ?_
        try simp only [Act.put, putZ, List.getElem_toArray, List.getElem_cons_zero, List.getElem_cons_succ]
        refine late_one (i := 22) rfl (by kernel_rfl) (fun K9 hK9 => ?_)
        go_simp
        try rw [C4.out]
        try simp only [Bool.not_true, Bool.not_false]
        refine hK9.out _ _ (fun _ => ?_) (fun hS9 => ?_)
        ·(try dsimp only); exact hS
        replace hS := hS9 (by decide)
        clear hK9 K9 hS9
        try simp only [Act.put, putZ, List.getElem_toArray, List.getElem_cons_zero, List.getElem_cons_succ]
        refine ltq 23 rfl ?_
        try simp only [Act.put, putZ, List.getElem_toArray, List.getElem_cons_zero, List.getElem_cons_succ]
        refine late_one (i := 24) rfl (by kernel_rfl) (fun K9 hK9 => ?_)
        go_simp
        refine hK9.out _ _ (fun _ => ?_) (fun hS9 => ?_)
        ·(try dsimp only); exact hS
        replace hS := hS9 (by decide)
        clear hK9 K9 hS9
        try simp only [Act.put, putZ, List.getElem_toArray, List.getElem_cons_zero, List.getElem_cons_succ]
        refine late_done (by kernel_rfl) ?_ _
        clear hw1 hw2 hw3 hw4
        go_wp2
        go_ret
        exact ⟨ret_bool (by rw [E.out]), hb0.out.trans (HB5.out.mono hb0.out.size)⟩
      ·have C4 := hid hq
       have E := hid (show keptS none d.Kept = keptS (some x.Name) (d.Kept.drop (j + 1 + 1)) by rw [HNO.out, HST.out, NM.out, G1.out, hpn, show prevOk (some pn) x.Name = true from hq]; rfl)
       clear hq hpn
       have hw1 := W1.out; have hw2 := W2.out; have hw3 := W3.out; have hw4 := W4.out
       as_aux_lemma =>
        go_wp2_with fail
        refine late_start (fun W => W.cell? ⟨wr.heap.size, 0, none⟩ = some (.string x.Name) ∧ W.cell? ⟨wr.heap.size, 1, none⟩ = some (.int .i64 x.Id) ∧ W.cell? ⟨w.heap.size, 4, none⟩ = some (.slice (some ⟨b1, o1, none⟩) d.Kept.length k4) ∧ W.cell? ⟨b1, o1 + j * 2, none⟩ = some (.string pn)) 99 (by kernel_rfl) ?_ (fun hS => ?_)
        ·exact ⟨y0, y1, z4, dj⟩
        refine ltk 0 rfl ?_
        try simp only [Act.put, putZ, List.getElem_toArray, List.getElem_cons_zero, List.getElem_cons_succ]
        refine ltk 1 rfl ?_
        try simp only [Act.put, putZ, List.getElem_toArray, List.getElem_cons_zero, List.getElem_cons_succ]
        refine late_one (i := 2) rfl (by kernel_rfl) (fun K9 hK9 => ?_)
        go_simp
        refine (s_NameOk x.Name QX.out _).mono ?_
        rintro e w5 ⟨rfl, rfl⟩
        rw [NM.out]
        go_wp2_with fail
        refine hK9.out _ _ (fun _ => ?_) (fun hS9 => ?_)
        ·(try dsimp only); exact hS
        replace hS := hS9 (by decide)
        clear hK9 K9 hS9
        try simp only [Act.put, putZ, List.getElem_toArray, List.getElem_cons_zero, List.getElem_cons_succ]
        refine late_one (i := 3) rfl (by kernel_rfl) (fun K9 hK9 => ?_)
        go_simp
        refine hK9.out _ _ (fun _ => ?_) (fun hS9 => ?_)
        ·(try dsimp only); exact hS
        replace hS := hS9 (by decide)
        clear hK9 K9 hS9
        try simp only [Act.put, putZ, List.getElem_toArray, List.getElem_cons_zero, List.getElem_cons_succ]
        refine ltk 4 rfl ?_
        try simp only [Act.put, putZ, List.getElem_toArray, List.getElem_cons_zero, List.getElem_cons_succ]
        refine ltq 5 rfl ?_
        try simp only [Act.put, putZ, List.getElem_toArray, List.getElem_cons_zero, List.getElem_cons_succ]
        refine ltq 6 rfl ?_
        try simp only [Act.put, putZ, List.getElem_toArray, List.getElem_cons_zero, List.getElem_cons_succ]
        refine late_one (i := 7) rfl (by kernel_rfl) (fun K9 hK9 => ?_)
        go_simp
        try rw [C1.out]
        refine hK9.out _ _ (fun _ => ?_) (fun hS9 => ?_)
        ·(try dsimp only); exact hS
        replace hS := hS9 (by decide)
        clear hK9 K9 hS9
        try simp only [Act.put, putZ, List.getElem_toArray, List.getElem_cons_zero, List.getElem_cons_succ]
        refine ltq 8 rfl ?_
        try simp only [Act.put, putZ, List.getElem_toArray, List.getElem_cons_zero, List.getElem_cons_succ]
        refine ltq 9 rfl ?_
        try simp only [Act.put, putZ, List.getElem_toArray, List.getElem_cons_zero, List.getElem_cons_succ]
        refine ltq 10 rfl ?_
        try simp only [Act.put, putZ, List.getElem_toArray, List.getElem_cons_zero, List.getElem_cons_succ]
        refine late_one (i := 11) rfl (by kernel_rfl) (fun K9 hK9 => ?_)
        go_simp
        try rw [C3.out]
        refine hK9.out _ _ (fun _ => ?_) (fun hS9 => ?_)
        ·(try dsimp only); exact hS
        replace hS := hS9 (by decide)
        clear hK9 K9 hS9
        try simp only [Act.put, putZ, List.getElem_toArray, List.getElem_cons_zero, List.getElem_cons_succ]
        refine ltq 12 rfl ?_
        try simp only [Act.put, putZ, List.getElem_toArray, List.getElem_cons_zero, List.getElem_cons_succ]
        refine ltq 13 rfl ?_
        try simp only [Act.put, putZ, List.getElem_toArray, List.getElem_cons_zero, List.getElem_cons_succ]
        refine ltq 14 rfl ?_
        try simp only [Act.put, putZ, List.getElem_toArray, List.getElem_cons_zero, List.getElem_cons_succ]
        refine ltq 15 rfl ?_
        try simp only [Act.put, putZ, List.getElem_toArray, List.getElem_cons_zero, List.getElem_cons_succ]
        refine ltq 16 rfl ?_
        try simp only [Act.put, putZ, List.getElem_toArray, List.getElem_cons_zero, List.getElem_cons_succ]
        refine ltq 17 rfl ?_
        try simp only [Act.put, putZ, List.getElem_toArray, List.getElem_cons_zero, List.getElem_cons_succ]
        refine ltq 18 rfl ?_
        try simp only [Act.put, putZ, List.getElem_toArray, List.getElem_cons_zero, List.getElem_cons_succ]
        refine ltq 19 rfl ?_
        try simp only [Act.put, putZ, List.getElem_toArray, List.getElem_cons_zero, List.getElem_cons_succ]
        refine ltq 20 rfl ?_
        try simp only [Act.put, putZ, List.getElem_toArray, List.getElem_cons_zero, List.getElem_cons_succ]
        refine ltq 21 rfl ?_
        try simp only [Act.put, putZ, List.getElem_toArray, List.getElem_cons_zero, List.getElem_cons_succ]
        refine late_one (i := 22) rfl (by kernel_rfl) (fun K9 hK9 => ?_)
        go_simp
        try rw [C4.out]
        try simp only [Bool.not_true, Bool.not_false]
        refine hK9.out _ _ (fun _ => ?_) (fun hS9 => ?_)
        ·(try dsimp only); exact hS
        replace hS := hS9 (by decide)
        clear hK9 K9 hS9
        try simp only [Act.put, putZ, List.getElem_toArray, List.getElem_cons_zero, List.getElem_cons_succ]
        refine ltq 23 rfl ?_
        try simp only [Act.put, putZ, List.getElem_toArray, List.getElem_cons_zero, List.getElem_cons_succ]
        refine late_one (i := 24) rfl (by kernel_rfl) (fun K9 hK9 => ?_)
        go_simp
        refine hK9.out _ _ (fun _ => ?_) (fun hS9 => ?_)
        ·(try dsimp only); exact hS
        replace hS := hS9 (by decide)
        clear hK9 K9 hS9
        try simp only [Act.put, putZ, List.getElem_toArray, List.getElem_cons_zero, List.getElem_cons_succ]
        refine late_done (by kernel_rfl) ?_ _
        clear hw1 hw2 hw3 hw4
        go_wp2
        exact ⟨⟨j + 1 + 1, some x.Name, by omega, by go_num, HO5.out, E.out, .inr ⟨j + 1, HX1.out.1, rfl, congrArg (fun y => some y.Name) HX1.out.2⟩, HB5.out⟩, by simp [intOf]; try omega⟩
     ·obtain rfl : k = d.Kept.length := by omega
      have hki : ¬ (d.Kept.length : Int) < (d.Kept.length : Int) := by omega
      cases hkk : keptS none d.Kept
      ·exact absurd hkk (by rw [HNO.out, List.drop_length]; simp [keptS])
      have E3 := hid (show diskOk d = (decide ((diskIds d).length = d.Nodes.length) && (idsFrom (idNodes d.Nodes) [] (diskIds d) && (turnsOk d.Kept d.Turns && decide ((diskUsed d : Int) ≤ d.Room)))) by rw [E2.out, hkk, Bool.true_and])
      have B2 := hid (Bx.below hb (by rw [← show wA.heap.size = wA.heap.size from rfl]; exact L0.out) HX.out)
      clear hkk hb HNO HPV E1 E2
      as_aux_lemma =>
       go_wp2_with (first | (refine wpList_load_mid rfl 35 _ rfl w.heap.size 0 rfl cs _ B2.out.all Tryz.underlying35 rfl I0.out ?_))
       refine (s_l03Ids (grow H0.out (hb0.out.trans (HBr.out.mono hb0.out.size))) (by have := HR.out.r8; omega) (by have := HR.out.r9; omega)).mono ?_
       rintro e w5 ⟨v5, b5', rfl, hO5, hb5⟩
       have HB5 := hid (HBr.out.trans (hb5.mono HBr.out.size))
       obtain ⟨p5, c5, rfl⟩ := hO5.slice
       obtain ⟨b5s, _, s5⟩ := hO5.slcL
       have HND5 := hid (HOr.out.grow hb5)
       have hlI : (diskIds d).length ≤ 48 := by
        have h1 := idTurns_len d.Turns
        have := HR.out.r8; have := HR.out.r9
        unfold diskIds idKept
        rw [List.length_append, List.length_map]; omega
       have HLI := hid hlI
       obtain ⟨ids, hids⟩ : ∃ ids, ids = diskIds d := ⟨_, rfl⟩
       rw [← hids] at s5 ⊢ hlI
       have HID := hid hids; have S5 := hid s5
       clear hO5 hb5 s5 B2 HOr HBr hids
       by_cases hle : ids.length = d.Nodes.length
       rotate_left
       ·have E := hid (show diskOk d = false by rw [E3.out, ← HID.out, decide_eq_false hle]; rfl)
        have hlne : ((ids.length : Int) != (d.Nodes.length : Int)) = true := by rw [bne_iff_ne]; omega
        go_wp2
        go_ret
        exact ⟨ret_bool (by rw [E.out]), hb0.out.trans (HB5.out.mono hb0.out.size)⟩
       have E4 := hid (show diskOk d = (idsFrom (idNodes d.Nodes) [] ids && (turnsOk d.Kept d.Turns && decide ((diskUsed d : Int) ≤ d.Room))) by rw [E3.out, ← HID.out, decide_eq_true hle]; rfl)
       have hlne : ((ids.length : Int) != (d.Nodes.length : Int)) = false := by rw [bne_eq_false_iff_eq]; omega
       have HLE := hid hle
       clear hle hlI E3
       go_upto_region 21 with fail
       as_aux_lemma =>
        go_loopw [144] (fun i wr => ∃ (k : Nat), k ≤ ids.length ∧ i = .int .i64 (k : Int) ∧ idsFrom (idNodes d.Nodes) [] ids = idsFrom (idNodes d.Nodes) (ids.take k) (ids.drop k) ∧ Below w5.heap.size w5 wr) (fun i _ => ids.length - (intOf i).toNat)
        case atStart => exact ⟨0, Nat.zero_le _, rfl, rfl, Below.refl _ _⟩
        case round =>
         obtain ⟨k, hk, rfl, hno, hb⟩ := hrel
         have HBr := hid hb; have HNO := hid hno
         clear hno
         have h48 : ids.length ≤ 48 := by rw [HID.out]; exact HLI.out
         by_cases hlt : k < ids.length
         ·have Sr := S5.out.grow hb
          have Nr := HND5.out.grow hb
          obtain ⟨nb, _, sN⟩ := Nr.slcL
          obtain ⟨b1, o1, rfl, _, hck, _⟩ := Sr.at k hlt
          obtain ⟨a9, bs9, hcut, _, _, hS9⟩ := Sr.cut_h 126 Tryz.underlying126 hi hz1 (k : Int) (by omega) (by omega)
          rw [Int.toNat_natCast] at hS9
          simp only [Int.toNat_natCast] at hcut
          have hst : idsFrom (idNodes d.Nodes) (ids.take k) (ids.drop k) = (!hasI (ids.take k) ids[k] && hasI (idNodes d.Nodes) ids[k] && idsFrom (idNodes d.Nodes) (ids.take (k + 1)) (ids.drop (k + 1))) := by
           rw [List.drop_eq_getElem_cons hlt, List.take_succ_eq_append_getElem hlt]; rfl
          have hki : (k : Int) < (ids.length : Int) := by omega
          obtain ⟨x, hx⟩ : ∃ x, x = ids[k] := ⟨_, rfl⟩
          rw [← hx] at hst hck
          have c0 : wr.cell? ⟨b1, o1 + k, none⟩ = some (.int .i64 x) := hck
          have HST := hid hst; have HS9 := hid hS9
          rw [HND.out] at sN
          have HSN := hid sN
          clear hst hck hx hb hS9 sN Sr Nr
          cases hh1 : hasI (ids.take k) x
          ·have H1 := hid hh1
           clear hh1
           cases hh2 : hasI (idNodes d.Nodes) x
           ·have H2 := hid hh2
            have E := hid (show diskOk d = false by rw [E4.out, HNO.out, HST.out, H1.out, hh2]; rfl)
            clear hh2
            go_wp2_with fail
            refine (s_l03HasInt HS9.out x).mono ?_
            rintro e w6 ⟨rfl, rfl⟩
            rw [H1.out]
            go_wp2_with fail
            refine (s_l03HasInt HSN.out x).mono ?_
            rintro e w6 ⟨rfl, rfl⟩
            rw [H2.out]
            go_wp2
            go_ret
            exact ⟨ret_bool (by rw [E.out]), hb0.out.trans ((HB5.out.trans (HBr.out.mono HB5.out.size)).mono hb0.out.size)⟩
           ·have H2 := hid hh2
            have E := hid (show idsFrom (idNodes d.Nodes) [] ids = idsFrom (idNodes d.Nodes) (ids.take (k + 1)) (ids.drop (k + 1)) by rw [HNO.out, HST.out, H1.out, hh2]; rfl)
            clear hh2
            go_wp2_with fail
            refine (s_l03HasInt HS9.out x).mono ?_
            rintro e w6 ⟨rfl, rfl⟩
            rw [H1.out]
            go_wp2_with fail
            refine (s_l03HasInt HSN.out x).mono ?_
            rintro e w6 ⟨rfl, rfl⟩
            rw [H2.out]
            go_wp2
            exact ⟨⟨k + 1, by omega, by go_num, E.out, HBr.out⟩, by simp [intOf]; try omega⟩
          ·have H1 := hid hh1
           have E := hid (show diskOk d = false by rw [E4.out, HNO.out, HST.out, hh1]; rfl)
           clear hh1
           go_wp2_with fail
           refine (s_l03HasInt HS9.out x).mono ?_
           rintro e w6 ⟨rfl, rfl⟩
           rw [H1.out]
           go_wp2
           go_ret
           exact ⟨ret_bool (by rw [E.out]), hb0.out.trans ((HB5.out.trans (HBr.out.mono HB5.out.size)).mono hb0.out.size)⟩
         ·obtain rfl : k = ids.length := by omega
          have hki : ¬ (ids.length : Int) < (ids.length : Int) := by omega
          cases hkk : idsFrom (idNodes d.Nodes) [] ids
          ·exact absurd hkk (by rw [HNO.out, List.drop_length]; simp [idsFrom])
          have E5 := hid (show diskOk d = (turnsOk d.Kept d.Turns && decide ((diskUsed d : Int) ≤ d.Room)) by rw [E4.out, hkk, Bool.true_and])
          have HB6 := hid (HB5.out.trans (HBr.out.mono HB5.out.size))
          have z4 := ((bcell HB6.out).1 _ 4 L0.out).trans X4.out
          have z5 := ((bcell HB6.out).1 _ 5 L0.out).trans X5.out
          have SK := hid (H4.out.grow (hb0.out.trans (HB6.out.mono hb0.out.size)))
          clear hkk hb HNO HBr E4 HND5 S5 HB5
          as_aux_lemma =>
           go_wp2_with fail
           go_loopw [11, 166] (fun o i wr => ∃ (k : Nat) (p : Option Addr) (m c : Nat) (b' : List Nat) (dir : List LinkD), k ≤ d.Turns.length ∧ o = .slice p m c ∧ i = .int .i64 (k : Int) ∧ Slc wr b' p m c dir ∧ dir.length ≤ 8 + k ∧ turnsOk d.Kept d.Turns = turnsOk dir (d.Turns.drop k) ∧ Below wA.heap.size wA wr) (fun _ i _ => d.Turns.length - (intOf i).toNat)
           case atStart => exact ⟨0, a4, _, k4, b4, d.Kept, Nat.zero_le _, rfl, rfl, SK.out, HR.out.r8, rfl, HB6.out⟩
           case round =>
            clear SK HB6 z4 z5
            obtain ⟨k, p, m, c, b', dir, hk, rfl, rfl, hS, hdl, hno, hb⟩ := hrel
            have HBr := hid hb; have HNO := hid hno; have HS1 := hid hS; have HDL := hid hdl
            clear hno hS hdl
            have hn9 := HR.out.r9
            by_cases hlt : k < d.Turns.length
            ·obtain ⟨b1, o1, cs1, _, rfl, _, hp1, _, hA1⟩ := (H5.out.grow (hb0.out.trans (hb.mono hb0.out.size))).elem k hlt
             obtain ⟨_, rfl, q1, q2, q3, q4⟩ := open_Turn hp1
             have c0 : wr.cell? ⟨b1, o1 + k * 4, none⟩ = some _ := hA1 0 _ rfl
             have c1 : wr.cell? ⟨b1, o1 + k * 4 + 1, none⟩ = some _ := hA1 1 _ rfl
             have c2 : wr.cell? ⟨b1, o1 + k * 4 + 2, none⟩ = some _ := hA1 2 _ rfl
             have c3 : wr.cell? ⟨b1, o1 + k * 4 + 3, none⟩ = some _ := hA1 3 _ rfl
             have hst : turnsOk dir (d.Turns.drop k) = (turnFit dir d.Turns[k] && turnsOk (dirTurn dir d.Turns[k]) (d.Turns.drop (k + 1))) := by
              rw [List.drop_eq_getElem_cons hlt]; rfl
             have hki : (k : Int) < (d.Turns.length : Int) := by omega
             obtain ⟨x, hx⟩ : ∃ x, x = d.Turns[k] := ⟨_, rfl⟩
             rw [← hx] at hst c0 c1 c2 c3 q1 q2 q3 q4
             have HST := hid hst
             have PT := fun (W : World) => mk_Turn (w := W) (d := x) q1 q2 q3 q4
             have HB3 := hid (HBr.out.alloc HBr.out.size (.cells #[.int .i64 x.Kind, .string x.Name, .string x.To, .int .i64 x.Id] 106))
             have HS3 := hid (HS1.out.grow ((Below.refl _ _).alloc (Nat.le_refl _) (.cells #[.int .i64 x.Kind, .string x.Name, .string x.To, .int .i64 x.Id] 106)))
             have TL := hid (dirTurn_len dir x)
             clear hst hp1 hA1 hx hb
             cases hfit : turnFit dir x
             ·have HFIT := hid hfit
              have E := hid (show diskOk d = false by rw [E5.out, HNO.out, HST.out, hfit]; rfl)
              clear hfit
              go_wp2_with fail
              refine (s_l03TurnOk HS3.out (PT _)).mono ?_
              rintro e w6 ⟨rfl, hb6⟩
              have HB6 := hid (HB3.out.trans (hb6.mono HB3.out.size))
              rw [HFIT.out]
              clear hb6
              go_wp2
              go_ret
              exact ⟨ret_bool (by rw [E.out]), hb0.out.trans (HB6.out.mono hb0.out.size)⟩
             ·have HFIT := hid hfit
              have E := hid (show turnsOk d.Kept d.Turns = turnsOk (dirTurn dir x) (d.Turns.drop (k + 1)) by rw [HNO.out, HST.out, hfit]; rfl)
              clear hfit
              as_aux_lemma =>
               go_wp2_with fail
               refine (s_l03TurnOk HS3.out (PT _)).mono ?_
               rintro e w6 ⟨rfl, hb6⟩
               have HB6 := hid (HB3.out.trans (hb6.mono HB3.out.size))
               have HS6 := hid (HS3.out.grow hb6)
               rw [HFIT.out]
               have T6 := bcell hb6
               have d0 : w6.cell? ⟨wr.heap.size, 0, none⟩ = some (.int .i64 x.Kind) := (T6.1 _ 0 (by simp)).trans (by simp)
               have d1 : w6.cell? ⟨wr.heap.size, 1, none⟩ = some (.string x.Name) := (T6.1 _ 1 (by simp)).trans (by simp)
               have d2 : w6.cell? ⟨wr.heap.size, 2, none⟩ = some (.string x.To) := (T6.1 _ 2 (by simp)).trans (by simp)
               have d3 : w6.cell? ⟨wr.heap.size, 3, none⟩ = some (.int .i64 x.Id) := (T6.1 _ 3 (by simp)).trans (by simp)
               clear hb6 T6 c0 c1 c2 c3
               go_wp2_with fail
               refine (s_l03Turn HS6.out (by have := HDL.out; omega) (PT _)).mono ?_
               rintro e w7 ⟨v7, b7, rfl, hO7, hb7⟩
               have HB7 := hid (HB6.out.trans (hb7.mono HB6.out.size))
               obtain ⟨p7, c7, rfl⟩ := hO7.slice
               obtain ⟨b7s, _, s7⟩ := hO7.slcL
               have HS7 := hid s7
               clear hO7 hb7 s7 d0 d1 d2 d3
               go_wp2
               exact ⟨⟨k + 1, p7, _, c7, b7s, dirTurn dir x, by omega, rfl, by go_num, HS7.out, by have := HDL.out; have := TL.out; omega, E.out, HB7.out⟩, by simp [intOf]; try omega⟩
            ·obtain rfl : k = d.Turns.length := by omega
             have hki : ¬ (d.Turns.length : Int) < (d.Turns.length : Int) := by omega
             cases hkk : turnsOk d.Kept d.Turns
             ·exact absurd hkk (by rw [HNO.out, List.drop_length]; simp [turnsOk])
             have E6 := hid (show diskOk d = decide ((diskUsed d : Int) ≤ d.Room) by rw [E5.out, hkk, Bool.true_and])
             have B2 := hid (Bx.below hb L0.out HX.out)
             have y0 := ((bcell hb).1 _ 0 L0.out).trans X0.out
             have HPT := hid (grow H0.out (hb0.out.trans (HBr.out.mono hb0.out.size)))
             clear hkk hb HNO E5
             as_aux_lemma =>
              go_upto_region 34 with fail
              refine late_start (fun W => W.rangeAt w.heap.size 0 cs ∧ W.cell? ⟨w.heap.size, 0, none⟩ = some (.int .i64 d.Room) ∧ Below wr.heap.size wr W) 99 (by kernel_rfl) ?_ (fun hS => ?_)
              ·exact ⟨(World.rangeAt_drew _ _ _ _).2 B2.out.all, y0, (Below.refl _ _).drew⟩
              refine late_take (i := 0) (v := .agg cs.toArray) rfl (by kernel_rfl) (fun _ _ _ h => h) (by rfl) (fun W hW => exec_load_mid 35 _ rfl w.heap.size 0 rfl cs _ hW.1 Tryz.underlying35 rfl I0.out) hS ?_
              try simp only [Act.put, putZ, List.getElem_toArray, List.getElem_cons_zero, List.getElem_cons_succ]
              refine ltk 2 rfl ?_
              try simp only [Act.put, putZ, List.getElem_toArray, List.getElem_cons_zero, List.getElem_cons_succ]
              refine ltk 3 rfl ?_
              try simp only [Act.put, putZ, List.getElem_toArray, List.getElem_cons_zero, List.getElem_cons_succ]
              refine late_one (i := 1) rfl (by kernel_rfl) (fun K9 hK9 => ?_)
              go_simp
              refine (s_DiskUsed (grow HPT.out hS.2.2) HS.out).mono ?_
              rintro e w8 ⟨rfl, hb8⟩
              go_wp2_with fail
              refine hK9.out _ _ (fun _ => ?_) (fun hS9 => ?_)
              ·(try dsimp only); exact ⟨range_below hS.1 hb8, keepcellF hb8 hS.2.1, hS.2.2.trans (hb8.mono hS.2.2.size)⟩
              replace hS := hS9 (by decide)
              clear hK9 K9 hS9
              try simp only [Act.put, putZ, List.getElem_toArray, List.getElem_cons_zero, List.getElem_cons_succ]
              have HB8 := hid (HBr.out.trans (hS.2.2.mono HBr.out.size))
              clear hb8
              refine late_one (i := 4) rfl (by kernel_rfl) (fun K9 hK9 => ?_)
              go_simp
              refine hK9.out _ _ (fun _ => ?_) (fun hS9 => ?_)
              ·(try dsimp only); exact hS
              replace hS := hS9 (by decide)
              clear hK9 K9 hS9
              try simp only [Act.put, putZ, List.getElem_toArray, List.getElem_cons_zero, List.getElem_cons_succ]
              refine ltk 5 rfl ?_
              try simp only [Act.put, putZ, List.getElem_toArray, List.getElem_cons_zero, List.getElem_cons_succ]
              refine late_done (by kernel_rfl) ?_ _
              go_wp2
              go_ret
              exact ⟨ret_bool (by rw [E6.out]), hb0.out.trans (HB8.out.mono hb0.out.size)⟩
end Go.Proofs.YtdjcjilipgpnmaaGreat
