/- What a file holds, as the program reads it (printed by gendrdi.py). -/
import Derived.Test.YtdjcjilipgpnmaaGreatKDokD
section
set_option linter.unusedSimpArgs false
set_option linter.unusedVariables false
namespace Go.G6
open Go Go.RowKit Rep
theorem inB_iff (n lo hi : Int) : inB n lo hi = true ↔ lo ≤ n ∧ n ≤ hi := by unfold inB; simp
theorem inB_no {n lo hi : Int} (h : inB n lo hi = false) : ¬ (lo ≤ n ∧ n ≤ hi) := by unfold inB at h; simpa using h
end Go.G6
namespace Go.Proofs.YtdjcjilipgpnmaaGreat
open Go Go.RowKit Go.G6
set_option maxHeartbeats 6000000
set_option maxRecDepth 10000
theorem i_DiskOkI {w : World} {bs : List Nat} {cs : List Value} {d : DiskD} (h : Rep.pt w bs cs d) (hs : Small d) :
  Calls Tryz.prog 59 #[.agg cs.toArray] w fun e w' => e = .returned (.bool (dokI d)) ∧ Below w.heap.size w w' := by
 obtain ⟨b3, b4, b5, a3, l3, k3, a4, l4, k4, a5, l5, k5, rfl, hcs, h0, h1, h2, h3, h4, h5⟩ := open_Disk h
 obtain rfl := h3.len_eq
 obtain rfl := h4.len_eq
 obtain rfl := h5.len_eq
 have m3 := h3.max; have m4 := h4.max; have m5 := h5.max
 have H3 := hid h3; have H4 := hid h4; have H5 := hid h5; have H0 := hid h; have HS := hid hs
 have HX := hid (Bx.new w cs.toArray 35 rfl)
 have I0 := hid (show (Tryz.prog.info? 35).map (·.size) = some cs.length by rw [hcs]; kernel_rfl)
 have x0 := bx_at HX.out 0 (v := .int .i64 d.Room) (by rw [hcs]; rfl)
 have x1 := bx_at HX.out 1 (v := .int .i64 d.Fuse) (by rw [hcs]; rfl)
 have x2 := bx_at HX.out 2 (v := .int .i64 d.Next) (by rw [hcs]; rfl)
 have x3 := bx_at HX.out 3 (v := .slice a3 d.Nodes.length k3) (by rw [hcs]; rfl)
 have x4 := bx_at HX.out 4 (v := .slice a4 d.Kept.length k4) (by rw [hcs]; rfl)
 have x5 := bx_at HX.out 5 (v := .slice a5 d.Turns.length k5) (by rw [hcs]; rfl)
 clear h h0 h1 h2 h3 h4 h5 hcs hs
 have hb0 := hid ((Below.refl w.heap.size w).alloc (Nat.le_refl _) (.cells cs.toArray 35))
 obtain ⟨wA, hwA⟩ : ∃ wA, wA = w.alloc (.cells cs.toArray 35) := ⟨_, rfl⟩
 rw [← hwA] at hb0 x0 x1 x2 x3 x4 x5 HX
 go_enter Tryz.func59, Tryz.ntmps59
 go_upto_region 1 with fail
 rw [← hwA]
 clear hwA
 cases r0 : inB d.Room 0 60000
 ·have E := hid (show dokI d = false by unfold dokI; rw [rangeB_no fun h => inB_no r0 ⟨h.r1, h.r2⟩]; rfl)
  have R0 := hid r0
  clear m3 m4 m5 r0
  go_wp2_with (go_at_call 26; refine (i_in _ _ _ _).mono ?_; rintro e w9 ⟨rfl, rfl⟩; first | rw [R0.out])
  go_ret
  exact ⟨ret_bool (by rw [E.out]), hb0.out⟩
 have R0 := hid r0
 clear r0
 cases r1 : inB d.Fuse (-1) 1000
 ·have E := hid (show dokI d = false by unfold dokI; rw [rangeB_no fun h => inB_no r1 ⟨h.r3, h.r4⟩]; rfl)
  have R1 := hid r1
  clear m3 m4 m5 r1
  go_wp2_with (go_at_call 26; refine (i_in _ _ _ _).mono ?_; rintro e w9 ⟨rfl, rfl⟩; first | rw [R0.out] | rw [R1.out])
  go_ret
  exact ⟨ret_bool (by rw [E.out]), hb0.out⟩
 have R1 := hid r1
 clear r1
 cases r2 : inB d.Next 1 1000000
 ·have E := hid (show dokI d = false by unfold dokI; rw [rangeB_no fun h => inB_no r2 ⟨h.r5, h.r6⟩]; rfl)
  have R2 := hid r2
  clear m3 m4 m5 r2
  go_wp2_with (go_at_call 26; refine (i_in _ _ _ _).mono ?_; rintro e w9 ⟨rfl, rfl⟩; first | rw [R0.out] | rw [R1.out] | rw [R2.out])
  go_ret
  exact ⟨ret_bool (by rw [E.out]), hb0.out⟩
 have R2 := hid r2
 clear r2
 by_cases g0 : (8 : Int) < (d.Nodes.length : Int)
 ·have E := hid (show dokI d = false by unfold dokI; rw [rangeB_no fun h => by have := h.r7; omega]; rfl)
  clear m3 m4 m5
  go_wp2_with (go_at_call 26; refine (i_in _ _ _ _).mono ?_; rintro e w9 ⟨rfl, rfl⟩; first | rw [R0.out] | rw [R1.out] | rw [R2.out])
  go_ret
  exact ⟨ret_bool (by rw [E.out]), hb0.out⟩
 by_cases g1 : (40 : Int) < (d.Turns.length : Int)
 ·have E := hid (show dokI d = false by unfold dokI; rw [rangeB_no fun h => by have := h.r9; omega]; rfl)
  clear m3 m4 m5
  go_wp2_with (go_at_call 26; refine (i_in _ _ _ _).mono ?_; rintro e w9 ⟨rfl, rfl⟩; first | rw [R0.out] | rw [R1.out] | rw [R2.out])
  go_ret
  exact ⟨ret_bool (by rw [E.out]), hb0.out⟩
 by_cases g2 : (8 : Int) < (d.Kept.length : Int)
 ·have E := hid (show dokI d = false by unfold dokI; rw [rangeB_no fun h => by have := h.r8; omega]; rfl)
  clear m3 m4 m5
  go_wp2_with (go_at_call 26; refine (i_in _ _ _ _).mono ?_; rintro e w9 ⟨rfl, rfl⟩; first | rw [R0.out] | rw [R1.out] | rw [R2.out])
  go_ret
  exact ⟨ret_bool (by rw [E.out]), hb0.out⟩
 have hR : RangeOk d := ⟨((inB_iff _ _ _).1 R0.out).1, ((inB_iff _ _ _).1 R0.out).2, ((inB_iff _ _ _).1 R1.out).1, ((inB_iff _ _ _).1 R1.out).2, ((inB_iff _ _ _).1 R2.out).1, ((inB_iff _ _ _).1 R2.out).2, by omega, by omega, by omega⟩
 have E1 := hid (show dokI d = (nodesOk d.Next 0 d.Nodes && (keptP none d.Kept && (d.Turns.all turnOkI && ((dirOfI d.Kept d.Turns).isSome && (idsFitI d && decide ((diskUsed d : Int) ≤ d.Room)))))) by unfold dokI; rw [(rangeB_iff d).2 hR]; rfl)
 have HR := hid hR
 have L0 := hid (World.block_lt_of_cell? _ _ x0)
 have X0 := hid x0; have X2 := hid x2; have X3 := hid x3; have X4 := hid x4; have X5 := hid x5
 clear hR m4 m5
 go_upto_region 4 with (go_at_call 26; refine (i_in _ _ _ _).mono ?_; rintro e w9 ⟨rfl, rfl⟩; first | rw [R0.out] | rw [R1.out] | rw [R2.out])
 clear x0 x1 x2 x4 x5 R0 R1 R2 g0 g1 g2
 go_wp2_with fail
 go_loopw [3, 49] (fun l i wr => ∃ (k : Nat) (last : Int), k ≤ d.Nodes.length ∧ l = .int .i64 last ∧ i = .int .i64 (k : Int) ∧ Hid (nodesOk d.Next 0 d.Nodes = nodesOk d.Next last (d.Nodes.drop k)) ∧ 0 ≤ last ∧ last ≤ 1000000 ∧ Below wA.heap.size wA wr) (fun _ i _ => d.Nodes.length - (intOf i).toNat)
 case atStart => exact ⟨0, 0, Nat.zero_le _, rfl, rfl, hid rfl, by omega, by omega, Below.refl _ _⟩
 case round =>
  clear x3
  obtain ⟨k, last, hk, rfl, rfl, HNO, hl0, hl1, hb⟩ := hrel
  have HBr := hid hb
  by_cases hlt : k < d.Nodes.length
  ·obtain ⟨b1, o1, cs1, _, rfl, _, hp1, _, hA1⟩ := (H3.out.grow (hb0.out.trans (hb.mono hb0.out.size))).elem k hlt
   obtain ⟨y1, y2, e1, n1, f1, e2, n2, f2, rfl, rfl, q1, q2, q3⟩ := open_Node hp1
   have c0 : wr.cell? ⟨b1, o1 + k * 3, none⟩ = some _ := hA1 0 _ rfl
   have c1 : wr.cell? ⟨b1, o1 + k * 3 + 1, none⟩ = some _ := hA1 1 _ rfl
   have c2 : wr.cell? ⟨b1, o1 + k * 3 + 2, none⟩ = some _ := hA1 2 _ rfl
   have hst : nodesOk d.Next last (d.Nodes.drop k) = (decide (last < d.Nodes[k].Id) && decide (d.Nodes[k].Id < d.Next) && nodesOk d.Next d.Nodes[k].Id (d.Nodes.drop (k + 1))) := by
    rw [List.drop_eq_getElem_cons hlt]; rfl
   have hki : (k : Int) < (d.Nodes.length : Int) := by omega
   obtain ⟨x, hx⟩ : ∃ x, x = d.Nodes[k].Id := ⟨_, rfl⟩
   rw [← hx] at hst c0 q1
   have HST := hid hst
   have lr := hid (Nat.lt_of_lt_of_le L0.out HBr.out.size)
   have z2 := ((bcell hb).1 _ 2 L0.out).trans X2.out
   have Z2 := hid z2
   clear hst hp1 hA1 hx q1 q2 q3 hb z2
   go_upto_region 7 with fail
   refine late_genw (fun wq hwq => ?_)
   have hbq : Below wr.heap.size wr wq := by rw [hwq]; exact (Below.refl _ _).alloc (Nat.le_refl _) _
   have XQ := hid (show Bx wq wr.heap.size #[.int .i64 x, .slice e1 n1 f1, .slice e2 n2 f2] by rw [hwq]; exact Bx.new _ _ _ rfl)
   have HBq := hid (HBr.out.trans (hbq.mono HBr.out.size))
   have e0 := bx_at XQ.out 0 rfl
   have z2 := ((bcell hbq).1 _ 2 lr.out).trans Z2.out
   have hw1 : wrap64 (last + 1) = last + 1 := IntWalk.wrap64_in _ (by omega)
   have hw2 : wrap64 (d.Next - 1) = d.Next - 1 := IntWalk.wrap64_in _ (by have := HR.out.r5; have := HR.out.r6; omega)
   have HII := hid (show inB x (last + 1) (d.Next - 1) = (decide (last < x) && decide (x < d.Next)) by unfold inB; rw [Bool.eq_iff_iff]; simp; omega)
   clear hwq hbq c0 c1 c2
   cases hh : inB x (last + 1) (d.Next - 1)
   ·have E := hid (show dokI d = false by rw [E1.out, HNO.out, HST.out, ← HII.out, hh]; rfl)
    have HH := hid hh
    clear hh
    go_wp2_with (go_at_call 26; refine (i_in _ _ _ _).mono ?_; rintro e w9 ⟨rfl, rfl⟩; rw [HH.out])
    go_ret
    exact ⟨ret_bool (by rw [E.out]), hb0.out.trans (HBq.out.mono hb0.out.size)⟩
   ·have E := hid (show nodesOk d.Next 0 d.Nodes = nodesOk d.Next x (d.Nodes.drop (k + 1)) by rw [HNO.out, HST.out, ← HII.out, hh]; rfl)
    have hxr := (inB_iff _ _ _).1 hh
    have HXR := hid (show 0 ≤ x ∧ x ≤ 1000000 by have := HR.out.r6; omega)
    have HH := hid hh
    clear hh hxr
    go_wp2_with (go_at_call 26; refine (i_in _ _ _ _).mono ?_; rintro e w9 ⟨rfl, rfl⟩; rw [HH.out])
    exact ⟨⟨k + 1, x, by omega, rfl, by go_num, E, HXR.out.1, HXR.out.2, HBq.out⟩, by simp [intOf]; try omega⟩
  ·obtain rfl : k = d.Nodes.length := by omega
   have hki : ¬ (d.Nodes.length : Int) < (d.Nodes.length : Int) := by omega
   have E2 := hid (show dokI d = (keptP none d.Kept && (d.Turns.all turnOkI && ((dirOfI d.Kept d.Turns).isSome && (idsFitI d && decide ((diskUsed d : Int) ≤ d.Room))))) by
    rw [E1.out, HNO.out, List.drop_length]; rfl)
   have z4 := ((bcell hb).1 _ 4 L0.out).trans X4.out
   clear hb HNO E1 hl0 hl1
   go_wp2_with fail
   go_loopw [68] (fun i wr => ∃ (k : Nat) (pv : Option ByteArray), k ≤ d.Kept.length ∧ i = .int .i64 (k : Int) ∧ Hid (keptP none d.Kept = keptP pv (d.Kept.drop k)) ∧ Hid (k = 0 ∧ pv = none ∨ ∃ j, ∃ hj : j < d.Kept.length, k = j + 1 ∧ pv = some d.Kept[j].Name) ∧ Below wA.heap.size wA wr) (fun i _ => d.Kept.length - (intOf i).toNat)
   case atStart => exact ⟨0, none, Nat.zero_le _, rfl, hid rfl, hid (.inl ⟨rfl, rfl⟩), HBr.out⟩
   case round =>
    clear HBr z4 hki
    obtain ⟨k, pv, hk, rfl, HNO, HPV, hb⟩ := hrel
    have HBr := hid hb
    have hn8 := HR.out.r8
    by_cases hlt : k < d.Kept.length
    ·obtain ⟨b1, o1, cs1, _, rfl, _, hp1, _, hA1⟩ := (H4.out.grow (hb0.out.trans (hb.mono hb0.out.size))).elem k hlt
     obtain ⟨_, rfl, q1, q2⟩ := open_Link hp1
     have c0 : wr.cell? ⟨b1, o1 + k * 2, none⟩ = some _ := hA1 0 _ rfl
     have c1 : wr.cell? ⟨b1, o1 + k * 2 + 1, none⟩ = some _ := hA1 1 _ rfl
     have hst : keptP pv (d.Kept.drop k) = (nameOk d.Kept[k].Name && prevOk pv d.Kept[k].Name && keptP (some d.Kept[k].Name) (d.Kept.drop (k + 1))) := by
      rw [List.drop_eq_getElem_cons hlt]; rfl
     have hki : (k : Int) < (d.Kept.length : Int) := by omega
     have hpr : ∀ j : Nat, k = j + 1 → ∃ pn, wr.cell? ⟨b1, o1 + j * 2, none⟩ = some (.string pn) ∧ pv = some pn := by
      intro j hj
      rcases HPV.out with ⟨h1, _⟩ | ⟨j', hj', h1, h2⟩
      ·omega
      ·obtain rfl : j = j' := by omega
       obtain ⟨b2, o2, cs2, _, e2, _, hp2, _, hA2⟩ := (H4.out.grow (hb0.out.trans (hb.mono hb0.out.size))).elem j hj'
       obtain ⟨rfl, rfl⟩ : b1 = b2 ∧ o1 = o2 := by simpa using e2
       obtain ⟨_, rfl, _, _⟩ := open_Link hp2
       exact ⟨_, hA2 0 _ rfl, h2⟩
     have hp0 : k = 0 → pv = none := by
      intro h0
      rcases HPV.out with ⟨_, h1⟩ | ⟨j', hj', h1, h2⟩
      ·exact h1
      ·omega
     have HPR := hid hpr; have HP0 := hid hp0
     obtain ⟨x, hx⟩ : ∃ x, x = d.Kept[k] := ⟨_, rfl⟩
     rw [← hx] at hst c0 c1 q1 q2
     have HX1 := hid (show ∃ hj : k < d.Kept.length, x = d.Kept[k] from ⟨hlt, hx⟩)
     have HST := hid hst; have QX := hid q1
     have HB3 := hid (HBr.out.alloc HBr.out.size (.cells #[.string x.Name, .int .i64 x.Id] 127))
     have z4 := ((bcell hb).1 _ 4 L0.out).trans X4.out
     have hF := hid fun (hl : nameOk x.Name = false ∨ prevOk pv x.Name = false) => show dokI d = false by
      rw [E2.out, HNO.out, HST.out]; rcases hl with h | h <;> rw [h] <;> simp
     have LR := hid (show w.heap.size < wr.heap.size from Nat.lt_of_lt_of_le L0.out HBr.out.size)
     clear hst hp1 hA1 hx q1 q2 hpr hp0 HPV
     go_upto_region 14 with fail
     refine late_genw (fun w4 hw4 => ?_)
     rw [← hw4] at HB3
     have hbb : Below wr.heap.size wr w4 := by rw [hw4]; exact (Below.refl _ _).alloc (Nat.le_refl _) _
     have X := show Bx w4 wr.heap.size #[.string x.Name, .int .i64 x.Id] by rw [hw4]; exact Bx.new _ _ _ rfl
     have y0 : w4.cell? ⟨wr.heap.size, 0, none⟩ = some (.string x.Name) := X.out 0
     have z4 := ((bcell hbb).1 _ 4 LR.out).trans z4
     have d0 := fun (j : Nat) (hj : k = j + 1) => show ∃ pn, w4.cell? ⟨b1, o1 + j * 2, none⟩ = some (.string pn) ∧ pv = some pn from let ⟨pn, h1, h2⟩ := HPR.out j hj; ⟨pn, ((bcell hbb).1 b1 (o1 + j * 2) (World.block_lt_of_cell? wr _ c0)).trans h1, h2⟩
     have D0 := hid d0
     have HB5 := hid (HB3.out.drew)
     clear hw4 hbb X c0 c1 hb d0 HB3
     cases hnm : nameOk x.Name
     ·have NM := hid hnm
      have E := hid (hF.out (.inl hnm))
      clear hnm
      as_aux_lemma =>
       go_wp2_with fail
       refine late_start (fun W => W.cell? ⟨wr.heap.size, 0, none⟩ = some (.string x.Name) ∧ W.cell? ⟨w.heap.size, 4, none⟩ = some (.slice (some ⟨b1, o1, none⟩) d.Kept.length k4)) 99 (by kernel_rfl) ?_ (fun hS => ?_)
       ·exact ⟨y0, z4⟩
       refine ltk 0 rfl ?_
       try simp only [Act.put, putZ, List.getElem_toArray, List.getElem_cons_zero, List.getElem_cons_succ]
       refine ltk 1 rfl ?_
       try simp only [Act.put, putZ, List.getElem_toArray, List.getElem_cons_zero, List.getElem_cons_succ]
       refine late_one (i := 2) rfl (by kernel_rfl) (fun K9 hK9 => ?_)
       go_simp
       refine (i_NameOk x.Name QX.out _).mono ?_
       rintro e w5 ⟨rfl, rfl⟩
       rw [NM.out]
       go_wp2_with fail
       refine hK9.out _ _ (fun _ => ?_) (fun hS9 => ?_)
       ·(try dsimp only); exact hS
       replace hS := hS9 (by decide)
       clear hK9 K9 hS9
       try simp only [Act.put, putZ, List.getElem_toArray, List.getElem_cons_zero, List.getElem_cons_succ]
       refine late_one (i := 3) rfl (by kernel_rfl) (fun K9 hK9 => ?_)
       go_simp
       refine hK9.out _ _ (fun _ => ?_) (fun hS9 => ?_)
       ·(try dsimp only); exact hS
       replace hS := hS9 (by decide)
       clear hK9 K9 hS9
       try simp only [Act.put, putZ, List.getElem_toArray, List.getElem_cons_zero, List.getElem_cons_succ]
       refine ltk 4 rfl ?_
       try simp only [Act.put, putZ, List.getElem_toArray, List.getElem_cons_zero, List.getElem_cons_succ]
       refine lsk 5 rfl ?_
       try simp only [Act.put, putZ, List.getElem_toArray, List.getElem_cons_zero, List.getElem_cons_succ]
       refine lsk 6 rfl ?_
       try simp only [Act.put, putZ, List.getElem_toArray, List.getElem_cons_zero, List.getElem_cons_succ]
       refine lsk 7 rfl ?_
       try simp only [Act.put, putZ, List.getElem_toArray, List.getElem_cons_zero, List.getElem_cons_succ]
       refine lsk 8 rfl ?_
       try simp only [Act.put, putZ, List.getElem_toArray, List.getElem_cons_zero, List.getElem_cons_succ]
       refine lsk 9 rfl ?_
       try simp only [Act.put, putZ, List.getElem_toArray, List.getElem_cons_zero, List.getElem_cons_succ]
       refine lsk 10 rfl ?_
       try simp only [Act.put, putZ, List.getElem_toArray, List.getElem_cons_zero, List.getElem_cons_succ]
       refine lsk 11 rfl ?_
       try simp only [Act.put, putZ, List.getElem_toArray, List.getElem_cons_zero, List.getElem_cons_succ]
       refine lsk 12 rfl ?_
       try simp only [Act.put, putZ, List.getElem_toArray, List.getElem_cons_zero, List.getElem_cons_succ]
       refine lsk 13 rfl ?_
       try simp only [Act.put, putZ, List.getElem_toArray, List.getElem_cons_zero, List.getElem_cons_succ]
       refine lsk 14 rfl ?_
       try simp only [Act.put, putZ, List.getElem_toArray, List.getElem_cons_zero, List.getElem_cons_succ]
       refine lsk 15 rfl ?_
       try simp only [Act.put, putZ, List.getElem_toArray, List.getElem_cons_zero, List.getElem_cons_succ]
       refine lsk 16 rfl ?_
       try simp only [Act.put, putZ, List.getElem_toArray, List.getElem_cons_zero, List.getElem_cons_succ]
       refine lsk 17 rfl ?_
       try simp only [Act.put, putZ, List.getElem_toArray, List.getElem_cons_zero, List.getElem_cons_succ]
       refine lsk 18 rfl ?_
       try simp only [Act.put, putZ, List.getElem_toArray, List.getElem_cons_zero, List.getElem_cons_succ]
       refine late_one (i := 19) rfl (by kernel_rfl) (fun K9 hK9 => ?_)
       go_simp
       refine hK9.out _ _ (fun _ => ?_) (fun hS9 => ?_)
       ·(try dsimp only); exact hS
       replace hS := hS9 (by decide)
       clear hK9 K9 hS9
       try simp only [Act.put, putZ, List.getElem_toArray, List.getElem_cons_zero, List.getElem_cons_succ]
       refine late_done (by kernel_rfl) ?_ _
       go_wp2
       go_ret
       exact ⟨ret_bool (by rw [E.out]), hb0.out.trans (HB5.out.mono hb0.out.size)⟩
     have NM := hid hnm
     clear hnm
     by_cases h0 : k = 0
     ·subst h0
      have hp0 := HP0.out rfl
      have E := hid (show keptP none d.Kept = keptP (some x.Name) (d.Kept.drop (0 + 1)) by rw [HNO.out, HST.out, NM.out, hp0]; rfl)
      clear hp0
      as_aux_lemma =>
       go_wp2_with fail
       refine late_start (fun W => W.cell? ⟨wr.heap.size, 0, none⟩ = some (.string x.Name) ∧ W.cell? ⟨w.heap.size, 4, none⟩ = some (.slice (some ⟨b1, o1, none⟩) d.Kept.length k4)) 99 (by kernel_rfl) ?_ (fun hS => ?_)
       ·exact ⟨y0, z4⟩
       refine ltk 0 rfl ?_
       try simp only [Act.put, putZ, List.getElem_toArray, List.getElem_cons_zero, List.getElem_cons_succ]
       refine ltk 1 rfl ?_
       try simp only [Act.put, putZ, List.getElem_toArray, List.getElem_cons_zero, List.getElem_cons_succ]
       refine late_one (i := 2) rfl (by kernel_rfl) (fun K9 hK9 => ?_)
       go_simp
       refine (i_NameOk x.Name QX.out _).mono ?_
       rintro e w5 ⟨rfl, rfl⟩
       rw [NM.out]
       go_wp2_with fail
       refine hK9.out _ _ (fun _ => ?_) (fun hS9 => ?_)
       ·(try dsimp only); exact hS
       replace hS := hS9 (by decide)
       clear hK9 K9 hS9
       try simp only [Act.put, putZ, List.getElem_toArray, List.getElem_cons_zero, List.getElem_cons_succ]
       refine late_one (i := 3) rfl (by kernel_rfl) (fun K9 hK9 => ?_)
       go_simp
       refine hK9.out _ _ (fun _ => ?_) (fun hS9 => ?_)
       ·(try dsimp only); exact hS
       replace hS := hS9 (by decide)
       clear hK9 K9 hS9
       try simp only [Act.put, putZ, List.getElem_toArray, List.getElem_cons_zero, List.getElem_cons_succ]
       refine ltk 4 rfl ?_
       try simp only [Act.put, putZ, List.getElem_toArray, List.getElem_cons_zero, List.getElem_cons_succ]
       refine ltq 5 rfl ?_
       try simp only [Act.put, putZ, List.getElem_toArray, List.getElem_cons_zero, List.getElem_cons_succ]
       refine late_one (i := 6) rfl (by kernel_rfl) (fun K9 hK9 => ?_)
       go_simp
       refine hK9.out _ _ (fun _ => ?_) (fun hS9 => ?_)
       ·(try dsimp only); exact hS
       replace hS := hS9 (by decide)
       clear hK9 K9 hS9
       try simp only [Act.put, putZ, List.getElem_toArray, List.getElem_cons_zero, List.getElem_cons_succ]
       refine ltq 7 rfl ?_
       try simp only [Act.put, putZ, List.getElem_toArray, List.getElem_cons_zero, List.getElem_cons_succ]
       refine lsk 8 rfl ?_
       try simp only [Act.put, putZ, List.getElem_toArray, List.getElem_cons_zero, List.getElem_cons_succ]
       refine lsk 9 rfl ?_
       try simp only [Act.put, putZ, List.getElem_toArray, List.getElem_cons_zero, List.getElem_cons_succ]
       refine lsk 10 rfl ?_
       try simp only [Act.put, putZ, List.getElem_toArray, List.getElem_cons_zero, List.getElem_cons_succ]
       refine lsk 11 rfl ?_
       try simp only [Act.put, putZ, List.getElem_toArray, List.getElem_cons_zero, List.getElem_cons_succ]
       refine lsk 12 rfl ?_
       try simp only [Act.put, putZ, List.getElem_toArray, List.getElem_cons_zero, List.getElem_cons_succ]
       refine lsk 13 rfl ?_
       try simp only [Act.put, putZ, List.getElem_toArray, List.getElem_cons_zero, List.getElem_cons_succ]
       refine lsk 14 rfl ?_
       try simp only [Act.put, putZ, List.getElem_toArray, List.getElem_cons_zero, List.getElem_cons_succ]
       refine lsk 15 rfl ?_
       try simp only [Act.put, putZ, List.getElem_toArray, List.getElem_cons_zero, List.getElem_cons_succ]
       refine lsk 16 rfl ?_
       try simp only [Act.put, putZ, List.getElem_toArray, List.getElem_cons_zero, List.getElem_cons_succ]
       refine lsk 17 rfl ?_
       try simp only [Act.put, putZ, List.getElem_toArray, List.getElem_cons_zero, List.getElem_cons_succ]
       refine ltq 18 rfl ?_
       try simp only [Act.put, putZ, List.getElem_toArray, List.getElem_cons_zero, List.getElem_cons_succ]
       refine late_one (i := 19) rfl (by kernel_rfl) (fun K9 hK9 => ?_)
       go_simp
       refine hK9.out _ _ (fun _ => ?_) (fun hS9 => ?_)
       ·(try dsimp only); exact hS
       replace hS := hS9 (by decide)
       clear hK9 K9 hS9
       try simp only [Act.put, putZ, List.getElem_toArray, List.getElem_cons_zero, List.getElem_cons_succ]
       refine late_done (by kernel_rfl) ?_ _
       go_wp2
       exact ⟨⟨0 + 1, some x.Name, by omega, by go_num, E, hid (.inr ⟨0, HX1.out.1, rfl, congrArg (fun y => some y.Name) HX1.out.2⟩), HB5.out⟩, by simp [intOf]; try omega⟩
     obtain ⟨j, rfl⟩ : ∃ j, k = j + 1 := ⟨k - 1, by omega⟩
     obtain ⟨pn, dj, hpn⟩ := D0.out j rfl
     have hji : (j : Int) < (d.Kept.length : Int) := by omega
     have C3 := hid (show decide ((0 : Int) < (j : Int) + 1) = true from decide_eq_true (by omega))
     have W1 := hid (show wrap64 ((j : Int) + 1 - 1) = (j : Int) by rw [IntWalk.wrap64_in _ (by omega)]; omega)
     have W2 := hid (show wrap64 (j : Int) = (j : Int) by rw [IntWalk.wrap64_in _ (by omega)])
     have W3 := hid (show IntKind.i64.wrap ((j : Int) + 1 - 1) = (j : Int) by rw [wrapI (by omega)]; omega)
     have W4 := hid (show IntKind.i64.wrap (j : Int) = (j : Int) from wrapI (by omega))
     cases hq : Op.bytesLess pn.toList x.Name.toList
     ·have C4 := hid hq
      have E := hid (hF.out (.inr (by rw [hpn]; exact hq)))
      clear hq hpn
      have hw1 := W1.out; have hw2 := W2.out; have hw3 := W3.out; have hw4 := W4.out
      as_aux_lemma =>
       go_wp2_with fail
       refine late_start (fun W => W.cell? ⟨wr.heap.size, 0, none⟩ = some (.string x.Name) ∧ W.cell? ⟨w.heap.size, 4, none⟩ = some (.slice (some ⟨b1, o1, none⟩) d.Kept.length k4) ∧ W.cell? ⟨b1, o1 + j * 2, none⟩ = some (.string pn)) 99 (by kernel_rfl) ?_ (fun hS => ?_)
       ·exact ⟨y0, z4, dj⟩
       refine ltk 0 rfl ?_
       try simp only [Act.put, putZ, List.getElem_toArray, List.getElem_cons_zero, List.getElem_cons_succ]
       refine ltk 1 rfl ?_
       try simp only [Act.put, putZ, List.getElem_toArray, List.getElem_cons_zero, List.getElem_cons_succ]
       refine late_one (i := 2) rfl (by kernel_rfl) (fun K9 hK9 => ?_)
       go_simp
       refine (i_NameOk x.Name QX.out _).mono ?_
       rintro e w5 ⟨rfl, rfl⟩
       rw [NM.out]
       go_wp2_with fail
       refine hK9.out _ _ (fun _ => ?_) (fun hS9 => ?_)
       ·(try dsimp only); exact hS
       replace hS := hS9 (by decide)
       clear hK9 K9 hS9
       try simp only [Act.put, putZ, List.getElem_toArray, List.getElem_cons_zero, List.getElem_cons_succ]
       refine late_one (i := 3) rfl (by kernel_rfl) (fun K9 hK9 => ?_)
       go_simp
       refine hK9.out _ _ (fun _ => ?_) (fun hS9 => ?_)
       ·(try dsimp only); exact hS
       replace hS := hS9 (by decide)
       clear hK9 K9 hS9
       try simp only [Act.put, putZ, List.getElem_toArray, List.getElem_cons_zero, List.getElem_cons_succ]
       refine ltk 4 rfl ?_
       try simp only [Act.put, putZ, List.getElem_toArray, List.getElem_cons_zero, List.getElem_cons_succ]
       refine ltq 5 rfl ?_
       try simp only [Act.put, putZ, List.getElem_toArray, List.getElem_cons_zero, List.getElem_cons_succ]
       refine late_one (i := 6) rfl (by kernel_rfl) (fun K9 hK9 => ?_)
       go_simp
       try rw [C3.out]
       refine hK9.out _ _ (fun _ => ?_) (fun hS9 => ?_)
       ·(try dsimp only); exact hS
       replace hS := hS9 (by decide)
       clear hK9 K9 hS9
       try simp only [Act.put, putZ, List.getElem_toArray, List.getElem_cons_zero, List.getElem_cons_succ]
       refine ltq 7 rfl ?_
       try simp only [Act.put, putZ, List.getElem_toArray, List.getElem_cons_zero, List.getElem_cons_succ]
       refine ltq 8 rfl ?_
       try simp only [Act.put, putZ, List.getElem_toArray, List.getElem_cons_zero, List.getElem_cons_succ]
       refine ltq 9 rfl ?_
       try simp only [Act.put, putZ, List.getElem_toArray, List.getElem_cons_zero, List.getElem_cons_succ]
       refine ltq 10 rfl ?_
       try simp only [Act.put, putZ, List.getElem_toArray, List.getElem_cons_zero, List.getElem_cons_succ]
       refine ltq 11 rfl ?_
       try simp only [Act.put, putZ, List.getElem_toArray, List.getElem_cons_zero, List.getElem_cons_succ]
       refine ltq 12 rfl ?_
       try simp only [Act.put, putZ, List.getElem_toArray, List.getElem_cons_zero, List.getElem_cons_succ]
       refine ltq 13 rfl ?_
       try simp only [Act.put, putZ, List.getElem_toArray, List.getElem_cons_zero, List.getElem_cons_succ]
       refine ltq 14 rfl ?_
       try simp only [Act.put, putZ, List.getElem_toArray, List.getElem_cons_zero, List.getElem_cons_succ]
       refine ltq 15 rfl ?_
       try simp only [Act.put, putZ, List.getElem_toArray, List.getElem_cons_zero, List.getElem_cons_succ]
       refine ltq 16 rfl ?_
       try simp only [Act.put, putZ, List.getElem_toArray, List.getElem_cons_zero, List.getElem_cons_succ]
       refine late_one (i := 17) rfl (by kernel_rfl) (fun K9 hK9 => ?_)
       go_simp
       try rw [C4.out]
       try simp only [Bool.not_true, Bool.not_false]
       refine hK9.out _ _ (fun _ => ?_) (fun hS9 => ?_)
       ·(try dsimp only); exact hS
       replace hS := hS9 (by decide)
       clear hK9 K9 hS9
       try simp only [Act.put, putZ, List.getElem_toArray, List.getElem_cons_zero, List.getElem_cons_succ]
       refine ltq 18 rfl ?_
       try simp only [Act.put, putZ, List.getElem_toArray, List.getElem_cons_zero, List.getElem_cons_succ]
       refine late_one (i := 19) rfl (by kernel_rfl) (fun K9 hK9 => ?_)
       go_simp
       refine hK9.out _ _ (fun _ => ?_) (fun hS9 => ?_)
       ·(try dsimp only); exact hS
       replace hS := hS9 (by decide)
       clear hK9 K9 hS9
       try simp only [Act.put, putZ, List.getElem_toArray, List.getElem_cons_zero, List.getElem_cons_succ]
       refine late_done (by kernel_rfl) ?_ _
       clear hw1 hw2 hw3 hw4
       go_wp2
       go_ret
       exact ⟨ret_bool (by rw [E.out]), hb0.out.trans (HB5.out.mono hb0.out.size)⟩
     ·have C4 := hid hq
      have E := hid (show keptP none d.Kept = keptP (some x.Name) (d.Kept.drop (j + 1 + 1)) by rw [HNO.out, HST.out, NM.out, hpn, show prevOk (some pn) x.Name = true from hq]; rfl)
      clear hq hpn
      have hw1 := W1.out; have hw2 := W2.out; have hw3 := W3.out; have hw4 := W4.out
      as_aux_lemma =>
       go_wp2_with fail
       refine late_start (fun W => W.cell? ⟨wr.heap.size, 0, none⟩ = some (.string x.Name) ∧ W.cell? ⟨w.heap.size, 4, none⟩ = some (.slice (some ⟨b1, o1, none⟩) d.Kept.length k4) ∧ W.cell? ⟨b1, o1 + j * 2, none⟩ = some (.string pn)) 99 (by kernel_rfl) ?_ (fun hS => ?_)
       ·exact ⟨y0, z4, dj⟩
       refine ltk 0 rfl ?_
       try simp only [Act.put, putZ, List.getElem_toArray, List.getElem_cons_zero, List.getElem_cons_succ]
       refine ltk 1 rfl ?_
       try simp only [Act.put, putZ, List.getElem_toArray, List.getElem_cons_zero, List.getElem_cons_succ]
       refine late_one (i := 2) rfl (by kernel_rfl) (fun K9 hK9 => ?_)
       go_simp
       refine (i_NameOk x.Name QX.out _).mono ?_
       rintro e w5 ⟨rfl, rfl⟩
       rw [NM.out]
       go_wp2_with fail
       refine hK9.out _ _ (fun _ => ?_) (fun hS9 => ?_)
       ·(try dsimp only); exact hS
       replace hS := hS9 (by decide)
       clear hK9 K9 hS9
       try simp only [Act.put, putZ, List.getElem_toArray, List.getElem_cons_zero, List.getElem_cons_succ]
       refine late_one (i := 3) rfl (by kernel_rfl) (fun K9 hK9 => ?_)
       go_simp
       refine hK9.out _ _ (fun _ => ?_) (fun hS9 => ?_)
       ·(try dsimp only); exact hS
       replace hS := hS9 (by decide)
       clear hK9 K9 hS9
       try simp only [Act.put, putZ, List.getElem_toArray, List.getElem_cons_zero, List.getElem_cons_succ]
       refine ltk 4 rfl ?_
       try simp only [Act.put, putZ, List.getElem_toArray, List.getElem_cons_zero, List.getElem_cons_succ]
       refine ltq 5 rfl ?_
       try simp only [Act.put, putZ, List.getElem_toArray, List.getElem_cons_zero, List.getElem_cons_succ]
       refine late_one (i := 6) rfl (by kernel_rfl) (fun K9 hK9 => ?_)
       go_simp
       try rw [C3.out]
       refine hK9.out _ _ (fun _ => ?_) (fun hS9 => ?_)
       ·(try dsimp only); exact hS
       replace hS := hS9 (by decide)
       clear hK9 K9 hS9
       try simp only [Act.put, putZ, List.getElem_toArray, List.getElem_cons_zero, List.getElem_cons_succ]
       refine ltq 7 rfl ?_
       try simp only [Act.put, putZ, List.getElem_toArray, List.getElem_cons_zero, List.getElem_cons_succ]
       refine ltq 8 rfl ?_
       try simp only [Act.put, putZ, List.getElem_toArray, List.getElem_cons_zero, List.getElem_cons_succ]
       refine ltq 9 rfl ?_
       try simp only [Act.put, putZ, List.getElem_toArray, List.getElem_cons_zero, List.getElem_cons_succ]
       refine ltq 10 rfl ?_
       try simp only [Act.put, putZ, List.getElem_toArray, List.getElem_cons_zero, List.getElem_cons_succ]
       refine ltq 11 rfl ?_
       try simp only [Act.put, putZ, List.getElem_toArray, List.getElem_cons_zero, List.getElem_cons_succ]
       refine ltq 12 rfl ?_
       try simp only [Act.put, putZ, List.getElem_toArray, List.getElem_cons_zero, List.getElem_cons_succ]
       refine ltq 13 rfl ?_
       try simp only [Act.put, putZ, List.getElem_toArray, List.getElem_cons_zero, List.getElem_cons_succ]
       refine ltq 14 rfl ?_
       try simp only [Act.put, putZ, List.getElem_toArray, List.getElem_cons_zero, List.getElem_cons_succ]
       refine ltq 15 rfl ?_
       try simp only [Act.put, putZ, List.getElem_toArray, List.getElem_cons_zero, List.getElem_cons_succ]
       refine ltq 16 rfl ?_
       try simp only [Act.put, putZ, List.getElem_toArray, List.getElem_cons_zero, List.getElem_cons_succ]
       refine late_one (i := 17) rfl (by kernel_rfl) (fun K9 hK9 => ?_)
       go_simp
       try rw [C4.out]
       try simp only [Bool.not_true, Bool.not_false]
       refine hK9.out _ _ (fun _ => ?_) (fun hS9 => ?_)
       ·(try dsimp only); exact hS
       replace hS := hS9 (by decide)
       clear hK9 K9 hS9
       try simp only [Act.put, putZ, List.getElem_toArray, List.getElem_cons_zero, List.getElem_cons_succ]
       refine ltq 18 rfl ?_
       try simp only [Act.put, putZ, List.getElem_toArray, List.getElem_cons_zero, List.getElem_cons_succ]
       refine late_one (i := 19) rfl (by kernel_rfl) (fun K9 hK9 => ?_)
       go_simp
       refine hK9.out _ _ (fun _ => ?_) (fun hS9 => ?_)
       ·(try dsimp only); exact hS
       replace hS := hS9 (by decide)
       clear hK9 K9 hS9
       try simp only [Act.put, putZ, List.getElem_toArray, List.getElem_cons_zero, List.getElem_cons_succ]
       refine late_done (by kernel_rfl) ?_ _
       clear hw1 hw2 hw3 hw4
       go_wp2
       exact ⟨⟨j + 1 + 1, some x.Name, by omega, by go_num, E, hid (.inr ⟨j + 1, HX1.out.1, rfl, congrArg (fun y => some y.Name) HX1.out.2⟩), HB5.out⟩, by simp [intOf]; try omega⟩
    ·obtain rfl : k = d.Kept.length := by omega
     have hki : ¬ (d.Kept.length : Int) < (d.Kept.length : Int) := by omega
     have E3 := hid (show dokI d = (d.Turns.all turnOkI && ((dirOfI d.Kept d.Turns).isSome && (idsFitI d && decide ((diskUsed d : Int) ≤ d.Room)))) by
      rw [E2.out, HNO.out, List.drop_length]; rfl)
     have z5 := ((bcell hb).1 _ 5 L0.out).trans X5.out
     clear hb HNO HPV E2 hn8
     as_aux_lemma =>
      go_wp2_with fail
      go_loopw [97] (fun i wr => ∃ (k : Nat), k ≤ d.Turns.length ∧ i = .int .i64 (k : Int) ∧ Hid (d.Turns.all turnOkI = (d.Turns.drop k).all turnOkI) ∧ Below wA.heap.size wA wr) (fun i _ => d.Turns.length - (intOf i).toNat)
      case atStart => exact ⟨0, Nat.zero_le _, rfl, hid rfl, HBr.out⟩
      case round =>
       clear HBr z5 hki
       obtain ⟨k, hk, rfl, HNO, hb⟩ := hrel
       have HBr := hid hb
       by_cases hlt : k < d.Turns.length
       ·obtain ⟨b1, o1, cs1, _, rfl, _, hp1, _, hA1⟩ := (H5.out.grow (hb0.out.trans (hb.mono hb0.out.size))).elem k hlt
        obtain ⟨_, rfl, q1, q2, q3, q4⟩ := open_Turn hp1
        have c0 : wr.cell? ⟨b1, o1 + k * 4, none⟩ = some _ := hA1 0 _ rfl
        have c1 : wr.cell? ⟨b1, o1 + k * 4 + 1, none⟩ = some _ := hA1 1 _ rfl
        have c2 : wr.cell? ⟨b1, o1 + k * 4 + 2, none⟩ = some _ := hA1 2 _ rfl
        have c3 : wr.cell? ⟨b1, o1 + k * 4 + 3, none⟩ = some _ := hA1 3 _ rfl
        have hki : (k : Int) < (d.Turns.length : Int) := by omega
        have hst : (d.Turns.drop k).all turnOkI = (turnOkI d.Turns[k] && (d.Turns.drop (k + 1)).all turnOkI) := by
         rw [List.drop_eq_getElem_cons hlt]; rfl
        obtain ⟨x, hx⟩ : ∃ x, x = d.Turns[k] := ⟨_, rfl⟩
        rw [← hx] at hst c0 c1 c2 c3 q1 q2 q3 q4
        have HST := hid hst
        have PT := hid (fun (W : World) => mk_Turn (w := W) (d := x) q1 q2 q3 q4)
        clear hp1 hA1 hx hb hst
        go_upto_region 20 with fail
        refine late_genw (fun wq hwq => ?_)
        have hbq : Below wr.heap.size wr wq := by rw [hwq]; exact (Below.refl _ _).alloc (Nat.le_refl _) _
        have XQ := hid (show Bx wq wr.heap.size #[.int .i64 x.Kind, .string x.Name, .string x.To, .int .i64 x.Id] by rw [hwq]; exact Bx.new _ _ _ rfl)
        have HBq := hid (HBr.out.trans (hbq.mono HBr.out.size))
        clear hwq hbq c0 c1 c2 c3
        have e0 := XQ.out.out
        go_wp2_with fail
        refine (i_turnOk (PT.out _)).mono ?_
        rintro e w1 ⟨rfl, hb1⟩
        have HB1 := hid (HBq.out.trans (hb1.mono HBq.out.size))
        clear hb1 e0
        cases hto : turnOkI x
        ·have E := hid (show dokI d = false by rw [E3.out, HNO.out, HST.out, hto]; rfl)
         clear hto
         go_wp2
         go_ret
         exact ⟨ret_bool (by rw [E.out]), hb0.out.trans (HB1.out.mono hb0.out.size)⟩
        ·have E := hid (show d.Turns.all turnOkI = (d.Turns.drop (k + 1)).all turnOkI by rw [HNO.out, HST.out, hto]; rfl)
         clear hto
         go_wp2
         exact ⟨⟨k + 1, by omega, by go_num, E, HB1.out⟩, by simp [intOf]; try omega⟩
       ·obtain rfl : k = d.Turns.length := by omega
        have hki : ¬ (d.Turns.length : Int) < (d.Turns.length : Int) := by omega
        have E4 := hid (show dokI d = ((dirOfI d.Kept d.Turns).isSome && (idsFitI d && decide ((diskUsed d : Int) ≤ d.Room))) by
         rw [E3.out, HNO.out, List.drop_length]; rfl)
        have y4 := ((bcell hb).1 _ 4 L0.out).trans X4.out
        have y5 := ((bcell hb).1 _ 5 L0.out).trans X5.out
        clear hb HNO E3
        go_wp2_with fail
        refine (i_dirOf (H4.out.grow (hb0.out.trans (HBr.out.mono hb0.out.size))) (H5.out.grow (hb0.out.trans (HBr.out.mono hb0.out.size))) (by have := HR.out.r8; omega) (by have := HR.out.r9; omega)).mono ?_
        rintro e w1 ⟨m, rfl, hb1, _⟩
        have HB1 := hid (HBr.out.trans (hb1.mono HBr.out.size))
        have BX1 := hid (Bx.below HB1.out L0.out HX.out)
        have HPT := hid (grow H0.out (hb0.out.trans (HB1.out.mono hb0.out.size)))
        have y0 := ((bcell HB1.out).1 _ 0 L0.out).trans X0.out
        clear hb1 y4 y5
        cases hdo : (dirOfI d.Kept d.Turns).isSome
        ·have E := hid (show dokI d = false by rw [E4.out, hdo]; rfl)
         clear hdo
         as_aux_lemma =>
          go_upto_region 24 with fail
          refine late_start (fun W => W.rangeAt w.heap.size 0 cs ∧ W.cell? ⟨w.heap.size, 0, none⟩ = some (.int .i64 d.Room) ∧ Below wA.heap.size wA W) 99 (by kernel_rfl) ?_ (fun hS => ?_)
          ·exact ⟨(World.rangeAt_drew _ _ _ _).2 BX1.out.all, y0, HB1.out.drew⟩
          refine ltk 0 rfl ?_
          try simp only [Act.put, putZ, List.getElem_toArray, List.getElem_cons_zero, List.getElem_cons_succ]
          refine ltk 1 rfl ?_
          try simp only [Act.put, putZ, List.getElem_toArray, List.getElem_cons_zero, List.getElem_cons_succ]
          refine lsk 2 rfl ?_
          try simp only [Act.put, putZ, List.getElem_toArray, List.getElem_cons_zero, List.getElem_cons_succ]
          refine lsk 3 rfl ?_
          try simp only [Act.put, putZ, List.getElem_toArray, List.getElem_cons_zero, List.getElem_cons_succ]
          refine ltk 4 rfl ?_
          try simp only [Act.put, putZ, List.getElem_toArray, List.getElem_cons_zero, List.getElem_cons_succ]
          refine ltk 5 rfl ?_
          try simp only [Act.put, putZ, List.getElem_toArray, List.getElem_cons_zero, List.getElem_cons_succ]
          refine lsk 6 rfl ?_
          try simp only [Act.put, putZ, List.getElem_toArray, List.getElem_cons_zero, List.getElem_cons_succ]
          refine lsk 7 rfl ?_
          try simp only [Act.put, putZ, List.getElem_toArray, List.getElem_cons_zero, List.getElem_cons_succ]
          refine lsk 8 rfl ?_
          try simp only [Act.put, putZ, List.getElem_toArray, List.getElem_cons_zero, List.getElem_cons_succ]
          refine lsk 9 rfl ?_
          try simp only [Act.put, putZ, List.getElem_toArray, List.getElem_cons_zero, List.getElem_cons_succ]
          refine lsk 10 rfl ?_
          try simp only [Act.put, putZ, List.getElem_toArray, List.getElem_cons_zero, List.getElem_cons_succ]
          refine ltk 11 rfl ?_
          try simp only [Act.put, putZ, List.getElem_toArray, List.getElem_cons_zero, List.getElem_cons_succ]
          refine late_one (i := 12) rfl (by kernel_rfl) (fun K9 hK9 => ?_)
          go_simp
          refine hK9.out _ _ (fun _ => ?_) (fun hS9 => ?_)
          ·(try dsimp only); exact hS
          replace hS := hS9 (by decide)
          clear hK9 K9 hS9
          try simp only [Act.put, putZ, List.getElem_toArray, List.getElem_cons_zero, List.getElem_cons_succ]
          refine late_done (by kernel_rfl) ?_ _
          go_wp2
          go_ret
          exact ⟨ret_bool (by rw [E.out]), hb0.out.trans (HB1.out.drew.mono hb0.out.size)⟩
        cases hfi : idsFitI d
        ·have E := hid (show dokI d = false by rw [E4.out, hdo, hfi]; rfl)
         have HFI := hid hfi
         clear hdo hfi
         as_aux_lemma =>
          go_upto_region 24 with fail
          refine late_start (fun W => W.rangeAt w.heap.size 0 cs ∧ W.cell? ⟨w.heap.size, 0, none⟩ = some (.int .i64 d.Room) ∧ Below wA.heap.size wA W) 99 (by kernel_rfl) ?_ (fun hS => ?_)
          ·exact ⟨(World.rangeAt_drew _ _ _ _).2 BX1.out.all, y0, HB1.out.drew⟩
          refine ltk 0 rfl ?_
          try simp only [Act.put, putZ, List.getElem_toArray, List.getElem_cons_zero, List.getElem_cons_succ]
          refine ltk 1 rfl ?_
          try simp only [Act.put, putZ, List.getElem_toArray, List.getElem_cons_zero, List.getElem_cons_succ]
          refine late_take (i := 2) (v := .agg (cs).toArray) rfl (by kernel_rfl) (fun _ _ _ h => h) (by kernel_rfl) (fun W hW => exec_load_mid 35 _ rfl (w.heap.size) 0 rfl (cs) _ (hW.1) Tryz.underlying35 rfl I0.out) hS ?_
          try simp only [Act.put, putZ, List.getElem_toArray, List.getElem_cons_zero, List.getElem_cons_succ]
          refine late_one (i := 3) rfl (by kernel_rfl) (fun K9 hK9 => ?_)
          go_simp
          refine (i_idsFit (grow H0.out (hb0.out.trans (hS.2.2.mono hb0.out.size))) (by have := HR.out.r8; omega) (by have := HR.out.r9; omega)).mono ?_
          rintro e w8 ⟨rfl, hb8⟩
          rw [HFI.out]
          go_wp2_with fail
          refine hK9.out _ _ (fun _ => ?_) (fun hS9 => ?_)
          ·(try dsimp only); exact ⟨range_below hS.1 hb8, keepcellF hb8 hS.2.1, hS.2.2.trans (hb8.mono hS.2.2.size)⟩
          replace hS := hS9 (by decide)
          clear hK9 K9 hS9
          try simp only [Act.put, putZ, List.getElem_toArray, List.getElem_cons_zero, List.getElem_cons_succ]
          have HB8 := hid hS.2.2
          clear hb8
          refine ltk 4 rfl ?_
          try simp only [Act.put, putZ, List.getElem_toArray, List.getElem_cons_zero, List.getElem_cons_succ]
          refine ltk 5 rfl ?_
          try simp only [Act.put, putZ, List.getElem_toArray, List.getElem_cons_zero, List.getElem_cons_succ]
          refine lsk 6 rfl ?_
          try simp only [Act.put, putZ, List.getElem_toArray, List.getElem_cons_zero, List.getElem_cons_succ]
          refine lsk 7 rfl ?_
          try simp only [Act.put, putZ, List.getElem_toArray, List.getElem_cons_zero, List.getElem_cons_succ]
          refine lsk 8 rfl ?_
          try simp only [Act.put, putZ, List.getElem_toArray, List.getElem_cons_zero, List.getElem_cons_succ]
          refine lsk 9 rfl ?_
          try simp only [Act.put, putZ, List.getElem_toArray, List.getElem_cons_zero, List.getElem_cons_succ]
          refine lsk 10 rfl ?_
          try simp only [Act.put, putZ, List.getElem_toArray, List.getElem_cons_zero, List.getElem_cons_succ]
          refine ltk 11 rfl ?_
          try simp only [Act.put, putZ, List.getElem_toArray, List.getElem_cons_zero, List.getElem_cons_succ]
          refine late_one (i := 12) rfl (by kernel_rfl) (fun K9 hK9 => ?_)
          go_simp
          refine hK9.out _ _ (fun _ => ?_) (fun hS9 => ?_)
          ·(try dsimp only); exact hS
          replace hS := hS9 (by decide)
          clear hK9 K9 hS9
          try simp only [Act.put, putZ, List.getElem_toArray, List.getElem_cons_zero, List.getElem_cons_succ]
          refine late_done (by kernel_rfl) ?_ _
          go_wp2
          go_ret
          exact ⟨ret_bool (by rw [E.out]), hb0.out.trans (HB8.out.mono hb0.out.size)⟩
        ·have E := hid (show dokI d = decide ((diskUsed d : Int) ≤ d.Room) by rw [E4.out, hdo, hfi]; rfl)
         have HFI := hid hfi
         clear hdo hfi
         as_aux_lemma =>
          go_upto_region 24 with fail
          refine late_start (fun W => W.rangeAt w.heap.size 0 cs ∧ W.cell? ⟨w.heap.size, 0, none⟩ = some (.int .i64 d.Room) ∧ Below wA.heap.size wA W) 99 (by kernel_rfl) ?_ (fun hS => ?_)
          ·exact ⟨(World.rangeAt_drew _ _ _ _).2 BX1.out.all, y0, HB1.out.drew⟩
          refine ltk 0 rfl ?_
          try simp only [Act.put, putZ, List.getElem_toArray, List.getElem_cons_zero, List.getElem_cons_succ]
          refine ltk 1 rfl ?_
          try simp only [Act.put, putZ, List.getElem_toArray, List.getElem_cons_zero, List.getElem_cons_succ]
          refine late_take (i := 2) (v := .agg (cs).toArray) rfl (by kernel_rfl) (fun _ _ _ h => h) (by kernel_rfl) (fun W hW => exec_load_mid 35 _ rfl (w.heap.size) 0 rfl (cs) _ (hW.1) Tryz.underlying35 rfl I0.out) hS ?_
          try simp only [Act.put, putZ, List.getElem_toArray, List.getElem_cons_zero, List.getElem_cons_succ]
          refine late_one (i := 3) rfl (by kernel_rfl) (fun K9 hK9 => ?_)
          go_simp
          refine (i_idsFit (grow H0.out (hb0.out.trans (hS.2.2.mono hb0.out.size))) (by have := HR.out.r8; omega) (by have := HR.out.r9; omega)).mono ?_
          rintro e w8 ⟨rfl, hb8⟩
          rw [HFI.out]
          go_wp2_with fail
          refine hK9.out _ _ (fun _ => ?_) (fun hS9 => ?_)
          ·(try dsimp only); exact ⟨range_below hS.1 hb8, keepcellF hb8 hS.2.1, hS.2.2.trans (hb8.mono hS.2.2.size)⟩
          replace hS := hS9 (by decide)
          clear hK9 K9 hS9
          try simp only [Act.put, putZ, List.getElem_toArray, List.getElem_cons_zero, List.getElem_cons_succ]
          clear hb8
          refine ltk 4 rfl ?_
          try simp only [Act.put, putZ, List.getElem_toArray, List.getElem_cons_zero, List.getElem_cons_succ]
          refine ltk 5 rfl ?_
          try simp only [Act.put, putZ, List.getElem_toArray, List.getElem_cons_zero, List.getElem_cons_succ]
          refine late_take (i := 6) (v := .agg (cs).toArray) rfl (by kernel_rfl) (fun _ _ _ h => h) (by kernel_rfl) (fun W hW => exec_load_mid 35 _ rfl (w.heap.size) 0 rfl (cs) _ (hW.1) Tryz.underlying35 rfl I0.out) hS ?_
          try simp only [Act.put, putZ, List.getElem_toArray, List.getElem_cons_zero, List.getElem_cons_succ]
          refine ltq 8 rfl ?_
          try simp only [Act.put, putZ, List.getElem_toArray, List.getElem_cons_zero, List.getElem_cons_succ]
          refine ltq 9 rfl ?_
          try simp only [Act.put, putZ, List.getElem_toArray, List.getElem_cons_zero, List.getElem_cons_succ]
          refine late_one (i := 7) rfl (by kernel_rfl) (fun K9 hK9 => ?_)
          go_simp
          refine (i_DiskUsed (grow H0.out (hb0.out.trans (hS.2.2.mono hb0.out.size))) HS.out).mono ?_
          rintro e w8 ⟨rfl, hb8⟩
          go_wp2_with fail
          refine hK9.out _ _ (fun _ => ?_) (fun hS9 => ?_)
          ·(try dsimp only); exact ⟨range_below hS.1 hb8, keepcellF hb8 hS.2.1, hS.2.2.trans (hb8.mono hS.2.2.size)⟩
          replace hS := hS9 (by decide)
          clear hK9 K9 hS9
          try simp only [Act.put, putZ, List.getElem_toArray, List.getElem_cons_zero, List.getElem_cons_succ]
          have HB8 := hid hS.2.2
          clear hb8
          refine late_one (i := 10) rfl (by kernel_rfl) (fun K9 hK9 => ?_)
          go_simp
          refine hK9.out _ _ (fun _ => ?_) (fun hS9 => ?_)
          ·(try dsimp only); exact hS
          replace hS := hS9 (by decide)
          clear hK9 K9 hS9
          try simp only [Act.put, putZ, List.getElem_toArray, List.getElem_cons_zero, List.getElem_cons_succ]
          refine ltk 11 rfl ?_
          try simp only [Act.put, putZ, List.getElem_toArray, List.getElem_cons_zero, List.getElem_cons_succ]
          refine late_one (i := 12) rfl (by kernel_rfl) (fun K9 hK9 => ?_)
          go_simp
          refine hK9.out _ _ (fun _ => ?_) (fun hS9 => ?_)
          ·(try dsimp only); exact hS
          replace hS := hS9 (by decide)
          clear hK9 K9 hS9
          try simp only [Act.put, putZ, List.getElem_toArray, List.getElem_cons_zero, List.getElem_cons_succ]
          refine late_done (by kernel_rfl) ?_ _
          go_wp2
          go_ret
          exact ⟨ret_bool (by rw [E.out]), hb0.out.trans (HB8.out.mono hb0.out.size)⟩
theorem i_DiskOk {w : World} {bs : List Nat} {cs : List Value} {d : DiskD} (h : Rep.pt w bs cs d) (hs : Small d) :
  Calls Tryz.prog 59 #[.agg cs.toArray] w fun e w' => e = .returned (.bool (diskOk d)) ∧ Below w.heap.size w w' := by
 have := i_DiskOkI h hs
 rw [dok_eq] at this
 exact this
end Go.Proofs.YtdjcjilipgpnmaaGreat
end
section
set_option linter.unusedSimpArgs false
set_option linter.unusedVariables false
namespace Go.G6
open Go Go.RowKit Rep
theorem all_pos {d : DiskD} (h : diskOk d = true) : ∀ x ∈ dirAll d, 1 ≤ x.Id := fun x hx => by
 obtain ⟨y, hy, e⟩ := List.mem_map.1 (dirAll_ids h x hx)
 have := (nodesOk_pos _ _ _ (diskOk_parts h).2.1 (by omega) y hy).1
 omega
theorem has_there {d : DiskD} (h : diskOk d = true) (s : ByteArray) : hasN (dirAll d) s = thereB d s := by
 rw [has_pos _ (all_pos h) s]
 have := find_nonneg h s
 unfold thereB
 by_cases h0 : dirFind (dirAll d) s = 0
 ·simp [h0]
 ·have : 0 < dirFind (dirAll d) s := by omega
  simp [h0, this]
end Go.G6
namespace Go.Proofs.YtdjcjilipgpnmaaGreat
open Go Go.RowKit Go.G6
set_option maxHeartbeats 3000000
set_option maxRecDepth 10000
theorem i_DiskRead {w : World} {bs : List Nat} {cs : List Value} {d : DiskD} (h : Rep.pt w bs cs d) (hok : diskOk d = true) {s : ByteArray} (hsl : s.size ≤ maxLen) :
  Calls Tryz.prog 61 #[.agg cs.toArray, .string s] w (RetLB w 5 (readL d s) (thereB d s)) := by
 obtain ⟨b3, b4, b5, a3, l3, k3, a4, l4, k4, a5, l5, k5, rfl, hcs, h0, h1, h2, h3, h4, h5⟩ := open_Disk h
 obtain rfl := h3.len_eq
 obtain rfl := h4.len_eq
 obtain rfl := h5.len_eq
 have H0 := hid h; have HOK := hid hok; have H3 := hid h3; have H4 := hid h4; have H5 := hid h5; have HSL := hid hsl
 have hR := hid (diskOk_parts hok).1
 have HX := hid (Bx.new w cs.toArray 35 rfl)
 have I0 := hid (show (Tryz.prog.info? 35).map (·.size) = some cs.length by rw [hcs]; kernel_rfl)
 have C3 := hid (show cs[3]? = some (.slice a3 d.Nodes.length k3) by rw [hcs]; rfl)
 have C4 := hid (show cs[4]? = some (.slice a4 d.Kept.length k4) by rw [hcs]; rfl)
 have C5 := hid (show cs[5]? = some (.slice a5 d.Turns.length k5) by rw [hcs]; rfl)
 have m3 := h3.max
 clear h h0 h1 h2 h3 h4 h5 hcs hok hsl
 have hb0 := hid ((Below.refl w.heap.size w).alloc (Nat.le_refl _) (.cells cs.toArray 35))
 obtain ⟨wA, hwA⟩ : ∃ wA, wA = w.alloc (.cells cs.toArray 35) := ⟨_, rfl⟩
 rw [← hwA] at hb0 HX
 go_enter Tryz.func61, Tryz.ntmps61
 go_upto_region 1 with fail
 rw [← hwA]
 clear hwA
 go_wp2_with (first | (refine wpList_load_mid rfl 35 _ rfl w.heap.size 0 rfl cs _ HX.out.all Tryz.underlying35 rfl I0.out ?_))
 refine (i_DiskOk (grow H0.out hb0.out) (ok_small HOK.out)).mono ?_
 rintro e w1 ⟨rfl, hb1⟩
 rw [HOK.out]
 have HX1 := hid (Bx.below hb1 HX.out.f.lt HX.out)
 have HB1 := hid (hb0.out.trans (hb1.mono hb0.out.size))
 have x4 := bx_at HX1.out 4 C4.out
 have x5 := bx_at HX1.out 5 C5.out
 clear hb1 HX
 go_wp2_with fail
 refine (i_dirOf (H4.out.grow HB1.out) (H5.out.grow HB1.out) (by have := hR.out.r8; omega) (by have := hR.out.r9; omega)).mono ?_
 rintro e w2 ⟨m, rfl, hb2, hl⟩
 have hdo := dirOf_all HOK.out
 obtain ⟨bm, rfl, hbm, D, hown, hD⟩ := hl _ hdo
 rw [hdo]
 have HX2 := hid (Bx.below hb2 HX1.out.f.lt HX1.out)
 have HB2 := hid (HB1.out.trans (hb2.mono HB1.out.size))
 have HO := hid hown
 have HAT := hid (hD s).2
 have hHN := (hD s).1
 rw [has_there HOK.out] at hHN
 clear hl hdo hb2 x4 x5 hbm hown hD HX1
 obtain ⟨id, hid1⟩ : ∃ id, id = dirFind (dirAll d) s := ⟨_, rfl⟩
 rw [← hid1] at HAT
 cases ht : thereB d s
 ·have HT := hid ht
  have E := hid (show readL d s = [] by unfold readL; rw [ht]; rfl)
  rw [ht] at hHN
  clear hid1 ht
  go_wp2_with (first | (at_lookup; refine wpList_lookup_own_ok_int _ rfl _ _ 99 rfl 9 3 .i64 keyS Tryz.underlying99 Tryz.underlying3 (zeroI _) bm 2000 D rfl HO.out _ _ rfl (key_str HSL.out) ?_; intro c hat hwc; obtain rfl := i6_inj ((HAT.out).symm.trans hat)))
  go_ret2
  rw [E.out, HT.out]
  exact ⟨.slice none 0 0, [], rfl, OwnL.nil _ _ _, HB2.out⟩
 ·have hz : dirFind (dirAll d) s ≠ 0 := by unfold thereB at ht; simpa using ht
  have HT := hid ht
  obtain ⟨j, hj, hn, hid2⟩ := node_of HOK.out s hz
  have E := hid (show readL d s = d.Nodes[j].Body by unfold readL; rw [if_pos ht]; exact readB_at hj hn)
  rw [ht] at hHN
  obtain ⟨g1, o1, cs1, _, rfl, hg1, hp1, _, hA1⟩ := (H3.out.grow HB2.out).elem j hj
  obtain ⟨y1, y2, e1, n1, f1, e2, n2, f2, _, rfl, q1, q2, q3⟩ := open_Node hp1
  obtain rfl := q2.len_eq
  have c1 : w2.cell? ⟨g1, o1 + j * 3 + 1, none⟩ = some _ := hA1 1 _ rfl
  have hsm := (node_small HOK.out d.Nodes[j] (List.getElem_mem hj)).1
  rw [← hid1] at hn
  have HN := hid hn; have HQ := hid q2; have HSM := hid hsm
  have hji : (j : Int) < (d.Nodes.length : Int) := by omega
  have x3 := bx_at HX2.out 3 C3.out
  obtain ⟨B, hB⟩ : ∃ B, B = d.Nodes[j].Body := ⟨_, rfl⟩
  rw [← hB] at HQ HSM c1 E
  clear hn hsm hp1 hA1 q1 q2 q3 hid1 hid2 hB hz ht
  go_upto_region 7 with (first | (at_lookup; refine wpList_lookup_own_ok_int _ rfl _ _ 99 rfl 9 3 .i64 keyS Tryz.underlying99 Tryz.underlying3 (zeroI _) bm 2000 D rfl HO.out _ _ rfl (key_str HSL.out) ?_; intro c hat hwc; obtain rfl := i6_inj ((HAT.out).symm.trans hat)))
  refine late_start (fun W => W.cell? ⟨w.heap.size, 3, none⟩ = some (.slice (some ⟨g1, o1, none⟩) d.Nodes.length k3) ∧ W.rangeAt w.heap.size 0 cs ∧ W.cell? ⟨g1, o1 + j * 3 + 1, none⟩ = some (.slice e1 B.length f1) ∧ Below w2.heap.size w2 W) 99 (by kernel_rfl) ?_ (fun hS => ?_)
  ·exact ⟨x3, (World.rangeAt_drew _ _ _ _).2 HX2.out.all, c1, (Below.refl _ _).drew⟩
  refine ltk 0 rfl ?_
  try simp only [Act.put, putZ, List.getElem_toArray, List.getElem_cons_zero, List.getElem_cons_succ]
  refine ltk 1 rfl ?_
  try simp only [Act.put, putZ, List.getElem_toArray, List.getElem_cons_zero, List.getElem_cons_succ]
  refine late_take (i := 2) (v := .agg (cs).toArray) rfl (by kernel_rfl) (fun _ _ _ h => h) (by rfl) (fun W hW => exec_load_mid 35 _ rfl (w.heap.size) 0 rfl (cs) _ (hW.2.1) Tryz.underlying35 rfl I0.out) hS ?_
  try simp only [Act.put, putZ, List.getElem_toArray, List.getElem_cons_zero, List.getElem_cons_succ]
  refine ltk 3 rfl ?_
  try simp only [Act.put, putZ, List.getElem_toArray, List.getElem_cons_zero, List.getElem_cons_succ]
  refine late_one (i := 4) rfl (by kernel_rfl) (fun K9 hK9 => ?_)
  go_simp
  refine (i_nodeAt (grow H0.out (HB2.out.trans (hS.2.2.2.mono HB2.out.size))) id).mono ?_
  rintro e w5 ⟨rfl, hb5⟩
  rw [HN.out]
  go_wp2_with fail
  refine hK9.out _ _ (fun _ => ?_) (fun hS9 => ?_)
  ·(try dsimp only); exact ⟨keepcellF hb5 hS.1, range_below hS.2.1 hb5, keepcellF hb5 hS.2.2.1, hS.2.2.2.trans (hb5.mono hS.2.2.2.size)⟩
  replace hS := hS9 (by decide)
  clear hK9 K9 hS9
  try simp only [Act.put, putZ, List.getElem_toArray, List.getElem_cons_zero, List.getElem_cons_succ]
  clear hb5
  refine ltk 5 rfl ?_
  try simp only [Act.put, putZ, List.getElem_toArray, List.getElem_cons_zero, List.getElem_cons_succ]
  refine ltk 6 rfl ?_
  try simp only [Act.put, putZ, List.getElem_toArray, List.getElem_cons_zero, List.getElem_cons_succ]
  refine ltk 7 rfl ?_
  try simp only [Act.put, putZ, List.getElem_toArray, List.getElem_cons_zero, List.getElem_cons_succ]
  refine late_one (i := 8) rfl (by kernel_rfl) (fun K9 hK9 => ?_)
  go_simp
  refine (i_copyBytes (HQ.out.grow hS.2.2.2) (by have := HSM.out; omega)).mono ?_
  rintro e w6 ⟨v6, b6, rfl, hO6, hb6⟩
  obtain ⟨p6, c6, rfl⟩ := hO6.slice
  have HB5 := hid (HB2.out.trans (hS.2.2.2.mono HB2.out.size))
  have HB6 := hid (HB5.out.trans (hb6.mono HB5.out.size))
  have HO6 := hid hO6
  go_wp2_with fail
  refine hK9.out _ _ (fun _ => ?_) (fun hS9 => ?_)
  ·(try dsimp only); exact ⟨keepcellF hb6 hS.1, range_below hS.2.1 hb6, keepcellF hb6 hS.2.2.1, hS.2.2.2.trans (hb6.mono hS.2.2.2.size)⟩
  replace hS := hS9 (by decide)
  clear hK9 K9 hS9
  try simp only [Act.put, putZ, List.getElem_toArray, List.getElem_cons_zero, List.getElem_cons_succ]
  clear hb6 hO6
  refine ltk 9 rfl ?_
  try simp only [Act.put, putZ, List.getElem_toArray, List.getElem_cons_zero, List.getElem_cons_succ]
  refine late_one (i := 10) rfl (by kernel_rfl) (fun K9 hK9 => ?_)
  go_simp
  refine hK9.out _ _ (fun _ => ?_) (fun hS9 => ?_)
  ·(try dsimp only); exact hS
  replace hS := hS9 (by decide)
  clear hK9 K9 hS9
  try simp only [Act.put, putZ, List.getElem_toArray, List.getElem_cons_zero, List.getElem_cons_succ]
  refine late_done (by kernel_rfl) ?_ _
  go_wp2
  go_ret2
  rw [HT.out]
  exact ⟨.slice p6 B.length c6, b6, rfl, by rw [E.out]; exact HO6.out.mono HB5.out.size, HB6.out⟩
end Go.Proofs.YtdjcjilipgpnmaaGreat
end
