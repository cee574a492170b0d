/- With which code an operation fails, as the reference finds it (printed by gencode.py). -/
import Derived.Test.YtdjcjilipgpnmaaGreatKOpV
set_option linter.unusedSimpArgs false
set_option linter.unusedVariables false
namespace Go.G6
open Go Go.RowKit Rep
def opCode (d : DiskD) (kd : Int) (nm tt : ByteArray) (sz : Int) : Int :=
 if d.Fuse = 0 then 2
 else if (!decide (kd = 7) && (decide (kd = 1) == decide (0 < dirFind (dirAll d) nm))) = true then 3
 else if (decide (kd = 1) && (decide (d.Nodes.length = 8) || decide (d.Next = 1000000)) || (decide (kd = 1) || decide (kd = 5) || decide (kd = 6)) && decide (d.Turns.length = 40)) = true then 4
 else if (decide (kd = 4) && decide (((readB d nm).length : Int) < sz) || decide (kd = 5) && (tt.toList == nm.toList)) = true then 6 else 0
end Go.G6
namespace Go.Proofs.YtdjcjilipgpnmaaGreat
open Go Go.RowKit Go.G6
set_option maxHeartbeats 6000000
set_option maxRecDepth 10000
theorem s_l03Code {w : World} {bs : List Nat} {cs : List Value} {d : DiskD} (h : Rep.pt w bs cs d) (hok : diskOk d = true) {kd : Int} {nm tt : ByteArray} {sz : Int} {data : List UInt8} {bo : List Nat} {ao : Option Addr} {lo co : Nat} (hv : OpV kd nm tt sz data) (ho : Slc w bo ao lo co data) :
  Calls Tryz.prog 99 #[.agg cs.toArray, .agg #[.int .i64 kd, .string nm, .string tt, .int .i64 sz, .slice ao lo co]] w fun e w' => e = .returned (.int .i64 (opCode d kd nm tt sz)) ∧ Below w.heap.size w w' := by
 obtain ⟨b3, b4, b5, a3, l3, k3, a4, l4, k4, a5, l5, k5, rfl, hcs, h0, h1, h2, h3, h4, h5⟩ := open_Disk h
 obtain rfl := h3.len_eq
 obtain rfl := h4.len_eq
 obtain rfl := h5.len_eq
 obtain rfl := ho.len_eq
 have m3 := h3.max; have m5 := h5.max
 have H0 := hid h; have HOK := hid hok; have H3 := hid h3; have HV := hid hv
 have hR := (diskOk_parts hok).1
 have HR := hid hR
 have HX := hid (Bx.new w cs.toArray 35 rfl)
 have I0 := hid (show (Tryz.prog.info? 35).map (·.size) = some cs.length by rw [hcs]; kernel_rfl)
 have HXb := hid (Bx.alloc HX.out (by simp) (.cells #[.int .i64 kd, .string nm, .string tt, .int .i64 sz, .slice ao data.length co] 67))
 have HY := hid (Bx.new (w.alloc (.cells cs.toArray 35)) #[.int .i64 kd, .string nm, .string tt, .int .i64 sz, .slice ao data.length co] 67 (b := w.heap.size + 1) (by simp))
 have hb0 := hid (((Below.refl w.heap.size w).alloc (Nat.le_refl _) (.cells cs.toArray 35)).alloc (by simp) (.cells #[.int .i64 kd, .string nm, .string tt, .int .i64 sz, .slice ao data.length co] 67))
 obtain ⟨wA, hwA⟩ : ∃ wA, wA = (w.alloc (.cells cs.toArray 35)).alloc (.cells #[.int .i64 kd, .string nm, .string tt, .int .i64 sz, .slice ao data.length co] 67) := ⟨_, rfl⟩
 rw [← hwA] at hb0 HXb HY
 have x1 := bx_at HXb.out 1 (v := .int .i64 d.Fuse) (by rw [hcs]; rfl)
 have x2 := bx_at HXb.out 2 (v := .int .i64 d.Next) (by rw [hcs]; rfl)
 have x3 := bx_at HXb.out 3 (v := .slice a3 d.Nodes.length k3) (by rw [hcs]; rfl)
 have x5 := bx_at HXb.out 5 (v := .slice a5 d.Turns.length k5) (by rw [hcs]; rfl)
 have X2 := hid x2; have X3 := hid x3; have X5 := hid x5
 clear h h0 h1 h2 h3 h4 h5 hcs hok hv ho HX x2 x3 x5 hR
 go_enter Tryz.func99, Tryz.ntmps99
 go_upto_region 1 with fail
 rw [← hwA]
 clear hwA
 by_cases f0 : d.Fuse = 0
 ·have E := hid (show opCode d kd nm tt sz = 2 by unfold opCode; rw [if_pos f0])
  obtain ⟨fu, hfu⟩ : ∃ fu, fu = d.Fuse := ⟨_, rfl⟩
  rw [← hfu] at x1 f0
  clear hfu
  subst f0
  go_wp2
  go_ret
  exact ⟨ret_int (by rw [E.out]), hb0.out⟩
 have E0 := hid (show opCode d kd nm tt sz = (if (!decide (kd = 7) && (decide (kd = 1) == decide (0 < dirFind (dirAll d) nm))) = true then 3
  else if (decide (kd = 1) && (decide (d.Nodes.length = 8) || decide (d.Next = 1000000)) || (decide (kd = 1) || decide (kd = 5) || decide (kd = 6)) && decide (d.Turns.length = 40)) = true then 4
  else if (decide (kd = 4) && decide (((readB d nm).length : Int) < sz) || decide (kd = 5) && (tt.toList == nm.toList)) = true then 6 else 0) by unfold opCode; rw [if_neg f0])
 have y1 := HY.out.out 1
 go_upto_region 3 with fail
 refine late_start (fun W => W.rangeAt w.heap.size 0 cs ∧ W.cell? ⟨w.heap.size + 1, 1, none⟩ = some (.string nm) ∧ Below wA.heap.size wA W) 99 (by kernel_rfl) ?_ (fun hS => ?_)
 ·exact ⟨(World.rangeAt_drew _ _ _ _).2 HXb.out.all, y1, (Below.refl _ _).drew⟩
 refine late_take (i := 0) (v := .agg cs.toArray) rfl (by kernel_rfl) (fun _ _ _ h => h) (by rfl) (fun W hW => exec_load_mid 35 _ rfl w.heap.size 0 rfl cs _ hW.1 Tryz.underlying35 rfl I0.out) hS ?_
 try simp only [Act.put, putZ, List.getElem_toArray, List.getElem_cons_zero, List.getElem_cons_succ]
 refine ltk 2 rfl ?_
 try simp only [Act.put, putZ, List.getElem_toArray, List.getElem_cons_zero, List.getElem_cons_succ]
 refine ltk 3 rfl ?_
 try simp only [Act.put, putZ, List.getElem_toArray, List.getElem_cons_zero, List.getElem_cons_succ]
 refine late_one (i := 1) rfl (by kernel_rfl) (fun K9 hK9 => ?_)
 go_simp
 refine (s_DiskDir (grow H0.out (hb0.out.trans (hS.2.2.mono hb0.out.size))) (ok_small HOK.out) HOK.out HR.out).mono ?_
 rintro e w1 ⟨v1, b1, rfl, hO1, hb1⟩
 obtain ⟨p1, c1, rfl⟩ := hO1.slice
 obtain ⟨b1s, _, s1⟩ := hO1.slcL
 have S1 := hid s1
 obtain ⟨n1, hn1⟩ : ∃ n, n = (dirAll d).length := ⟨_, rfl⟩
 rw [← hn1] at S1 ⊢
 clear hO1 s1 hn1
 go_wp2_with fail
 refine hK9.out _ _ (fun _ => ?_) (fun hS9 => ?_)
 ·(try dsimp only); exact ⟨range_below hS.1 hb1, keepcellF hb1 hS.2.1, hS.2.2.trans (hb1.mono hS.2.2.size)⟩
 replace hS := hS9 (by decide)
 clear hK9 K9 hS9
 try simp only [Act.put, putZ, List.getElem_toArray, List.getElem_cons_zero, List.getElem_cons_succ]
 clear hb1
 refine late_one (i := 4) rfl (by kernel_rfl) (fun K9 hK9 => ?_)
 go_simp
 refine (s_l03Find S1.out nm).mono ?_
 rintro e w2 ⟨rfl, hb2⟩
 obtain ⟨id, hid1⟩ : ∃ id, id = dirFind (dirAll d) nm := ⟨_, rfl⟩
 rw [← hid1]
 have HID := hid hid1
 clear hid1
 go_wp2_with fail
 refine hK9.out _ _ (fun _ => ?_) (fun hS9 => ?_)
 ·(try dsimp only); exact ⟨range_below hS.1 hb2, keepcellF hb2 hS.2.1, hS.2.2.trans (hb2.mono hS.2.2.size)⟩
 replace hS := hS9 (by decide)
 clear hK9 K9 hS9
 try simp only [Act.put, putZ, List.getElem_toArray, List.getElem_cons_zero, List.getElem_cons_succ]
 clear hb2 S1
 refine ltk 5 rfl ?_
 try simp only [Act.put, putZ, List.getElem_toArray, List.getElem_cons_zero, List.getElem_cons_succ]
 have hbA := hS.2.2
 have HB2 := hid (hb0.out.trans (hS.2.2.mono hb0.out.size))
 have HX2 := hid (Bx.below hbA HXb.out.f.lt HXb.out)
 have HY2 := hid (Bx.below hbA HY.out.f.lt HY.out)
 have x2 := ((bcell hbA).1 _ 2 HXb.out.f.lt).trans X2.out
 have x3 := ((bcell hbA).1 _ 3 HXb.out.f.lt).trans X3.out
 have x5 := ((bcell hbA).1 _ 5 HXb.out.f.lt).trans X5.out
 have y0 := HY2.out.out 0
 have y1 := HY2.out.out 1
 have y2 := HY2.out.out 2
 have y3 := HY2.out.out 3
 clear hbA hS X2 X3 X5 HXb HY x1
 refine late_done (by kernel_rfl) ?_ _
 have NN := hid (show 0 ≤ id by rw [HID.out]; exact find_nonneg HOK.out nm)
 rw [← HID.out] at E0
 rcases HV.out.k with rfl | rfl | rfl | rfl | rfl | rfl | rfl
 ·have hr := HR.out
  by_cases c3 : 0 < id
  ·have E := hid (show opCode d 1 nm tt sz = 3 by rw [E0.out]; simp [c3])
   go_wp2
   go_ret
   exact ⟨ret_int (by rw [E.out]), HB2.out⟩
  by_cases c4 : d.Nodes.length = 8
  ·have E := hid (show opCode d 1 nm tt sz = 4 by rw [E0.out]; simp [c3, c4])
   have c4i : ((d.Nodes.length : Int) == 8) = true := by rw [beq_iff_eq]; omega
   clear c4
   go_wp2
   go_ret
   exact ⟨ret_int (by rw [E.out]), HB2.out⟩
  have c4i : ((d.Nodes.length : Int) == 8) = false := by rw [beq_eq_false_iff_ne]; omega
  by_cases c5 : d.Next = 1000000
  ·have E := hid (show opCode d 1 nm tt sz = 4 by rw [E0.out]; simp [c3, c4, c5])
   clear c4
   go_wp2
   go_ret
   exact ⟨ret_int (by rw [E.out]), HB2.out⟩
  by_cases c6 : d.Turns.length = 40
  ·have E := hid (show opCode d 1 nm tt sz = 4 by rw [E0.out]; simp [c3, c6, c4, c5])
   have c6i : ((d.Turns.length : Int) == 40) = true := by rw [beq_iff_eq]; omega
   clear c6 c4
   go_wp2
   go_ret
   exact ⟨ret_int (by rw [E.out]), HB2.out⟩
  have c6i : ((d.Turns.length : Int) == 40) = false := by rw [beq_eq_false_iff_ne]; omega
  have E := hid (show opCode d 1 nm tt sz = 0 by rw [E0.out]; simp [c3, c4, c5, c6])
  clear c4 c6
  as_aux_lemma =>
   go_upto_region 9 with fail
   refine late_start (fun W => W.rangeAt w.heap.size 0 cs ∧ W.cell? ⟨w.heap.size, 3, none⟩ = some (.slice a3 d.Nodes.length k3) ∧ W.cell? ⟨w.heap.size + 1, 0, none⟩ = some (.int .i64 1) ∧ W.cell? ⟨w.heap.size + 1, 1, none⟩ = some (.string nm) ∧ W.cell? ⟨w.heap.size + 1, 2, none⟩ = some (.string tt) ∧ W.cell? ⟨w.heap.size + 1, 3, none⟩ = some (.int .i64 sz)) 99 (by kernel_rfl) ?_ (fun hS => ?_)
   ·exact ⟨(World.rangeAt_drew _ _ _ _).2 HX2.out.all, x3, y0, y1, y2, y3⟩
   refine ltk 0 rfl ?_
   try simp only [Act.put, putZ, List.getElem_toArray, List.getElem_cons_zero, List.getElem_cons_succ]
   refine ltk 1 rfl ?_
   try simp only [Act.put, putZ, List.getElem_toArray, List.getElem_cons_zero, List.getElem_cons_succ]
   refine late_one (i := 2) rfl (by kernel_rfl) (fun K9 hK9 => ?_)
   go_simp
   refine hK9.out _ _ (fun _ => ?_) (fun hS9 => ?_)
   ·(try dsimp only); exact hS
   replace hS := hS9 (by decide)
   clear hK9 K9 hS9
   try simp only [Act.put, putZ, List.getElem_toArray, List.getElem_cons_zero, List.getElem_cons_succ]
   refine ltk 3 rfl ?_
   try simp only [Act.put, putZ, List.getElem_toArray, List.getElem_cons_zero, List.getElem_cons_succ]
   refine lsk 4 rfl ?_
   try simp only [Act.put, putZ, List.getElem_toArray, List.getElem_cons_zero, List.getElem_cons_succ]
   refine lsk 5 rfl ?_
   try simp only [Act.put, putZ, List.getElem_toArray, List.getElem_cons_zero, List.getElem_cons_succ]
   refine lsk 6 rfl ?_
   try simp only [Act.put, putZ, List.getElem_toArray, List.getElem_cons_zero, List.getElem_cons_succ]
   refine lsk 7 rfl ?_
   try simp only [Act.put, putZ, List.getElem_toArray, List.getElem_cons_zero, List.getElem_cons_succ]
   refine lsk 8 rfl ?_
   try simp only [Act.put, putZ, List.getElem_toArray, List.getElem_cons_zero, List.getElem_cons_succ]
   refine lsk 9 rfl ?_
   try simp only [Act.put, putZ, List.getElem_toArray, List.getElem_cons_zero, List.getElem_cons_succ]
   refine lsk 10 rfl ?_
   try simp only [Act.put, putZ, List.getElem_toArray, List.getElem_cons_zero, List.getElem_cons_succ]
   refine lsk 11 rfl ?_
   try simp only [Act.put, putZ, List.getElem_toArray, List.getElem_cons_zero, List.getElem_cons_succ]
   refine lsk 12 rfl ?_
   try simp only [Act.put, putZ, List.getElem_toArray, List.getElem_cons_zero, List.getElem_cons_succ]
   refine lsk 13 rfl ?_
   try simp only [Act.put, putZ, List.getElem_toArray, List.getElem_cons_zero, List.getElem_cons_succ]
   refine lsk 14 rfl ?_
   try simp only [Act.put, putZ, List.getElem_toArray, List.getElem_cons_zero, List.getElem_cons_succ]
   refine lsk 15 rfl ?_
   try simp only [Act.put, putZ, List.getElem_toArray, List.getElem_cons_zero, List.getElem_cons_succ]
   refine ltq 16 rfl ?_
   try simp only [Act.put, putZ, List.getElem_toArray, List.getElem_cons_zero, List.getElem_cons_succ]
   refine ltq 17 rfl ?_
   try simp only [Act.put, putZ, List.getElem_toArray, List.getElem_cons_zero, List.getElem_cons_succ]
   refine ltq 18 rfl ?_
   try simp only [Act.put, putZ, List.getElem_toArray, List.getElem_cons_zero, List.getElem_cons_succ]
   refine ltq 19 rfl ?_
   try simp only [Act.put, putZ, List.getElem_toArray, List.getElem_cons_zero, List.getElem_cons_succ]
   refine late_one (i := 20) rfl (by kernel_rfl) (fun K9 hK9 => ?_)
   go_simp
   refine hK9.out _ _ (fun _ => ?_) (fun hS9 => ?_)
   ·(try dsimp only); exact hS
   replace hS := hS9 (by decide)
   clear hK9 K9 hS9
   try simp only [Act.put, putZ, List.getElem_toArray, List.getElem_cons_zero, List.getElem_cons_succ]
   refine ltq 21 rfl ?_
   try simp only [Act.put, putZ, List.getElem_toArray, List.getElem_cons_zero, List.getElem_cons_succ]
   refine lsk 22 rfl ?_
   try simp only [Act.put, putZ, List.getElem_toArray, List.getElem_cons_zero, List.getElem_cons_succ]
   refine lsk 23 rfl ?_
   try simp only [Act.put, putZ, List.getElem_toArray, List.getElem_cons_zero, List.getElem_cons_succ]
   refine lsk 24 rfl ?_
   try simp only [Act.put, putZ, List.getElem_toArray, List.getElem_cons_zero, List.getElem_cons_succ]
   refine lsk 25 rfl ?_
   try simp only [Act.put, putZ, List.getElem_toArray, List.getElem_cons_zero, List.getElem_cons_succ]
   refine lsk 26 rfl ?_
   try simp only [Act.put, putZ, List.getElem_toArray, List.getElem_cons_zero, List.getElem_cons_succ]
   refine ltq 27 rfl ?_
   try simp only [Act.put, putZ, List.getElem_toArray, List.getElem_cons_zero, List.getElem_cons_succ]
   refine late_one (i := 28) rfl (by kernel_rfl) (fun K9 hK9 => ?_)
   go_simp
   refine hK9.out _ _ (fun _ => ?_) (fun hS9 => ?_)
   ·(try dsimp only); exact hS
   replace hS := hS9 (by decide)
   clear hK9 K9 hS9
   try simp only [Act.put, putZ, List.getElem_toArray, List.getElem_cons_zero, List.getElem_cons_succ]
   refine late_done (by kernel_rfl) ?_ _
   go_wp2
   go_ret
   exact ⟨ret_int (by rw [E.out]), HB2.out.drew⟩
 ·have hr := HR.out
  by_cases c3 : id = 0
  ·have E := hid (show opCode d 2 nm tt sz = 3 by rw [E0.out]; simp [c3])
   have hni : ¬ 0 < id := by omega
   go_wp2
   go_ret
   exact ⟨ret_int (by rw [E.out]), HB2.out⟩
  have c3p : 0 < id := by have := NN.out; omega
  have E := hid (show opCode d 2 nm tt sz = 0 by rw [E0.out]; simp [c3p])
  as_aux_lemma =>
   go_upto_region 9 with fail
   refine late_start (fun W => W.rangeAt w.heap.size 0 cs ∧ W.cell? ⟨w.heap.size, 3, none⟩ = some (.slice a3 d.Nodes.length k3) ∧ W.cell? ⟨w.heap.size + 1, 0, none⟩ = some (.int .i64 2) ∧ W.cell? ⟨w.heap.size + 1, 1, none⟩ = some (.string nm) ∧ W.cell? ⟨w.heap.size + 1, 2, none⟩ = some (.string tt) ∧ W.cell? ⟨w.heap.size + 1, 3, none⟩ = some (.int .i64 sz)) 99 (by kernel_rfl) ?_ (fun hS => ?_)
   ·exact ⟨(World.rangeAt_drew _ _ _ _).2 HX2.out.all, x3, y0, y1, y2, y3⟩
   refine ltk 0 rfl ?_
   try simp only [Act.put, putZ, List.getElem_toArray, List.getElem_cons_zero, List.getElem_cons_succ]
   refine ltk 1 rfl ?_
   try simp only [Act.put, putZ, List.getElem_toArray, List.getElem_cons_zero, List.getElem_cons_succ]
   refine late_one (i := 2) rfl (by kernel_rfl) (fun K9 hK9 => ?_)
   go_simp
   refine hK9.out _ _ (fun _ => ?_) (fun hS9 => ?_)
   ·(try dsimp only); exact hS
   replace hS := hS9 (by decide)
   clear hK9 K9 hS9
   try simp only [Act.put, putZ, List.getElem_toArray, List.getElem_cons_zero, List.getElem_cons_succ]
   refine ltk 3 rfl ?_
   try simp only [Act.put, putZ, List.getElem_toArray, List.getElem_cons_zero, List.getElem_cons_succ]
   refine lsk 4 rfl ?_
   try simp only [Act.put, putZ, List.getElem_toArray, List.getElem_cons_zero, List.getElem_cons_succ]
   refine lsk 5 rfl ?_
   try simp only [Act.put, putZ, List.getElem_toArray, List.getElem_cons_zero, List.getElem_cons_succ]
   refine lsk 6 rfl ?_
   try simp only [Act.put, putZ, List.getElem_toArray, List.getElem_cons_zero, List.getElem_cons_succ]
   refine lsk 7 rfl ?_
   try simp only [Act.put, putZ, List.getElem_toArray, List.getElem_cons_zero, List.getElem_cons_succ]
   refine lsk 8 rfl ?_
   try simp only [Act.put, putZ, List.getElem_toArray, List.getElem_cons_zero, List.getElem_cons_succ]
   refine lsk 9 rfl ?_
   try simp only [Act.put, putZ, List.getElem_toArray, List.getElem_cons_zero, List.getElem_cons_succ]
   refine lsk 10 rfl ?_
   try simp only [Act.put, putZ, List.getElem_toArray, List.getElem_cons_zero, List.getElem_cons_succ]
   refine lsk 11 rfl ?_
   try simp only [Act.put, putZ, List.getElem_toArray, List.getElem_cons_zero, List.getElem_cons_succ]
   refine lsk 12 rfl ?_
   try simp only [Act.put, putZ, List.getElem_toArray, List.getElem_cons_zero, List.getElem_cons_succ]
   refine lsk 13 rfl ?_
   try simp only [Act.put, putZ, List.getElem_toArray, List.getElem_cons_zero, List.getElem_cons_succ]
   refine lsk 14 rfl ?_
   try simp only [Act.put, putZ, List.getElem_toArray, List.getElem_cons_zero, List.getElem_cons_succ]
   refine lsk 15 rfl ?_
   try simp only [Act.put, putZ, List.getElem_toArray, List.getElem_cons_zero, List.getElem_cons_succ]
   refine ltq 16 rfl ?_
   try simp only [Act.put, putZ, List.getElem_toArray, List.getElem_cons_zero, List.getElem_cons_succ]
   refine ltq 17 rfl ?_
   try simp only [Act.put, putZ, List.getElem_toArray, List.getElem_cons_zero, List.getElem_cons_succ]
   refine ltq 18 rfl ?_
   try simp only [Act.put, putZ, List.getElem_toArray, List.getElem_cons_zero, List.getElem_cons_succ]
   refine ltq 19 rfl ?_
   try simp only [Act.put, putZ, List.getElem_toArray, List.getElem_cons_zero, List.getElem_cons_succ]
   refine late_one (i := 20) rfl (by kernel_rfl) (fun K9 hK9 => ?_)
   go_simp
   refine hK9.out _ _ (fun _ => ?_) (fun hS9 => ?_)
   ·(try dsimp only); exact hS
   replace hS := hS9 (by decide)
   clear hK9 K9 hS9
   try simp only [Act.put, putZ, List.getElem_toArray, List.getElem_cons_zero, List.getElem_cons_succ]
   refine ltq 21 rfl ?_
   try simp only [Act.put, putZ, List.getElem_toArray, List.getElem_cons_zero, List.getElem_cons_succ]
   refine lsk 22 rfl ?_
   try simp only [Act.put, putZ, List.getElem_toArray, List.getElem_cons_zero, List.getElem_cons_succ]
   refine lsk 23 rfl ?_
   try simp only [Act.put, putZ, List.getElem_toArray, List.getElem_cons_zero, List.getElem_cons_succ]
   refine lsk 24 rfl ?_
   try simp only [Act.put, putZ, List.getElem_toArray, List.getElem_cons_zero, List.getElem_cons_succ]
   refine lsk 25 rfl ?_
   try simp only [Act.put, putZ, List.getElem_toArray, List.getElem_cons_zero, List.getElem_cons_succ]
   refine lsk 26 rfl ?_
   try simp only [Act.put, putZ, List.getElem_toArray, List.getElem_cons_zero, List.getElem_cons_succ]
   refine ltq 27 rfl ?_
   try simp only [Act.put, putZ, List.getElem_toArray, List.getElem_cons_zero, List.getElem_cons_succ]
   refine late_one (i := 28) rfl (by kernel_rfl) (fun K9 hK9 => ?_)
   go_simp
   refine hK9.out _ _ (fun _ => ?_) (fun hS9 => ?_)
   ·(try dsimp only); exact hS
   replace hS := hS9 (by decide)
   clear hK9 K9 hS9
   try simp only [Act.put, putZ, List.getElem_toArray, List.getElem_cons_zero, List.getElem_cons_succ]
   refine late_done (by kernel_rfl) ?_ _
   go_wp2
   go_ret
   exact ⟨ret_int (by rw [E.out]), HB2.out.drew⟩
 ·have hr := HR.out
  by_cases c3 : id = 0
  ·have E := hid (show opCode d 3 nm tt sz = 3 by rw [E0.out]; simp [c3])
   have hni : ¬ 0 < id := by omega
   go_wp2
   go_ret
   exact ⟨ret_int (by rw [E.out]), HB2.out⟩
  have c3p : 0 < id := by have := NN.out; omega
  have E := hid (show opCode d 3 nm tt sz = 0 by rw [E0.out]; simp [c3p])
  as_aux_lemma =>
   go_upto_region 9 with fail
   refine late_start (fun W => W.rangeAt w.heap.size 0 cs ∧ W.cell? ⟨w.heap.size, 3, none⟩ = some (.slice a3 d.Nodes.length k3) ∧ W.cell? ⟨w.heap.size + 1, 0, none⟩ = some (.int .i64 3) ∧ W.cell? ⟨w.heap.size + 1, 1, none⟩ = some (.string nm) ∧ W.cell? ⟨w.heap.size + 1, 2, none⟩ = some (.string tt) ∧ W.cell? ⟨w.heap.size + 1, 3, none⟩ = some (.int .i64 sz)) 99 (by kernel_rfl) ?_ (fun hS => ?_)
   ·exact ⟨(World.rangeAt_drew _ _ _ _).2 HX2.out.all, x3, y0, y1, y2, y3⟩
   refine ltk 0 rfl ?_
   try simp only [Act.put, putZ, List.getElem_toArray, List.getElem_cons_zero, List.getElem_cons_succ]
   refine ltk 1 rfl ?_
   try simp only [Act.put, putZ, List.getElem_toArray, List.getElem_cons_zero, List.getElem_cons_succ]
   refine late_one (i := 2) rfl (by kernel_rfl) (fun K9 hK9 => ?_)
   go_simp
   refine hK9.out _ _ (fun _ => ?_) (fun hS9 => ?_)
   ·(try dsimp only); exact hS
   replace hS := hS9 (by decide)
   clear hK9 K9 hS9
   try simp only [Act.put, putZ, List.getElem_toArray, List.getElem_cons_zero, List.getElem_cons_succ]
   refine ltk 3 rfl ?_
   try simp only [Act.put, putZ, List.getElem_toArray, List.getElem_cons_zero, List.getElem_cons_succ]
   refine lsk 4 rfl ?_
   try simp only [Act.put, putZ, List.getElem_toArray, List.getElem_cons_zero, List.getElem_cons_succ]
   refine lsk 5 rfl ?_
   try simp only [Act.put, putZ, List.getElem_toArray, List.getElem_cons_zero, List.getElem_cons_succ]
   refine lsk 6 rfl ?_
   try simp only [Act.put, putZ, List.getElem_toArray, List.getElem_cons_zero, List.getElem_cons_succ]
   refine lsk 7 rfl ?_
   try simp only [Act.put, putZ, List.getElem_toArray, List.getElem_cons_zero, List.getElem_cons_succ]
   refine lsk 8 rfl ?_
   try simp only [Act.put, putZ, List.getElem_toArray, List.getElem_cons_zero, List.getElem_cons_succ]
   refine lsk 9 rfl ?_
   try simp only [Act.put, putZ, List.getElem_toArray, List.getElem_cons_zero, List.getElem_cons_succ]
   refine lsk 10 rfl ?_
   try simp only [Act.put, putZ, List.getElem_toArray, List.getElem_cons_zero, List.getElem_cons_succ]
   refine lsk 11 rfl ?_
   try simp only [Act.put, putZ, List.getElem_toArray, List.getElem_cons_zero, List.getElem_cons_succ]
   refine lsk 12 rfl ?_
   try simp only [Act.put, putZ, List.getElem_toArray, List.getElem_cons_zero, List.getElem_cons_succ]
   refine lsk 13 rfl ?_
   try simp only [Act.put, putZ, List.getElem_toArray, List.getElem_cons_zero, List.getElem_cons_succ]
   refine lsk 14 rfl ?_
   try simp only [Act.put, putZ, List.getElem_toArray, List.getElem_cons_zero, List.getElem_cons_succ]
   refine lsk 15 rfl ?_
   try simp only [Act.put, putZ, List.getElem_toArray, List.getElem_cons_zero, List.getElem_cons_succ]
   refine ltq 16 rfl ?_
   try simp only [Act.put, putZ, List.getElem_toArray, List.getElem_cons_zero, List.getElem_cons_succ]
   refine ltq 17 rfl ?_
   try simp only [Act.put, putZ, List.getElem_toArray, List.getElem_cons_zero, List.getElem_cons_succ]
   refine ltq 18 rfl ?_
   try simp only [Act.put, putZ, List.getElem_toArray, List.getElem_cons_zero, List.getElem_cons_succ]
   refine ltq 19 rfl ?_
   try simp only [Act.put, putZ, List.getElem_toArray, List.getElem_cons_zero, List.getElem_cons_succ]
   refine late_one (i := 20) rfl (by kernel_rfl) (fun K9 hK9 => ?_)
   go_simp
   refine hK9.out _ _ (fun _ => ?_) (fun hS9 => ?_)
   ·(try dsimp only); exact hS
   replace hS := hS9 (by decide)
   clear hK9 K9 hS9
   try simp only [Act.put, putZ, List.getElem_toArray, List.getElem_cons_zero, List.getElem_cons_succ]
   refine ltq 21 rfl ?_
   try simp only [Act.put, putZ, List.getElem_toArray, List.getElem_cons_zero, List.getElem_cons_succ]
   refine lsk 22 rfl ?_
   try simp only [Act.put, putZ, List.getElem_toArray, List.getElem_cons_zero, List.getElem_cons_succ]
   refine lsk 23 rfl ?_
   try simp only [Act.put, putZ, List.getElem_toArray, List.getElem_cons_zero, List.getElem_cons_succ]
   refine lsk 24 rfl ?_
   try simp only [Act.put, putZ, List.getElem_toArray, List.getElem_cons_zero, List.getElem_cons_succ]
   refine lsk 25 rfl ?_
   try simp only [Act.put, putZ, List.getElem_toArray, List.getElem_cons_zero, List.getElem_cons_succ]
   refine lsk 26 rfl ?_
   try simp only [Act.put, putZ, List.getElem_toArray, List.getElem_cons_zero, List.getElem_cons_succ]
   refine ltq 27 rfl ?_
   try simp only [Act.put, putZ, List.getElem_toArray, List.getElem_cons_zero, List.getElem_cons_succ]
   refine late_one (i := 28) rfl (by kernel_rfl) (fun K9 hK9 => ?_)
   go_simp
   refine hK9.out _ _ (fun _ => ?_) (fun hS9 => ?_)
   ·(try dsimp only); exact hS
   replace hS := hS9 (by decide)
   clear hK9 K9 hS9
   try simp only [Act.put, putZ, List.getElem_toArray, List.getElem_cons_zero, List.getElem_cons_succ]
   refine late_done (by kernel_rfl) ?_ _
   go_wp2
   go_ret
   exact ⟨ret_int (by rw [E.out]), HB2.out.drew⟩
 ·have hr := HR.out
  by_cases c3 : id = 0
  ·have E := hid (show opCode d 4 nm tt sz = 3 by rw [E0.out]; simp [c3])
   have hni : ¬ 0 < id := by omega
   go_wp2
   go_ret
   exact ⟨ret_int (by rw [E.out]), HB2.out⟩
  have c3p : 0 < id := by have := NN.out; omega
  obtain ⟨j, hj, hn, hid2⟩ := node_of HOK.out nm (by rw [← HID.out]; exact c3)
  rw [← HID.out] at hn hid2
  have hrd := readB_at (s := nm) hj (by rw [← HID.out]; exact hn)
  obtain ⟨g1, o1, cs1, _, rfl, hg1, hp1, _, hA1⟩ := (H3.out.grow HB2.out).elem j hj
  obtain ⟨z1, z2, e1, n1, f1, e2, n2, f2, _, rfl, q1, q2, q3⟩ := open_Node hp1
  have hl := q2.len_eq
  rw [← hrd] at hl
  have C2 := hid (show w2.cell? ⟨g1, o1 + j * 3 + 1, none⟩ = some _ from hA1 1 _ rfl)
  have HN := hid hn
  have hji : (j : Int) < (d.Nodes.length : Int) := by omega
  clear hp1 hA1 q1 q2 q3 hrd hid2 hn
  by_cases c7 : (n1 : Int) < sz
  ·have C1 := hid (decide_eq_true c7)
   have E := hid (show opCode d 4 nm tt sz = 6 by rw [E0.out, ← hl]; simp [c3p, c7])
   clear hl c7
   as_aux_lemma =>
    go_upto_region 9 with fail
    refine late_start (fun W => W.rangeAt w.heap.size 0 cs ∧ W.cell? ⟨w.heap.size, 3, none⟩ = some (.slice (some ⟨g1, o1, none⟩) d.Nodes.length k3) ∧ W.cell? ⟨w.heap.size + 1, 0, none⟩ = some (.int .i64 4) ∧ W.cell? ⟨w.heap.size + 1, 1, none⟩ = some (.string nm) ∧ W.cell? ⟨w.heap.size + 1, 2, none⟩ = some (.string tt) ∧ W.cell? ⟨w.heap.size + 1, 3, none⟩ = some (.int .i64 sz) ∧ W.cell? ⟨g1, o1 + j * 3 + 1, none⟩ = some (.slice e1 n1 f1) ∧ Below w2.heap.size w2 W) 99 (by kernel_rfl) ?_ (fun hS => ?_)
    ·exact ⟨(World.rangeAt_drew _ _ _ _).2 HX2.out.all, x3, y0, y1, y2, y3, C2.out, (Below.refl _ _).drew⟩
    refine ltk 0 rfl ?_
    try simp only [Act.put, putZ, List.getElem_toArray, List.getElem_cons_zero, List.getElem_cons_succ]
    refine ltk 1 rfl ?_
    try simp only [Act.put, putZ, List.getElem_toArray, List.getElem_cons_zero, List.getElem_cons_succ]
    refine late_one (i := 2) rfl (by kernel_rfl) (fun K9 hK9 => ?_)
    go_simp
    refine hK9.out _ _ (fun _ => ?_) (fun hS9 => ?_)
    ·(try dsimp only); exact hS
    replace hS := hS9 (by decide)
    clear hK9 K9 hS9
    try simp only [Act.put, putZ, List.getElem_toArray, List.getElem_cons_zero, List.getElem_cons_succ]
    refine ltk 3 rfl ?_
    try simp only [Act.put, putZ, List.getElem_toArray, List.getElem_cons_zero, List.getElem_cons_succ]
    refine ltq 4 rfl ?_
    try simp only [Act.put, putZ, List.getElem_toArray, List.getElem_cons_zero, List.getElem_cons_succ]
    refine ltq 5 rfl ?_
    try simp only [Act.put, putZ, List.getElem_toArray, List.getElem_cons_zero, List.getElem_cons_succ]
    refine ltq 6 rfl ?_
    try simp only [Act.put, putZ, List.getElem_toArray, List.getElem_cons_zero, List.getElem_cons_succ]
    refine ltq 7 rfl ?_
    try simp only [Act.put, putZ, List.getElem_toArray, List.getElem_cons_zero, List.getElem_cons_succ]
    refine late_take (i := 8) (v := .agg cs.toArray) rfl (by kernel_rfl) (fun _ _ _ h => h) (by kernel_rfl) (fun W hW => exec_load_mid 35 _ rfl w.heap.size 0 rfl cs _ hW.1 Tryz.underlying35 rfl I0.out) hS ?_
    try simp only [Act.put, putZ, List.getElem_toArray, List.getElem_cons_zero, List.getElem_cons_succ]
    refine ltq 9 rfl ?_
    try simp only [Act.put, putZ, List.getElem_toArray, List.getElem_cons_zero, List.getElem_cons_succ]
    refine late_one (i := 10) rfl (by kernel_rfl) (fun K9 hK9 => ?_)
    go_simp
    refine (s_l03At (grow H0.out (HB2.out.trans (hS.2.2.2.2.2.2.2.mono HB2.out.size))) id).mono ?_
    rintro e w5 ⟨rfl, hb5⟩
    rw [HN.out]
    go_wp2_with fail
    refine hK9.out _ _ (fun _ => ?_) (fun hS9 => ?_)
    ·(try dsimp only); exact ⟨range_below hS.1 hb5, keepcellF hb5 hS.2.1, keepcellF hb5 hS.2.2.1, keepcellF hb5 hS.2.2.2.1, keepcellF hb5 hS.2.2.2.2.1, keepcellF hb5 hS.2.2.2.2.2.1, keepcellF hb5 hS.2.2.2.2.2.2.1, hS.2.2.2.2.2.2.2.trans (hb5.mono hS.2.2.2.2.2.2.2.size)⟩
    replace hS := hS9 (by decide)
    clear hK9 K9 hS9
    try simp only [Act.put, putZ, List.getElem_toArray, List.getElem_cons_zero, List.getElem_cons_succ]
    have HB5 := hid (HB2.out.trans (hS.2.2.2.2.2.2.2.mono HB2.out.size))
    clear hb5
    refine ltq 11 rfl ?_
    try simp only [Act.put, putZ, List.getElem_toArray, List.getElem_cons_zero, List.getElem_cons_succ]
    refine ltq 12 rfl ?_
    try simp only [Act.put, putZ, List.getElem_toArray, List.getElem_cons_zero, List.getElem_cons_succ]
    refine ltq 13 rfl ?_
    try simp only [Act.put, putZ, List.getElem_toArray, List.getElem_cons_zero, List.getElem_cons_succ]
    refine ltq 14 rfl ?_
    try simp only [Act.put, putZ, List.getElem_toArray, List.getElem_cons_zero, List.getElem_cons_succ]
    refine late_one (i := 15) rfl (by kernel_rfl) (fun K9 hK9 => ?_)
    go_simp
    try rw [C1.out]
    refine hK9.out _ _ (fun _ => ?_) (fun hS9 => ?_)
    ·(try dsimp only); exact hS
    replace hS := hS9 (by decide)
    clear hK9 K9 hS9
    try simp only [Act.put, putZ, List.getElem_toArray, List.getElem_cons_zero, List.getElem_cons_succ]
    refine ltq 16 rfl ?_
    try simp only [Act.put, putZ, List.getElem_toArray, List.getElem_cons_zero, List.getElem_cons_succ]
    refine ltq 17 rfl ?_
    try simp only [Act.put, putZ, List.getElem_toArray, List.getElem_cons_zero, List.getElem_cons_succ]
    refine lsk 18 rfl ?_
    try simp only [Act.put, putZ, List.getElem_toArray, List.getElem_cons_zero, List.getElem_cons_succ]
    refine lsk 19 rfl ?_
    try simp only [Act.put, putZ, List.getElem_toArray, List.getElem_cons_zero, List.getElem_cons_succ]
    refine lsk 20 rfl ?_
    try simp only [Act.put, putZ, List.getElem_toArray, List.getElem_cons_zero, List.getElem_cons_succ]
    refine lsk 21 rfl ?_
    try simp only [Act.put, putZ, List.getElem_toArray, List.getElem_cons_zero, List.getElem_cons_succ]
    refine lsk 22 rfl ?_
    try simp only [Act.put, putZ, List.getElem_toArray, List.getElem_cons_zero, List.getElem_cons_succ]
    refine lsk 23 rfl ?_
    try simp only [Act.put, putZ, List.getElem_toArray, List.getElem_cons_zero, List.getElem_cons_succ]
    refine lsk 24 rfl ?_
    try simp only [Act.put, putZ, List.getElem_toArray, List.getElem_cons_zero, List.getElem_cons_succ]
    refine lsk 25 rfl ?_
    try simp only [Act.put, putZ, List.getElem_toArray, List.getElem_cons_zero, List.getElem_cons_succ]
    refine lsk 26 rfl ?_
    try simp only [Act.put, putZ, List.getElem_toArray, List.getElem_cons_zero, List.getElem_cons_succ]
    refine lsk 27 rfl ?_
    try simp only [Act.put, putZ, List.getElem_toArray, List.getElem_cons_zero, List.getElem_cons_succ]
    refine late_one (i := 28) rfl (by kernel_rfl) (fun K9 hK9 => ?_)
    go_simp
    refine hK9.out _ _ (fun _ => ?_) (fun hS9 => ?_)
    ·(try dsimp only); exact hS
    replace hS := hS9 (by decide)
    clear hK9 K9 hS9
    try simp only [Act.put, putZ, List.getElem_toArray, List.getElem_cons_zero, List.getElem_cons_succ]
    refine late_done (by kernel_rfl) ?_ _
    go_wp2
    go_ret
    exact ⟨ret_int (by rw [E.out]), HB5.out⟩
  ·have C1 := hid (decide_eq_false c7)
   have E := hid (show opCode d 4 nm tt sz = 0 by rw [E0.out, ← hl]; simp [c3p, c7])
   clear hl c7
   as_aux_lemma =>
    go_upto_region 9 with fail
    refine late_start (fun W => W.rangeAt w.heap.size 0 cs ∧ W.cell? ⟨w.heap.size, 3, none⟩ = some (.slice (some ⟨g1, o1, none⟩) d.Nodes.length k3) ∧ W.cell? ⟨w.heap.size + 1, 0, none⟩ = some (.int .i64 4) ∧ W.cell? ⟨w.heap.size + 1, 1, none⟩ = some (.string nm) ∧ W.cell? ⟨w.heap.size + 1, 2, none⟩ = some (.string tt) ∧ W.cell? ⟨w.heap.size + 1, 3, none⟩ = some (.int .i64 sz) ∧ W.cell? ⟨g1, o1 + j * 3 + 1, none⟩ = some (.slice e1 n1 f1) ∧ Below w2.heap.size w2 W) 99 (by kernel_rfl) ?_ (fun hS => ?_)
    ·exact ⟨(World.rangeAt_drew _ _ _ _).2 HX2.out.all, x3, y0, y1, y2, y3, C2.out, (Below.refl _ _).drew⟩
    refine ltk 0 rfl ?_
    try simp only [Act.put, putZ, List.getElem_toArray, List.getElem_cons_zero, List.getElem_cons_succ]
    refine ltk 1 rfl ?_
    try simp only [Act.put, putZ, List.getElem_toArray, List.getElem_cons_zero, List.getElem_cons_succ]
    refine late_one (i := 2) rfl (by kernel_rfl) (fun K9 hK9 => ?_)
    go_simp
    refine hK9.out _ _ (fun _ => ?_) (fun hS9 => ?_)
    ·(try dsimp only); exact hS
    replace hS := hS9 (by decide)
    clear hK9 K9 hS9
    try simp only [Act.put, putZ, List.getElem_toArray, List.getElem_cons_zero, List.getElem_cons_succ]
    refine ltk 3 rfl ?_
    try simp only [Act.put, putZ, List.getElem_toArray, List.getElem_cons_zero, List.getElem_cons_succ]
    refine ltq 4 rfl ?_
    try simp only [Act.put, putZ, List.getElem_toArray, List.getElem_cons_zero, List.getElem_cons_succ]
    refine ltq 5 rfl ?_
    try simp only [Act.put, putZ, List.getElem_toArray, List.getElem_cons_zero, List.getElem_cons_succ]
    refine ltq 6 rfl ?_
    try simp only [Act.put, putZ, List.getElem_toArray, List.getElem_cons_zero, List.getElem_cons_succ]
    refine ltq 7 rfl ?_
    try simp only [Act.put, putZ, List.getElem_toArray, List.getElem_cons_zero, List.getElem_cons_succ]
    refine late_take (i := 8) (v := .agg cs.toArray) rfl (by kernel_rfl) (fun _ _ _ h => h) (by kernel_rfl) (fun W hW => exec_load_mid 35 _ rfl w.heap.size 0 rfl cs _ hW.1 Tryz.underlying35 rfl I0.out) hS ?_
    try simp only [Act.put, putZ, List.getElem_toArray, List.getElem_cons_zero, List.getElem_cons_succ]
    refine ltq 9 rfl ?_
    try simp only [Act.put, putZ, List.getElem_toArray, List.getElem_cons_zero, List.getElem_cons_succ]
    refine late_one (i := 10) rfl (by kernel_rfl) (fun K9 hK9 => ?_)
    go_simp
    refine (s_l03At (grow H0.out (HB2.out.trans (hS.2.2.2.2.2.2.2.mono HB2.out.size))) id).mono ?_
    rintro e w5 ⟨rfl, hb5⟩
    rw [HN.out]
    go_wp2_with fail
    refine hK9.out _ _ (fun _ => ?_) (fun hS9 => ?_)
    ·(try dsimp only); exact ⟨range_below hS.1 hb5, keepcellF hb5 hS.2.1, keepcellF hb5 hS.2.2.1, keepcellF hb5 hS.2.2.2.1, keepcellF hb5 hS.2.2.2.2.1, keepcellF hb5 hS.2.2.2.2.2.1, keepcellF hb5 hS.2.2.2.2.2.2.1, hS.2.2.2.2.2.2.2.trans (hb5.mono hS.2.2.2.2.2.2.2.size)⟩
    replace hS := hS9 (by decide)
    clear hK9 K9 hS9
    try simp only [Act.put, putZ, List.getElem_toArray, List.getElem_cons_zero, List.getElem_cons_succ]
    have HB5 := hid (HB2.out.trans (hS.2.2.2.2.2.2.2.mono HB2.out.size))
    clear hb5
    refine ltq 11 rfl ?_
    try simp only [Act.put, putZ, List.getElem_toArray, List.getElem_cons_zero, List.getElem_cons_succ]
    refine ltq 12 rfl ?_
    try simp only [Act.put, putZ, List.getElem_toArray, List.getElem_cons_zero, List.getElem_cons_succ]
    refine ltq 13 rfl ?_
    try simp only [Act.put, putZ, List.getElem_toArray, List.getElem_cons_zero, List.getElem_cons_succ]
    refine ltq 14 rfl ?_
    try simp only [Act.put, putZ, List.getElem_toArray, List.getElem_cons_zero, List.getElem_cons_succ]
    refine late_one (i := 15) rfl (by kernel_rfl) (fun K9 hK9 => ?_)
    go_simp
    try rw [C1.out]
    refine hK9.out _ _ (fun _ => ?_) (fun hS9 => ?_)
    ·(try dsimp only); exact hS
    replace hS := hS9 (by decide)
    clear hK9 K9 hS9
    try simp only [Act.put, putZ, List.getElem_toArray, List.getElem_cons_zero, List.getElem_cons_succ]
    refine ltq 16 rfl ?_
    try simp only [Act.put, putZ, List.getElem_toArray, List.getElem_cons_zero, List.getElem_cons_succ]
    refine ltq 17 rfl ?_
    try simp only [Act.put, putZ, List.getElem_toArray, List.getElem_cons_zero, List.getElem_cons_succ]
    refine ltq 18 rfl ?_
    try simp only [Act.put, putZ, List.getElem_toArray, List.getElem_cons_zero, List.getElem_cons_succ]
    refine ltq 19 rfl ?_
    try simp only [Act.put, putZ, List.getElem_toArray, List.getElem_cons_zero, List.getElem_cons_succ]
    refine late_one (i := 20) rfl (by kernel_rfl) (fun K9 hK9 => ?_)
    go_simp
    refine hK9.out _ _ (fun _ => ?_) (fun hS9 => ?_)
    ·(try dsimp only); exact hS
    replace hS := hS9 (by decide)
    clear hK9 K9 hS9
    try simp only [Act.put, putZ, List.getElem_toArray, List.getElem_cons_zero, List.getElem_cons_succ]
    refine ltq 21 rfl ?_
    try simp only [Act.put, putZ, List.getElem_toArray, List.getElem_cons_zero, List.getElem_cons_succ]
    refine lsk 22 rfl ?_
    try simp only [Act.put, putZ, List.getElem_toArray, List.getElem_cons_zero, List.getElem_cons_succ]
    refine lsk 23 rfl ?_
    try simp only [Act.put, putZ, List.getElem_toArray, List.getElem_cons_zero, List.getElem_cons_succ]
    refine lsk 24 rfl ?_
    try simp only [Act.put, putZ, List.getElem_toArray, List.getElem_cons_zero, List.getElem_cons_succ]
    refine lsk 25 rfl ?_
    try simp only [Act.put, putZ, List.getElem_toArray, List.getElem_cons_zero, List.getElem_cons_succ]
    refine lsk 26 rfl ?_
    try simp only [Act.put, putZ, List.getElem_toArray, List.getElem_cons_zero, List.getElem_cons_succ]
    refine ltq 27 rfl ?_
    try simp only [Act.put, putZ, List.getElem_toArray, List.getElem_cons_zero, List.getElem_cons_succ]
    refine late_one (i := 28) rfl (by kernel_rfl) (fun K9 hK9 => ?_)
    go_simp
    refine hK9.out _ _ (fun _ => ?_) (fun hS9 => ?_)
    ·(try dsimp only); exact hS
    replace hS := hS9 (by decide)
    clear hK9 K9 hS9
    try simp only [Act.put, putZ, List.getElem_toArray, List.getElem_cons_zero, List.getElem_cons_succ]
    refine late_done (by kernel_rfl) ?_ _
    go_wp2
    go_ret
    exact ⟨ret_int (by rw [E.out]), HB5.out⟩
 ·have hr := HR.out
  by_cases c3 : id = 0
  ·have E := hid (show opCode d 5 nm tt sz = 3 by rw [E0.out]; simp [c3])
   have hni : ¬ 0 < id := by omega
   go_wp2
   go_ret
   exact ⟨ret_int (by rw [E.out]), HB2.out⟩
  have c3p : 0 < id := by have := NN.out; omega
  by_cases c6 : d.Turns.length = 40
  ·have E := hid (show opCode d 5 nm tt sz = 4 by rw [E0.out]; simp [c3p, c6])
   have c6i : ((d.Turns.length : Int) == 40) = true := by rw [beq_iff_eq]; omega
   clear c6
   go_wp2
   go_ret
   exact ⟨ret_int (by rw [E.out]), HB2.out⟩
  have c6i : ((d.Turns.length : Int) == 40) = false := by rw [beq_eq_false_iff_ne]; omega
  cases c7 : (tt.toList == nm.toList)
  ·have C1 := hid c7
   have E := hid (show opCode d 5 nm tt sz = 0 by rw [E0.out]; simp [c3p, c6, c7])
   clear c6 c7
   as_aux_lemma =>
    go_upto_region 9 with fail
    refine late_start (fun W => W.rangeAt w.heap.size 0 cs ∧ W.cell? ⟨w.heap.size, 3, none⟩ = some (.slice a3 d.Nodes.length k3) ∧ W.cell? ⟨w.heap.size + 1, 0, none⟩ = some (.int .i64 5) ∧ W.cell? ⟨w.heap.size + 1, 1, none⟩ = some (.string nm) ∧ W.cell? ⟨w.heap.size + 1, 2, none⟩ = some (.string tt) ∧ W.cell? ⟨w.heap.size + 1, 3, none⟩ = some (.int .i64 sz)) 99 (by kernel_rfl) ?_ (fun hS => ?_)
    ·exact ⟨(World.rangeAt_drew _ _ _ _).2 HX2.out.all, x3, y0, y1, y2, y3⟩
    refine ltk 0 rfl ?_
    try simp only [Act.put, putZ, List.getElem_toArray, List.getElem_cons_zero, List.getElem_cons_succ]
    refine ltk 1 rfl ?_
    try simp only [Act.put, putZ, List.getElem_toArray, List.getElem_cons_zero, List.getElem_cons_succ]
    refine late_one (i := 2) rfl (by kernel_rfl) (fun K9 hK9 => ?_)
    go_simp
    refine hK9.out _ _ (fun _ => ?_) (fun hS9 => ?_)
    ·(try dsimp only); exact hS
    replace hS := hS9 (by decide)
    clear hK9 K9 hS9
    try simp only [Act.put, putZ, List.getElem_toArray, List.getElem_cons_zero, List.getElem_cons_succ]
    refine ltk 3 rfl ?_
    try simp only [Act.put, putZ, List.getElem_toArray, List.getElem_cons_zero, List.getElem_cons_succ]
    refine lsk 4 rfl ?_
    try simp only [Act.put, putZ, List.getElem_toArray, List.getElem_cons_zero, List.getElem_cons_succ]
    refine lsk 5 rfl ?_
    try simp only [Act.put, putZ, List.getElem_toArray, List.getElem_cons_zero, List.getElem_cons_succ]
    refine lsk 6 rfl ?_
    try simp only [Act.put, putZ, List.getElem_toArray, List.getElem_cons_zero, List.getElem_cons_succ]
    refine lsk 7 rfl ?_
    try simp only [Act.put, putZ, List.getElem_toArray, List.getElem_cons_zero, List.getElem_cons_succ]
    refine lsk 8 rfl ?_
    try simp only [Act.put, putZ, List.getElem_toArray, List.getElem_cons_zero, List.getElem_cons_succ]
    refine lsk 9 rfl ?_
    try simp only [Act.put, putZ, List.getElem_toArray, List.getElem_cons_zero, List.getElem_cons_succ]
    refine lsk 10 rfl ?_
    try simp only [Act.put, putZ, List.getElem_toArray, List.getElem_cons_zero, List.getElem_cons_succ]
    refine lsk 11 rfl ?_
    try simp only [Act.put, putZ, List.getElem_toArray, List.getElem_cons_zero, List.getElem_cons_succ]
    refine lsk 12 rfl ?_
    try simp only [Act.put, putZ, List.getElem_toArray, List.getElem_cons_zero, List.getElem_cons_succ]
    refine lsk 13 rfl ?_
    try simp only [Act.put, putZ, List.getElem_toArray, List.getElem_cons_zero, List.getElem_cons_succ]
    refine lsk 14 rfl ?_
    try simp only [Act.put, putZ, List.getElem_toArray, List.getElem_cons_zero, List.getElem_cons_succ]
    refine lsk 15 rfl ?_
    try simp only [Act.put, putZ, List.getElem_toArray, List.getElem_cons_zero, List.getElem_cons_succ]
    refine ltq 16 rfl ?_
    try simp only [Act.put, putZ, List.getElem_toArray, List.getElem_cons_zero, List.getElem_cons_succ]
    refine ltq 17 rfl ?_
    try simp only [Act.put, putZ, List.getElem_toArray, List.getElem_cons_zero, List.getElem_cons_succ]
    refine ltq 18 rfl ?_
    try simp only [Act.put, putZ, List.getElem_toArray, List.getElem_cons_zero, List.getElem_cons_succ]
    refine ltq 19 rfl ?_
    try simp only [Act.put, putZ, List.getElem_toArray, List.getElem_cons_zero, List.getElem_cons_succ]
    refine late_one (i := 20) rfl (by kernel_rfl) (fun K9 hK9 => ?_)
    go_simp
    refine hK9.out _ _ (fun _ => ?_) (fun hS9 => ?_)
    ·(try dsimp only); exact hS
    replace hS := hS9 (by decide)
    clear hK9 K9 hS9
    try simp only [Act.put, putZ, List.getElem_toArray, List.getElem_cons_zero, List.getElem_cons_succ]
    refine ltq 21 rfl ?_
    try simp only [Act.put, putZ, List.getElem_toArray, List.getElem_cons_zero, List.getElem_cons_succ]
    refine ltq 22 rfl ?_
    try simp only [Act.put, putZ, List.getElem_toArray, List.getElem_cons_zero, List.getElem_cons_succ]
    refine ltq 23 rfl ?_
    try simp only [Act.put, putZ, List.getElem_toArray, List.getElem_cons_zero, List.getElem_cons_succ]
    refine ltq 24 rfl ?_
    try simp only [Act.put, putZ, List.getElem_toArray, List.getElem_cons_zero, List.getElem_cons_succ]
    refine ltq 25 rfl ?_
    try simp only [Act.put, putZ, List.getElem_toArray, List.getElem_cons_zero, List.getElem_cons_succ]
    refine late_one (i := 26) rfl (by kernel_rfl) (fun K9 hK9 => ?_)
    go_simp
    try rw [C1.out]
    refine hK9.out _ _ (fun _ => ?_) (fun hS9 => ?_)
    ·(try dsimp only); exact hS
    replace hS := hS9 (by decide)
    clear hK9 K9 hS9
    try simp only [Act.put, putZ, List.getElem_toArray, List.getElem_cons_zero, List.getElem_cons_succ]
    refine ltq 27 rfl ?_
    try simp only [Act.put, putZ, List.getElem_toArray, List.getElem_cons_zero, List.getElem_cons_succ]
    refine late_one (i := 28) rfl (by kernel_rfl) (fun K9 hK9 => ?_)
    go_simp
    refine hK9.out _ _ (fun _ => ?_) (fun hS9 => ?_)
    ·(try dsimp only); exact hS
    replace hS := hS9 (by decide)
    clear hK9 K9 hS9
    try simp only [Act.put, putZ, List.getElem_toArray, List.getElem_cons_zero, List.getElem_cons_succ]
    refine late_done (by kernel_rfl) ?_ _
    go_wp2
    go_ret
    exact ⟨ret_int (by rw [E.out]), HB2.out.drew⟩
  ·have C1 := hid c7
   have E := hid (show opCode d 5 nm tt sz = 6 by rw [E0.out]; simp [c3p, c6, c7])
   clear c6 c7
   as_aux_lemma =>
    go_upto_region 9 with fail
    refine late_start (fun W => W.rangeAt w.heap.size 0 cs ∧ W.cell? ⟨w.heap.size, 3, none⟩ = some (.slice a3 d.Nodes.length k3) ∧ W.cell? ⟨w.heap.size + 1, 0, none⟩ = some (.int .i64 5) ∧ W.cell? ⟨w.heap.size + 1, 1, none⟩ = some (.string nm) ∧ W.cell? ⟨w.heap.size + 1, 2, none⟩ = some (.string tt) ∧ W.cell? ⟨w.heap.size + 1, 3, none⟩ = some (.int .i64 sz)) 99 (by kernel_rfl) ?_ (fun hS => ?_)
    ·exact ⟨(World.rangeAt_drew _ _ _ _).2 HX2.out.all, x3, y0, y1, y2, y3⟩
    refine ltk 0 rfl ?_
    try simp only [Act.put, putZ, List.getElem_toArray, List.getElem_cons_zero, List.getElem_cons_succ]
    refine ltk 1 rfl ?_
    try simp only [Act.put, putZ, List.getElem_toArray, List.getElem_cons_zero, List.getElem_cons_succ]
    refine late_one (i := 2) rfl (by kernel_rfl) (fun K9 hK9 => ?_)
    go_simp
    refine hK9.out _ _ (fun _ => ?_) (fun hS9 => ?_)
    ·(try dsimp only); exact hS
    replace hS := hS9 (by decide)
    clear hK9 K9 hS9
    try simp only [Act.put, putZ, List.getElem_toArray, List.getElem_cons_zero, List.getElem_cons_succ]
    refine ltk 3 rfl ?_
    try simp only [Act.put, putZ, List.getElem_toArray, List.getElem_cons_zero, List.getElem_cons_succ]
    refine lsk 4 rfl ?_
    try simp only [Act.put, putZ, List.getElem_toArray, List.getElem_cons_zero, List.getElem_cons_succ]
    refine lsk 5 rfl ?_
    try simp only [Act.put, putZ, List.getElem_toArray, List.getElem_cons_zero, List.getElem_cons_succ]
    refine lsk 6 rfl ?_
    try simp only [Act.put, putZ, List.getElem_toArray, List.getElem_cons_zero, List.getElem_cons_succ]
    refine lsk 7 rfl ?_
    try simp only [Act.put, putZ, List.getElem_toArray, List.getElem_cons_zero, List.getElem_cons_succ]
    refine lsk 8 rfl ?_
    try simp only [Act.put, putZ, List.getElem_toArray, List.getElem_cons_zero, List.getElem_cons_succ]
    refine lsk 9 rfl ?_
    try simp only [Act.put, putZ, List.getElem_toArray, List.getElem_cons_zero, List.getElem_cons_succ]
    refine lsk 10 rfl ?_
    try simp only [Act.put, putZ, List.getElem_toArray, List.getElem_cons_zero, List.getElem_cons_succ]
    refine lsk 11 rfl ?_
    try simp only [Act.put, putZ, List.getElem_toArray, List.getElem_cons_zero, List.getElem_cons_succ]
    refine lsk 12 rfl ?_
    try simp only [Act.put, putZ, List.getElem_toArray, List.getElem_cons_zero, List.getElem_cons_succ]
    refine lsk 13 rfl ?_
    try simp only [Act.put, putZ, List.getElem_toArray, List.getElem_cons_zero, List.getElem_cons_succ]
    refine lsk 14 rfl ?_
    try simp only [Act.put, putZ, List.getElem_toArray, List.getElem_cons_zero, List.getElem_cons_succ]
    refine lsk 15 rfl ?_
    try simp only [Act.put, putZ, List.getElem_toArray, List.getElem_cons_zero, List.getElem_cons_succ]
    refine ltq 16 rfl ?_
    try simp only [Act.put, putZ, List.getElem_toArray, List.getElem_cons_zero, List.getElem_cons_succ]
    refine ltq 17 rfl ?_
    try simp only [Act.put, putZ, List.getElem_toArray, List.getElem_cons_zero, List.getElem_cons_succ]
    refine ltq 18 rfl ?_
    try simp only [Act.put, putZ, List.getElem_toArray, List.getElem_cons_zero, List.getElem_cons_succ]
    refine ltq 19 rfl ?_
    try simp only [Act.put, putZ, List.getElem_toArray, List.getElem_cons_zero, List.getElem_cons_succ]
    refine late_one (i := 20) rfl (by kernel_rfl) (fun K9 hK9 => ?_)
    go_simp
    refine hK9.out _ _ (fun _ => ?_) (fun hS9 => ?_)
    ·(try dsimp only); exact hS
    replace hS := hS9 (by decide)
    clear hK9 K9 hS9
    try simp only [Act.put, putZ, List.getElem_toArray, List.getElem_cons_zero, List.getElem_cons_succ]
    refine ltq 21 rfl ?_
    try simp only [Act.put, putZ, List.getElem_toArray, List.getElem_cons_zero, List.getElem_cons_succ]
    refine ltq 22 rfl ?_
    try simp only [Act.put, putZ, List.getElem_toArray, List.getElem_cons_zero, List.getElem_cons_succ]
    refine ltq 23 rfl ?_
    try simp only [Act.put, putZ, List.getElem_toArray, List.getElem_cons_zero, List.getElem_cons_succ]
    refine ltq 24 rfl ?_
    try simp only [Act.put, putZ, List.getElem_toArray, List.getElem_cons_zero, List.getElem_cons_succ]
    refine ltq 25 rfl ?_
    try simp only [Act.put, putZ, List.getElem_toArray, List.getElem_cons_zero, List.getElem_cons_succ]
    refine late_one (i := 26) rfl (by kernel_rfl) (fun K9 hK9 => ?_)
    go_simp
    try rw [C1.out]
    refine hK9.out _ _ (fun _ => ?_) (fun hS9 => ?_)
    ·(try dsimp only); exact hS
    replace hS := hS9 (by decide)
    clear hK9 K9 hS9
    try simp only [Act.put, putZ, List.getElem_toArray, List.getElem_cons_zero, List.getElem_cons_succ]
    refine ltq 27 rfl ?_
    try simp only [Act.put, putZ, List.getElem_toArray, List.getElem_cons_zero, List.getElem_cons_succ]
    refine late_one (i := 28) rfl (by kernel_rfl) (fun K9 hK9 => ?_)
    go_simp
    refine hK9.out _ _ (fun _ => ?_) (fun hS9 => ?_)
    ·(try dsimp only); exact hS
    replace hS := hS9 (by decide)
    clear hK9 K9 hS9
    try simp only [Act.put, putZ, List.getElem_toArray, List.getElem_cons_zero, List.getElem_cons_succ]
    refine late_done (by kernel_rfl) ?_ _
    go_wp2
    go_ret
    exact ⟨ret_int (by rw [E.out]), HB2.out.drew⟩
 ·have hr := HR.out
  by_cases c3 : id = 0
  ·have E := hid (show opCode d 6 nm tt sz = 3 by rw [E0.out]; simp [c3])
   have hni : ¬ 0 < id := by omega
   go_wp2
   go_ret
   exact ⟨ret_int (by rw [E.out]), HB2.out⟩
  have c3p : 0 < id := by have := NN.out; omega
  by_cases c6 : d.Turns.length = 40
  ·have E := hid (show opCode d 6 nm tt sz = 4 by rw [E0.out]; simp [c3p, c6])
   have c6i : ((d.Turns.length : Int) == 40) = true := by rw [beq_iff_eq]; omega
   clear c6
   go_wp2
   go_ret
   exact ⟨ret_int (by rw [E.out]), HB2.out⟩
  have c6i : ((d.Turns.length : Int) == 40) = false := by rw [beq_eq_false_iff_ne]; omega
  have E := hid (show opCode d 6 nm tt sz = 0 by rw [E0.out]; simp [c3p, c6])
  clear c6
  as_aux_lemma =>
   go_upto_region 9 with fail
   refine late_start (fun W => W.rangeAt w.heap.size 0 cs ∧ W.cell? ⟨w.heap.size, 3, none⟩ = some (.slice a3 d.Nodes.length k3) ∧ W.cell? ⟨w.heap.size + 1, 0, none⟩ = some (.int .i64 6) ∧ W.cell? ⟨w.heap.size + 1, 1, none⟩ = some (.string nm) ∧ W.cell? ⟨w.heap.size + 1, 2, none⟩ = some (.string tt) ∧ W.cell? ⟨w.heap.size + 1, 3, none⟩ = some (.int .i64 sz)) 99 (by kernel_rfl) ?_ (fun hS => ?_)
   ·exact ⟨(World.rangeAt_drew _ _ _ _).2 HX2.out.all, x3, y0, y1, y2, y3⟩
   refine ltk 0 rfl ?_
   try simp only [Act.put, putZ, List.getElem_toArray, List.getElem_cons_zero, List.getElem_cons_succ]
   refine ltk 1 rfl ?_
   try simp only [Act.put, putZ, List.getElem_toArray, List.getElem_cons_zero, List.getElem_cons_succ]
   refine late_one (i := 2) rfl (by kernel_rfl) (fun K9 hK9 => ?_)
   go_simp
   refine hK9.out _ _ (fun _ => ?_) (fun hS9 => ?_)
   ·(try dsimp only); exact hS
   replace hS := hS9 (by decide)
   clear hK9 K9 hS9
   try simp only [Act.put, putZ, List.getElem_toArray, List.getElem_cons_zero, List.getElem_cons_succ]
   refine ltk 3 rfl ?_
   try simp only [Act.put, putZ, List.getElem_toArray, List.getElem_cons_zero, List.getElem_cons_succ]
   refine lsk 4 rfl ?_
   try simp only [Act.put, putZ, List.getElem_toArray, List.getElem_cons_zero, List.getElem_cons_succ]
   refine lsk 5 rfl ?_
   try simp only [Act.put, putZ, List.getElem_toArray, List.getElem_cons_zero, List.getElem_cons_succ]
   refine lsk 6 rfl ?_
   try simp only [Act.put, putZ, List.getElem_toArray, List.getElem_cons_zero, List.getElem_cons_succ]
   refine lsk 7 rfl ?_
   try simp only [Act.put, putZ, List.getElem_toArray, List.getElem_cons_zero, List.getElem_cons_succ]
   refine lsk 8 rfl ?_
   try simp only [Act.put, putZ, List.getElem_toArray, List.getElem_cons_zero, List.getElem_cons_succ]
   refine lsk 9 rfl ?_
   try simp only [Act.put, putZ, List.getElem_toArray, List.getElem_cons_zero, List.getElem_cons_succ]
   refine lsk 10 rfl ?_
   try simp only [Act.put, putZ, List.getElem_toArray, List.getElem_cons_zero, List.getElem_cons_succ]
   refine lsk 11 rfl ?_
   try simp only [Act.put, putZ, List.getElem_toArray, List.getElem_cons_zero, List.getElem_cons_succ]
   refine lsk 12 rfl ?_
   try simp only [Act.put, putZ, List.getElem_toArray, List.getElem_cons_zero, List.getElem_cons_succ]
   refine lsk 13 rfl ?_
   try simp only [Act.put, putZ, List.getElem_toArray, List.getElem_cons_zero, List.getElem_cons_succ]
   refine lsk 14 rfl ?_
   try simp only [Act.put, putZ, List.getElem_toArray, List.getElem_cons_zero, List.getElem_cons_succ]
   refine lsk 15 rfl ?_
   try simp only [Act.put, putZ, List.getElem_toArray, List.getElem_cons_zero, List.getElem_cons_succ]
   refine ltq 16 rfl ?_
   try simp only [Act.put, putZ, List.getElem_toArray, List.getElem_cons_zero, List.getElem_cons_succ]
   refine ltq 17 rfl ?_
   try simp only [Act.put, putZ, List.getElem_toArray, List.getElem_cons_zero, List.getElem_cons_succ]
   refine ltq 18 rfl ?_
   try simp only [Act.put, putZ, List.getElem_toArray, List.getElem_cons_zero, List.getElem_cons_succ]
   refine ltq 19 rfl ?_
   try simp only [Act.put, putZ, List.getElem_toArray, List.getElem_cons_zero, List.getElem_cons_succ]
   refine late_one (i := 20) rfl (by kernel_rfl) (fun K9 hK9 => ?_)
   go_simp
   refine hK9.out _ _ (fun _ => ?_) (fun hS9 => ?_)
   ·(try dsimp only); exact hS
   replace hS := hS9 (by decide)
   clear hK9 K9 hS9
   try simp only [Act.put, putZ, List.getElem_toArray, List.getElem_cons_zero, List.getElem_cons_succ]
   refine ltq 21 rfl ?_
   try simp only [Act.put, putZ, List.getElem_toArray, List.getElem_cons_zero, List.getElem_cons_succ]
   refine lsk 22 rfl ?_
   try simp only [Act.put, putZ, List.getElem_toArray, List.getElem_cons_zero, List.getElem_cons_succ]
   refine lsk 23 rfl ?_
   try simp only [Act.put, putZ, List.getElem_toArray, List.getElem_cons_zero, List.getElem_cons_succ]
   refine lsk 24 rfl ?_
   try simp only [Act.put, putZ, List.getElem_toArray, List.getElem_cons_zero, List.getElem_cons_succ]
   refine lsk 25 rfl ?_
   try simp only [Act.put, putZ, List.getElem_toArray, List.getElem_cons_zero, List.getElem_cons_succ]
   refine lsk 26 rfl ?_
   try simp only [Act.put, putZ, List.getElem_toArray, List.getElem_cons_zero, List.getElem_cons_succ]
   refine ltq 27 rfl ?_
   try simp only [Act.put, putZ, List.getElem_toArray, List.getElem_cons_zero, List.getElem_cons_succ]
   refine late_one (i := 28) rfl (by kernel_rfl) (fun K9 hK9 => ?_)
   go_simp
   refine hK9.out _ _ (fun _ => ?_) (fun hS9 => ?_)
   ·(try dsimp only); exact hS
   replace hS := hS9 (by decide)
   clear hK9 K9 hS9
   try simp only [Act.put, putZ, List.getElem_toArray, List.getElem_cons_zero, List.getElem_cons_succ]
   refine late_done (by kernel_rfl) ?_ _
   go_wp2
   go_ret
   exact ⟨ret_int (by rw [E.out]), HB2.out.drew⟩
 ·have hr := HR.out
  have E := hid (show opCode d 7 nm tt sz = 0 by rw [E0.out]; simp)
  have hE := hid (show True from trivial)
  as_aux_lemma =>
   go_upto_region 9 with fail
   refine late_start (fun W => W.rangeAt w.heap.size 0 cs ∧ W.cell? ⟨w.heap.size, 3, none⟩ = some (.slice a3 d.Nodes.length k3) ∧ W.cell? ⟨w.heap.size + 1, 0, none⟩ = some (.int .i64 7) ∧ W.cell? ⟨w.heap.size + 1, 1, none⟩ = some (.string nm) ∧ W.cell? ⟨w.heap.size + 1, 2, none⟩ = some (.string tt) ∧ W.cell? ⟨w.heap.size + 1, 3, none⟩ = some (.int .i64 sz)) 99 (by kernel_rfl) ?_ (fun hS => ?_)
   ·exact ⟨(World.rangeAt_drew _ _ _ _).2 HX2.out.all, x3, y0, y1, y2, y3⟩
   refine ltk 0 rfl ?_
   try simp only [Act.put, putZ, List.getElem_toArray, List.getElem_cons_zero, List.getElem_cons_succ]
   refine ltk 1 rfl ?_
   try simp only [Act.put, putZ, List.getElem_toArray, List.getElem_cons_zero, List.getElem_cons_succ]
   refine late_one (i := 2) rfl (by kernel_rfl) (fun K9 hK9 => ?_)
   go_simp
   refine hK9.out _ _ (fun _ => ?_) (fun hS9 => ?_)
   ·(try dsimp only); exact hS
   replace hS := hS9 (by decide)
   clear hK9 K9 hS9
   try simp only [Act.put, putZ, List.getElem_toArray, List.getElem_cons_zero, List.getElem_cons_succ]
   refine ltk 3 rfl ?_
   try simp only [Act.put, putZ, List.getElem_toArray, List.getElem_cons_zero, List.getElem_cons_succ]
   refine lsk 4 rfl ?_
   try simp only [Act.put, putZ, List.getElem_toArray, List.getElem_cons_zero, List.getElem_cons_succ]
   refine lsk 5 rfl ?_
   try simp only [Act.put, putZ, List.getElem_toArray, List.getElem_cons_zero, List.getElem_cons_succ]
   refine lsk 6 rfl ?_
   try simp only [Act.put, putZ, List.getElem_toArray, List.getElem_cons_zero, List.getElem_cons_succ]
   refine lsk 7 rfl ?_
   try simp only [Act.put, putZ, List.getElem_toArray, List.getElem_cons_zero, List.getElem_cons_succ]
   refine lsk 8 rfl ?_
   try simp only [Act.put, putZ, List.getElem_toArray, List.getElem_cons_zero, List.getElem_cons_succ]
   refine lsk 9 rfl ?_
   try simp only [Act.put, putZ, List.getElem_toArray, List.getElem_cons_zero, List.getElem_cons_succ]
   refine lsk 10 rfl ?_
   try simp only [Act.put, putZ, List.getElem_toArray, List.getElem_cons_zero, List.getElem_cons_succ]
   refine lsk 11 rfl ?_
   try simp only [Act.put, putZ, List.getElem_toArray, List.getElem_cons_zero, List.getElem_cons_succ]
   refine lsk 12 rfl ?_
   try simp only [Act.put, putZ, List.getElem_toArray, List.getElem_cons_zero, List.getElem_cons_succ]
   refine lsk 13 rfl ?_
   try simp only [Act.put, putZ, List.getElem_toArray, List.getElem_cons_zero, List.getElem_cons_succ]
   refine lsk 14 rfl ?_
   try simp only [Act.put, putZ, List.getElem_toArray, List.getElem_cons_zero, List.getElem_cons_succ]
   refine lsk 15 rfl ?_
   try simp only [Act.put, putZ, List.getElem_toArray, List.getElem_cons_zero, List.getElem_cons_succ]
   refine ltq 16 rfl ?_
   try simp only [Act.put, putZ, List.getElem_toArray, List.getElem_cons_zero, List.getElem_cons_succ]
   refine ltq 17 rfl ?_
   try simp only [Act.put, putZ, List.getElem_toArray, List.getElem_cons_zero, List.getElem_cons_succ]
   refine ltq 18 rfl ?_
   try simp only [Act.put, putZ, List.getElem_toArray, List.getElem_cons_zero, List.getElem_cons_succ]
   refine ltq 19 rfl ?_
   try simp only [Act.put, putZ, List.getElem_toArray, List.getElem_cons_zero, List.getElem_cons_succ]
   refine late_one (i := 20) rfl (by kernel_rfl) (fun K9 hK9 => ?_)
   go_simp
   refine hK9.out _ _ (fun _ => ?_) (fun hS9 => ?_)
   ·(try dsimp only); exact hS
   replace hS := hS9 (by decide)
   clear hK9 K9 hS9
   try simp only [Act.put, putZ, List.getElem_toArray, List.getElem_cons_zero, List.getElem_cons_succ]
   refine ltq 21 rfl ?_
   try simp only [Act.put, putZ, List.getElem_toArray, List.getElem_cons_zero, List.getElem_cons_succ]
   refine lsk 22 rfl ?_
   try simp only [Act.put, putZ, List.getElem_toArray, List.getElem_cons_zero, List.getElem_cons_succ]
   refine lsk 23 rfl ?_
   try simp only [Act.put, putZ, List.getElem_toArray, List.getElem_cons_zero, List.getElem_cons_succ]
   refine lsk 24 rfl ?_
   try simp only [Act.put, putZ, List.getElem_toArray, List.getElem_cons_zero, List.getElem_cons_succ]
   refine lsk 25 rfl ?_
   try simp only [Act.put, putZ, List.getElem_toArray, List.getElem_cons_zero, List.getElem_cons_succ]
   refine lsk 26 rfl ?_
   try simp only [Act.put, putZ, List.getElem_toArray, List.getElem_cons_zero, List.getElem_cons_succ]
   refine ltq 27 rfl ?_
   try simp only [Act.put, putZ, List.getElem_toArray, List.getElem_cons_zero, List.getElem_cons_succ]
   refine late_one (i := 28) rfl (by kernel_rfl) (fun K9 hK9 => ?_)
   go_simp
   refine hK9.out _ _ (fun _ => ?_) (fun hS9 => ?_)
   ·(try dsimp only); exact hS
   replace hS := hS9 (by decide)
   clear hK9 K9 hS9
   try simp only [Act.put, putZ, List.getElem_toArray, List.getElem_cons_zero, List.getElem_cons_succ]
   refine late_done (by kernel_rfl) ?_ _
   go_wp2
   go_ret
   exact ⟨ret_int (by rw [E.out]), HB2.out.drew⟩
end Go.Proofs.YtdjcjilipgpnmaaGreat
