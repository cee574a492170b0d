/- Operations on a disk, kind by kind (printed by genopok.py). -/
import Derived.Test.YtdjcjilipgpnmaaGreatKDirP
section
set_option linter.unusedSimpArgs false
set_option linter.unusedVariables false
namespace Go.G6
open Go Go.RowKit Rep
theorem range_tch {bs : List Nat} {W V : World} {b o : Nat} {cs : List Value} (h : W.rangeAt b o cs) (hT : Tch bs W V) (hn : b ∉ bs) : V.rangeAt b o cs := fun j v hv => cellc hT (h j v hv) hn
end Go.G6
namespace Go.Proofs.YtdjcjilipgpnmaaGreat
open Go Go.RowKit Go.G6
set_option maxHeartbeats 3000000
set_option maxRecDepth 10000
theorem s_DiskRead {w : World} {bs : List Nat} {cs : List Value} {d : DiskD} (h : Rep.pt w bs cs d) (hok : diskOk d = true) (s : ByteArray) :
  Calls Tryz.prog 49 #[.agg cs.toArray, .string s] w (RetLB w 5 (readL d s) (thereB d s)) := by
 obtain ⟨b3, b4, b5, a3, l3, k3, a4, l4, k4, a5, l5, k5, rfl, hcs, h0, h1, h2, h3, h4, h5⟩ := open_Disk h
 obtain rfl := h3.len_eq
 obtain ⟨i0, hi, hz0, hz1, hz2⟩ := info_parts info_byte
 have H0 := hid h; have HOK := hid hok; have H3 := hid h3
 have HX := hid (Bx.new w cs.toArray 35 rfl)
 have I0 := hid (show (Tryz.prog.info? 35).map (·.size) = some cs.length by rw [hcs]; kernel_rfl)
 have x3 := bx_at HX.out 3 (v := .slice a3 d.Nodes.length k3) (by rw [hcs]; rfl)
 have m3 := h3.max
 clear h h0 h1 h2 h3 h4 h5 hcs hok
 have hb0 := hid ((Below.refl w.heap.size w).alloc (Nat.le_refl _) (.cells cs.toArray 35))
 obtain ⟨wA, hwA⟩ : ∃ wA, wA = w.alloc (.cells cs.toArray 35) := ⟨_, rfl⟩
 rw [← hwA] at hb0 x3 HX
 have L0 := hid (World.block_lt_of_cell? _ _ x3)
 have X3 := hid x3
 go_enter Tryz.func49, Tryz.ntmps49
 go_upto_region 1 with fail
 rw [← hwA]
 clear hwA x3
 go_wp2_with (first | (refine wpList_load_mid rfl 35 _ rfl w.heap.size 0 rfl cs _ HX.out.all Tryz.underlying35 rfl I0.out ?_))
 refine (s_DiskDir (grow H0.out hb0.out) (ok_small HOK.out) HOK.out (diskOk_parts HOK.out).1).mono ?_
 rintro e w1 ⟨v1, b1, rfl, hO1, hb1⟩
 obtain ⟨p1, c1, rfl⟩ := hO1.slice
 obtain ⟨b1s, _, s1⟩ := hO1.slcL
 have HB1 := hid (hb0.out.trans (hb1.mono hb0.out.size))
 have S1 := hid s1
 have HX1 := hid (Bx.below hb1 L0.out HX.out)
 have X31 := hid (((bcell hb1).1 _ 3 L0.out).trans X3.out)
 clear hO1 hb1 s1
 go_wp2_with fail
 refine (s_l03Find S1.out s).mono ?_
 rintro e w2 ⟨rfl, hb2⟩
 have HB2 := hid (HB1.out.trans (hb2.mono HB1.out.size))
 have l1 : w.heap.size < w1.heap.size := HX1.out.f.lt
 have HX2 := hid (Bx.below hb2 l1 HX1.out)
 have x3 := ((bcell hb2).1 _ 3 l1).trans X31.out
 clear hb2 S1 X31 l1 HX HX1
 obtain ⟨id, hid1⟩ : ∃ id, id = dirFind (dirAll d) s := ⟨_, rfl⟩
 rw [← hid1]
 by_cases hz : id = 0
 ·have E := hid (show thereB d s = false ∧ readL d s = [] by
   have h1 : thereB d s = false := by unfold thereB; rw [← hid1, decide_eq_true hz]; rfl
   exact ⟨h1, by unfold readL; rw [h1]; rfl⟩)
  clear hid1
  subst hz
  go_wp2
  go_ret2
  exact ⟨_, [], by rw [E.out.1]; rfl, by rw [E.out.2]; exact OwnL.nil _ _ _, HB2.out⟩
 obtain ⟨j, hj, hn, hid2⟩ := node_of HOK.out s (by rw [← hid1]; exact hz)
 have E := hid (show thereB d s = true ∧ readL d s = d.Nodes[j].Body by
  have h1 : thereB d s = true := by unfold thereB; rw [← hid1, decide_eq_false hz]; rfl
  exact ⟨h1, by unfold readL; rw [if_pos h1]; exact readB_at hj hn⟩)
 obtain ⟨g1, o1, cs1, _, rfl, hg1, hp1, _, hA1⟩ := (H3.out.grow HB2.out).elem j hj
 obtain ⟨y1, y2, e1, n1, f1, e2, n2, f2, _, rfl, q1, q2, q3⟩ := open_Node hp1
 obtain rfl := q2.len_eq
 have c1 : w2.cell? ⟨g1, o1 + j * 3 + 1, none⟩ = some _ := hA1 1 _ rfl
 have hsm := (node_small HOK.out d.Nodes[j] (List.getElem_mem hj)).1
 rw [← hid1] at hn
 have HN := hid hn; have HQ := hid q2; have HSM := hid hsm
 have hji : (j : Int) < (d.Nodes.length : Int) := by omega
 have hzi : ¬ id = 0 := hz
 have HB2d := hid HB2.out.drew
 obtain ⟨B, hB⟩ : ∃ B, B = d.Nodes[j].Body := ⟨_, rfl⟩
 rw [← hB] at HQ HSM c1
 rw [← hB] at E
 clear hn hsm hp1 hA1 q1 q2 q3 hid1 hid2 hB hz
 have C1 := hid c1
 clear c1
 go_wp2_with fail
 refine late_start (fun W => W.cell? ⟨w.heap.size, 3, none⟩ = some (.slice (some ⟨g1, o1, none⟩) d.Nodes.length k3) ∧ W.rangeAt w.heap.size 0 cs ∧ W.cell? ⟨g1, o1 + j * 3 + 1, none⟩ = some (.slice e1 B.length f1) ∧ Below w2.heap.size w2 W) 99 (by kernel_rfl) ?_ (fun hS => ?_)
 ·exact ⟨x3, (World.rangeAt_drew _ _ _ _).2 HX2.out.all, C1.out, (Below.refl _ _).drew⟩
 refine late_genw (fun wD hwD => ?_)
 have hsD : wD.heap.size = w2.heap.size := by rw [hwD]; rfl
 rw [← hwD] at hS
 clear hwD
 refine ltk 1 rfl ?_
 try simp only [Act.put, putZ, List.getElem_toArray, List.getElem_cons_zero, List.getElem_cons_succ]
 refine ltk 2 rfl ?_
 try simp only [Act.put, putZ, List.getElem_toArray, List.getElem_cons_zero, List.getElem_cons_succ]
 refine late_take (i := 3) (v := .agg cs.toArray) rfl (by kernel_rfl) (fun _ _ _ h => h) (by rfl) (fun W hW => exec_load_mid 35 _ rfl w.heap.size 0 rfl cs _ hW.2.1 Tryz.underlying35 rfl I0.out) hS ?_
 try simp only [Act.put, putZ, List.getElem_toArray, List.getElem_cons_zero, List.getElem_cons_succ]
 refine ltk 4 rfl ?_
 try simp only [Act.put, putZ, List.getElem_toArray, List.getElem_cons_zero, List.getElem_cons_succ]
 refine late_two (i := 0) (j := 5) rfl rfl (by kernel_rfl) (fun K9 hK9 => ?_) (fun K9 hK9 => ?_)
 ·as_aux_lemma =>
   go_simp
   have HO := hid (show OwnL w2.heap.size (wD.alloc (.cells #[] 5)) 5 (.slice (some ⟨w2.heap.size, 0, none⟩) 0 0) [w2.heap.size] ([] : List UInt8) from ownL_empty hsD.symm (by omega))
   refine hK9.out _ _ (fun _ => ?_) (fun hS9 => ?_)
   ·(try dsimp only); exact ⟨cellc ((Tch.refl [] _).alloc _) hS.1 (by simp), range_below hS.2.1 ((Below.refl _ _).alloc (Nat.le_refl _) _), cellc ((Tch.refl [] _).alloc _) hS.2.2.1 (by simp), hS.2.2.2.alloc hS.2.2.2.size _⟩
   replace hS := hS9 (by decide)
   clear hK9 K9 hS9
   try simp only [Act.put, putZ, List.getElem_toArray, List.getElem_cons_zero, List.getElem_cons_succ]
   have hb5 : Below w2.heap.size w2 (wD.alloc (.cells #[] 5)) := hS.2.2.2
   refine late_genw (fun w5 hw5 => ?_)
   rw [← hw5] at HO hb5 hS
   clear hw5
   refine late_one (i := 5) rfl (by kernel_rfl) (fun K9 hK9 => ?_)
   go_simp
   refine (s_l03At (grow H0.out (HB2.out.trans (hb5.mono HB2.out.size))) id).mono ?_
   rintro e w6 ⟨rfl, hb6⟩
   rw [HN.out]
   have HO6 := hid (HO.out.grow hb6)
   go_wp2_with fail
   refine hK9.out _ _ (fun _ => ?_) (fun hS9 => ?_)
   ·(try dsimp only); exact ⟨cellc (Tch.of_below (bs := []) hb6) hS.1 (by simp), range_below hS.2.1 hb6, cellc (Tch.of_below (bs := []) hb6) hS.2.2.1 (by simp), hS.2.2.2.trans (hb6.mono hS.2.2.2.size)⟩
   replace hS := hS9 (by decide)
   clear hK9 K9 hS9
   try simp only [Act.put, putZ, List.getElem_toArray, List.getElem_cons_zero, List.getElem_cons_succ]
   have HB6 := hid (HB2.out.trans (hS.2.2.2.mono HB2.out.size))
   have HQ6 := hid (HQ.out.grow hS.2.2.2)
   clear hb6 hb5 HO
   refine ltk 6 rfl ?_
   try simp only [Act.put, putZ, List.getElem_toArray, List.getElem_cons_zero, List.getElem_cons_succ]
   refine ltk 7 rfl ?_
   try simp only [Act.put, putZ, List.getElem_toArray, List.getElem_cons_zero, List.getElem_cons_succ]
   refine ltk 8 rfl ?_
   try simp only [Act.put, putZ, List.getElem_toArray, List.getElem_cons_zero, List.getElem_cons_succ]
   refine late_one (i := 9) rfl (by kernel_rfl) (fun K9 hK9 => ?_)
   refine step_append rfl _ _ 54 rfl 5 i0 (.int .u8 0) 1 Tryz.underlying54 hi hz0 hz1 hz2 rfl (lo := w2.heap.size) (xs := ([] : List UInt8)) rfl HO6.out (b2 := []) (ys := B) rfl HQ6.out.srcF List.nodup_nil (fun b hb => by cases hb) ?u2 ?u3 ?u4 ?_
   try (case u2 => have := HSM.out; simp; omega)
   try (case u3 => have := HSM.out; simp; omega)
   try (case u4 => exact hS.2.2.2.size)
   intro p7 c7 w7 b7 hO7 hT7 hm7
   rw [List.nil_append, show ([] : List UInt8).length + B.length = B.length by simp] at hO7
   have HO7 := hid hO7
   have HB7 := hid (below_tch HB6.out hT7 (fun x hx => by have := HO6.out.lts x hx; have := HB2.out.size; omega))
   clear hO7
   refine hK9.out _ _ (fun _ => ?_) (fun hS9 => ?_)
   ·(try dsimp only); exact ⟨cellc hT7 hS.1 (fun hm => by have h1 := (HO6.out.lts _ hm).1; have h2 := HX2.out.f.lt; (try simp at h1); omega), range_tch hS.2.1 hT7 (fun hm => by have h1 := (HO6.out.lts _ hm).1; have h2 := HX2.out.f.lt; (try simp at h1); omega), cellc hT7 hS.2.2.1 (fun hm => by have h1 := (HO6.out.lts _ hm).1; (try simp at h1); omega), (below_tch hS.2.2.2 hT7 HO6.out.lts)⟩
   replace hS := hS9 (by decide)
   clear hK9 K9 hS9
   try simp only [Act.put, putZ, List.getElem_toArray, List.getElem_cons_zero, List.getElem_cons_succ]
   clear hT7 hm7 HO6 HB6 HQ6
   refine ltk 10 rfl ?_
   try simp only [Act.put, putZ, List.getElem_toArray, List.getElem_cons_zero, List.getElem_cons_succ]
   refine late_one (i := 11) rfl (by kernel_rfl) (fun K9 hK9 => ?_)
   go_simp
   refine hK9.out _ _ (fun _ => ?_) (fun hS9 => ?_)
   ·(try dsimp only); exact hS
   replace hS := hS9 (by decide)
   clear hK9 K9 hS9
   try simp only [Act.put, putZ, List.getElem_toArray, List.getElem_cons_zero, List.getElem_cons_succ]
   refine late_done (by kernel_rfl) ?_ _
   go_wp2
   go_ret2
   exact ⟨.slice p7 _ c7, b7, by rw [E.out.1]; rfl, by rw [E.out.2]; exact HO7.out.mono HB2.out.size, HB7.out⟩
 ·as_aux_lemma =>
   go_simp
   have hbd : Below w2.heap.size w2 wD := hS.2.2.2
   refine (s_l03At (grow H0.out (HB2.out.trans (hbd.mono HB2.out.size))) id).mono ?_
   rintro e w5 ⟨rfl, hb5⟩
   rw [HN.out]
   go_wp2_with fail
   refine hK9.out _ _ (fun _ => ?_) (fun hS9 => ?_)
   ·(try dsimp only); exact ⟨cellc (Tch.of_below (bs := []) hb5) hS.1 (by simp), range_below hS.2.1 hb5, cellc (Tch.of_below (bs := []) hb5) hS.2.2.1 (by simp), hS.2.2.2.trans (hb5.mono hS.2.2.2.size)⟩
   replace hS := hS9 (by decide)
   clear hK9 K9 hS9
   try simp only [Act.put, putZ, List.getElem_toArray, List.getElem_cons_zero, List.getElem_cons_succ]
   clear hb5 hbd
   refine ltk 6 rfl ?_
   try simp only [Act.put, putZ, List.getElem_toArray, List.getElem_cons_zero, List.getElem_cons_succ]
   refine ltk 7 rfl ?_
   try simp only [Act.put, putZ, List.getElem_toArray, List.getElem_cons_zero, List.getElem_cons_succ]
   refine ltk 8 rfl ?_
   try simp only [Act.put, putZ, List.getElem_toArray, List.getElem_cons_zero, List.getElem_cons_succ]
   refine late_one (i := 0) rfl (by kernel_rfl) (fun K9 hK9 => ?_)
   go_simp
   have HO := hid (show OwnL w2.heap.size (w5.alloc (.cells #[] 5)) 5 (.slice (some ⟨w5.heap.size, 0, none⟩) 0 0) [w5.heap.size] ([] : List UInt8) from ownL_empty rfl hS.2.2.2.size)
   refine hK9.out _ _ (fun _ => ?_) (fun hS9 => ?_)
   ·(try dsimp only); exact ⟨cellc ((Tch.refl [] _).alloc _) hS.1 (by simp), range_below hS.2.1 ((Below.refl _ _).alloc (Nat.le_refl _) _), cellc ((Tch.refl [] _).alloc _) hS.2.2.1 (by simp), hS.2.2.2.alloc hS.2.2.2.size _⟩
   replace hS := hS9 (by decide)
   clear hK9 K9 hS9
   try simp only [Act.put, putZ, List.getElem_toArray, List.getElem_cons_zero, List.getElem_cons_succ]
   have hb6 : Below w2.heap.size w2 (w5.alloc (.cells #[] 5)) := hS.2.2.2
   refine late_genw (fun w6 hw6 => ?_)
   rw [← hw6] at HO hb6 hS
   clear hw6
   have HO6 := HO
   have HB6 := hid (HB2.out.trans (hb6.mono HB2.out.size))
   have HQ6 := hid (HQ.out.grow hb6)
   clear HO hb6
   refine late_one (i := 9) rfl (by kernel_rfl) (fun K9 hK9 => ?_)
   refine step_append rfl _ _ 54 rfl 5 i0 (.int .u8 0) 1 Tryz.underlying54 hi hz0 hz1 hz2 rfl (lo := w2.heap.size) (xs := ([] : List UInt8)) rfl HO6.out (b2 := []) (ys := B) rfl HQ6.out.srcF List.nodup_nil (fun b hb => by cases hb) ?z2 ?z3 ?z4 ?_
   try (case z2 => have := HSM.out; simp; omega)
   try (case z3 => have := HSM.out; simp; omega)
   try (case z4 => exact hS.2.2.2.size)
   intro p7 c7 w7 b7 hO7 hT7 hm7
   rw [List.nil_append, show ([] : List UInt8).length + B.length = B.length by simp] at hO7
   have HO7 := hid hO7
   have HB7 := hid (below_tch HB6.out hT7 (fun x hx => by have := HO6.out.lts x hx; have := HB2.out.size; omega))
   clear hO7
   refine hK9.out _ _ (fun _ => ?_) (fun hS9 => ?_)
   ·(try dsimp only); exact ⟨cellc hT7 hS.1 (fun hm => by have h1 := (HO6.out.lts _ hm).1; have h2 := HX2.out.f.lt; (try simp at h1); omega), range_tch hS.2.1 hT7 (fun hm => by have h1 := (HO6.out.lts _ hm).1; have h2 := HX2.out.f.lt; (try simp at h1); omega), cellc hT7 hS.2.2.1 (fun hm => by have h1 := (HO6.out.lts _ hm).1; (try simp at h1); omega), (below_tch hS.2.2.2 hT7 HO6.out.lts)⟩
   replace hS := hS9 (by decide)
   clear hK9 K9 hS9
   try simp only [Act.put, putZ, List.getElem_toArray, List.getElem_cons_zero, List.getElem_cons_succ]
   clear hT7 hm7 HO6 HB6 HQ6
   refine ltk 10 rfl ?_
   try simp only [Act.put, putZ, List.getElem_toArray, List.getElem_cons_zero, List.getElem_cons_succ]
   refine late_one (i := 11) rfl (by kernel_rfl) (fun K9 hK9 => ?_)
   go_simp
   refine hK9.out _ _ (fun _ => ?_) (fun hS9 => ?_)
   ·(try dsimp only); exact hS
   replace hS := hS9 (by decide)
   clear hK9 K9 hS9
   try simp only [Act.put, putZ, List.getElem_toArray, List.getElem_cons_zero, List.getElem_cons_succ]
   refine late_done (by kernel_rfl) ?_ _
   go_wp2
   go_ret2
   exact ⟨.slice p7 _ c7, b7, by rw [E.out.1]; rfl, by rw [E.out.2]; exact HO7.out.mono HB2.out.size, HB7.out⟩
end Go.Proofs.YtdjcjilipgpnmaaGreat
end
section
set_option linter.unusedSimpArgs false
set_option linter.unusedVariables false
namespace Go.G6
open Go Go.RowKit Rep
structure OpV (kd : Int) (nm tt : ByteArray) (sz : Int) (data : List UInt8) : Prop where
 k : kd = 1 ∨ kd = 2 ∨ kd = 3 ∨ kd = 4 ∨ kd = 5 ∨ kd = 6 ∨ kd = 7
 nl : nm.size ≤ maxLen
 tl : tt.size ≤ maxLen
 n : kd ≠ 7 → nameOk nm = true
 n7 : kd = 7 → nm.toList = []
 t : kd ≠ 5 → tt.toList = []
 t5 : kd = 5 → nameOk tt = true
 s : kd ≠ 4 → sz = 0
 e : kd ≠ 2 → data = []
def opB (kd sz : Int) (data : List UInt8) : Bool := (if kd = 4 then decide (0 ≤ sz) && decide (sz ≤ 60000) else true) && (if kd = 2 then decide (data.length ≤ 60000) else true)
end Go.G6
namespace Go.Proofs.YtdjcjilipgpnmaaGreat
open Go.RowKit Go.G6
set_option maxHeartbeats 3000000
set_option maxRecDepth 10000
theorem s_OpOk {w : World} {kd : Int} {nm tt : ByteArray} {sz : Int} {data : List UInt8} {bo : List Nat} {ao : Option Addr} {lo co : Nat} (hv : OpV kd nm tt sz data) (ho : Slc w bo ao lo co data) :
  Calls Tryz.prog 98 #[.agg #[.int .i64 kd, .string nm, .string tt, .int .i64 sz, .slice ao lo co]] w fun e w' => e = .returned (.bool (opB kd sz data)) ∧ Below w.heap.size w w' := by
 obtain rfl := ho.len_eq
 have m1 := ho.max
 clear ho
 have hb0 := hid ((Below.refl w.heap.size w).alloc (Nat.le_refl _) (.cells #[.int .i64 kd, .string nm, .string tt, .int .i64 sz, .slice ao data.length co] 67))
 have NL := hid hv.nl; have TL := hid hv.tl
 have HV := hid hv
 clear hv
 rcases HV.out.k with rfl | rfl | rfl | rfl | rfl | rfl | rfl
 ·skip
  have HNM := hid (HV.out.n (by decide))
  have ht := HV.out.t (by decide)
  obtain rfl := HV.out.s (by decide)
  obtain rfl := HV.out.e (by decide)
  clear HV
  go_enter Tryz.func98, Tryz.ntmps98
  go_wp2_with fail
  refine (s_NameOk nm NL.out _).mono ?_
  rintro e w9 ⟨rfl, rfl⟩
  rw [HNM.out]
  go_wp2
  all_goals (go_ret; exact ⟨ret_bool (by first | (simp_all [opB, inB]; done) | (simp_all [opB, inB]; omega) | (rw [Bool.eq_iff_iff]; simp; omega)), hb0.out⟩)
 ·skip
  have HNM := hid (HV.out.n (by decide))
  have ht := HV.out.t (by decide)
  obtain rfl := HV.out.s (by decide)
  clear HV
  obtain ⟨N, hN⟩ : ∃ N, N = data.length := ⟨_, rfl⟩
  have HB := hid (show opB 2 0 data = decide (N ≤ 60000) by simp [opB, hN])
  rw [← hN] at m1 hb0 ⊢
  clear hN
  go_enter Tryz.func98, Tryz.ntmps98
  go_wp2_with fail
  refine (s_NameOk nm NL.out _).mono ?_
  rintro e w9 ⟨rfl, rfl⟩
  rw [HNM.out]
  go_wp2
  all_goals (go_ret; exact ⟨ret_bool (by rw [HB.out]; first | (simp_all [opB, inB]; done) | (simp_all [opB, inB]; omega) | (rw [Bool.eq_iff_iff]; simp; omega)), hb0.out⟩)
 ·skip
  have HNM := hid (HV.out.n (by decide))
  have ht := HV.out.t (by decide)
  obtain rfl := HV.out.s (by decide)
  obtain rfl := HV.out.e (by decide)
  clear HV
  go_enter Tryz.func98, Tryz.ntmps98
  go_wp2_with fail
  refine (s_NameOk nm NL.out _).mono ?_
  rintro e w9 ⟨rfl, rfl⟩
  rw [HNM.out]
  go_wp2
  all_goals (go_ret; exact ⟨ret_bool (by first | (simp_all [opB, inB]; done) | (simp_all [opB, inB]; omega) | (rw [Bool.eq_iff_iff]; simp; omega)), hb0.out⟩)
 ·skip
  have HNM := hid (HV.out.n (by decide))
  have ht := HV.out.t (by decide)
  obtain rfl := HV.out.e (by decide)
  clear HV
  go_enter Tryz.func98, Tryz.ntmps98
  go_wp2_with fail
  refine (s_NameOk nm NL.out _).mono ?_
  rintro e w9 ⟨rfl, rfl⟩
  rw [HNM.out]
  go_wp2
  all_goals (go_ret; exact ⟨ret_bool (by first | (simp_all [opB, inB]; done) | (simp_all [opB, inB]; omega) | (rw [Bool.eq_iff_iff]; simp; omega)), hb0.out⟩)
 ·skip
  have HNM := hid (HV.out.n (by decide))
  have HTT := hid (HV.out.t5 rfl)
  obtain rfl := HV.out.s (by decide)
  obtain rfl := HV.out.e (by decide)
  clear HV
  go_enter Tryz.func98, Tryz.ntmps98
  go_wp2_with fail
  refine (s_NameOk nm NL.out _).mono ?_
  rintro e w9 ⟨rfl, rfl⟩
  rw [HNM.out]
  go_wp2_with fail
  refine (s_NameOk tt TL.out _).mono ?_
  rintro e w9 ⟨rfl, rfl⟩
  rw [HTT.out]
  go_wp2
  all_goals (go_ret; exact ⟨ret_bool (by first | (simp_all [opB, inB]; done) | (simp_all [opB, inB]; omega) | (rw [Bool.eq_iff_iff]; simp; omega)), hb0.out⟩)
 ·skip
  have HNM := hid (HV.out.n (by decide))
  have ht := HV.out.t (by decide)
  obtain rfl := HV.out.s (by decide)
  obtain rfl := HV.out.e (by decide)
  clear HV
  go_enter Tryz.func98, Tryz.ntmps98
  go_wp2_with fail
  refine (s_NameOk nm NL.out _).mono ?_
  rintro e w9 ⟨rfl, rfl⟩
  rw [HNM.out]
  go_wp2
  all_goals (go_ret; exact ⟨ret_bool (by first | (simp_all [opB, inB]; done) | (simp_all [opB, inB]; omega) | (rw [Bool.eq_iff_iff]; simp; omega)), hb0.out⟩)
 ·skip
  have hn := HV.out.n7 rfl
  have ht := HV.out.t (by decide)
  obtain rfl := HV.out.s (by decide)
  obtain rfl := HV.out.e (by decide)
  clear HV
  go_enter Tryz.func98, Tryz.ntmps98
  go_wp2
  all_goals (go_ret; exact ⟨ret_bool (by first | (simp_all [opB, inB]; done) | (simp_all [opB, inB]; omega) | (rw [Bool.eq_iff_iff]; simp; omega)), hb0.out⟩)
theorem i_OpOk {w : World} {kd : Int} {nm tt : ByteArray} {sz : Int} {data : List UInt8} {bo : List Nat} {ao : Option Addr} {lo co : Nat} (hv : OpV kd nm tt sz data) (ho : Slc w bo ao lo co data) :
  Calls Tryz.prog 67 #[.agg #[.int .i64 kd, .string nm, .string tt, .int .i64 sz, .slice ao lo co]] w fun e w' => e = .returned (.bool (opB kd sz data)) ∧ Below w.heap.size w w' := by
 obtain rfl := ho.len_eq
 have m1 := ho.max
 clear ho
 have hb0 := hid ((Below.refl w.heap.size w).alloc (Nat.le_refl _) (.cells #[.int .i64 kd, .string nm, .string tt, .int .i64 sz, .slice ao data.length co] 67))
 have NL := hid hv.nl; have TL := hid hv.tl
 have HV := hid hv
 clear hv
 rcases HV.out.k with rfl | rfl | rfl | rfl | rfl | rfl | rfl
 ·skip
  have HNM := hid (HV.out.n (by decide))
  have ht := HV.out.t (by decide)
  obtain rfl := HV.out.s (by decide)
  obtain rfl := HV.out.e (by decide)
  clear HV
  go_enter Tryz.func67, Tryz.ntmps67
  go_wp2_with fail
  refine (i_in _ _ _ _).mono ?_
  rintro e w9 ⟨rfl, rfl⟩
  rw [show inB 1 1 7 = true from rfl]
  go_wp2_with fail
  refine (i_NameOk nm NL.out _).mono ?_
  rintro e w9 ⟨rfl, rfl⟩
  rw [HNM.out]
  go_wp2
  all_goals (go_ret; exact ⟨ret_bool (by first | (simp_all [opB, inB]; done) | (simp_all [opB, inB]; omega) | (rw [Bool.eq_iff_iff]; simp; omega)), hb0.out⟩)
 ·skip
  have HNM := hid (HV.out.n (by decide))
  have ht := HV.out.t (by decide)
  obtain rfl := HV.out.s (by decide)
  clear HV
  obtain ⟨N, hN⟩ : ∃ N, N = data.length := ⟨_, rfl⟩
  have HB := hid (show opB 2 0 data = decide (N ≤ 60000) by simp [opB, hN])
  rw [← hN] at m1 hb0 ⊢
  clear hN
  go_enter Tryz.func67, Tryz.ntmps67
  go_wp2_with fail
  refine (i_in _ _ _ _).mono ?_
  rintro e w9 ⟨rfl, rfl⟩
  rw [show inB 2 1 7 = true from rfl]
  go_wp2_with fail
  refine (i_NameOk nm NL.out _).mono ?_
  rintro e w9 ⟨rfl, rfl⟩
  rw [HNM.out]
  go_wp2
  all_goals (go_ret; exact ⟨ret_bool (by rw [HB.out]; first | (simp_all [opB, inB]; done) | (simp_all [opB, inB]; omega) | (rw [Bool.eq_iff_iff]; simp; omega)), hb0.out⟩)
 ·skip
  have HNM := hid (HV.out.n (by decide))
  have ht := HV.out.t (by decide)
  obtain rfl := HV.out.s (by decide)
  obtain rfl := HV.out.e (by decide)
  clear HV
  go_enter Tryz.func67, Tryz.ntmps67
  go_wp2_with fail
  refine (i_in _ _ _ _).mono ?_
  rintro e w9 ⟨rfl, rfl⟩
  rw [show inB 3 1 7 = true from rfl]
  go_wp2_with fail
  refine (i_NameOk nm NL.out _).mono ?_
  rintro e w9 ⟨rfl, rfl⟩
  rw [HNM.out]
  go_wp2
  all_goals (go_ret; exact ⟨ret_bool (by first | (simp_all [opB, inB]; done) | (simp_all [opB, inB]; omega) | (rw [Bool.eq_iff_iff]; simp; omega)), hb0.out⟩)
 ·skip
  have HNM := hid (HV.out.n (by decide))
  have ht := HV.out.t (by decide)
  obtain rfl := HV.out.e (by decide)
  clear HV
  go_enter Tryz.func67, Tryz.ntmps67
  go_wp2_with fail
  refine (i_in _ _ _ _).mono ?_
  rintro e w9 ⟨rfl, rfl⟩
  rw [show inB 4 1 7 = true from rfl]
  go_wp2_with fail
  refine (i_NameOk nm NL.out _).mono ?_
  rintro e w9 ⟨rfl, rfl⟩
  rw [HNM.out]
  go_wp2_with fail
  refine (i_in _ _ _ _).mono ?_
  rintro e w9 ⟨rfl, rfl⟩
  go_wp2
  all_goals (go_ret; exact ⟨ret_bool (by first | (simp_all [opB, inB]; done) | (simp_all [opB, inB]; omega) | (rw [Bool.eq_iff_iff]; simp; omega)), hb0.out⟩)
 ·skip
  have HNM := hid (HV.out.n (by decide))
  have HTT := hid (HV.out.t5 rfl)
  obtain rfl := HV.out.s (by decide)
  obtain rfl := HV.out.e (by decide)
  clear HV
  go_enter Tryz.func67, Tryz.ntmps67
  go_wp2_with fail
  refine (i_in _ _ _ _).mono ?_
  rintro e w9 ⟨rfl, rfl⟩
  rw [show inB 5 1 7 = true from rfl]
  go_wp2_with fail
  refine (i_NameOk nm NL.out _).mono ?_
  rintro e w9 ⟨rfl, rfl⟩
  rw [HNM.out]
  go_wp2_with fail
  refine (i_NameOk tt TL.out _).mono ?_
  rintro e w9 ⟨rfl, rfl⟩
  rw [HTT.out]
  go_wp2
  all_goals (go_ret; exact ⟨ret_bool (by first | (simp_all [opB, inB]; done) | (simp_all [opB, inB]; omega) | (rw [Bool.eq_iff_iff]; simp; omega)), hb0.out⟩)
 ·skip
  have HNM := hid (HV.out.n (by decide))
  have ht := HV.out.t (by decide)
  obtain rfl := HV.out.s (by decide)
  obtain rfl := HV.out.e (by decide)
  clear HV
  go_enter Tryz.func67, Tryz.ntmps67
  go_wp2_with fail
  refine (i_in _ _ _ _).mono ?_
  rintro e w9 ⟨rfl, rfl⟩
  rw [show inB 6 1 7 = true from rfl]
  go_wp2_with fail
  refine (i_NameOk nm NL.out _).mono ?_
  rintro e w9 ⟨rfl, rfl⟩
  rw [HNM.out]
  go_wp2
  all_goals (go_ret; exact ⟨ret_bool (by first | (simp_all [opB, inB]; done) | (simp_all [opB, inB]; omega) | (rw [Bool.eq_iff_iff]; simp; omega)), hb0.out⟩)
 ·skip
  have hn := HV.out.n7 rfl
  have ht := HV.out.t (by decide)
  obtain rfl := HV.out.s (by decide)
  obtain rfl := HV.out.e (by decide)
  clear HV
  go_enter Tryz.func67, Tryz.ntmps67
  go_wp2_with fail
  refine (i_in _ _ _ _).mono ?_
  rintro e w9 ⟨rfl, rfl⟩
  rw [show inB 7 1 7 = true from rfl]
  go_wp2
  all_goals (go_ret; exact ⟨ret_bool (by first | (simp_all [opB, inB]; done) | (simp_all [opB, inB]; omega) | (rw [Bool.eq_iff_iff]; simp; omega)), hb0.out⟩)
end Go.Proofs.YtdjcjilipgpnmaaGreat
end
