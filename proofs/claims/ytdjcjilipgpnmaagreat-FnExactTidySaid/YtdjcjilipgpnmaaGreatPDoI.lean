/- An operation on a disk, as the program does it (printed by gendoi.py). -/
import Derived.Test.YtdjcjilipgpnmaaGreatPOnlI
set_option linter.unusedSimpArgs false
set_option linter.unusedVariables false
namespace Go.G6
open Go Go.RowKit Rep
theorem code_node {d : DiskD} {kd : Int} {nm tt : ByteArray} {sz : Int} (h : opCode d kd nm tt sz = 0) (hk : kd ≠ 1) (hk7 : kd ≠ 7) : dirFind (dirAll d) nm ≠ 0 := by
 intro h0
 unfold opCode at h
 split at h
 ·omega
 ·split at h
  ·omega
  ·rename_i h3
   rw [h0] at h3
   simp [hk, hk7] at h3
theorem code_new {d : DiskD} {nm tt : ByteArray} {sz : Int} (hok : diskOk d = true) (h : opCode d 1 nm tt sz = 0) : dirFind (dirAll d) nm = 0 := by
 have hn := find_nonneg hok nm
 unfold opCode at h
 split at h
 ·omega
 ·split at h
  ·omega
  ·rename_i h3
   simp at h3
   omega
theorem nodeAt_zero {d : DiskD} (hok : diskOk d = true) : nodeAt d 0 = -1 := by
 rcases atI_spec d.Nodes 0 0 with ⟨h, _⟩ | ⟨j, hj, _, he⟩
 ·exact h
 ·have := (nodesOk_pos _ _ _ (diskOk_parts hok).2.1 (by omega) _ (List.getElem_mem hj)).1
  omega
/-- One cell of an element of three laid anew. -/
theorem heap_set1 {w : World} {g : Nat} {cs : Array Value} {t : TypeId} (hg : w.heap[g]? = some (.cells cs t (0, 0))) (i : Nat) (v : Value) : (w.setCell ⟨g, i, none⟩ v).heap[g]? = some (.cells (cs.setIfInBounds i v) t (0, 0)) := by
 simp [World.setCell, Array.getElem?_modify, hg]
theorem arr_same {cs : Array Value} {i : Nat} {v : Value} (h : cs[i]? = some v) : cs.setIfInBounds i v = cs := by
 apply Array.ext_getElem?
 intro k
 rw [Array.getElem?_setIfInBounds]
 split
 ·rename_i e; subst e
  have := (Array.getElem?_eq_some_iff.1 h).1
  rw [if_pos this, h]
 ·rfl
theorem set3_1 {w : World} {g o : Nat} {c0 c2 v : Value} (hF : Fr w g) (h0 : w.cell? ⟨g, o, none⟩ = some c0) (h2 : w.cell? ⟨g, o + 2, none⟩ = some c2) (b : Nat) : (w.setCells g o [c0, v, c2]).heap[b]? = (w.setCell ⟨g, o + 1, none⟩ v).heap[b]? := by
 by_cases hb : b = g
 ·subst hb
  obtain ⟨cs, t, hg⟩ := hF
  have e0 : cs[o]? = some c0 := by simpa [World.cell?, hg] using h0
  have e2 : cs[o + 2]? = some c2 := by simpa [World.cell?, hg] using h2
  show (((w.setCell ⟨b, o, none⟩ c0).setCell ⟨b, o + 1, none⟩ v).setCell ⟨b, o + 1 + 1, none⟩ c2).heap[b]? = _
  rw [heap_set1 (heap_set1 (heap_set1 hg o c0) (o + 1) v) (o + 1 + 1) c2, heap_set1 hg (o + 1) v, arr_same e0]
  rw [arr_same (by rw [Array.getElem?_setIfInBounds, if_neg (by omega)]; exact e2)]
 ·rw [setCells_heap _ _ _ _ _ hb, Below.heap_setCell _ _ _ _ hb]
theorem set3_2 {w : World} {g o : Nat} {c0 c1 v : Value} (hF : Fr w g) (h0 : w.cell? ⟨g, o, none⟩ = some c0) (h1 : w.cell? ⟨g, o + 1, none⟩ = some c1) (b : Nat) : (w.setCells g o [c0, c1, v]).heap[b]? = (w.setCell ⟨g, o + 2, none⟩ v).heap[b]? := by
 by_cases hb : b = g
 ·subst hb
  obtain ⟨cs, t, hg⟩ := hF
  have e0 : cs[o]? = some c0 := by simpa [World.cell?, hg] using h0
  have e1 : cs[o + 1]? = some c1 := by simpa [World.cell?, hg] using h1
  show (((w.setCell ⟨b, o, none⟩ c0).setCell ⟨b, o + 1, none⟩ c1).setCell ⟨b, o + 1 + 1, none⟩ v).heap[b]? = _
  rw [heap_set1 (heap_set1 (heap_set1 hg o c0) (o + 1) c1) (o + 1 + 1) v, heap_set1 hg (o + 2) v, arr_same e0, arr_same e1]
 ·rw [setCells_heap _ _ _ _ _ hb, Below.heap_setCell _ _ _ _ hb]
end Go.G6
namespace Go.Proofs.YtdjcjilipgpnmaaGreat
open Go Go.RowKit Go.G6
set_option maxHeartbeats 8000000
set_option maxRecDepth 10000
theorem i_DiskDo {w : World} {bs : List Nat} {cs : List Value} {d : DiskD} (h : Rep.pt w bs cs d) (hs : Small d) {kd : Int} {nm tt : ByteArray} {sz : Int} {data : List UInt8} {bo : List Nat} {ao : Option Addr} {lo co : Nat} (hv : OpV kd nm tt sz data) (ho : Slc w bo ao lo co data) (hdl : data.length ≤ 1048576) :
  Calls Tryz.prog 30 #[.agg cs.toArray, .agg #[.int .i64 kd, .string nm, .string tt, .int .i64 sz, .slice ao lo co]] w (RetDI 104 127 106 5 w (diskDo d kd nm tt sz data).1 (diskDo d kd nm tt sz data).2) := by
 obtain rfl := ho.len_eq
 have hcl := Rep.len h
 have HS := hid hs; have H0 := hid h; have HV := hid hv; have HO := hid ho; have HDL := hid hdl
 obtain ⟨i1, hi1, hz01, hz11, hz21⟩ := info_parts info_NodeF
 obtain ⟨i3, hi3, hz03, hz13, hz23⟩ := info_parts info_TurnF
 obtain ⟨i8, hi8, hz08, hz18, hz28⟩ := info_parts info_byte
 have I6 := hid (show (Tryz.prog.info? 35).map (·.size) = some 6 by kernel_rfl)
 have I0 := hid (show (Tryz.prog.info? 35).map (·.size) = some cs.length by rw [show cs.length = 6 from hcl]; exact I6.out)
 have HX := hid (Bx.alloc (Bx.alloc (Bx.new w cs.toArray 35 rfl) (by simp) (.cells #[.int .i64 kd, .string nm, .string tt, .int .i64 sz, .slice ao data.length co] 67)) (by simp; omega) (.cells #[.int .i64 0, .int .i64 0, .int .i64 0, .slice none 0 0, .slice none 0 0, .slice none 0 0] 35))
 have HY := hid (Bx.alloc (Bx.new (w.alloc (.cells cs.toArray 35)) #[.int .i64 kd, .string nm, .string tt, .int .i64 sz, .slice ao data.length co] 67 (b := w.heap.size + 1) (by simp)) (by simp) (.cells #[.int .i64 0, .int .i64 0, .int .i64 0, .slice none 0 0, .slice none 0 0, .slice none 0 0] 35))
 have HZ := hid (Bx.new ((w.alloc (.cells cs.toArray 35)).alloc (.cells #[.int .i64 kd, .string nm, .string tt, .int .i64 sz, .slice ao data.length co] 67)) #[.int .i64 0, .int .i64 0, .int .i64 0, .slice none 0 0, .slice none 0 0, .slice none 0 0] 35 (b := w.heap.size + 2) (by simp))
 have hb0 := hid ((((Below.refl w.heap.size w).alloc (Nat.le_refl _) (.cells cs.toArray 35)).alloc (by simp) (.cells #[.int .i64 kd, .string nm, .string tt, .int .i64 sz, .slice ao data.length co] 67)).alloc (by simp; omega) (.cells #[.int .i64 0, .int .i64 0, .int .i64 0, .slice none 0 0, .slice none 0 0, .slice none 0 0] 35))
 obtain ⟨wA, hwA⟩ : ∃ wA, wA = ((w.alloc (.cells cs.toArray 35)).alloc (.cells #[.int .i64 kd, .string nm, .string tt, .int .i64 sz, .slice ao data.length co] 67)).alloc (.cells #[.int .i64 0, .int .i64 0, .int .i64 0, .slice none 0 0, .slice none 0 0, .slice none 0 0] 35) := ⟨_, rfl⟩
 have SA := hid (show wA.heap.size = w.heap.size + 3 by rw [hwA]; simp)
 rw [← hwA] at hb0 HX HY HZ
 have DX := hid (show ∃ F, d.Room = F from ⟨_, rfl⟩)
 have JD := hid (show I64 d.Room ∧ I64 d.Fuse ∧ I64 d.Next by obtain ⟨_, _, _, _, _, _, _, _, _, _, _, _, _, _, h0, h1, h2, _, _, _⟩ := open_Disk h; exact ⟨h0, h1, h2⟩)
 clear h hs hv ho hdl hcl DX
 go_enter Tryz.func30, Tryz.ntmps30
 go_upto_region 1 with fail
 rw [← hwA]
 clear hwA
 go_wp2_with (first | (refine wpList_load_mid rfl 35 _ rfl w.heap.size 0 rfl cs _ HX.out.all Tryz.underlying35 rfl I0.out ?_))
 refine (i_DiskOk (grow H0.out hb0.out) HS.out).mono ?_
 rintro e w1 ⟨rfl, hb1⟩
 have HX1 := hid (Bx.below hb1 HX.out.f.lt HX.out)
 have HY1 := hid (Bx.below hb1 HY.out.f.lt HY.out)
 have HZ1 := hid (Bx.below hb1 HZ.out.f.lt HZ.out)
 have HB1 := hid (hb0.out.trans (hb1.mono hb0.out.size))
 have SZ1 := hid (show w.heap.size + 3 ≤ w1.heap.size by have := SA.out; have := hb1.size; omega)
 clear hb1 HX HY HZ
 cases hdk : diskOk d
 ·have ED := hid (show diskDo d kd nm tt sz data = (zDisk, 1) by unfold diskDo; rw [hdk]; rfl)
  clear hdk
  have TH := hid (show w1.there (w.heap.size + 2) 0 6 from HZ1.out.there 0 6 (by simp))
  obtain ⟨R, hR⟩ : ∃ R : List Value, R = [Value.int .i64 0, .int .i64 0, .int .i64 0, .slice none 0 0, .slice none 0 0, .slice none 0 0] := ⟨_, rfl⟩
  have HC1 := hid (show R.toArray.all (·.oneCell') = true by rw [hR]; simp [Value.oneCell'])
  have HL := hid (show R.length = 6 by rw [hR]; rfl)
  have HR := hid hR
  have I1 := hid (show (Tryz.prog.info? 35).map (·.size) = some R.length by rw [HL.out]; exact I6.out)
  have I2 := hid (show (Tryz.prog.info? 35).map (·.size) = some R.toArray.size by rw [List.size_toArray, HL.out]; exact I6.out)
  have TH2 := hid (show w1.there (w.heap.size + 2) 0 R.toArray.size by rw [show R.toArray.size = 6 by rw [List.size_toArray]; exact HL.out]; exact TH.out)
  have hbu : Tryz.prog.built 35 [] = some R.toArray := by rw [hR]; kernel_rfl
  have HBU := hid hbu
  clear hR hbu
  as_aux_lemma =>
   go_wp2_with (first | (refine wpList_build_to rfl 35 _ rfl R.toArray [] rfl HBU.out ?_) | (refine wpList_store_mid rfl 35 _ _ rfl (w.heap.size + 2) 0 R.toArray rfl rfl TH2.out I2.out HC1.out ?_))
   have X13 := hid (show Bx (w1.setCells (w.heap.size + 2) 0 R) (w.heap.size + 2) R.toArray from HZ1.out.setAll R (by rw [HL.out]; simp))
   refine bodyPost_ret (results_mid_tmp Tryz.results30 rfl R X13.out.all Tryz.underlying35 rfl I1.out) rfl ?_
   rw [ED.out]
   exact ⟨_, _, _, [], [], [], by rw [HR.out]; rfl, ⟨by simp [I64, zDisk], by simp [I64, zDisk], by simp [I64, zDisk], OwnL.nil _ _ _, OwnL.nil _ _ _, OwnL.nil _ _ _, by simp, by simp, by simp⟩, Below.setCells _ (Nat.le_add_right _ _) _ _ HB1.out⟩
 have HDK := hid hdk
 clear hdk
 have xo := HY1.out.out
 go_wp2_with fail
 refine (i_OpOk HV.out (HO.out.grow HB1.out)).mono ?_
 rintro e w2 ⟨rfl, hb2⟩
 have HX2 := hid (Bx.below hb2 HX1.out.f.lt HX1.out)
 have HY2 := hid (Bx.below hb2 HY1.out.f.lt HY1.out)
 have HZ2 := hid (Bx.below hb2 HZ1.out.f.lt HZ1.out)
 have HB2 := hid (HB1.out.trans (hb2.mono HB1.out.size))
 have SZ2 := hid (show w.heap.size + 3 ≤ w2.heap.size by have := SZ1.out; have := hb2.size; omega)
 clear hb2 HX1 HY1 HZ1 xo HB1 SZ1
 cases hop : opB kd sz data
 ·have ED := hid (show diskDo d kd nm tt sz data = (zDisk, 1) by unfold diskDo; rw [HDK.out, hop]; rfl)
  clear hop
  have TH := hid (show w2.there (w.heap.size + 2) 0 6 from HZ2.out.there 0 6 (by simp))
  obtain ⟨R, hR⟩ : ∃ R : List Value, R = [Value.int .i64 0, .int .i64 0, .int .i64 0, .slice none 0 0, .slice none 0 0, .slice none 0 0] := ⟨_, rfl⟩
  have HC1 := hid (show R.toArray.all (·.oneCell') = true by rw [hR]; simp [Value.oneCell'])
  have HL := hid (show R.length = 6 by rw [hR]; rfl)
  have HR := hid hR
  have I1 := hid (show (Tryz.prog.info? 35).map (·.size) = some R.length by rw [HL.out]; exact I6.out)
  have I2 := hid (show (Tryz.prog.info? 35).map (·.size) = some R.toArray.size by rw [List.size_toArray, HL.out]; exact I6.out)
  have TH2 := hid (show w2.there (w.heap.size + 2) 0 R.toArray.size by rw [show R.toArray.size = 6 by rw [List.size_toArray]; exact HL.out]; exact TH.out)
  have hbu : Tryz.prog.built 35 [] = some R.toArray := by rw [hR]; kernel_rfl
  have HBU := hid hbu
  clear hR hbu
  as_aux_lemma =>
   go_wp2_with (first | (refine wpList_build_to rfl 35 _ rfl R.toArray [] rfl HBU.out ?_) | (refine wpList_store_mid rfl 35 _ _ rfl (w.heap.size + 2) 0 R.toArray rfl rfl TH2.out I2.out HC1.out ?_))
   have X13 := hid (show Bx (w2.setCells (w.heap.size + 2) 0 R) (w.heap.size + 2) R.toArray from HZ2.out.setAll R (by rw [HL.out]; simp))
   refine bodyPost_ret (results_mid_tmp Tryz.results30 rfl R X13.out.all Tryz.underlying35 rfl I1.out) rfl ?_
   rw [ED.out]
   exact ⟨_, _, _, [], [], [], by rw [HR.out]; rfl, ⟨by simp [I64, zDisk], by simp [I64, zDisk], by simp [I64, zDisk], OwnL.nil _ _ _, OwnL.nil _ _ _, OwnL.nil _ _ _, by simp, by simp, by simp⟩, Below.setCells _ (Nat.le_add_right _ _) _ _ HB2.out⟩
 have HOP := hid hop
 clear hop
 go_wp2_with (first | (refine wpList_load_mid rfl 35 _ rfl w.heap.size 0 rfl cs _ HX2.out.all Tryz.underlying35 rfl I0.out ?_))
 refine (i_copyDisk (grow H0.out HB2.out) (ok_small HDK.out)).mono ?_
 rintro e w3 ⟨v3, v4, v5, B3, B4, B5, rfl, hDF, hb3⟩
 have HX3 := hid (Bx.below hb3 HX2.out.f.lt HX2.out)
 have HY3 := hid (Bx.below hb3 HY2.out.f.lt HY2.out)
 have HZ3 := hid (Bx.below hb3 HZ2.out.f.lt HZ2.out)
 have HB3 := hid (HB2.out.trans (hb3.mono HB2.out.size))
 have SZ3 := hid (show w.heap.size + 3 ≤ w3.heap.size by have := SZ2.out; have := hb3.size; omega)
 have DF3 := hid (hDF.mono SZ2.out)
 have LT3 := hid (fun b hb => (DF3.out.lts b hb).2)
 clear hDF hb3 HX2 HY2 HZ2 HB2 SZ2
 have hsl := DF3.out.n.slice
 rw [List.length_map] at hsl
 obtain ⟨p3, c3, rfl⟩ := hsl
 obtain ⟨p4, c4, rfl⟩ := DF3.out.k.slice
 obtain ⟨p5, c5, rfl⟩ := DF3.out.t.slice
 obtain ⟨R, hR⟩ : ∃ R : List Value, R = [.int .i64 d.Room, .int .i64 d.Fuse, .int .i64 d.Next, .slice p3 d.Nodes.length c3, .slice p4 d.Kept.length c4, .slice p5 d.Turns.length c5] := ⟨_, rfl⟩
 have HC1 := hid (show R.toArray.all (·.oneCell') = true by rw [hR]; simp [Value.oneCell'])
 have HL := hid (show R.length = 6 by rw [hR]; rfl)
 have HR := hid hR
 have I2 := hid (show (Tryz.prog.info? 35).map (·.size) = some R.toArray.size by rw [List.size_toArray, HL.out]; exact I6.out)
 have ZN := hid (Bx.new w3 #[.int .i64 0, .int .i64 0, .int .i64 0, .slice none 0 0, .slice none 0 0, .slice none 0 0] 35 rfl)
 have TH := hid (show (w3.alloc (.cells #[.int .i64 0, .int .i64 0, .int .i64 0, .slice none 0 0, .slice none 0 0, .slice none 0 0] 35)).there w3.heap.size 0 R.toArray.size by rw [show R.toArray.size = 6 by rw [List.size_toArray]; exact HL.out]; exact ZN.out.there 0 6 (by simp))
 rw [show (#[Value.int .i64 d.Room, .int .i64 d.Fuse, .int .i64 d.Next, .slice p3 d.Nodes.length c3, .slice p4 d.Kept.length c4, .slice p5 d.Turns.length c5] : Array Value) = R.toArray by rw [hR]]
 clear hR
 go_upto_region 4 with (refine wpList_store_mid rfl 35 _ _ rfl w3.heap.size 0 R.toArray rfl rfl TH.out I2.out HC1.out ?_)
 refine late_genw (fun w4 hw4 => ?_)
 have hb4 : Below w3.heap.size w3 w4 := by rw [hw4]; exact Below.setCells _ (Nat.le_refl _) _ _ ((Below.refl _ _).alloc (Nat.le_refl _) _)
 have X64 := hid (show Bx w4 w3.heap.size R.toArray by rw [hw4]; exact ZN.out.setAll R (by rw [HL.out]; simp))
 have HX4 := hid (Bx.below hb4 HX3.out.f.lt HX3.out)
 have HY4 := hid (Bx.below hb4 HY3.out.f.lt HY3.out)
 have HZ4 := hid (Bx.below hb4 HZ3.out.f.lt HZ3.out)
 have HB4 := hid (HB3.out.trans (hb4.mono HB3.out.size))
 have DF4 := hid (DF3.out.grow hb4)
 clear hw4 hb4 HX3 HY3 HZ3 HB3 DF3 TH ZN
 obtain ⟨B6, hB6⟩ : ∃ B6, B6 = w3.heap.size := ⟨_, rfl⟩
 rw [← hB6] at X64 SZ3 LT3
 rw [← hB6]
 clear hB6
 have xo := HY4.out.out
 go_wp2_with (first | (refine wpList_load_mid rfl 35 _ rfl w.heap.size 0 rfl cs _ HX4.out.all Tryz.underlying35 rfl I0.out ?_))
 refine (i_opCode (grow H0.out HB4.out) HDK.out HV.out (HO.out.grow HB4.out)).mono ?_
 rintro e w5 ⟨rfl, hb5⟩
 have X65 := hid (Bx.below hb5 X64.out.f.lt X64.out)
 have HX5 := hid (Bx.below hb5 HX4.out.f.lt HX4.out)
 have HY5 := hid (Bx.below hb5 HY4.out.f.lt HY4.out)
 have HZ5 := hid (Bx.below hb5 HZ4.out.f.lt HZ4.out)
 have HB5 := hid (HB4.out.trans (hb5.mono HB4.out.size))
 have DF5 := hid (DF4.out.grow hb5)
 have I1 := hid (show (Tryz.prog.info? 35).map (·.size) = some R.length by rw [HL.out]; exact I6.out)
 clear hb5 X64 HX4 HY4 HZ4 HB4 DF4 xo
 obtain ⟨code, hcode⟩ : ∃ code, code = opCode d kd nm tt sz := ⟨_, rfl⟩
 rw [← hcode]
 by_cases hc0 : code = 0
 rotate_left
 ·have ED := hid (show diskDo d kd nm tt sz data = (d, code) by unfold diskDo; rw [HDK.out, HOP.out, ← hcode, if_neg hc0]; rfl)
  have hcne : (code != 0) = true := by rw [bne_iff_ne]; exact hc0
  clear hcode hc0
  have TH := hid (show w5.there (w.heap.size + 2) 0 R.toArray.size by rw [show R.toArray.size = 6 by rw [List.size_toArray]; exact HL.out]; exact HZ5.out.there 0 6 (by simp))
  as_aux_lemma =>
   go_wp2_with (first | (refine wpList_load_mid rfl 35 _ rfl B6 0 rfl R _ X65.out.all Tryz.underlying35 rfl I1.out ?_) | (refine wpList_store_mid rfl 35 _ _ rfl (w.heap.size + 2) 0 R.toArray rfl rfl TH.out I2.out HC1.out ?_))
   have X13 := hid (show Bx (w5.setCells (w.heap.size + 2) 0 R) (w.heap.size + 2) R.toArray from HZ5.out.setAll R (by rw [HL.out]; simp))
   refine bodyPost_ret (results_mid_tmp Tryz.results30 rfl R X13.out.all Tryz.underlying35 rfl I1.out) rfl ?_
   rw [ED.out]
   refine ⟨_, _, _, B3, B4, B5, by rw [HR.out]; rfl, (DF5.out.mono (Nat.le_add_right _ _)).keep (fun b hb => setCells_heap _ _ _ _ _ ?_), Below.setCells _ (Nat.le_add_right _ _) _ _ HB5.out⟩
   have := DF5.out.lts b hb
   omega
 have HC := hid (show opCode d kd nm tt sz = 0 from hcode.symm.trans hc0)
 have ED := hid (show diskDo d kd nm tt sz data = doD d kd nm tt sz data by unfold diskDo; rw [HDK.out, HOP.out, HC.out]; rfl)
 clear hcode
 subst hc0
 have HRO := (diskOk_parts HDK.out).1
 have HROH := hid HRO
 have X6L := hid (show Bx w5 B6 #[.int .i64 d.Room, .int .i64 d.Fuse, .int .i64 d.Next, .slice p3 d.Nodes.length c3, .slice p4 d.Kept.length c4, .slice p5 d.Turns.length c5] by have := X65.out; rw [HR.out] at this; exact this)
 have hf1 := HRO.r3; have hf2 := HRO.r4
 clear HRO X65
 have xo := X6L.out.out; have xf := X6L.out.fr
 go_upto_if 34 with fail
 go_cut [7] (fun v W => v = .int .i64 0 ∧ Bx W w.heap.size cs.toArray ∧ Bx W (w.heap.size + 1) #[.int .i64 kd, .string nm, .string tt, .int .i64 sz, .slice ao data.length co] ∧ Bx W (w.heap.size + 2) #[.int .i64 0, .int .i64 0, .int .i64 0, .slice none 0 0, .slice none 0 0, .slice none 0 0] ∧ Bx W B6 #[.int .i64 d.Room, .int .i64 (fuseD d), .int .i64 d.Next, .slice p3 d.Nodes.length c3, .slice p4 d.Kept.length c4, .slice p5 d.Turns.length c5] ∧ DiskF 104 127 106 5 (w.heap.size + 3) W d (.slice p3 d.Nodes.length c3) (.slice p4 d.Kept.length c4) (.slice p5 d.Turns.length c5) B3 B4 B5 ∧ Below w.heap.size w W)
 case first =>
  by_cases hf : 0 < d.Fuse
  ·have HFU := hid (show fuseD d = d.Fuse - 1 by unfold fuseD; rw [if_pos hf])
   have hw1 : wrap64 (d.Fuse - 1) = d.Fuse - 1 := IntWalk.wrap64_in _ (by omega)
   go_wp2
   go_meet
   rw [HFU.out]
   exact ⟨rfl, HX5.out.setOther (by have := SZ3.out; simp; omega) _, HY5.out.setOther (by have := SZ3.out; simp; omega) _, HZ5.out.setOther (by have := SZ3.out; simp; omega) _, X6L.out.setSame 1 _,
    DF5.out.keep (fun b hb => Below.heap_setCell _ _ _ _ (by have := LT3.out b hb; simp; omega)), HB5.out.setCell (by have := SZ3.out; simp; omega) _⟩
  ·have HFU := hid (show fuseD d = d.Fuse by unfold fuseD; rw [if_neg hf])
   go_wp2
   go_meet
   rw [HFU.out]
   exact ⟨rfl, HX5.out, HY5.out, HZ5.out, X6L.out, DF5.out, HB5.out⟩
 case rest =>
  obtain ⟨rfl, hX, hY, hZ, h6, hDF, hB⟩ := hcut
  have HX6 := hid hX; have HY6 := hid hY; have HZ6 := hid hZ; have X66 := hid h6; have DF6 := hid hDF; have HB6 := hid hB
  clear hX hY hZ h6 hDF hB HX5 HY5 HZ5 X6L DF5 HB5 xo xf I1 HR HL HC1 I2 hf1 hf2
  have C4 := hid (show ∃ a4 k4 a5 k5, ∃ bs4 bs5, cs[4]? = some (.slice a4 d.Kept.length k4) ∧ cs[5]? = some (.slice a5 d.Turns.length k5) ∧ Slc w bs4 a4 d.Kept.length k4 d.Kept ∧ Slc w bs5 a5 d.Turns.length k5 d.Turns from by
   have := H0.out
   obtain ⟨b3, b4, b5, a3, l3, k3, a4, l4, k4, a5, l5, k5, _, hcs, h0, h1, h2, h3, h4, h5⟩ := open_Disk this
   obtain rfl := h4.len_eq
   obtain rfl := h5.len_eq
   exact ⟨a4, k4, a5, k5, b4, b5, by rw [hcs]; rfl, by rw [hcs]; rfl, h4, h5⟩)
  obtain ⟨a4, k4, a5, k5, bs4, bs5, hC4, hC5, hS4, hS5⟩ := C4.out
  have x4 := bx_at HX6.out 4 hC4
  have x5 := bx_at HX6.out 5 hC5
  have SK4 := hid hS4; have SK5 := hid hS5
  have ZC := hid (show B6 < wc.heap.size from X66.out.f.lt)
  clear hC4 hC5 hS4 hS5 C4
  go_wp2_with fail
  refine (i_dirOf (SK4.out.grow HB6.out) (SK5.out.grow HB6.out) (by have := HROH.out.r8; omega) (by have := HROH.out.r9; omega)).mono ?_
  rintro e w7 ⟨m, rfl, hb7, hl⟩
  have hdo := dirOf_all HDK.out
  obtain ⟨bm, rfl, hbm, hM⟩ := hl _ hdo
  rw [hdo]
  have HM7 := hid hM
  have HBM := hid hbm
  obtain ⟨D, hown, hD⟩ := hM
  have HO7 := hid hown
  have HAT7 := hid (hD nm).2
  have HX7 := hid (Bx.below hb7 HX6.out.f.lt HX6.out)
  have HY7 := hid (Bx.below hb7 HY6.out.f.lt HY6.out)
  have HZ7 := hid (Bx.below hb7 HZ6.out.f.lt HZ6.out)
  have X67 := hid (Bx.below hb7 X66.out.f.lt X66.out)
  have DF7 := hid (DF6.out.grow hb7)
  have HB7 := hid (HB6.out.trans (hb7.mono HB6.out.size))
  have y1 := HY7.out.out 1
  have NL := hid HV.out.nl
  clear hl hdo hb7 hown hD hbm x4 x5 HX6 HY6 HZ6 X66 DF6 HB6 SK4 SK5
  go_wp2_with (first | (refine wpList_load_mid rfl 35 _ rfl w.heap.size 0 rfl cs _ HX7.out.all Tryz.underlying35 rfl I0.out ?_) | (at_lookup; refine wpList_lookup_own_int _ rfl _ _ 99 rfl 9 3 .i64 keyS Tryz.underlying99 Tryz.underlying3 (zeroI _) bm 2000 D rfl HO7.out _ _ rfl (key_str NL.out) ?_; intro c hat hwc; obtain rfl := i6_inj ((HAT7.out).symm.trans hat)))
  refine (i_nodeAt (grow H0.out HB7.out) _).mono ?_
  rintro e w9 ⟨rfl, hb9⟩
  obtain ⟨at0, hat⟩ : ∃ at0, at0 = nodeAt d (dirFind (dirAll d) nm) := ⟨_, rfl⟩
  rw [← hat]
  have HAT := hid hat
  have HMF := hid (HM7.out.keep (hb9.block _ HM7.out.lt))
  have XD := hid (Bx.below hb9 HX7.out.f.lt HX7.out)
  have XO := hid (Bx.below hb9 HY7.out.f.lt HY7.out)
  have XR := hid (Bx.below hb9 HZ7.out.f.lt HZ7.out)
  have X6 := hid (Bx.below hb9 X67.out.f.lt X67.out)
  have DF := hid (DF7.out.grow hb9)
  have HB := hid (HB7.out.trans (hb9.mono HB7.out.size))
  clear hat hb9 HX7 HY7 HZ7 X67 DF7 HB7 y1 HM7 HO7 HAT7
  have xo := X6.out.out; have xf := X6.out.fr; have yo := XO.out.out
  have x6lt := X6.out.f.lt
  rcases HV.out.k with rfl | rfl | rfl | rfl | rfl | rfl | rfl
  ·as_aux_lemma =>
    have hat : at0 = -1 := by rw [HAT.out, code_new HDK.out HC.out]; exact nodeAt_zero HDK.out
    subst hat
    have HN1 := hid (show d.Next ≤ 1000000 ∧ 1 ≤ d.Next from ⟨HROH.out.r6, HROH.out.r5⟩)
    obtain ⟨y, hy⟩ : ∃ y : NodeF 5, y = ⟨d.Next, [], []⟩ := ⟨_, rfl⟩
    have PY := hid (fun V : World => show Rep.pt V ([] ++ []) [.int .i64 d.Next, .slice none 0 0, .slice none 0 0] y by rw [hy]; exact nf_mk JD.out.2.2 (OwnL.nil _ _ _) (OwnL.nil _ _ _))
    have HYY := hid hy
    obtain ⟨x, hx⟩ : ∃ x : TurnD, x = ⟨1, nm, emp, d.Next⟩ := ⟨_, rfl⟩
    have PX := hid (fun V : World => show Rep.pt V [] [.int .i64 1, .string nm, .string ⟨#[]⟩, .int .i64 d.Next] x by rw [hx]; exact mk_Turn (d := ⟨1, nm, emp, d.Next⟩) (by simp [I64]) HV.out.nl (show emp.size ≤ maxLen by decide) JD.out.2.2)
    have HXX := hid hx
    have NL := hid (show d.Nodes.length ≤ 8 from HROH.out.r7)
    have TL := hid (show d.Turns.length ≤ 40 from HROH.out.r9)
    clear hy hx
    go_wp2_with (at_builtin; refine wp_append rfl _ _ 33 rfl 106 i3 (.agg #[.int .i64 0, .string ByteArray.empty, .string ByteArray.empty, .int .i64 0]) 48 Tryz.underlying33 hi3 hz03 hz13 hz23 rfl (lo := w.heap.size + 3) (bs := B5) (xs := d.Turns) rfl (DF.out.t.alloc _) (b2 := []) (ys := [x]) rfl ?tsrc List.nodup_nil (fun b hb => by cases hb) ?ta ?tb ?tc ?_)
    case tsrc => exact src_new (PX.out _) (by simp) _ _
    try (case ta => have := TL.out; simp; omega)
    try (case tb => have := TL.out; simp; omega)
    try (case tc => have := SZ3.out; have := X6.out.f.lt; simp; omega)
    intro pT cT wT bT hOT hTT hmT
    have OT := hid hOT
    have TT9 := hid (((Tch.refl B5 w9).alloc (.cells #[.int .i64 1, .string nm, .string ⟨#[]⟩, .int .i64 d.Next] 106)).trans hTT)
    have MT := hid (fun b (hb : b ∈ bT) => show b ∈ B5 ∨ w9.heap.size < b from by have h3 := hmT b hb; (try simp at h3); rcases h3 with h3 | h3; exact .inl h3; exact .inr (by omega))
    clear hOT hTT hmT xo xf yo
    have N65 := hid (show B6 ∉ B5 from fun hm => by have := LT3.out B6 (.inr (.inr hm)); omega)
    have N63 := hid (show B6 ∉ B3 from fun hm => by have := LT3.out B6 (.inl hm); omega)
    have X6T := hid (Bx.tch TT9.out X6.out.f.lt N65.out X6.out)
    have xo := X6T.out.out; have xf := X6T.out.fr
    go_upto_region 17 with fail
    refine late_genw (fun wM hwM => ?_)
    have hkM : ∀ k, k ≠ B6 → wM.heap[k]? = wT.heap[k]? := fun k hk => by rw [hwM]; exact Below.heap_setCell _ _ _ _ hk
    have SM := hid (show w9.heap.size ≤ wM.heap.size by rw [hwM]; have := TT9.out.size; simpa using this)
    have X6M := hid (show Bx wM B6 #[.int .i64 d.Room, .int .i64 (fuseD d), .int .i64 d.Next, .slice p3 d.Nodes.length c3, .slice p4 d.Kept.length c4, .slice pT (d.Turns.length + 1) cT] by rw [hwM]; exact X6T.out.setSame 5 _)
    have KM := hid (fun k (hk : k < w9.heap.size) (h6 : k ≠ B6) (h5 : k ∉ B5) => show wM.heap[k]? = w9.heap[k]? from (hkM k h6).trans (TT9.out.block k hk h5))
    have bT6 := hid (fun b (hb : b ∈ bT) => show b ≠ B6 from fun e => by
     subst e
     rcases MT.out _ hb with h9 | h9
     ·exact N65.out h9
     ·have := X6.out.f.lt; omega)
    have OTM := hid (show OwnL (w.heap.size + 3) wM 106 (.slice pT (d.Turns.length + 1) cT) bT (d.Turns ++ [x]) from OT.out.keep fun b hb => hkM b (bT6.out b hb))
    have BM := hid (show Below w.heap.size w wM by
     rw [hwM]
     exact (HB.out.trans (TT9.out.below HB.out.size (fun b hb => by have := (DF.out.t.lts b hb).1; omega))).setCell (show w.heap.size ≤ B6 by have := SZ3.out; omega) _)
    have ON9 := hid (show OwnL (w.heap.size + 3) wM 104 (.slice p3 d.Nodes.length c3) B3 (d.Nodes.map (NF 5)) from DF.out.n.keep fun b hb => KM.out b (DF.out.n.lts b hb).2 (fun e => N63.out (e ▸ hb)) (fun h5 => DF.out.d35 b hb h5))
    have LBT := hid (fun b (hb : b ∈ bT) => show b < wM.heap.size from (OTM.out.lts b hb).2)
    clear hwM hkM xo xf X6T OT TT9
    have xo := X6M.out.out; have xf := X6M.out.fr; have xl := X6M.out.f.lt
    go_wp2_with (at_builtin; refine wp_append rfl _ _ 31 rfl 104 i1 (.agg #[.int .i64 0, .slice none 0 0, .slice none 0 0]) 56 Tryz.underlying31 hi1 hz01 hz11 hz21 rfl (lo := w.heap.size + 3) (bs := B3) (xs := d.Nodes.map (NF 5)) rfl (ON9.out.alloc _) (b2 := []) (ys := [y]) rfl ?nsrc List.nodup_nil (fun b hb => by cases hb) ?na ?nb ?nc ?_)
    case nsrc => exact src_new (PY.out _) (by simp) _ _
    try (case na => have := NL.out; simp; omega)
    try (case nb => have := NL.out; simp; omega)
    try (case nc => have := SZ3.out; have := X6M.out.f.lt; simp; omega)
    intro pN cN wN bN hON hTN hmN
    have hLN : (d.Nodes.map (NF 5)).length + [y].length = d.Nodes.length + 1 := by rw [List.length_map]; rfl
    (try rw [hLN] at hON)
    (try rw [hLN])
    (try rw [List.length_map] at hON)
    (try rw [List.length_map])
    have ON := hid (show OwnL (w.heap.size + 3) wN 104 (.slice pN (d.Nodes.length + 1) cN) bN (d.Nodes.map (NF 5) ++ [y]) from hON)
    have TNM := hid (((Tch.refl B3 wM).alloc (.cells #[.int .i64 d.Next, .slice none 0 0, .slice none 0 0] 104)).trans hTN)
    have MN := hid (fun b (hb : b ∈ bN) => show b ∈ B3 ∨ wM.heap.size < b from by have h3 := hmN b hb; (try simp at h3); rcases h3 with h3 | h3; exact .inl h3; exact .inr (by omega))
    clear hON hTN hmN xo xf xl hLN
    have X6N := hid (Bx.tch TNM.out X6M.out.f.lt N63.out X6M.out)
    have xo := X6N.out.out; have xf := X6N.out.fr
    have w14 : wrap64 (d.Next + 1) = d.Next + 1 := IntWalk.wrap64_in _ (by have := HN1.out; omega)
    go_upto_region 34 with fail
    refine late_genw (fun wD hwD => ?_)
    have hkD : ∀ k, k ≠ B6 → wD.heap[k]? = wN.heap[k]? := fun k hk => by rw [hwD]; exact (Below.heap_setCell _ _ _ _ hk).trans (Below.heap_setCell _ _ _ _ hk)
    have X6D := hid (show Bx wD B6 #[.int .i64 d.Room, .int .i64 (fuseD d), .int .i64 (d.Next + 1), .slice pN (d.Nodes.length + 1) cN, .slice p4 d.Kept.length c4, .slice pT (d.Turns.length + 1) cT] by rw [hwD]; exact (X6N.out.setSame 3 _).setSame 2 _)
    have XRM := KM.out _ XR.out.f.lt (by have := SZ3.out; omega) (fun h5 => by have := (DF.out.t.lts _ h5).1; omega)
    have XRD := hid (XR.out.keep (((hkD _ (by have := SZ3.out; omega)).trans (TNM.out.block _ (by have := XR.out.f.lt; have := SM.out; omega) (fun hm => by have := (DF.out.n.lts _ hm).1; omega))).trans XRM))
    have hk4 : ∀ b, b ∈ B4 → wD.heap[b]? = w9.heap[b]? := fun b hb => by
     have h2 := DF.out.k.lts b hb
     have h1 := LT3.out b (.inr (.inl hb))
     exact ((hkD b (by omega)).trans (TNM.out.block b (by have := SM.out; omega) fun hm => DF.out.d34 b hm hb)).trans (KM.out b h2.2 (by omega) fun h5 => DF.out.d45 b hb h5)
    have hmap : d.Nodes.map (NF 5) ++ [y] = (d.Nodes ++ [(⟨d.Next, [], []⟩ : NodeD)]).map (NF 5) := by rw [HYY.out, List.map_append]; rfl
    have hTB : ∀ b ∈ bT, b ∉ B3 := fun b hb h3 => by
     rcases MT.out b hb with h9 | h9
     ·exact DF.out.d35 b h3 h9
     ·have := (DF.out.n.lts b h3).2; omega
    have hN6 : ∀ b ∈ bN, b ≠ B6 := fun b hb e => by
     subst e
     rcases MN.out _ hb with h9 | h9
     ·exact N63.out h9
     ·have := X6.out.f.lt; have := SM.out; omega
    have DFD := hid (show DiskF 104 127 106 5 (w.heap.size + 3) wD { d with Fuse := fuseD d, Nodes := d.Nodes ++ [⟨d.Next, [], []⟩], Turns := d.Turns ++ [x], Next := d.Next + 1 } (.slice pN (d.Nodes.length + 1) cN) (.slice p4 d.Kept.length c4) (.slice pT (d.Turns.length + 1) cT) bN B4 bT from
     ⟨JD.out.1, fuse_i64 JD.out.2.1, (by have := HN1.out; unfold I64; show _ ≤ d.Next + 1 ∧ d.Next + 1 ≤ _; omega),
      (by rw [← hmap]; exact ON.out.keep fun b hb => hkD b (hN6 b hb)),
      DF.out.k.keep fun b hb => hk4 b hb,
      OTM.out.keep fun b hb => (hkD b (bT6.out b hb)).trans (TNM.out.block b (LBT.out b hb) (hTB b hb)),
      fun b h1 h2 => (by rcases MN.out b h1 with h9 | h9; exact DF.out.d34 b h9 h2; have := (DF.out.k.lts b h2).2; have := SM.out; omega),
      fun b h1 h2 => (by rcases MN.out b h1 with h9 | h9; exact hTB b h2 h9; have := LBT.out b h2; omega),
      fun b h1 h2 => (by rcases MT.out b h2 with h9 | h9; exact DF.out.d45 b h1 h9; have := (DF.out.k.lts b h1).2; omega)⟩)
    have BD := hid (show Below w.heap.size w wD by
     rw [hwD]
     exact ((BM.out.trans (TNM.out.below BM.out.size (fun b hb => by have := (DF.out.n.lts b hb).1; omega))).setCell (show w.heap.size ≤ B6 by have := SZ3.out; omega) _).setCell (show w.heap.size ≤ B6 by have := SZ3.out; omega) _)
    have HND := hid (show doD d 1 nm tt sz data = ({ d with Fuse := fuseD d, Nodes := d.Nodes ++ [⟨d.Next, [], []⟩], Turns := d.Turns ++ [x], Next := d.Next + 1 }, 0) by unfold doD; rw [HXX.out]; rfl)
    clear hwD hkD hk4 hmap hTB hN6 xo xf X6N w14 XRM
    have ED2 := hid (show diskDo d 1 nm tt sz data = ({ d with Fuse := fuseD d, Nodes := d.Nodes ++ [⟨d.Next, [], []⟩], Turns := d.Turns ++ [x], Next := d.Next + 1 }, 0) by rw [ED.out]; exact HND.out)
    obtain ⟨R, hR⟩ : ∃ R : List Value, R = [Value.int .i64 d.Room, .int .i64 (fuseD d), .int .i64 (d.Next + 1), .slice pN (d.Nodes.length + 1) cN, .slice p4 d.Kept.length c4, .slice pT (d.Turns.length + 1) cT] := ⟨_, rfl⟩
    have HC1 := hid (show R.toArray.all (·.oneCell') = true by rw [hR]; simp [Value.oneCell'])
    have HL := hid (show R.length = 6 by rw [hR]; rfl)
    have X6R := hid (show Bx wD B6 R.toArray by rw [hR]; exact X6D.out)
    have HR := hid hR
    have I1 := hid (show (Tryz.prog.info? 35).map (·.size) = some R.length by rw [HL.out]; exact I6.out)
    have I2 := hid (show (Tryz.prog.info? 35).map (·.size) = some R.toArray.size by rw [List.size_toArray, HL.out]; exact I6.out)
    have TH := hid (show wD.there (w.heap.size + 2) 0 R.toArray.size by rw [show R.toArray.size = 6 by rw [List.size_toArray]; exact HL.out]; exact XRD.out.there 0 6 (by simp))
    clear hR
    go_wp2_with (first | (refine wpList_load_mid rfl 35 _ rfl B6 0 rfl R _ X6R.out.all Tryz.underlying35 rfl I1.out ?_) | (refine wpList_store_mid rfl 35 _ _ rfl (w.heap.size + 2) 0 R.toArray rfl rfl TH.out I2.out HC1.out ?_))
    have X13 := hid (show Bx (wD.setCells (w.heap.size + 2) 0 R) (w.heap.size + 2) R.toArray from XRD.out.setAll R (by rw [HL.out]; simp))
    refine bodyPost_ret (results_mid_tmp Tryz.results30 rfl R X13.out.all Tryz.underlying35 rfl I1.out) rfl ?_
    rw [ED2.out]
    refine ⟨_, _, _, bN, B4, bT, by rw [HR.out]; rfl, (DFD.out.mono (Nat.le_add_right _ _)).keep (fun b hb => setCells_heap _ _ _ _ _ ?_), Below.setCells _ (Nat.le_add_right _ _) _ _ BD.out⟩
    have := DFD.out.lts b hb
    omega
  ·as_aux_lemma =>
    obtain ⟨j, hj, hn, hid2⟩ := node_of HDK.out nm (code_node HC.out (by decide) (by decide))
    have hndj : ndAt d nm = j := by unfold ndAt; rw [hn]; simp
    have hatj : at0 = (j : Int) := by rw [HAT.out, hn]
    subst hatj
    obtain ⟨g, cap, bi, ci, hv3, hgB, hglo, hglt, hFg, hbi, hOi, hAi, hset⟩ := DF.out.n.setE j (by rw [List.length_map]; exact hj)
    rw [List.length_map] at hv3
    obtain ⟨rfl, _, rfl⟩ := Value.slice.inj hv3
    have hNFj : (d.Nodes.map (NF 5))[j]'(by rw [List.length_map]; exact hj) = NF 5 d.Nodes[j] := by rw [List.getElem_map]
    rw [hNFj] at hOi
    obtain ⟨v1, v2, b1, b2, hbi2, rfl, hId, hO1, hO2, hd12⟩ := nf_open hOi
    obtain ⟨n, hnn⟩ : ∃ n, n = d.Nodes[j] := ⟨_, rfl⟩
    rw [show (NF 5 d.Nodes[j]).Id = n.Id by rw [hnn]; rfl] at hId hAi
    rw [show (NF 5 d.Nodes[j]).Body = n.Body by rw [hnn]; rfl] at hO1
    rw [show (NF 5 d.Nodes[j]).Safe = n.Safe by rw [hnn]; rfl] at hO2
    obtain ⟨q1, k1, rfl⟩ := hO1.slice
    obtain ⟨q2, k2, rfl⟩ := hO2.slice
    have e0 : w9.cell? ⟨g, j * 3, none⟩ = some (.int .i64 n.Id) := by have := hAi 0 _ rfl; exact this
    have e1 : w9.cell? ⟨g, j * 3 + 1, none⟩ = some (.slice q1 n.Body.length k1) := by have := hAi 1 _ rfl; exact this
    have e2 : w9.cell? ⟨g, j * 3 + 2, none⟩ = some (.slice q2 n.Safe.length k2) := by have := hAi 2 _ rfl; exact this
    have HSET := hid hset; have O1 := hid hO1; have O2 := hid hO2; have D12 := hid hd12; have HID := hid hId; have HFG := hid hFg; have HBI := hid hbi; have HBI2 := hid hbi2; have HNDJ := hid hndj; have HN := hid hnn
    have hng6 : g ≠ B6 := fun e => by have := LT3.out g (.inl hgB); omega
    have hji : (j : Int) < (d.Nodes.length : Int) := by omega
    have HGB := hid hgB
    have GB := hid (show g < B6 ∧ w.heap.size + 3 ≤ g from ⟨LT3.out g (.inl hgB), hglo⟩)
    have LB := hid (fun b (hb : b ∈ b1 ∨ b ∈ b2) => show b < B6 ∧ b ≠ g ∧ w.heap.size + 3 ≤ b from by
     have hm : b ∈ bi := by rw [HBI2.out]; exact List.mem_append.2 hb
     exact ⟨LT3.out b (.inl (HBI.out b hm).1), (HBI.out b hm).2, (DF.out.n.lts b (HBI.out b hm).1).1⟩)
    have HSM := hid (show n.Body.length ≤ 60000 ∧ n.Safe.length ≤ 60000 by rw [hnn]; exact node_small HDK.out _ (List.getElem_mem hj))
    have HJ := hid hj; have E0 := hid e0; have E1 := hid e1; have E2 := hid e2
    clear hset hO1 hO2 hd12 hId hFg hbi hbi2 hndj hn hid2 hOi hAi hv3 hNFj hnn hgB hglo
    have hRU : (diskUsed d : Int) ≤ d.Room := (diskOk_parts HDK.out).2.2.2.2.2.2
    have hR6 := HROH.out.r2
    have hR0 := HROH.out.r1
    obtain ⟨A1, hA1⟩ : ∃ A1, A1 = max n.Body.length n.Safe.length + d.Room.toNat := ⟨_, rfl⟩
    obtain ⟨A2, hA2⟩ : ∃ A2, A2 = A1 - diskUsed d := ⟨_, rfl⟩
    obtain ⟨rm, hrm⟩ : ∃ rm, rm = A2 - n.Body.length := ⟨_, rfl⟩
    have hsm1 := HSM.out.1; have hsm2 := HSM.out.2
    have W1 := hid (show IntKind.i64.wrap (max (n.Body.length : Int) (n.Safe.length : Int) + d.Room) = (A1 : Int) by rw [wrapI (by omega)]; omega)
    have V1 := hid (show wrap64 (max (n.Body.length : Int) (n.Safe.length : Int) + d.Room) = (A1 : Int) by rw [IntWalk.wrap64_in _ (by omega)]; omega)
    have W2 := hid (show IntKind.i64.wrap ((A1 : Int) - (diskUsed d : Int)) = (A2 : Int) by rw [wrapI (by omega)]; omega)
    have V2 := hid (show wrap64 ((A1 : Int) - (diskUsed d : Int)) = (A2 : Int) by rw [IntWalk.wrap64_in _ (by omega)]; omega)
    have W3 := hid (show IntKind.i64.wrap ((A2 : Int) - (n.Body.length : Int)) = (rm : Int) by rw [wrapI (by omega)]; omega)
    have V3 := hid (show wrap64 ((A2 : Int) - (n.Body.length : Int)) = (rm : Int) by rw [IntWalk.wrap64_in _ (by omega)]; omega)
    have HRM := hid (show rm = roomOf d n by unfold roomOf; rw [hrm, hA2, hA1]; omega)
    have RM6 := hid (show rm ≤ 1000000 by omega)
    clear hRU hR6 hR0 hA1 hA2 hrm hsm1 hsm2
    have d0 : w9.cell? ⟨w.heap.size, 0, none⟩ = some (.int .i64 d.Room) := by
     have := H0.out
     obtain ⟨_, _, _, _, _, _, _, _, _, _, _, _, _, hcs, _⟩ := open_Disk this
     exact bx_at XD.out 0 (by rw [hcs]; rfl)
    go_upto_region 20 with fail
    go_cut [12] (fun r V => r = .int .i64 (rm : Int) ∧ Below w9.heap.size w9 V)
    case first =>
     as_aux_lemma =>
      go_wp2_with fail
      refine late_start (fun V => V.rangeAt w.heap.size 0 cs ∧ V.cell? ⟨w.heap.size, 0, none⟩ = some (.int .i64 d.Room) ∧ V.cell? ⟨g, j * 3 + 1, none⟩ = some (.slice q1 n.Body.length k1) ∧ V.cell? ⟨g, j * 3 + 2, none⟩ = some (.slice q2 n.Safe.length k2) ∧ Below w9.heap.size w9 V) 99 (by kernel_rfl) ?_ (fun hS => ?_)
      ·exact ⟨(World.rangeAt_drew _ _ _ _).2 XD.out.all, d0, E1.out, E2.out, (Below.refl _ _).drew⟩
      clear d0 xo xf yo e0 e1 e2 x6lt
      refine ltk 0 rfl ?_
      try simp only [Act.put, putZ, List.getElem_toArray, List.getElem_cons_zero, List.getElem_cons_succ]
      refine ltk 1 rfl ?_
      try simp only [Act.put, putZ, List.getElem_toArray, List.getElem_cons_zero, List.getElem_cons_succ]
      refine ltk 2 rfl ?_
      try simp only [Act.put, putZ, List.getElem_toArray, List.getElem_cons_zero, List.getElem_cons_succ]
      refine ltk 3 rfl ?_
      try simp only [Act.put, putZ, List.getElem_toArray, List.getElem_cons_zero, List.getElem_cons_succ]
      refine ltk 4 rfl ?_
      try simp only [Act.put, putZ, List.getElem_toArray, List.getElem_cons_zero, List.getElem_cons_succ]
      refine ltk 5 rfl ?_
      try simp only [Act.put, putZ, List.getElem_toArray, List.getElem_cons_zero, List.getElem_cons_succ]
      refine ltk 6 rfl ?_
      try simp only [Act.put, putZ, List.getElem_toArray, List.getElem_cons_zero, List.getElem_cons_succ]
      refine ltk 7 rfl ?_
      try simp only [Act.put, putZ, List.getElem_toArray, List.getElem_cons_zero, List.getElem_cons_succ]
      refine ltk 8 rfl ?_
      try simp only [Act.put, putZ, List.getElem_toArray, List.getElem_cons_zero, List.getElem_cons_succ]
      refine ltk 9 rfl ?_
      try simp only [Act.put, putZ, List.getElem_toArray, List.getElem_cons_zero, List.getElem_cons_succ]
      refine ltk 11 rfl ?_
      try simp only [Act.put, putZ, List.getElem_toArray, List.getElem_cons_zero, List.getElem_cons_succ]
      refine ltk 12 rfl ?_
      try simp only [Act.put, putZ, List.getElem_toArray, List.getElem_cons_zero, List.getElem_cons_succ]
      refine late_take (i := 14) (v := .agg (cs).toArray) rfl (by kernel_rfl) (fun _ _ _ h => h) (by rfl) (fun W hW => exec_load_mid 35 _ rfl (w.heap.size) 0 rfl (cs) _ (hW.1) Tryz.underlying35 rfl I0.out) hS ?_
      try simp only [Act.put, putZ, List.getElem_toArray, List.getElem_cons_zero, List.getElem_cons_succ]
      refine ltk 17 rfl ?_
      try simp only [Act.put, putZ, List.getElem_toArray, List.getElem_cons_zero, List.getElem_cons_succ]
      refine ltk 18 rfl ?_
      try simp only [Act.put, putZ, List.getElem_toArray, List.getElem_cons_zero, List.getElem_cons_succ]
      refine ltk 19 rfl ?_
      try simp only [Act.put, putZ, List.getElem_toArray, List.getElem_cons_zero, List.getElem_cons_succ]
      refine ltk 20 rfl ?_
      try simp only [Act.put, putZ, List.getElem_toArray, List.getElem_cons_zero, List.getElem_cons_succ]
      refine ltk 21 rfl ?_
      try simp only [Act.put, putZ, List.getElem_toArray, List.getElem_cons_zero, List.getElem_cons_succ]
      refine late_two (i := 10) (j := 15) rfl rfl (by kernel_rfl) (fun K9 hK9 => ?_) (fun K9 hK9 => ?_)
      ·skip
       go_simp
       refine hK9.out _ _ (fun _ => ?_) (fun hS9 => ?_)
       ·(try dsimp only); exact hS
       replace hS := hS9 (by decide)
       clear hK9 K9 hS9
       try simp only [Act.put, putZ, List.getElem_toArray, List.getElem_cons_zero, List.getElem_cons_succ]
       have t1 := W1.out; have t2 := V1.out
       refine ltk 13 rfl ?_
       try simp only [Act.put, putZ, List.getElem_toArray, List.getElem_cons_zero, List.getElem_cons_succ]
       clear t1 t2
       refine late_one (i := 15) rfl (by kernel_rfl) (fun K9 hK9 => ?_)
       go_simp
       refine (i_DiskUsed (grow H0.out (HB.out.trans (hS.2.2.2.2.mono HB.out.size))) (ok_small HDK.out)).mono ?_
       rintro e wF ⟨rfl, hbF⟩
       go_wp2_with fail
       refine hK9.out _ _ (fun _ => ?_) (fun hS9 => ?_)
       ·(try dsimp only); exact ⟨range_below hS.1 hbF, keepcellF hbF hS.2.1, keepcellF hbF hS.2.2.1, keepcellF hbF hS.2.2.2.1, hS.2.2.2.2.trans (hbF.mono hS.2.2.2.2.size)⟩
       replace hS := hS9 (by decide)
       clear hK9 K9 hS9
       try simp only [Act.put, putZ, List.getElem_toArray, List.getElem_cons_zero, List.getElem_cons_succ]
       clear hbF
       refine late_one (i := 16) rfl (by kernel_rfl) (fun K9 hK9 => ?_)
       go_simp
       first | rw [W2.out] | rw [V2.out]
       refine hK9.out _ _ (fun _ => ?_) (fun hS9 => ?_)
       ·(try dsimp only); exact hS
       replace hS := hS9 (by decide)
       clear hK9 K9 hS9
       try simp only [Act.put, putZ, List.getElem_toArray, List.getElem_cons_zero, List.getElem_cons_succ]
       refine late_one (i := 22) rfl (by kernel_rfl) (fun K9 hK9 => ?_)
       go_simp
       first | rw [W3.out] | rw [V3.out]
       refine hK9.out _ _ (fun _ => ?_) (fun hS9 => ?_)
       ·(try dsimp only); exact hS
       replace hS := hS9 (by decide)
       clear hK9 K9 hS9
       try simp only [Act.put, putZ, List.getElem_toArray, List.getElem_cons_zero, List.getElem_cons_succ]
       refine ltk 23 rfl ?_
       try simp only [Act.put, putZ, List.getElem_toArray, List.getElem_cons_zero, List.getElem_cons_succ]
       have hbZ := hS.2.2.2.2
       refine late_done (by kernel_rfl) ?_ _
       clear hS
       go_wp2
       go_meet
       exact ⟨rfl, hbZ⟩
      ·skip
       go_simp
       refine (i_DiskUsed (grow H0.out (HB.out.trans (hS.2.2.2.2.mono HB.out.size))) (ok_small HDK.out)).mono ?_
       rintro e wF ⟨rfl, hbF⟩
       go_wp2_with fail
       refine hK9.out _ _ (fun _ => ?_) (fun hS9 => ?_)
       ·(try dsimp only); exact ⟨range_below hS.1 hbF, keepcellF hbF hS.2.1, keepcellF hbF hS.2.2.1, keepcellF hbF hS.2.2.2.1, hS.2.2.2.2.trans (hbF.mono hS.2.2.2.2.size)⟩
       replace hS := hS9 (by decide)
       clear hK9 K9 hS9
       try simp only [Act.put, putZ, List.getElem_toArray, List.getElem_cons_zero, List.getElem_cons_succ]
       clear hbF
       refine late_one (i := 10) rfl (by kernel_rfl) (fun K9 hK9 => ?_)
       go_simp
       refine hK9.out _ _ (fun _ => ?_) (fun hS9 => ?_)
       ·(try dsimp only); exact hS
       replace hS := hS9 (by decide)
       clear hK9 K9 hS9
       try simp only [Act.put, putZ, List.getElem_toArray, List.getElem_cons_zero, List.getElem_cons_succ]
       refine late_one (i := 13) rfl (by kernel_rfl) (fun K9 hK9 => ?_)
       go_simp
       first | rw [W1.out] | rw [V1.out]
       refine hK9.out _ _ (fun _ => ?_) (fun hS9 => ?_)
       ·(try dsimp only); exact hS
       replace hS := hS9 (by decide)
       clear hK9 K9 hS9
       try simp only [Act.put, putZ, List.getElem_toArray, List.getElem_cons_zero, List.getElem_cons_succ]
       refine late_one (i := 16) rfl (by kernel_rfl) (fun K9 hK9 => ?_)
       go_simp
       first | rw [W2.out] | rw [V2.out]
       refine hK9.out _ _ (fun _ => ?_) (fun hS9 => ?_)
       ·(try dsimp only); exact hS
       replace hS := hS9 (by decide)
       clear hK9 K9 hS9
       try simp only [Act.put, putZ, List.getElem_toArray, List.getElem_cons_zero, List.getElem_cons_succ]
       refine late_one (i := 22) rfl (by kernel_rfl) (fun K9 hK9 => ?_)
       go_simp
       first | rw [W3.out] | rw [V3.out]
       refine hK9.out _ _ (fun _ => ?_) (fun hS9 => ?_)
       ·(try dsimp only); exact hS
       replace hS := hS9 (by decide)
       clear hK9 K9 hS9
       try simp only [Act.put, putZ, List.getElem_toArray, List.getElem_cons_zero, List.getElem_cons_succ]
       refine ltk 23 rfl ?_
       try simp only [Act.put, putZ, List.getElem_toArray, List.getElem_cons_zero, List.getElem_cons_succ]
       have hbZ := hS.2.2.2.2
       refine late_done (by kernel_rfl) ?_ _
       clear hS
       go_wp2
       go_meet
       exact ⟨rfl, hbZ⟩
    case rest =>
     obtain ⟨rfl, hbF⟩ := hcut
     clear d0 xo xf yo e0 e1 e2 x6lt
     have OF := hid (O1.out.grow hbF)
     have OF2 := hid (O2.out.grow hbF)
     have BF := hid (HB.out.trans (hbF.mono HB.out.size))
     have SF := hid (HO.out.grow BF.out)
     have KF := hid (fun k (hk : k < w9.heap.size) => show wc.heap[k]? = w9.heap[k]? from hbF.block k hk)
     have LF := hid hbF.size
     have y4 := (((bcell hbF).1 _ 4 XO.out.f.lt).trans (XO.out.out 4))
     have z1 := keepcellF hbF E1.out
     obtain ⟨fits, hfits⟩ : ∃ fits : Nat, fits = min rm data.length := ⟨_, rfl⟩
     have HFI := hid hfits
     have FL := hid (show fits ≤ data.length by omega)
     have HMIN := hid (show min (rm : Int) (data.length : Int) = (fits : Int) by omega)
     clear hfits hbF
     have Y4 := hid y4; have ZZ1 := hid z1
     go_upto_region 22 with fail
     rw [HMIN.out]
     have FL1 := FL.out
     obtain ⟨aD, bD, hcutD, _, _, hSD⟩ := SF.out.cut_h 54 Tryz.underlying54 hi8 hz18 (fits : Int) (by omega) (by omega)
     rw [Int.toNat_natCast] at hSD
     simp only [Int.toNat_natCast] at hcutD
     have HSD := hid hSD
     clear hSD y4 z1
     refine late_start (fun V => V.cell? ⟨g, j * 3 + 1, none⟩ = some (.slice q1 n.Body.length k1) ∧ V.cell? ⟨w.heap.size + 1, 4, none⟩ = some (.slice ao data.length co) ∧ Tch b1 wc V) 12 (by kernel_rfl) ?_ (fun hS => ?_)
     ·exact ⟨ZZ1.out, Y4.out, (Tch.refl _ _).drew⟩
     refine late_genw (fun wG hwG => ?_)
     have hbG : Below wc.heap.size wc wG := by rw [hwG]; exact (Below.refl _ _).drew
     rw [← hwG] at hS
     have OG := hid (OF.out.grow hbG); have SG := hid (HSD.out.grow hbG); have BG := hid (BF.out.trans (hbG.mono BF.out.size))
     have NG := hid (show wG.heap.size = wc.heap.size by rw [hwG]; rfl)
     clear hwG hbG
     refine ltk 0 rfl ?_
     try simp only [Act.put, putZ, List.getElem_toArray, List.getElem_cons_zero, List.getElem_cons_succ]
     refine ltk 1 rfl ?_
     try simp only [Act.put, putZ, List.getElem_toArray, List.getElem_cons_zero, List.getElem_cons_succ]
     refine ltk 2 rfl ?_
     try simp only [Act.put, putZ, List.getElem_toArray, List.getElem_cons_zero, List.getElem_cons_succ]
     refine ltk 3 rfl ?_
     try simp only [Act.put, putZ, List.getElem_toArray, List.getElem_cons_zero, List.getElem_cons_succ]
     refine ltk 4 rfl ?_
     try simp only [Act.put, putZ, List.getElem_toArray, List.getElem_cons_zero, List.getElem_cons_succ]
     refine ltk 5 rfl ?_
     try simp only [Act.put, putZ, List.getElem_toArray, List.getElem_cons_zero, List.getElem_cons_succ]
     refine ltk 6 rfl ?_
     try simp only [Act.put, putZ, List.getElem_toArray, List.getElem_cons_zero, List.getElem_cons_succ]
     refine ltk 7 rfl ?_
     try simp only [Act.put, putZ, List.getElem_toArray, List.getElem_cons_zero, List.getElem_cons_succ]
     refine ltk 8 rfl ?_
     try simp only [Act.put, putZ, List.getElem_toArray, List.getElem_cons_zero, List.getElem_cons_succ]
     refine late_one (i := 9) rfl (by kernel_rfl) (fun K9 hK9 => ?_)
     have hlD : (data.take fits).length = fits := by rw [List.length_take]; omega
     refine step_append rfl _ _ 54 rfl 5 i8 (.int .u8 0) 1 Tryz.underlying54 hi8 hz08 hz18 hz28 rfl (lo := w.heap.size + 3) (bs := b1) (xs := n.Body) rfl OG.out (b2 := []) (ys := data.take fits) rfl SG.out.srcF List.nodup_nil (fun b hb => by cases hb) ?ka ?kb ?kc ?_
     try (case ka => have := HSM.out; have := HDL.out; rw [hlD]; omega)
     try (case kb => have := HSM.out; have := HDL.out; rw [hlD]; omega)
     try (case kc => have := SZ3.out; have := NG.out; have := LF.out; have := X6.out.f.lt; omega)
     intro pC cC wE bC hOC hTC hmC
     rw [hlD] at hOC ⊢
     have OC := hid hOC
     have Ng1 := hid (show g ∉ b1 from fun hm => (LB.out g (.inl hm)).2.1 rfl)
     have N11 := hid (show w.heap.size + 1 ∉ b1 from fun hm => absurd (LB.out _ (.inl hm)).2.2 (by omega))
     refine hK9.out _ _ (fun _ => ?_) (fun hS9 => ?_)
     ·(try dsimp only); exact ⟨cellc hTC hS.1 Ng1.out, cellc hTC hS.2.1 N11.out, hS.2.2.trans hTC⟩
     replace hS := hS9 (by decide)
     clear hK9 K9 hS9
     try simp only [Act.put, putZ, List.getElem_toArray, List.getElem_cons_zero, List.getElem_cons_succ]
     have hT22 := hS.2.2
     have BE := hid (show Below w.heap.size w wE from BF.out.trans (hT22.below BF.out.size (fun b hb => by have := (LB.out b (.inl hb)).2.2; omega)))
     have LE := hid (show w9.heap.size ≤ wE.heap.size from Nat.le_trans LF.out hT22.size)
     have HT9 := hid (fun k (hk : k < w9.heap.size) (hki : k ∉ bi) => show wE.heap[k]? = w9.heap[k]? from (hT22.block k (by have := LF.out; omega) (fun hm => hki (by rw [HBI2.out]; exact List.mem_append_left _ hm))).trans (KF.out k hk))
     have HMC := hid (fun b (hb : b ∈ bC) => show b ∈ b1 ∨ w9.heap.size ≤ b from by have h3 := hmC b hb; have := NG.out; have := LF.out; (try simp at h3); rcases h3 with h3 | h3; exact .inl h3; exact .inr (by omega))
     obtain ⟨bN, hbN⟩ : ∃ bN, bN = bC ++ b2 := ⟨_, rfl⟩
     have OCE := hid (show Own (w.heap.size + 3) wE bN [.int .i64 n.Id, .slice pC (n.Body.length + fits) cC, .slice q2 n.Safe.length k2] (⟨n.Id, n.Body ++ data.take fits, n.Safe⟩ : NodeF 5) from by
      rw [hbN]
      refine nf_own HID.out OC.out (OF2.out.keep fun b hb => hT22.block b (OF2.out.lts b hb).2 (fun hm => D12.out b hm hb)) (fun x hx h2 => ?_)
      rcases HMC.out x hx with h9 | h9
      ·exact D12.out x h9 h2
      ·have h7 := (O2.out.lts x h2).2; omega)
     have HBN := hid (show ∀ b ∈ bN, b ∈ bi ∨ w9.heap.size ≤ b from fun b hb => by
      rw [hbN] at hb
      rcases List.mem_append.1 hb with hb | hb
      ·rcases HMC.out b hb with h9 | h9
       ·exact .inl (by rw [HBI2.out]; exact List.mem_append_left _ h9)
       ·exact .inr h9
      ·exact .inl (by rw [HBI2.out]; exact List.mem_append_right _ hb))
     have XE := hid (show data.take fits = data.take (roomOf d n) by
      rw [HFI.out, ← HRM.out]
      by_cases h9 : rm ≤ data.length
      ·rw [Nat.min_eq_left h9]
      ·rw [Nat.min_eq_right (by omega), List.take_of_length_le (Nat.le_refl _), List.take_of_length_le (by omega)])
     obtain ⟨cd, hcd⟩ : ∃ cd : Int, cd = if rm < data.length then 5 else 0 := ⟨_, rfl⟩
     have HCD := hid hcd
     have YE := hid (show wE.cell? ⟨w.heap.size + 1, 4, none⟩ = some (.slice ao data.length co) from hS.2.1)
     clear hbN hOC hTC hmC hlD hT22 hcd OG SG OF OF2 SF HSD
     have hgi : g ∉ bi := fun hm => (HBI.out g hm).2 rfl
     have h6i : B6 ∉ bi := fun hm => by have := LT3.out B6 (.inl (HBI.out B6 hm).1); omega
     have hRi : w.heap.size + 2 ∉ bi := fun hm => by have := (DF.out.n.lts _ (HBI.out _ hm).1).1; omega
     have hg9 : g < w9.heap.size := (DF.out.n.lts g HGB.out).2
     have X6C := hid (X6.out.keep (HT9.out B6 X6.out.f.lt h6i))
     have FE := hid (HFG.out.keep (HT9.out g hg9 hgi))
     have fg : ∀ o, wE.frozen? ⟨g, o, none⟩ = false := fun o => FE.out.frozen o
     have cg : ∀ o v, w9.cell? ⟨g, o, none⟩ = some v → wE.cell? ⟨g, o, none⟩ = some v := fun o v h => (World.cell?_of_block (a := ⟨g, o, none⟩) (HT9.out g hg9 hgi)).trans h
     have z0 := cg _ _ E0.out; have z1 := cg _ _ E1.out; have z2 := cg _ _ E2.out
     have Z0 := hid z0; have Z1 := hid z1; have Z2 := hid z2
     have hgE : g < wE.heap.size := Nat.lt_of_lt_of_le hg9 LE.out
     clear cg h6i
     refine late_one (i := 10) rfl (by kernel_rfl) (fun K9 hK9 => ?_)
     go_simp
     refine hK9.out _ _ (fun _ => ?_) (fun hS9 => ?_)
     ·(try dsimp only); exact ⟨hS.1, hS.2.1, hS.2.2⟩
     replace hS := hS9 (by decide)
     clear hK9 K9 hS9
     try simp only [Act.put, putZ, List.getElem_toArray, List.getElem_cons_zero, List.getElem_cons_succ]
     refine ltk 11 rfl ?_
     try simp only [Act.put, putZ, List.getElem_toArray, List.getElem_cons_zero, List.getElem_cons_succ]
     refine late_one (i := 12) rfl (by kernel_rfl) (fun K9 hK9 => ?_)
     go_simp
     refine hK9.out _ _ (fun h => absurd rfl h) (fun _ => ?_)
     clear hK9 K9
     try simp only [Act.put, putZ, List.getElem_toArray, List.getElem_cons_zero, List.getElem_cons_succ]
     refine late_done (by kernel_rfl) ?_ _
     clear hS hcutD
     refine late_genw (fun wD hwD => ?_)
     have y4 : wD.cell? ⟨w.heap.size + 1, 4, none⟩ = some (.slice ao data.length co) := by rw [hwD]; exact (World.cell?_setCell_far _ _ _ _ (show g ≠ w.heap.size + 1 by have := GB.out; omega)).trans YE.out
     clear fg z0 z1 z2 hgE
     have hkD : ∀ k, k ≠ g → wD.heap[k]? = wE.heap[k]? := fun k hk => by rw [hwD]; exact Below.heap_setCell _ _ _ _ hk
     obtain ⟨B3', hO3', hB3'⟩ := HSET.out wE (fun k hk hki => HT9.out k (DF.out.n.lts k hk).2 hki) bN [.int .i64 n.Id, .slice pC (n.Body.length + fits) cC, .slice q2 n.Safe.length k2] ⟨n.Id, n.Body ++ data.take fits, n.Safe⟩ OCE.out (fun b hb => by
      rcases HBN.out b hb with hb | hb
      ·exact .inr hb
      ·exact .inl fun hm => by have := (DF.out.n.lts b hm).2; omega)
     have hO3 : OwnL (w.heap.size + 3) wD 104 (.slice (some ⟨g, 0, none⟩) d.Nodes.length c3) B3' ((d.Nodes.map (NF 5)).set j ⟨n.Id, n.Body ++ data.take fits, n.Safe⟩) := hO3'.keep fun b hb => by rw [hwD]; exact (set3_1 FE.out Z0.out Z2.out b).symm
     have hND : (d.Nodes.map (NF 5)).set j ⟨n.Id, n.Body ++ data.take fits, n.Safe⟩ = (d.Nodes.set j (bodyD n (n.Body ++ data.take fits))).map (NF 5) := by rw [List.map_set]; rfl
     rw [hND] at hO3
     have hB3o : ∀ b ∈ B3', b ∈ B3 ∨ w9.heap.size ≤ b := fun b hb => by
      rcases hB3' b hb with h9 | h9
      ·exact .inl h9
      ·rcases HBN.out b h9 with h9 | h9
       ·exact .inl (HBI.out b h9).1
       ·exact .inr h9
     have hkk : ∀ b, b ∈ B4 ∨ b ∈ B5 → wD.heap[b]? = w9.heap[b]? := fun b hb => by
      have hb9 := DF.out.lts b (.inr hb)
      have hb3 : ∀ x ∈ B3, b ≠ x := fun x hx e => by
       subst e
       rcases hb with hb | hb
       ·exact DF.out.d34 _ hx hb
       ·exact DF.out.d35 _ hx hb
      exact (hkD b (hb3 g HGB.out)).trans (HT9.out b hb9.2 (fun hm => hb3 b (HBI.out b hm).1 rfl))
     have DFD := hid (show DiskF 104 127 106 5 (w.heap.size + 3) wD (setN d j (bodyD n (n.Body ++ data.take fits))) (.slice (some ⟨g, 0, none⟩) d.Nodes.length c3) (.slice p4 d.Kept.length c4) (.slice p5 d.Turns.length c5) B3' B4 B5 from
      ⟨JD.out.1, fuse_i64 JD.out.2.1, JD.out.2.2, hO3, DF.out.k.keep fun b hb => hkk b (.inl hb), DF.out.t.keep fun b hb => hkk b (.inr hb),
       fun b h1 h2 => (by rcases hB3o b h1 with h9 | h9; exact DF.out.d34 b h9 h2; have := (DF.out.k.lts b h2).2; omega),
       fun b h1 h2 => (by rcases hB3o b h1 with h9 | h9; exact DF.out.d35 b h9 h2; have := (DF.out.t.lts b h2).2; omega),
       DF.out.d45⟩)
     have X6D := hid (X6C.out.keep (hkD B6 (Ne.symm hng6)))
     have XRD := hid (XR.out.keep ((hkD (w.heap.size + 2) (by have := GB.out; omega)).trans (HT9.out _ XR.out.f.lt hRi)))
     have BD := hid (show Below w.heap.size w wD by
      rw [hwD]
      exact BE.out.setCell (show w.heap.size ≤ g by have := GB.out; omega) _)
     have HND := hid (show doD d 2 nm tt sz data = (setN d j (bodyD n (n.Body ++ data.take fits)), cd) by unfold doD; simp only [HNDJ.out, getD_at HJ.out, ← HN.out]; rw [← XE.out, ← HRM.out, HCD.out]; rfl)
     clear hwD hkD hO3' hB3' hO3 hND hB3o hkk
     by_cases hfit : rm < data.length
     ·have hfi : (fits : Int) < (data.length : Int) := by have := HFI.out; omega
      have hcd : cd = 5 := by rw [HCD.out, if_pos hfit]
      subst hcd
      clear hfit
      have ED2 := hid (show diskDo d 2 nm tt sz data = (setN d j (bodyD n (n.Body ++ data.take fits)), 5) by rw [ED.out]; exact HND.out)
      obtain ⟨R, hR⟩ : ∃ R : List Value, R = [Value.int .i64 d.Room, .int .i64 (fuseD d), .int .i64 d.Next, .slice (some ⟨g, 0, none⟩) d.Nodes.length c3, .slice p4 d.Kept.length c4, .slice p5 d.Turns.length c5] := ⟨_, rfl⟩
      have HC1 := hid (show R.toArray.all (·.oneCell') = true by rw [hR]; simp [Value.oneCell'])
      have HL := hid (show R.length = 6 by rw [hR]; rfl)
      have X6R := hid (show Bx wD B6 R.toArray by rw [hR]; exact X6D.out)
      have HR := hid hR
      have I1 := hid (show (Tryz.prog.info? 35).map (·.size) = some R.length by rw [HL.out]; exact I6.out)
      have I2 := hid (show (Tryz.prog.info? 35).map (·.size) = some R.toArray.size by rw [List.size_toArray, HL.out]; exact I6.out)
      have TH := hid (show wD.there (w.heap.size + 2) 0 R.toArray.size by rw [show R.toArray.size = 6 by rw [List.size_toArray]; exact HL.out]; exact XRD.out.there 0 6 (by simp))
      clear hR
      go_wp2_with (first | (refine wpList_load_mid rfl 35 _ rfl B6 0 rfl R _ X6R.out.all Tryz.underlying35 rfl I1.out ?_) | (refine wpList_store_mid rfl 35 _ _ rfl (w.heap.size + 2) 0 R.toArray rfl rfl TH.out I2.out HC1.out ?_))
      have X13 := hid (show Bx (wD.setCells (w.heap.size + 2) 0 R) (w.heap.size + 2) R.toArray from XRD.out.setAll R (by rw [HL.out]; simp))
      refine bodyPost_ret (results_mid_tmp Tryz.results30 rfl R X13.out.all Tryz.underlying35 rfl I1.out) rfl ?_
      rw [ED2.out]
      refine ⟨_, _, _, B3', B4, B5, by rw [HR.out]; rfl, (DFD.out.mono (Nat.le_add_right _ _)).keep (fun b hb => setCells_heap _ _ _ _ _ ?_), Below.setCells _ (Nat.le_add_right _ _) _ _ BD.out⟩
      have := DFD.out.lts b hb
      omega
     ·have hfi : ¬ (fits : Int) < (data.length : Int) := by have := HFI.out; omega
      have hcd : cd = 0 := by rw [HCD.out, if_neg hfit]
      subst hcd
      clear hfit
      have ED2 := hid (show diskDo d 2 nm tt sz data = (setN d j (bodyD n (n.Body ++ data.take fits)), 0) by rw [ED.out]; exact HND.out)
      obtain ⟨R, hR⟩ : ∃ R : List Value, R = [Value.int .i64 d.Room, .int .i64 (fuseD d), .int .i64 d.Next, .slice (some ⟨g, 0, none⟩) d.Nodes.length c3, .slice p4 d.Kept.length c4, .slice p5 d.Turns.length c5] := ⟨_, rfl⟩
      have HC1 := hid (show R.toArray.all (·.oneCell') = true by rw [hR]; simp [Value.oneCell'])
      have HL := hid (show R.length = 6 by rw [hR]; rfl)
      have X6R := hid (show Bx wD B6 R.toArray by rw [hR]; exact X6D.out)
      have HR := hid hR
      have I1 := hid (show (Tryz.prog.info? 35).map (·.size) = some R.length by rw [HL.out]; exact I6.out)
      have I2 := hid (show (Tryz.prog.info? 35).map (·.size) = some R.toArray.size by rw [List.size_toArray, HL.out]; exact I6.out)
      have TH := hid (show wD.there (w.heap.size + 2) 0 R.toArray.size by rw [show R.toArray.size = 6 by rw [List.size_toArray]; exact HL.out]; exact XRD.out.there 0 6 (by simp))
      clear hR
      go_wp2_with (first | (refine wpList_load_mid rfl 35 _ rfl B6 0 rfl R _ X6R.out.all Tryz.underlying35 rfl I1.out ?_) | (refine wpList_store_mid rfl 35 _ _ rfl (w.heap.size + 2) 0 R.toArray rfl rfl TH.out I2.out HC1.out ?_))
      have X13 := hid (show Bx (wD.setCells (w.heap.size + 2) 0 R) (w.heap.size + 2) R.toArray from XRD.out.setAll R (by rw [HL.out]; simp))
      refine bodyPost_ret (results_mid_tmp Tryz.results30 rfl R X13.out.all Tryz.underlying35 rfl I1.out) rfl ?_
      rw [ED2.out]
      refine ⟨_, _, _, B3', B4, B5, by rw [HR.out]; rfl, (DFD.out.mono (Nat.le_add_right _ _)).keep (fun b hb => setCells_heap _ _ _ _ _ ?_), Below.setCells _ (Nat.le_add_right _ _) _ _ BD.out⟩
      have := DFD.out.lts b hb
      omega
  ·as_aux_lemma =>
    obtain ⟨j, hj, hn, hid2⟩ := node_of HDK.out nm (code_node HC.out (by decide) (by decide))
    have hndj : ndAt d nm = j := by unfold ndAt; rw [hn]; simp
    have hatj : at0 = (j : Int) := by rw [HAT.out, hn]
    subst hatj
    obtain ⟨g, cap, bi, ci, hv3, hgB, hglo, hglt, hFg, hbi, hOi, hAi, hset⟩ := DF.out.n.setE j (by rw [List.length_map]; exact hj)
    rw [List.length_map] at hv3
    obtain ⟨rfl, _, rfl⟩ := Value.slice.inj hv3
    have hNFj : (d.Nodes.map (NF 5))[j]'(by rw [List.length_map]; exact hj) = NF 5 d.Nodes[j] := by rw [List.getElem_map]
    rw [hNFj] at hOi
    obtain ⟨v1, v2, b1, b2, hbi2, rfl, hId, hO1, hO2, hd12⟩ := nf_open hOi
    obtain ⟨n, hnn⟩ : ∃ n, n = d.Nodes[j] := ⟨_, rfl⟩
    rw [show (NF 5 d.Nodes[j]).Id = n.Id by rw [hnn]; rfl] at hId hAi
    rw [show (NF 5 d.Nodes[j]).Body = n.Body by rw [hnn]; rfl] at hO1
    rw [show (NF 5 d.Nodes[j]).Safe = n.Safe by rw [hnn]; rfl] at hO2
    obtain ⟨q1, k1, rfl⟩ := hO1.slice
    obtain ⟨q2, k2, rfl⟩ := hO2.slice
    have e0 : w9.cell? ⟨g, j * 3, none⟩ = some (.int .i64 n.Id) := by have := hAi 0 _ rfl; exact this
    have e1 : w9.cell? ⟨g, j * 3 + 1, none⟩ = some (.slice q1 n.Body.length k1) := by have := hAi 1 _ rfl; exact this
    have e2 : w9.cell? ⟨g, j * 3 + 2, none⟩ = some (.slice q2 n.Safe.length k2) := by have := hAi 2 _ rfl; exact this
    have HSET := hid hset; have O1 := hid hO1; have O2 := hid hO2; have D12 := hid hd12; have HID := hid hId; have HFG := hid hFg; have HBI := hid hbi; have HBI2 := hid hbi2; have HNDJ := hid hndj; have HN := hid hnn
    have hng6 : g ≠ B6 := fun e => by have := LT3.out g (.inl hgB); omega
    have hji : (j : Int) < (d.Nodes.length : Int) := by omega
    have HGB := hid hgB
    have GB := hid (show g < B6 ∧ w.heap.size + 3 ≤ g from ⟨LT3.out g (.inl hgB), hglo⟩)
    have LB := hid (fun b (hb : b ∈ b1 ∨ b ∈ b2) => show b < B6 ∧ b ≠ g ∧ w.heap.size + 3 ≤ b from by
     have hm : b ∈ bi := by rw [HBI2.out]; exact List.mem_append.2 hb
     exact ⟨LT3.out b (.inl (HBI.out b hm).1), (HBI.out b hm).2, (DF.out.n.lts b (HBI.out b hm).1).1⟩)
    have HSM := hid (show n.Body.length ≤ 60000 ∧ n.Safe.length ≤ 60000 by rw [hnn]; exact node_small HDK.out _ (List.getElem_mem hj))
    have HJ := hid hj; have E0 := hid e0; have E1 := hid e1; have E2 := hid e2
    clear hset hO1 hO2 hd12 hId hFg hbi hbi2 hndj hn hid2 hOi hAi hv3 hNFj hnn hgB hglo
    have s1 := hid (show ∃ bs, Slc w9 bs q1 n.Body.length k1 n.Body from by obtain ⟨bs', _, s⟩ := O1.out.slcL; exact ⟨bs', s⟩)
    obtain ⟨bsB, sB⟩ := s1.out
    go_wp2_with fail
    refine (i_copyBytes sB (by have := HSM.out.1; omega)).mono ?_
    rintro e wE ⟨vC, bC, rfl, hOC, hbC⟩
    obtain ⟨pC, cC, rfl⟩ := hOC.slice
    have OC := hid hOC
    have HT9 := hid (fun k (hk : k < w9.heap.size) (_ : k ∉ bi) => show wE.heap[k]? = w9.heap[k]? from hbC.block k hk)
    have BE := hid (HB.out.trans (hbC.mono HB.out.size))
    have LE := hid hbC.size
    obtain ⟨bN, hbN⟩ : ∃ bN, bN = b1 ++ bC := ⟨_, rfl⟩
    have OCE := hid (show Own (w.heap.size + 3) wE bN [.int .i64 n.Id, .slice q1 n.Body.length k1, .slice pC n.Body.length cC] (⟨n.Id, n.Body, n.Body⟩ : NodeF 5) from by
     rw [hbN]
     exact nf_own HID.out (O1.out.grow hbC) (OC.out.mono (by have := SZ3.out; have := X6.out.f.lt; omega)) (fun x hx h9 => by have := (OC.out.lts x h9).1; have := (O1.out.lts x hx).2; omega))
    have HBN := hid (show ∀ b ∈ bN, b ∈ bi ∨ w9.heap.size ≤ b from fun b hb => by
     rw [hbN] at hb
     rcases List.mem_append.1 hb with hb | hb
     ·exact .inl (by rw [HBI2.out]; exact List.mem_append_left _ hb)
     ·exact .inr (OC.out.lts b hb).1)
    clear hbN hOC hbC sB s1 xo xf yo e0 e1 e2 x6lt
    have hgi : g ∉ bi := fun hm => (HBI.out g hm).2 rfl
    have h6i : B6 ∉ bi := fun hm => by have := LT3.out B6 (.inl (HBI.out B6 hm).1); omega
    have hRi : w.heap.size + 2 ∉ bi := fun hm => by have := (DF.out.n.lts _ (HBI.out _ hm).1).1; omega
    have hg9 : g < w9.heap.size := (DF.out.n.lts g HGB.out).2
    have X6C := hid (X6.out.keep (HT9.out B6 X6.out.f.lt h6i))
    have FE := hid (HFG.out.keep (HT9.out g hg9 hgi))
    have fg : ∀ o, wE.frozen? ⟨g, o, none⟩ = false := fun o => FE.out.frozen o
    have cg : ∀ o v, w9.cell? ⟨g, o, none⟩ = some v → wE.cell? ⟨g, o, none⟩ = some v := fun o v h => (World.cell?_of_block (a := ⟨g, o, none⟩) (HT9.out g hg9 hgi)).trans h
    have z0 := cg _ _ E0.out; have z1 := cg _ _ E1.out; have z2 := cg _ _ E2.out
    have Z0 := hid z0; have Z1 := hid z1; have Z2 := hid z2
    have hgE : g < wE.heap.size := Nat.lt_of_lt_of_le hg9 LE.out
    clear cg h6i
    go_upto_region 34 with fail
    refine late_genw (fun wD hwD => ?_)
    clear fg z0 z1 z2 hgE
    have hkD : ∀ k, k ≠ g → wD.heap[k]? = wE.heap[k]? := fun k hk => by rw [hwD]; exact Below.heap_setCell _ _ _ _ hk
    obtain ⟨B3', hO3', hB3'⟩ := HSET.out wE (fun k hk hki => HT9.out k (DF.out.n.lts k hk).2 hki) bN [.int .i64 n.Id, .slice q1 n.Body.length k1, .slice pC n.Body.length cC] ⟨n.Id, n.Body, n.Body⟩ OCE.out (fun b hb => by
     rcases HBN.out b hb with hb | hb
     ·exact .inr hb
     ·exact .inl fun hm => by have := (DF.out.n.lts b hm).2; omega)
    have hO3 : OwnL (w.heap.size + 3) wD 104 (.slice (some ⟨g, 0, none⟩) d.Nodes.length c3) B3' ((d.Nodes.map (NF 5)).set j ⟨n.Id, n.Body, n.Body⟩) := hO3'.keep fun b hb => by rw [hwD]; exact (set3_2 FE.out Z0.out Z1.out b).symm
    have hND : (d.Nodes.map (NF 5)).set j ⟨n.Id, n.Body, n.Body⟩ = (d.Nodes.set j (safeD n n.Body)).map (NF 5) := by rw [List.map_set]; rfl
    rw [hND] at hO3
    have hB3o : ∀ b ∈ B3', b ∈ B3 ∨ w9.heap.size ≤ b := fun b hb => by
     rcases hB3' b hb with h9 | h9
     ·exact .inl h9
     ·rcases HBN.out b h9 with h9 | h9
      ·exact .inl (HBI.out b h9).1
      ·exact .inr h9
    have hkk : ∀ b, b ∈ B4 ∨ b ∈ B5 → wD.heap[b]? = w9.heap[b]? := fun b hb => by
     have hb9 := DF.out.lts b (.inr hb)
     have hb3 : ∀ x ∈ B3, b ≠ x := fun x hx e => by
      subst e
      rcases hb with hb | hb
      ·exact DF.out.d34 _ hx hb
      ·exact DF.out.d35 _ hx hb
     exact (hkD b (hb3 g HGB.out)).trans (HT9.out b hb9.2 (fun hm => hb3 b (HBI.out b hm).1 rfl))
    have DFD := hid (show DiskF 104 127 106 5 (w.heap.size + 3) wD (setN d j (safeD n n.Body)) (.slice (some ⟨g, 0, none⟩) d.Nodes.length c3) (.slice p4 d.Kept.length c4) (.slice p5 d.Turns.length c5) B3' B4 B5 from
     ⟨JD.out.1, fuse_i64 JD.out.2.1, JD.out.2.2, hO3, DF.out.k.keep fun b hb => hkk b (.inl hb), DF.out.t.keep fun b hb => hkk b (.inr hb),
      fun b h1 h2 => (by rcases hB3o b h1 with h9 | h9; exact DF.out.d34 b h9 h2; have := (DF.out.k.lts b h2).2; omega),
      fun b h1 h2 => (by rcases hB3o b h1 with h9 | h9; exact DF.out.d35 b h9 h2; have := (DF.out.t.lts b h2).2; omega),
      DF.out.d45⟩)
    have X6D := hid (X6C.out.keep (hkD B6 (Ne.symm hng6)))
    have XRD := hid (XR.out.keep ((hkD (w.heap.size + 2) (by have := GB.out; omega)).trans (HT9.out _ XR.out.f.lt hRi)))
    have BD := hid (show Below w.heap.size w wD by
     rw [hwD]
     exact BE.out.setCell (show w.heap.size ≤ g by have := GB.out; omega) _)
    have HND := hid (show doD d 3 nm tt sz data = (setN d j (safeD n n.Body), 0) by unfold doD; simp only [HNDJ.out, getD_at HJ.out, ← HN.out]; rfl)
    clear hwD hkD hO3' hB3' hO3 hND hB3o hkk
    have ED2 := hid (show diskDo d 3 nm tt sz data = (setN d j (safeD n n.Body), 0) by rw [ED.out]; exact HND.out)
    obtain ⟨R, hR⟩ : ∃ R : List Value, R = [Value.int .i64 d.Room, .int .i64 (fuseD d), .int .i64 d.Next, .slice (some ⟨g, 0, none⟩) d.Nodes.length c3, .slice p4 d.Kept.length c4, .slice p5 d.Turns.length c5] := ⟨_, rfl⟩
    have HC1 := hid (show R.toArray.all (·.oneCell') = true by rw [hR]; simp [Value.oneCell'])
    have HL := hid (show R.length = 6 by rw [hR]; rfl)
    have X6R := hid (show Bx wD B6 R.toArray by rw [hR]; exact X6D.out)
    have HR := hid hR
    have I1 := hid (show (Tryz.prog.info? 35).map (·.size) = some R.length by rw [HL.out]; exact I6.out)
    have I2 := hid (show (Tryz.prog.info? 35).map (·.size) = some R.toArray.size by rw [List.size_toArray, HL.out]; exact I6.out)
    have TH := hid (show wD.there (w.heap.size + 2) 0 R.toArray.size by rw [show R.toArray.size = 6 by rw [List.size_toArray]; exact HL.out]; exact XRD.out.there 0 6 (by simp))
    clear hR
    go_wp2_with (first | (refine wpList_load_mid rfl 35 _ rfl B6 0 rfl R _ X6R.out.all Tryz.underlying35 rfl I1.out ?_) | (refine wpList_store_mid rfl 35 _ _ rfl (w.heap.size + 2) 0 R.toArray rfl rfl TH.out I2.out HC1.out ?_))
    have X13 := hid (show Bx (wD.setCells (w.heap.size + 2) 0 R) (w.heap.size + 2) R.toArray from XRD.out.setAll R (by rw [HL.out]; simp))
    refine bodyPost_ret (results_mid_tmp Tryz.results30 rfl R X13.out.all Tryz.underlying35 rfl I1.out) rfl ?_
    rw [ED2.out]
    refine ⟨_, _, _, B3', B4, B5, by rw [HR.out]; rfl, (DFD.out.mono (Nat.le_add_right _ _)).keep (fun b hb => setCells_heap _ _ _ _ _ ?_), Below.setCells _ (Nat.le_add_right _ _) _ _ BD.out⟩
    have := DFD.out.lts b hb
    omega
  ·as_aux_lemma =>
    obtain ⟨j, hj, hn, hid2⟩ := node_of HDK.out nm (code_node HC.out (by decide) (by decide))
    have hndj : ndAt d nm = j := by unfold ndAt; rw [hn]; simp
    have hatj : at0 = (j : Int) := by rw [HAT.out, hn]
    subst hatj
    obtain ⟨g, cap, bi, ci, hv3, hgB, hglo, hglt, hFg, hbi, hOi, hAi, hset⟩ := DF.out.n.setE j (by rw [List.length_map]; exact hj)
    rw [List.length_map] at hv3
    obtain ⟨rfl, _, rfl⟩ := Value.slice.inj hv3
    have hNFj : (d.Nodes.map (NF 5))[j]'(by rw [List.length_map]; exact hj) = NF 5 d.Nodes[j] := by rw [List.getElem_map]
    rw [hNFj] at hOi
    obtain ⟨v1, v2, b1, b2, hbi2, rfl, hId, hO1, hO2, hd12⟩ := nf_open hOi
    obtain ⟨n, hnn⟩ : ∃ n, n = d.Nodes[j] := ⟨_, rfl⟩
    rw [show (NF 5 d.Nodes[j]).Id = n.Id by rw [hnn]; rfl] at hId hAi
    rw [show (NF 5 d.Nodes[j]).Body = n.Body by rw [hnn]; rfl] at hO1
    rw [show (NF 5 d.Nodes[j]).Safe = n.Safe by rw [hnn]; rfl] at hO2
    obtain ⟨q1, k1, rfl⟩ := hO1.slice
    obtain ⟨q2, k2, rfl⟩ := hO2.slice
    have e0 : w9.cell? ⟨g, j * 3, none⟩ = some (.int .i64 n.Id) := by have := hAi 0 _ rfl; exact this
    have e1 : w9.cell? ⟨g, j * 3 + 1, none⟩ = some (.slice q1 n.Body.length k1) := by have := hAi 1 _ rfl; exact this
    have e2 : w9.cell? ⟨g, j * 3 + 2, none⟩ = some (.slice q2 n.Safe.length k2) := by have := hAi 2 _ rfl; exact this
    have HSET := hid hset; have O1 := hid hO1; have O2 := hid hO2; have D12 := hid hd12; have HID := hid hId; have HFG := hid hFg; have HBI := hid hbi; have HBI2 := hid hbi2; have HNDJ := hid hndj; have HN := hid hnn
    have hng6 : g ≠ B6 := fun e => by have := LT3.out g (.inl hgB); omega
    have hji : (j : Int) < (d.Nodes.length : Int) := by omega
    have HGB := hid hgB
    have GB := hid (show g < B6 ∧ w.heap.size + 3 ≤ g from ⟨LT3.out g (.inl hgB), hglo⟩)
    have LB := hid (fun b (hb : b ∈ b1 ∨ b ∈ b2) => show b < B6 ∧ b ≠ g ∧ w.heap.size + 3 ≤ b from by
     have hm : b ∈ bi := by rw [HBI2.out]; exact List.mem_append.2 hb
     exact ⟨LT3.out b (.inl (HBI.out b hm).1), (HBI.out b hm).2, (DF.out.n.lts b (HBI.out b hm).1).1⟩)
    have HSM := hid (show n.Body.length ≤ 60000 ∧ n.Safe.length ≤ 60000 by rw [hnn]; exact node_small HDK.out _ (List.getElem_mem hj))
    have HJ := hid hj; have E0 := hid e0; have E1 := hid e1; have E2 := hid e2
    clear hset hO1 hO2 hd12 hId hFg hbi hbi2 hndj hn hid2 hOi hAi hv3 hNFj hnn hgB hglo
    have hszb := code_size HC.out
    have hopB := HOP.out
    unfold opB at hopB
    simp only [if_true, if_neg (show ¬ (4 : Int) = 2 by decide), Bool.and_true, Bool.and_eq_true, decide_eq_true_eq] at hopB
    have hrd : readB d nm = n.Body := by rw [readB_at HJ.out HAT.out.symm, ← HN.out]
    rw [hrd] at hszb
    have SZB := hid (show sz ≤ (n.Body.length : Int) from hszb)
    have SZ0 := hid hopB.1
    clear hszb hopB hrd
    have s1 := hid (show ∃ bs, Slc w9 bs q1 n.Body.length k1 n.Body from by obtain ⟨bs', _, s⟩ := O1.out.slcL; exact ⟨bs', s⟩)
    obtain ⟨bsB, sB⟩ := s1.out
    obtain ⟨aD, bD, hcutD, _, _, hSD⟩ := sB.cut_h 54 Tryz.underlying54 hi8 hz18 sz SZ0.out SZB.out
    have HSD := hid hSD
    have y3 := XO.out.out 3
    have hl2 : (n.Body.take sz.toNat).length = sz.toNat := by rw [List.length_take]; have := SZB.out; omega
    have HL2 := hid hl2
    clear hl2
    go_upto_region 28 with fail
    refine late_start (fun V => V.cell? ⟨g, j * 3 + 1, none⟩ = some (.slice q1 n.Body.length k1) ∧ V.cell? ⟨w.heap.size + 1, 3, none⟩ = some (.int .i64 sz) ∧ Below w9.heap.size w9 V) 11 (by kernel_rfl) ?_ (fun hS => ?_)
    ·exact ⟨E1.out, y3, (Below.refl _ _).drew⟩
    clear y3 xo xf yo e0 e1 e2 x6lt
    refine ltk 0 rfl ?_
    try simp only [Act.put, putZ, List.getElem_toArray, List.getElem_cons_zero, List.getElem_cons_succ]
    refine ltk 1 rfl ?_
    try simp only [Act.put, putZ, List.getElem_toArray, List.getElem_cons_zero, List.getElem_cons_succ]
    refine ltk 2 rfl ?_
    try simp only [Act.put, putZ, List.getElem_toArray, List.getElem_cons_zero, List.getElem_cons_succ]
    refine ltk 3 rfl ?_
    try simp only [Act.put, putZ, List.getElem_toArray, List.getElem_cons_zero, List.getElem_cons_succ]
    refine ltk 4 rfl ?_
    try simp only [Act.put, putZ, List.getElem_toArray, List.getElem_cons_zero, List.getElem_cons_succ]
    refine ltk 5 rfl ?_
    try simp only [Act.put, putZ, List.getElem_toArray, List.getElem_cons_zero, List.getElem_cons_succ]
    refine ltk 6 rfl ?_
    try simp only [Act.put, putZ, List.getElem_toArray, List.getElem_cons_zero, List.getElem_cons_succ]
    refine ltk 7 rfl ?_
    try simp only [Act.put, putZ, List.getElem_toArray, List.getElem_cons_zero, List.getElem_cons_succ]
    refine late_one (i := 8) rfl (by kernel_rfl) (fun K9 hK9 => ?_)
    go_simp
    refine (i_copyBytes (HSD.out.grow hS.2.2) (by rw [HL2.out]; have := HSM.out.1; have := SZB.out; omega)).mono ?_
    rintro e wE ⟨vC, bC, rfl, hOC, hbC⟩
    obtain ⟨pC, cC, rfl⟩ := hOC.slice
    rw [HL2.out] at hOC ⊢
    have OC := hid (hOC.mono hS.2.2.size)
    have hb9 := hS.2.2.trans (hbC.mono hS.2.2.size)
    go_wp2_with fail
    refine hK9.out _ _ (fun _ => ?_) (fun hS9 => ?_)
    ·(try dsimp only); exact ⟨keepcellF hbC hS.1, keepcellF hbC hS.2.1, hS.2.2.trans (hbC.mono hS.2.2.size)⟩
    replace hS := hS9 (by decide)
    clear hK9 K9 hS9
    try simp only [Act.put, putZ, List.getElem_toArray, List.getElem_cons_zero, List.getElem_cons_succ]
    have HT9 := hid (fun k (hk : k < w9.heap.size) (_ : k ∉ bi) => show wE.heap[k]? = w9.heap[k]? from hb9.block k hk)
    have BE := hid (HB.out.trans (hb9.mono HB.out.size))
    have LE := hid hb9.size
    obtain ⟨bN, hbN⟩ : ∃ bN, bN = bC ++ b2 := ⟨_, rfl⟩
    have OCE := hid (show Own (w.heap.size + 3) wE bN [.int .i64 n.Id, .slice pC sz.toNat cC, .slice q2 n.Safe.length k2] (⟨n.Id, n.Body.take sz.toNat, n.Safe⟩ : NodeF 5) from by
     rw [hbN]
     exact nf_own HID.out (OC.out.mono (by have := SZ3.out; have := X6.out.f.lt; omega)) (O2.out.grow hb9) (fun x hx h9 => by have := (OC.out.lts x hx).1; have := (O2.out.lts x h9).2; omega))
    have HBN := hid (show ∀ b ∈ bN, b ∈ bi ∨ w9.heap.size ≤ b from fun b hb => by
     rw [hbN] at hb
     rcases List.mem_append.1 hb with hb | hb
     ·exact .inr (OC.out.lts b hb).1
     ·exact .inl (by rw [HBI2.out]; exact List.mem_append_right _ hb))
    clear hbN hOC hbC hb9 sB s1 hSD hcutD
    have hgi : g ∉ bi := fun hm => (HBI.out g hm).2 rfl
    have h6i : B6 ∉ bi := fun hm => by have := LT3.out B6 (.inl (HBI.out B6 hm).1); omega
    have hRi : w.heap.size + 2 ∉ bi := fun hm => by have := (DF.out.n.lts _ (HBI.out _ hm).1).1; omega
    have hg9 : g < w9.heap.size := (DF.out.n.lts g HGB.out).2
    have X6C := hid (X6.out.keep (HT9.out B6 X6.out.f.lt h6i))
    have FE := hid (HFG.out.keep (HT9.out g hg9 hgi))
    have fg : ∀ o, wE.frozen? ⟨g, o, none⟩ = false := fun o => FE.out.frozen o
    have cg : ∀ o v, w9.cell? ⟨g, o, none⟩ = some v → wE.cell? ⟨g, o, none⟩ = some v := fun o v h => (World.cell?_of_block (a := ⟨g, o, none⟩) (HT9.out g hg9 hgi)).trans h
    have z0 := cg _ _ E0.out; have z1 := cg _ _ E1.out; have z2 := cg _ _ E2.out
    have Z0 := hid z0; have Z1 := hid z1; have Z2 := hid z2
    have hgE : g < wE.heap.size := Nat.lt_of_lt_of_le hg9 LE.out
    clear cg h6i
    refine late_one (i := 9) rfl (by kernel_rfl) (fun K9 hK9 => ?_)
    go_simp
    refine hK9.out _ _ (fun _ => ?_) (fun hS9 => ?_)
    ·(try dsimp only); exact ⟨hS.1, hS.2.1, hS.2.2⟩
    replace hS := hS9 (by decide)
    clear hK9 K9 hS9
    try simp only [Act.put, putZ, List.getElem_toArray, List.getElem_cons_zero, List.getElem_cons_succ]
    refine ltk 10 rfl ?_
    try simp only [Act.put, putZ, List.getElem_toArray, List.getElem_cons_zero, List.getElem_cons_succ]
    refine late_one (i := 11) rfl (by kernel_rfl) (fun K9 hK9 => ?_)
    go_simp
    refine hK9.out _ _ (fun h => absurd rfl h) (fun _ => ?_)
    clear hK9 K9
    try simp only [Act.put, putZ, List.getElem_toArray, List.getElem_cons_zero, List.getElem_cons_succ]
    refine late_done (by kernel_rfl) ?_ _
    clear hS
    refine late_genw (fun wD hwD => ?_)
    clear fg z0 z1 z2 hgE
    have hkD : ∀ k, k ≠ g → wD.heap[k]? = wE.heap[k]? := fun k hk => by rw [hwD]; exact Below.heap_setCell _ _ _ _ hk
    obtain ⟨B3', hO3', hB3'⟩ := HSET.out wE (fun k hk hki => HT9.out k (DF.out.n.lts k hk).2 hki) bN [.int .i64 n.Id, .slice pC sz.toNat cC, .slice q2 n.Safe.length k2] ⟨n.Id, n.Body.take sz.toNat, n.Safe⟩ OCE.out (fun b hb => by
     rcases HBN.out b hb with hb | hb
     ·exact .inr hb
     ·exact .inl fun hm => by have := (DF.out.n.lts b hm).2; omega)
    have hO3 : OwnL (w.heap.size + 3) wD 104 (.slice (some ⟨g, 0, none⟩) d.Nodes.length c3) B3' ((d.Nodes.map (NF 5)).set j ⟨n.Id, n.Body.take sz.toNat, n.Safe⟩) := hO3'.keep fun b hb => by rw [hwD]; exact (set3_1 FE.out Z0.out Z2.out b).symm
    have hND : (d.Nodes.map (NF 5)).set j ⟨n.Id, n.Body.take sz.toNat, n.Safe⟩ = (d.Nodes.set j (bodyD n (n.Body.take sz.toNat))).map (NF 5) := by rw [List.map_set]; rfl
    rw [hND] at hO3
    have hB3o : ∀ b ∈ B3', b ∈ B3 ∨ w9.heap.size ≤ b := fun b hb => by
     rcases hB3' b hb with h9 | h9
     ·exact .inl h9
     ·rcases HBN.out b h9 with h9 | h9
      ·exact .inl (HBI.out b h9).1
      ·exact .inr h9
    have hkk : ∀ b, b ∈ B4 ∨ b ∈ B5 → wD.heap[b]? = w9.heap[b]? := fun b hb => by
     have hb9 := DF.out.lts b (.inr hb)
     have hb3 : ∀ x ∈ B3, b ≠ x := fun x hx e => by
      subst e
      rcases hb with hb | hb
      ·exact DF.out.d34 _ hx hb
      ·exact DF.out.d35 _ hx hb
     exact (hkD b (hb3 g HGB.out)).trans (HT9.out b hb9.2 (fun hm => hb3 b (HBI.out b hm).1 rfl))
    have DFD := hid (show DiskF 104 127 106 5 (w.heap.size + 3) wD (setN d j (bodyD n (n.Body.take sz.toNat))) (.slice (some ⟨g, 0, none⟩) d.Nodes.length c3) (.slice p4 d.Kept.length c4) (.slice p5 d.Turns.length c5) B3' B4 B5 from
     ⟨JD.out.1, fuse_i64 JD.out.2.1, JD.out.2.2, hO3, DF.out.k.keep fun b hb => hkk b (.inl hb), DF.out.t.keep fun b hb => hkk b (.inr hb),
      fun b h1 h2 => (by rcases hB3o b h1 with h9 | h9; exact DF.out.d34 b h9 h2; have := (DF.out.k.lts b h2).2; omega),
      fun b h1 h2 => (by rcases hB3o b h1 with h9 | h9; exact DF.out.d35 b h9 h2; have := (DF.out.t.lts b h2).2; omega),
      DF.out.d45⟩)
    have X6D := hid (X6C.out.keep (hkD B6 (Ne.symm hng6)))
    have XRD := hid (XR.out.keep ((hkD (w.heap.size + 2) (by have := GB.out; omega)).trans (HT9.out _ XR.out.f.lt hRi)))
    have BD := hid (show Below w.heap.size w wD by
     rw [hwD]
     exact BE.out.setCell (show w.heap.size ≤ g by have := GB.out; omega) _)
    have HND := hid (show doD d 4 nm tt sz data = (setN d j (bodyD n (n.Body.take sz.toNat)), 0) by unfold doD; simp only [HNDJ.out, getD_at HJ.out, ← HN.out]; rfl)
    clear hwD hkD hO3' hB3' hO3 hND hB3o hkk
    have ED2 := hid (show diskDo d 4 nm tt sz data = (setN d j (bodyD n (n.Body.take sz.toNat)), 0) by rw [ED.out]; exact HND.out)
    obtain ⟨R, hR⟩ : ∃ R : List Value, R = [Value.int .i64 d.Room, .int .i64 (fuseD d), .int .i64 d.Next, .slice (some ⟨g, 0, none⟩) d.Nodes.length c3, .slice p4 d.Kept.length c4, .slice p5 d.Turns.length c5] := ⟨_, rfl⟩
    have HC1 := hid (show R.toArray.all (·.oneCell') = true by rw [hR]; simp [Value.oneCell'])
    have HL := hid (show R.length = 6 by rw [hR]; rfl)
    have X6R := hid (show Bx wD B6 R.toArray by rw [hR]; exact X6D.out)
    have HR := hid hR
    have I1 := hid (show (Tryz.prog.info? 35).map (·.size) = some R.length by rw [HL.out]; exact I6.out)
    have I2 := hid (show (Tryz.prog.info? 35).map (·.size) = some R.toArray.size by rw [List.size_toArray, HL.out]; exact I6.out)
    have TH := hid (show wD.there (w.heap.size + 2) 0 R.toArray.size by rw [show R.toArray.size = 6 by rw [List.size_toArray]; exact HL.out]; exact XRD.out.there 0 6 (by simp))
    clear hR
    go_wp2_with (first | (refine wpList_load_mid rfl 35 _ rfl B6 0 rfl R _ X6R.out.all Tryz.underlying35 rfl I1.out ?_) | (refine wpList_store_mid rfl 35 _ _ rfl (w.heap.size + 2) 0 R.toArray rfl rfl TH.out I2.out HC1.out ?_))
    have X13 := hid (show Bx (wD.setCells (w.heap.size + 2) 0 R) (w.heap.size + 2) R.toArray from XRD.out.setAll R (by rw [HL.out]; simp))
    refine bodyPost_ret (results_mid_tmp Tryz.results30 rfl R X13.out.all Tryz.underlying35 rfl I1.out) rfl ?_
    rw [ED2.out]
    refine ⟨_, _, _, B3', B4, B5, by rw [HR.out]; rfl, (DFD.out.mono (Nat.le_add_right _ _)).keep (fun b hb => setCells_heap _ _ _ _ _ ?_), Below.setCells _ (Nat.le_add_right _ _) _ _ BD.out⟩
    have := DFD.out.lts b hb
    omega
  ·as_aux_lemma =>
    obtain ⟨j, hj, hn, hid2⟩ := node_of HDK.out nm (code_node HC.out (by decide) (by decide))
    have hndj : ndAt d nm = j := by unfold ndAt; rw [hn]; simp
    have hatj : at0 = (j : Int) := by rw [HAT.out, hn]
    subst hatj
    obtain ⟨g, cap, bi, ci, hv3, hgB, hglo, hglt, hFg, hbi, hOi, hAi, hset⟩ := DF.out.n.setE j (by rw [List.length_map]; exact hj)
    rw [List.length_map] at hv3
    obtain ⟨rfl, _, rfl⟩ := Value.slice.inj hv3
    have hji : (j : Int) < (d.Nodes.length : Int) := by omega
    clear hndj hn hid2 hgB hglo hglt hFg hbi hOi hAi hset hv3 hj
    obtain ⟨x, hx⟩ : ∃ x : TurnD, x = ⟨5, nm, tt, 0⟩ := ⟨_, rfl⟩
    have PX := hid (fun V : World => show Rep.pt V [] [.int .i64 5, .string nm, .string tt, .int .i64 0] x by rw [hx]; exact mk_Turn (d := ⟨5, nm, tt, 0⟩) (by simp [I64]) HV.out.nl HV.out.tl (by simp [I64]))
    have HXX := hid hx
    clear hx
    have TL := hid (show d.Turns.length ≤ 40 from HROH.out.r9)
    go_wp2_with (at_builtin; refine wp_append rfl _ _ 33 rfl 106 i3 (.agg #[.int .i64 0, .string ByteArray.empty, .string ByteArray.empty, .int .i64 0]) 48 Tryz.underlying33 hi3 hz03 hz13 hz23 rfl (lo := w.heap.size + 3) (bs := B5) (xs := d.Turns) rfl (DF.out.t.alloc _) (b2 := []) (ys := [x]) rfl ?tsrc List.nodup_nil (fun b hb => by cases hb) ?ta ?tb ?tc ?_)
    case tsrc => exact src_new (PX.out _) (by simp) _ _
    try (case ta => have := TL.out; simp; omega)
    try (case tb => have := TL.out; simp; omega)
    try (case tc => have := SZ3.out; have := X6.out.f.lt; simp; omega)
    intro pT cT wT bT hOT hTT hmT
    have OT := hid hOT
    have TT9 := hid (((Tch.refl B5 w9).alloc (.cells #[.int .i64 5, .string nm, .string tt, .int .i64 0] 106)).trans hTT)
    have MT := hid (fun b (hb : b ∈ bT) => show b ∈ B5 ∨ w9.heap.size < b from by have h3 := hmT b hb; (try simp at h3); rcases h3 with h3 | h3; exact .inl h3; exact .inr (by omega))
    clear hOT hTT hmT xo xf yo
    have N65 := hid (show B6 ∉ B5 from fun hm => by have := LT3.out B6 (.inr (.inr hm)); omega)
    have X6T := hid (Bx.tch TT9.out X6.out.f.lt N65.out X6.out)
    have xo := X6T.out.out; have xf := X6T.out.fr
    go_upto_region 34 with fail
    refine late_genw (fun wD hwD => ?_)
    have hkD : ∀ k, k ≠ B6 → wD.heap[k]? = wT.heap[k]? := fun k hk => by rw [hwD]; exact Below.heap_setCell _ _ _ _ hk
    have X6D := hid (show Bx wD B6 #[.int .i64 d.Room, .int .i64 (fuseD d), .int .i64 d.Next, .slice (some ⟨g, 0, none⟩) d.Nodes.length c3, .slice p4 d.Kept.length c4, .slice pT (d.Turns.length + 1) cT] by rw [hwD]; exact X6T.out.setSame 5 _)
    have XRD := hid (XR.out.keep ((hkD _ (by have := SZ3.out; omega)).trans (TT9.out.block _ XR.out.f.lt (fun hm => by have := (DF.out.t.lts _ hm).1; omega))))
    have hk9 : ∀ b, b ∈ B3 ∨ b ∈ B4 → wD.heap[b]? = w9.heap[b]? := fun b hb => by
     have h1 := LT3.out b (by rcases hb with hb | hb; exact .inl hb; exact .inr (.inl hb))
     have h2 := DF.out.lts b (by rcases hb with hb | hb; exact .inl hb; exact .inr (.inl hb))
     refine (hkD b (by omega)).trans (TT9.out.block b h2.2 fun hm => ?_)
     rcases hb with hb | hb
     ·exact DF.out.d35 b hb hm
     ·exact DF.out.d45 b hb hm
    have DFD := hid (show DiskF 104 127 106 5 (w.heap.size + 3) wD { d with Fuse := fuseD d, Turns := d.Turns ++ [x] } (.slice (some ⟨g, 0, none⟩) d.Nodes.length c3) (.slice p4 d.Kept.length c4) (.slice pT (d.Turns.length + 1) cT) B3 B4 bT from
     ⟨JD.out.1, fuse_i64 JD.out.2.1, JD.out.2.2, DF.out.n.keep fun b hb => hk9 b (.inl hb), DF.out.k.keep fun b hb => hk9 b (.inr hb), OT.out.keep fun b hb => hkD b (fun e => by
       subst e
       rcases MT.out _ hb with h9 | h9
       ·exact N65.out h9
       ·have := X6.out.f.lt; omega),
      DF.out.d34,
      fun b h1 h2 => (by rcases MT.out b h2 with h9 | h9; exact DF.out.d35 b h1 h9; have := (DF.out.n.lts b h1).2; omega),
      fun b h1 h2 => (by rcases MT.out b h2 with h9 | h9; exact DF.out.d45 b h1 h9; have := (DF.out.k.lts b h1).2; omega)⟩)
    have BD := hid (show Below w.heap.size w wD by
     rw [hwD]
     exact (HB.out.trans (TT9.out.below HB.out.size (fun b hb => by have := (DF.out.t.lts b hb).1; omega))).setCell (show w.heap.size ≤ B6 by have := SZ3.out; omega) _)
    have HND := hid (show doD d 5 nm tt sz data = ({ d with Fuse := fuseD d, Turns := d.Turns ++ [x] }, 0) by unfold doD; rw [HXX.out]; rfl)
    clear hwD hkD hk9 xo xf X6T
    have ED2 := hid (show diskDo d 5 nm tt sz data = ({ d with Fuse := fuseD d, Turns := d.Turns ++ [x] }, 0) by rw [ED.out]; exact HND.out)
    obtain ⟨R, hR⟩ : ∃ R : List Value, R = [Value.int .i64 d.Room, .int .i64 (fuseD d), .int .i64 d.Next, .slice (some ⟨g, 0, none⟩) d.Nodes.length c3, .slice p4 d.Kept.length c4, .slice pT (d.Turns.length + 1) cT] := ⟨_, rfl⟩
    have HC1 := hid (show R.toArray.all (·.oneCell') = true by rw [hR]; simp [Value.oneCell'])
    have HL := hid (show R.length = 6 by rw [hR]; rfl)
    have X6R := hid (show Bx wD B6 R.toArray by rw [hR]; exact X6D.out)
    have HR := hid hR
    have I1 := hid (show (Tryz.prog.info? 35).map (·.size) = some R.length by rw [HL.out]; exact I6.out)
    have I2 := hid (show (Tryz.prog.info? 35).map (·.size) = some R.toArray.size by rw [List.size_toArray, HL.out]; exact I6.out)
    have TH := hid (show wD.there (w.heap.size + 2) 0 R.toArray.size by rw [show R.toArray.size = 6 by rw [List.size_toArray]; exact HL.out]; exact XRD.out.there 0 6 (by simp))
    clear hR
    go_wp2_with (first | (refine wpList_load_mid rfl 35 _ rfl B6 0 rfl R _ X6R.out.all Tryz.underlying35 rfl I1.out ?_) | (refine wpList_store_mid rfl 35 _ _ rfl (w.heap.size + 2) 0 R.toArray rfl rfl TH.out I2.out HC1.out ?_))
    have X13 := hid (show Bx (wD.setCells (w.heap.size + 2) 0 R) (w.heap.size + 2) R.toArray from XRD.out.setAll R (by rw [HL.out]; simp))
    refine bodyPost_ret (results_mid_tmp Tryz.results30 rfl R X13.out.all Tryz.underlying35 rfl I1.out) rfl ?_
    rw [ED2.out]
    refine ⟨_, _, _, B3, B4, bT, by rw [HR.out]; rfl, (DFD.out.mono (Nat.le_add_right _ _)).keep (fun b hb => setCells_heap _ _ _ _ _ ?_), Below.setCells _ (Nat.le_add_right _ _) _ _ BD.out⟩
    have := DFD.out.lts b hb
    omega
  ·as_aux_lemma =>
    obtain ⟨j, hj, hn, hid2⟩ := node_of HDK.out nm (code_node HC.out (by decide) (by decide))
    have hndj : ndAt d nm = j := by unfold ndAt; rw [hn]; simp
    have hatj : at0 = (j : Int) := by rw [HAT.out, hn]
    subst hatj
    obtain ⟨g, cap, bi, ci, hv3, hgB, hglo, hglt, hFg, hbi, hOi, hAi, hset⟩ := DF.out.n.setE j (by rw [List.length_map]; exact hj)
    rw [List.length_map] at hv3
    obtain ⟨rfl, _, rfl⟩ := Value.slice.inj hv3
    have hji : (j : Int) < (d.Nodes.length : Int) := by omega
    clear hndj hn hid2 hgB hglo hglt hFg hbi hOi hAi hset hv3 hj
    obtain ⟨x, hx⟩ : ∃ x : TurnD, x = ⟨6, nm, tt, 0⟩ := ⟨_, rfl⟩
    have PX := hid (fun V : World => show Rep.pt V [] [.int .i64 6, .string nm, .string tt, .int .i64 0] x by rw [hx]; exact mk_Turn (d := ⟨6, nm, tt, 0⟩) (by simp [I64]) HV.out.nl HV.out.tl (by simp [I64]))
    have HXX := hid hx
    clear hx
    have TL := hid (show d.Turns.length ≤ 40 from HROH.out.r9)
    go_wp2_with (at_builtin; refine wp_append rfl _ _ 33 rfl 106 i3 (.agg #[.int .i64 0, .string ByteArray.empty, .string ByteArray.empty, .int .i64 0]) 48 Tryz.underlying33 hi3 hz03 hz13 hz23 rfl (lo := w.heap.size + 3) (bs := B5) (xs := d.Turns) rfl (DF.out.t.alloc _) (b2 := []) (ys := [x]) rfl ?tsrc List.nodup_nil (fun b hb => by cases hb) ?ta ?tb ?tc ?_)
    case tsrc => exact src_new (PX.out _) (by simp) _ _
    try (case ta => have := TL.out; simp; omega)
    try (case tb => have := TL.out; simp; omega)
    try (case tc => have := SZ3.out; have := X6.out.f.lt; simp; omega)
    intro pT cT wT bT hOT hTT hmT
    have OT := hid hOT
    have TT9 := hid (((Tch.refl B5 w9).alloc (.cells #[.int .i64 6, .string nm, .string tt, .int .i64 0] 106)).trans hTT)
    have MT := hid (fun b (hb : b ∈ bT) => show b ∈ B5 ∨ w9.heap.size < b from by have h3 := hmT b hb; (try simp at h3); rcases h3 with h3 | h3; exact .inl h3; exact .inr (by omega))
    clear hOT hTT hmT xo xf yo
    have N65 := hid (show B6 ∉ B5 from fun hm => by have := LT3.out B6 (.inr (.inr hm)); omega)
    have X6T := hid (Bx.tch TT9.out X6.out.f.lt N65.out X6.out)
    have xo := X6T.out.out; have xf := X6T.out.fr
    go_upto_region 34 with fail
    refine late_genw (fun wD hwD => ?_)
    have hkD : ∀ k, k ≠ B6 → wD.heap[k]? = wT.heap[k]? := fun k hk => by rw [hwD]; exact Below.heap_setCell _ _ _ _ hk
    have X6D := hid (show Bx wD B6 #[.int .i64 d.Room, .int .i64 (fuseD d), .int .i64 d.Next, .slice (some ⟨g, 0, none⟩) d.Nodes.length c3, .slice p4 d.Kept.length c4, .slice pT (d.Turns.length + 1) cT] by rw [hwD]; exact X6T.out.setSame 5 _)
    have XRD := hid (XR.out.keep ((hkD _ (by have := SZ3.out; omega)).trans (TT9.out.block _ XR.out.f.lt (fun hm => by have := (DF.out.t.lts _ hm).1; omega))))
    have hk9 : ∀ b, b ∈ B3 ∨ b ∈ B4 → wD.heap[b]? = w9.heap[b]? := fun b hb => by
     have h1 := LT3.out b (by rcases hb with hb | hb; exact .inl hb; exact .inr (.inl hb))
     have h2 := DF.out.lts b (by rcases hb with hb | hb; exact .inl hb; exact .inr (.inl hb))
     refine (hkD b (by omega)).trans (TT9.out.block b h2.2 fun hm => ?_)
     rcases hb with hb | hb
     ·exact DF.out.d35 b hb hm
     ·exact DF.out.d45 b hb hm
    have DFD := hid (show DiskF 104 127 106 5 (w.heap.size + 3) wD { d with Fuse := fuseD d, Turns := d.Turns ++ [x] } (.slice (some ⟨g, 0, none⟩) d.Nodes.length c3) (.slice p4 d.Kept.length c4) (.slice pT (d.Turns.length + 1) cT) B3 B4 bT from
     ⟨JD.out.1, fuse_i64 JD.out.2.1, JD.out.2.2, DF.out.n.keep fun b hb => hk9 b (.inl hb), DF.out.k.keep fun b hb => hk9 b (.inr hb), OT.out.keep fun b hb => hkD b (fun e => by
       subst e
       rcases MT.out _ hb with h9 | h9
       ·exact N65.out h9
       ·have := X6.out.f.lt; omega),
      DF.out.d34,
      fun b h1 h2 => (by rcases MT.out b h2 with h9 | h9; exact DF.out.d35 b h1 h9; have := (DF.out.n.lts b h1).2; omega),
      fun b h1 h2 => (by rcases MT.out b h2 with h9 | h9; exact DF.out.d45 b h1 h9; have := (DF.out.k.lts b h1).2; omega)⟩)
    have BD := hid (show Below w.heap.size w wD by
     rw [hwD]
     exact (HB.out.trans (TT9.out.below HB.out.size (fun b hb => by have := (DF.out.t.lts b hb).1; omega))).setCell (show w.heap.size ≤ B6 by have := SZ3.out; omega) _)
    have HND := hid (show doD d 6 nm tt sz data = ({ d with Fuse := fuseD d, Turns := d.Turns ++ [x] }, 0) by unfold doD; rw [HXX.out]; rfl)
    clear hwD hkD hk9 xo xf X6T
    have ED2 := hid (show diskDo d 6 nm tt sz data = ({ d with Fuse := fuseD d, Turns := d.Turns ++ [x] }, 0) by rw [ED.out]; exact HND.out)
    obtain ⟨R, hR⟩ : ∃ R : List Value, R = [Value.int .i64 d.Room, .int .i64 (fuseD d), .int .i64 d.Next, .slice (some ⟨g, 0, none⟩) d.Nodes.length c3, .slice p4 d.Kept.length c4, .slice pT (d.Turns.length + 1) cT] := ⟨_, rfl⟩
    have HC1 := hid (show R.toArray.all (·.oneCell') = true by rw [hR]; simp [Value.oneCell'])
    have HL := hid (show R.length = 6 by rw [hR]; rfl)
    have X6R := hid (show Bx wD B6 R.toArray by rw [hR]; exact X6D.out)
    have HR := hid hR
    have I1 := hid (show (Tryz.prog.info? 35).map (·.size) = some R.length by rw [HL.out]; exact I6.out)
    have I2 := hid (show (Tryz.prog.info? 35).map (·.size) = some R.toArray.size by rw [List.size_toArray, HL.out]; exact I6.out)
    have TH := hid (show wD.there (w.heap.size + 2) 0 R.toArray.size by rw [show R.toArray.size = 6 by rw [List.size_toArray]; exact HL.out]; exact XRD.out.there 0 6 (by simp))
    clear hR
    go_wp2_with (first | (refine wpList_load_mid rfl 35 _ rfl B6 0 rfl R _ X6R.out.all Tryz.underlying35 rfl I1.out ?_) | (refine wpList_store_mid rfl 35 _ _ rfl (w.heap.size + 2) 0 R.toArray rfl rfl TH.out I2.out HC1.out ?_))
    have X13 := hid (show Bx (wD.setCells (w.heap.size + 2) 0 R) (w.heap.size + 2) R.toArray from XRD.out.setAll R (by rw [HL.out]; simp))
    refine bodyPost_ret (results_mid_tmp Tryz.results30 rfl R X13.out.all Tryz.underlying35 rfl I1.out) rfl ?_
    rw [ED2.out]
    refine ⟨_, _, _, B3, B4, bT, by rw [HR.out]; rfl, (DFD.out.mono (Nat.le_add_right _ _)).keep (fun b hb => setCells_heap _ _ _ _ _ ?_), Below.setCells _ (Nat.le_add_right _ _) _ _ BD.out⟩
    have := DFD.out.lts b hb
    omega
  ·as_aux_lemma =>
    by_cases hz : dirFind (dirAll d) nm = 0
    ·have hat : at0 = -1 := by rw [HAT.out, hz]; exact nodeAt_zero HDK.out
     subst hat
     have HDK7 := hid (show RetL w9 127 (dirAll d) = RetL w9 127 (dirAll d) from rfl)
     go_wp2_with fail
     refine (i_links HMF.out (by omega) (all_asc HDK.out) (all_len HDK.out)).mono ?_
     rintro e wP ⟨vK, BK, rfl, hOK, hbP⟩
     obtain ⟨pv, cv, rfl⟩ := hOK.slice
     have OK := hid hOK
     have X6P := hid (Bx.below hbP X6.out.f.lt X6.out)
     have XRP := hid (Bx.below hbP XR.out.f.lt XR.out)
     have BP := hid (HB.out.trans (hbP.mono HB.out.size))
     obtain ⟨dF, hdF⟩ : ∃ dF : DiskD, dF = { d with Fuse := fuseD d } := ⟨_, rfl⟩
     have DFP := hid (show DiskF 104 127 106 5 (w.heap.size + 3) wP dF (.slice p3 d.Nodes.length c3) (.slice p4 d.Kept.length c4) (.slice p5 d.Turns.length c5) B3 B4 B5 by
      rw [hdF]
      exact ⟨JD.out.1, fuse_i64 JD.out.2.1, JD.out.2.2, DF.out.n.grow hbP, DF.out.k.grow hbP, DF.out.t.grow hbP, DF.out.d34, DF.out.d35, DF.out.d45⟩)
     have X6Q := hid (show Bx wP B6 (dskC dF (.slice p3 d.Nodes.length c3) (.slice p4 d.Kept.length c4) (.slice p5 d.Turns.length c5)).toArray by rw [hdF]; exact X6P.out)
     have L9 := hid (fun b (hb : b ∈ BK) => (OK.out.lts b hb).1)
     have L6 := hid (show B6 < w9.heap.size from X6.out.f.lt)
     have L39 := hid (fun b (hb : b ∈ B3) => (DF.out.n.lts b hb).2)
     have HDF := hid hdF
     clear hOK hbP hdF xo xf yo x6lt HDK7
     go_wp2_with fail
     refine (i_only X6Q.out DFP.out (OK.out.mono (show w.heap.size + 3 ≤ w9.heap.size by have := SZ3.out; have := L6.out; omega)) (fun hm => by have := LT3.out B6 (.inl hm); omega) (fun hm => by have := L9.out _ hm; have := L6.out; omega) (fun b h1 h2 => by have := L39.out b h1; have := L9.out b h2; omega) (by have := XRP.out.f.lt; omega) (by rw [HDF.out]; exact HROH.out.r7) (by have := all_len HDK.out; omega)).mono ?_
     rintro e wD ⟨rfl, vN, BN, hX, hDF, hBN, hT⟩
     have X6D := hid (show Bx wD B6 #[.int .i64 d.Room, .int .i64 (fuseD d), .int .i64 d.Next, vN, .slice pv (dirAll d).length cv, .slice none 0 0] by have := hX; rw [HDF.out] at this; exact this)
     have DFD := hid (show DiskF 104 127 106 5 (w.heap.size + 3) wD { d with Fuse := fuseD d, Kept := dirAll d, Turns := [], Nodes := d.Nodes.filter fun x => hasI (idKept (dirAll d)) x.Id } vN (.slice pv (dirAll d).length cv) (.slice none 0 0) BN BK [] by have := hDF; rw [HDF.out] at this; exact this)
     have XRD := hid (bx_tchN XRP.out hT (by have := SZ3.out; simp; omega))
     have BD := hid (show Below w.heap.size w wD from BP.out.trans (hT.below BP.out.size (fun x hx => by have := SZ3.out; simp at hx; omega)))
     clear hX hDF hBN hT
     have ED2 := hid (show diskDo d 7 nm tt sz data = ({ d with Fuse := fuseD d, Kept := dirAll d, Turns := [], Nodes := d.Nodes.filter fun x => hasI (idKept (dirAll d)) x.Id }, 0) by rw [ED.out]; unfold doD; rfl)
     obtain ⟨R, hR⟩ : ∃ R : List Value, R = [Value.int .i64 d.Room, .int .i64 (fuseD d), .int .i64 d.Next, vN, .slice pv (dirAll d).length cv, .slice none 0 0] := ⟨_, rfl⟩
     have HC1 := hid (show R.toArray.all (·.oneCell') = true by rw [hR]; obtain ⟨a9, c9, e9⟩ := DFD.out.n.slice; rw [e9]; simp [Value.oneCell'])
     have HL := hid (show R.length = 6 by rw [hR]; rfl)
     have X6R := hid (show Bx wD B6 R.toArray by rw [hR]; exact X6D.out)
     have HR := hid hR
     have I1 := hid (show (Tryz.prog.info? 35).map (·.size) = some R.length by rw [HL.out]; exact I6.out)
     have I2 := hid (show (Tryz.prog.info? 35).map (·.size) = some R.toArray.size by rw [List.size_toArray, HL.out]; exact I6.out)
     have TH := hid (show wD.there (w.heap.size + 2) 0 R.toArray.size by rw [show R.toArray.size = 6 by rw [List.size_toArray]; exact HL.out]; exact XRD.out.there 0 6 (by simp))
     clear hR
     go_wp2_with (first | (refine wpList_load_mid rfl 35 _ rfl B6 0 rfl R _ X6R.out.all Tryz.underlying35 rfl I1.out ?_) | (refine wpList_store_mid rfl 35 _ _ rfl (w.heap.size + 2) 0 R.toArray rfl rfl TH.out I2.out HC1.out ?_))
     have X13 := hid (show Bx (wD.setCells (w.heap.size + 2) 0 R) (w.heap.size + 2) R.toArray from XRD.out.setAll R (by rw [HL.out]; simp))
     refine bodyPost_ret (results_mid_tmp Tryz.results30 rfl R X13.out.all Tryz.underlying35 rfl I1.out) rfl ?_
     rw [ED2.out]
     refine ⟨_, _, _, BN, BK, [], by rw [HR.out]; rfl, (DFD.out.mono (Nat.le_add_right _ _)).keep (fun b hb => setCells_heap _ _ _ _ _ ?_), Below.setCells _ (Nat.le_add_right _ _) _ _ BD.out⟩
     have := DFD.out.lts b hb
     omega
    ·skip
     obtain ⟨j, hj, hn, hid2⟩ := node_of HDK.out nm (hz)
     have hndj : ndAt d nm = j := by unfold ndAt; rw [hn]; simp
     have hatj : at0 = (j : Int) := by rw [HAT.out, hn]
     subst hatj
     obtain ⟨g, cap, bi, ci, hv3, hgB, hglo, hglt, hFg, hbi, hOi, hAi, hset⟩ := DF.out.n.setE j (by rw [List.length_map]; exact hj)
     rw [List.length_map] at hv3
     obtain ⟨rfl, _, rfl⟩ := Value.slice.inj hv3
     have hji : (j : Int) < (d.Nodes.length : Int) := by omega
     clear hndj hn hid2 hgB hglo hglt hFg hbi hOi hAi hset hv3 hj
     have HDK7 := hid (show RetL w9 127 (dirAll d) = RetL w9 127 (dirAll d) from rfl)
     go_wp2_with fail
     refine (i_links HMF.out (by omega) (all_asc HDK.out) (all_len HDK.out)).mono ?_
     rintro e wP ⟨vK, BK, rfl, hOK, hbP⟩
     obtain ⟨pv, cv, rfl⟩ := hOK.slice
     have OK := hid hOK
     have X6P := hid (Bx.below hbP X6.out.f.lt X6.out)
     have XRP := hid (Bx.below hbP XR.out.f.lt XR.out)
     have BP := hid (HB.out.trans (hbP.mono HB.out.size))
     obtain ⟨dF, hdF⟩ : ∃ dF : DiskD, dF = { d with Fuse := fuseD d } := ⟨_, rfl⟩
     have DFP := hid (show DiskF 104 127 106 5 (w.heap.size + 3) wP dF (.slice (some ⟨g, 0, none⟩) d.Nodes.length c3) (.slice p4 d.Kept.length c4) (.slice p5 d.Turns.length c5) B3 B4 B5 by
      rw [hdF]
      exact ⟨JD.out.1, fuse_i64 JD.out.2.1, JD.out.2.2, DF.out.n.grow hbP, DF.out.k.grow hbP, DF.out.t.grow hbP, DF.out.d34, DF.out.d35, DF.out.d45⟩)
     have X6Q := hid (show Bx wP B6 (dskC dF (.slice (some ⟨g, 0, none⟩) d.Nodes.length c3) (.slice p4 d.Kept.length c4) (.slice p5 d.Turns.length c5)).toArray by rw [hdF]; exact X6P.out)
     have L9 := hid (fun b (hb : b ∈ BK) => (OK.out.lts b hb).1)
     have L6 := hid (show B6 < w9.heap.size from X6.out.f.lt)
     have L39 := hid (fun b (hb : b ∈ B3) => (DF.out.n.lts b hb).2)
     have HDF := hid hdF
     clear hOK hbP hdF xo xf yo x6lt HDK7
     go_wp2_with fail
     refine (i_only X6Q.out DFP.out (OK.out.mono (show w.heap.size + 3 ≤ w9.heap.size by have := SZ3.out; have := L6.out; omega)) (fun hm => by have := LT3.out B6 (.inl hm); omega) (fun hm => by have := L9.out _ hm; have := L6.out; omega) (fun b h1 h2 => by have := L39.out b h1; have := L9.out b h2; omega) (by have := XRP.out.f.lt; omega) (by rw [HDF.out]; exact HROH.out.r7) (by have := all_len HDK.out; omega)).mono ?_
     rintro e wD ⟨rfl, vN, BN, hX, hDF, hBN, hT⟩
     have X6D := hid (show Bx wD B6 #[.int .i64 d.Room, .int .i64 (fuseD d), .int .i64 d.Next, vN, .slice pv (dirAll d).length cv, .slice none 0 0] by have := hX; rw [HDF.out] at this; exact this)
     have DFD := hid (show DiskF 104 127 106 5 (w.heap.size + 3) wD { d with Fuse := fuseD d, Kept := dirAll d, Turns := [], Nodes := d.Nodes.filter fun x => hasI (idKept (dirAll d)) x.Id } vN (.slice pv (dirAll d).length cv) (.slice none 0 0) BN BK [] by have := hDF; rw [HDF.out] at this; exact this)
     have XRD := hid (bx_tchN XRP.out hT (by have := SZ3.out; simp; omega))
     have BD := hid (show Below w.heap.size w wD from BP.out.trans (hT.below BP.out.size (fun x hx => by have := SZ3.out; simp at hx; omega)))
     clear hX hDF hBN hT
     have ED2 := hid (show diskDo d 7 nm tt sz data = ({ d with Fuse := fuseD d, Kept := dirAll d, Turns := [], Nodes := d.Nodes.filter fun x => hasI (idKept (dirAll d)) x.Id }, 0) by rw [ED.out]; unfold doD; rfl)
     obtain ⟨R, hR⟩ : ∃ R : List Value, R = [Value.int .i64 d.Room, .int .i64 (fuseD d), .int .i64 d.Next, vN, .slice pv (dirAll d).length cv, .slice none 0 0] := ⟨_, rfl⟩
     have HC1 := hid (show R.toArray.all (·.oneCell') = true by rw [hR]; obtain ⟨a9, c9, e9⟩ := DFD.out.n.slice; rw [e9]; simp [Value.oneCell'])
     have HL := hid (show R.length = 6 by rw [hR]; rfl)
     have X6R := hid (show Bx wD B6 R.toArray by rw [hR]; exact X6D.out)
     have HR := hid hR
     have I1 := hid (show (Tryz.prog.info? 35).map (·.size) = some R.length by rw [HL.out]; exact I6.out)
     have I2 := hid (show (Tryz.prog.info? 35).map (·.size) = some R.toArray.size by rw [List.size_toArray, HL.out]; exact I6.out)
     have TH := hid (show wD.there (w.heap.size + 2) 0 R.toArray.size by rw [show R.toArray.size = 6 by rw [List.size_toArray]; exact HL.out]; exact XRD.out.there 0 6 (by simp))
     clear hR
     go_wp2_with (first | (refine wpList_load_mid rfl 35 _ rfl B6 0 rfl R _ X6R.out.all Tryz.underlying35 rfl I1.out ?_) | (refine wpList_store_mid rfl 35 _ _ rfl (w.heap.size + 2) 0 R.toArray rfl rfl TH.out I2.out HC1.out ?_))
     have X13 := hid (show Bx (wD.setCells (w.heap.size + 2) 0 R) (w.heap.size + 2) R.toArray from XRD.out.setAll R (by rw [HL.out]; simp))
     refine bodyPost_ret (results_mid_tmp Tryz.results30 rfl R X13.out.all Tryz.underlying35 rfl I1.out) rfl ?_
     rw [ED2.out]
     refine ⟨_, _, _, BN, BK, [], by rw [HR.out]; rfl, (DFD.out.mono (Nat.le_add_right _ _)).keep (fun b hb => setCells_heap _ _ _ _ _ ?_), Below.setCells _ (Nat.le_add_right _ _) _ _ BD.out⟩
     have := DFD.out.lts b hb
     omega
end Go.Proofs.YtdjcjilipgpnmaaGreat
