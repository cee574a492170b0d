/- An operation on a disk, as the reference does it (printed by gendodo.py). -/
import Derived.Test.YtdjcjilipgpnmaaGreatKIdsD
set_option linter.unusedSimpArgs false
set_option linter.unusedVariables false
namespace Go.G6
open Go Go.RowKit Rep
theorem code_there {d : DiskD} {kd : Int} {nm tt : ByteArray} {sz : Int} (h : opCode d kd nm tt sz = 0) (hk : kd = 2 ∨ kd = 3 ∨ kd = 4) : dirFind (dirAll d) nm ≠ 0 := by
 intro h0
 unfold opCode at h
 rw [h0] at h
 split at h
 ·omega
 ·rcases hk with rfl | rfl | rfl <;> simp at h
theorem code_size {d : DiskD} {nm tt : ByteArray} {sz : Int} (h : opCode d 4 nm tt sz = 0) : sz ≤ ((readB d nm).length : Int) := by
 unfold opCode at h
 split at h
 ·omega
 ·split at h
  ·omega
  ·split at h
   ·omega
   ·split at h
    ·omega
    ·rename_i h9
     simp at h9
     omega
theorem fuse_i64 {d : DiskD} (h : I64 d.Fuse) : I64 (fuseD d) := by unfold fuseD; unfold I64 at *; split <;> omega
theorem flat_take_le {bss : List (List Nat)} {i j : Nat} {b : Nat} (h : i ≤ j) (hb : b ∈ (bss.take i).flatten) : b ∈ (bss.take j).flatten := by
 obtain ⟨l, hl, hb⟩ := List.mem_flatten.1 hb
 refine List.mem_flatten.2 ⟨l, ?_, hb⟩
 have : bss.take i = (bss.take j).take i := by rw [List.take_take, Nat.min_eq_left h]
 rw [this] at hl
 exact List.mem_of_mem_take hl
theorem flat_take_sub {bss : List (List Nat)} {i : Nat} {b : Nat} (hb : b ∈ (bss.take i).flatten) : b ∈ bss.flatten := by
 obtain ⟨l, hl, hb⟩ := List.mem_flatten.1 hb
 exact List.mem_flatten.2 ⟨l, List.mem_of_mem_take hl, hb⟩
theorem flat_get_take {bss : List (List Nat)} {k : Nat} {bk : List Nat} {b : Nat} (h : bss[k]? = some bk) (hb : b ∈ bk) : b ∈ (bss.take (k + 1)).flatten := by
 obtain ⟨h1, h2⟩ := List.getElem?_eq_some_iff.1 h
 rw [List.take_succ_eq_append_getElem h1, List.flatten_append, h2]
 exact List.mem_append_right _ (by simpa using hb)
theorem flat_get_nodup {bss : List (List Nat)} {k : Nat} {bk : List Nat} (hn : bss.flatten.Nodup) (h : bss[k]? = some bk) : bk.Nodup :=
 (List.sublist_flatten_of_mem (List.mem_of_getElem? h)).nodup hn
theorem flat_take_not {bss : List (List Nat)} {k : Nat} {bk : List Nat} {b : Nat} (hn : bss.flatten.Nodup) (h : bss[k]? = some bk) (hb : b ∈ bk) : b ∉ (bss.take k).flatten := by
 obtain ⟨h1, h2⟩ := List.getElem?_eq_some_iff.1 h
 have e : bss = bss.take k ++ bk :: bss.drop (k + 1) := by rw [← h2, ← List.drop_eq_getElem_cons h1, List.take_append_drop]
 rw [e, List.flatten_append, List.flatten_cons] at hn
 intro hm
 exact (List.nodup_append.1 hn).2.2 b hm b (List.mem_append_left _ hb) rfl
theorem getD_at {l : List NodeD} {j : Nat} (h : j < l.length) : l.getD j zNd = l[j] := by simp [h]
theorem bx_tchN {w w' : World} {b : Nat} {c : Array Value} {bs : List Nat} (h : Bx w b c) (hT : Tch bs w w') (hn : b ∉ bs) : Bx w' b c := Bx.tch hT h.f.lt hn h
end Go.G6
namespace Go.Proofs.YtdjcjilipgpnmaaGreat
open Go Go.RowKit Go.G6
set_option maxHeartbeats 8000000
set_option maxRecDepth 10000
theorem s_DiskDo {w : World} {bs : List Nat} {cs : List Value} {d : DiskD} (h : Rep.pt w bs cs d) (hs : Small d) {kd : Int} {nm tt : ByteArray} {sz : Int} {data : List UInt8} {bo : List Nat} {ao : Option Addr} {lo co : Nat} (hv : OpV kd nm tt sz data) (ho : Slc w bo ao lo co data) (hdl : data.length ≤ 1048576) :
  Calls Tryz.prog 54 #[.agg cs.toArray, .agg #[.int .i64 kd, .string nm, .string tt, .int .i64 sz, .slice ao lo co]] w (RetDI 104 127 106 5 w (diskDo d kd nm tt sz data).1 (diskDo d kd nm tt sz data).2) := by
 obtain rfl := ho.len_eq
 have hcl := Rep.len h
 have HS := hid hs; have H0 := hid h; have HV := hid hv; have HO := hid ho; have HDL := hid hdl
 obtain ⟨i1, hi1, hz01, hz11, hz21⟩ := info_parts info_NodeF
 obtain ⟨i3, hi3, hz03, hz13, hz23⟩ := info_parts info_TurnF
 obtain ⟨i8, hi8, hz08, hz18, hz28⟩ := info_parts info_byte
 have I6 := hid (show (Tryz.prog.info? 35).map (·.size) = some 6 by kernel_rfl)
 have I0 := hid (show (Tryz.prog.info? 35).map (·.size) = some cs.length by rw [show cs.length = 6 from hcl]; exact I6.out)
 have HX := hid (Bx.alloc (Bx.alloc (Bx.new w cs.toArray 35 rfl) (by simp) (.cells #[.int .i64 kd, .string nm, .string tt, .int .i64 sz, .slice ao data.length co] 67)) (by simp; omega) (.cells #[.int .i64 0, .int .i64 0, .int .i64 0, .slice none 0 0, .slice none 0 0, .slice none 0 0] 35))
 have HY := hid (Bx.alloc (Bx.new (w.alloc (.cells cs.toArray 35)) #[.int .i64 kd, .string nm, .string tt, .int .i64 sz, .slice ao data.length co] 67 (b := w.heap.size + 1) (by simp)) (by simp) (.cells #[.int .i64 0, .int .i64 0, .int .i64 0, .slice none 0 0, .slice none 0 0, .slice none 0 0] 35))
 have HZ := hid (Bx.new ((w.alloc (.cells cs.toArray 35)).alloc (.cells #[.int .i64 kd, .string nm, .string tt, .int .i64 sz, .slice ao data.length co] 67)) #[.int .i64 0, .int .i64 0, .int .i64 0, .slice none 0 0, .slice none 0 0, .slice none 0 0] 35 (b := w.heap.size + 2) (by simp))
 have hb0 := hid ((((Below.refl w.heap.size w).alloc (Nat.le_refl _) (.cells cs.toArray 35)).alloc (by simp) (.cells #[.int .i64 kd, .string nm, .string tt, .int .i64 sz, .slice ao data.length co] 67)).alloc (by simp; omega) (.cells #[.int .i64 0, .int .i64 0, .int .i64 0, .slice none 0 0, .slice none 0 0, .slice none 0 0] 35))
 obtain ⟨wA, hwA⟩ : ∃ wA, wA = ((w.alloc (.cells cs.toArray 35)).alloc (.cells #[.int .i64 kd, .string nm, .string tt, .int .i64 sz, .slice ao data.length co] 67)).alloc (.cells #[.int .i64 0, .int .i64 0, .int .i64 0, .slice none 0 0, .slice none 0 0, .slice none 0 0] 35) := ⟨_, rfl⟩
 have SA := hid (show wA.heap.size = w.heap.size + 3 by rw [hwA]; simp)
 rw [← hwA] at hb0 HX HY HZ
 have DX := hid (show ∃ F, d.Room = F from ⟨_, rfl⟩)
 have JD := hid (show I64 d.Room ∧ I64 d.Fuse ∧ I64 d.Next by obtain ⟨_, _, _, _, _, _, _, _, _, _, _, _, _, _, h0, h1, h2, _, _, _⟩ := open_Disk h; exact ⟨h0, h1, h2⟩)
 clear h hs hv ho hdl hcl DX
 go_enter Tryz.func54, Tryz.ntmps54
 go_upto_region 1 with fail
 rw [← hwA]
 clear hwA
 go_wp2_with (first | (refine wpList_load_mid rfl 35 _ rfl w.heap.size 0 rfl cs _ HX.out.all Tryz.underlying35 rfl I0.out ?_))
 refine (s_DiskOk (grow H0.out hb0.out) HS.out).mono ?_
 rintro e w1 ⟨rfl, hb1⟩
 have HX1 := hid (Bx.below hb1 HX.out.f.lt HX.out)
 have HY1 := hid (Bx.below hb1 HY.out.f.lt HY.out)
 have HZ1 := hid (Bx.below hb1 HZ.out.f.lt HZ.out)
 have HB1 := hid (hb0.out.trans (hb1.mono hb0.out.size))
 have SZ1 := hid (show w.heap.size + 3 ≤ w1.heap.size by have := SA.out; have := hb1.size; omega)
 clear hb1 HX HY HZ
 cases hdk : diskOk d
 ·have ED := hid (show diskDo d kd nm tt sz data = (zDisk, 1) by unfold diskDo; rw [hdk]; rfl)
  clear hdk
  have TH := hid (show w1.there (w.heap.size + 2) 0 6 from HZ1.out.there 0 6 (by simp))
  obtain ⟨R, hR⟩ : ∃ R : List Value, R = [Value.int .i64 0, .int .i64 0, .int .i64 0, .slice none 0 0, .slice none 0 0, .slice none 0 0] := ⟨_, rfl⟩
  have HC1 := hid (show R.toArray.all (·.oneCell') = true by rw [hR]; simp [Value.oneCell'])
  have HL := hid (show R.length = 6 by rw [hR]; rfl)
  have HR := hid hR
  have I1 := hid (show (Tryz.prog.info? 35).map (·.size) = some R.length by rw [HL.out]; exact I6.out)
  have I2 := hid (show (Tryz.prog.info? 35).map (·.size) = some R.toArray.size by rw [List.size_toArray, HL.out]; exact I6.out)
  have TH2 := hid (show w1.there (w.heap.size + 2) 0 R.toArray.size by rw [show R.toArray.size = 6 by rw [List.size_toArray]; exact HL.out]; exact TH.out)
  have hbu : Tryz.prog.built 35 [] = some R.toArray := by rw [hR]; kernel_rfl
  have HBU := hid hbu
  clear hR hbu
  as_aux_lemma =>
   go_wp2_with (first | (refine wpList_build_to rfl 35 _ rfl R.toArray [] rfl HBU.out ?_) | (refine wpList_store_mid rfl 35 _ _ rfl (w.heap.size + 2) 0 R.toArray rfl rfl TH2.out I2.out HC1.out ?_))
   have X13 := hid (show Bx (w1.setCells (w.heap.size + 2) 0 R) (w.heap.size + 2) R.toArray from HZ1.out.setAll R (by rw [HL.out]; simp))
   refine bodyPost_ret (results_mid_tmp Tryz.results54 rfl R X13.out.all Tryz.underlying35 rfl I1.out) rfl ?_
   rw [ED.out]
   exact ⟨_, _, _, [], [], [], by rw [HR.out]; rfl, ⟨by simp [I64, zDisk], by simp [I64, zDisk], by simp [I64, zDisk], OwnL.nil _ _ _, OwnL.nil _ _ _, OwnL.nil _ _ _, by simp, by simp, by simp⟩, Below.setCells _ (Nat.le_add_right _ _) _ _ HB1.out⟩
 have HDK := hid hdk
 clear hdk
 have xo := HY1.out.out
 go_wp2_with fail
 refine (s_OpOk HV.out (HO.out.grow HB1.out)).mono ?_
 rintro e w2 ⟨rfl, hb2⟩
 have HX2 := hid (Bx.below hb2 HX1.out.f.lt HX1.out)
 have HY2 := hid (Bx.below hb2 HY1.out.f.lt HY1.out)
 have HZ2 := hid (Bx.below hb2 HZ1.out.f.lt HZ1.out)
 have HB2 := hid (HB1.out.trans (hb2.mono HB1.out.size))
 have SZ2 := hid (show w.heap.size + 3 ≤ w2.heap.size by have := SZ1.out; have := hb2.size; omega)
 clear hb2 HX1 HY1 HZ1 xo HB1 SZ1
 cases hop : opB kd sz data
 ·have ED := hid (show diskDo d kd nm tt sz data = (zDisk, 1) by unfold diskDo; rw [HDK.out, hop]; rfl)
  clear hop
  have TH := hid (show w2.there (w.heap.size + 2) 0 6 from HZ2.out.there 0 6 (by simp))
  obtain ⟨R, hR⟩ : ∃ R : List Value, R = [Value.int .i64 0, .int .i64 0, .int .i64 0, .slice none 0 0, .slice none 0 0, .slice none 0 0] := ⟨_, rfl⟩
  have HC1 := hid (show R.toArray.all (·.oneCell') = true by rw [hR]; simp [Value.oneCell'])
  have HL := hid (show R.length = 6 by rw [hR]; rfl)
  have HR := hid hR
  have I1 := hid (show (Tryz.prog.info? 35).map (·.size) = some R.length by rw [HL.out]; exact I6.out)
  have I2 := hid (show (Tryz.prog.info? 35).map (·.size) = some R.toArray.size by rw [List.size_toArray, HL.out]; exact I6.out)
  have TH2 := hid (show w2.there (w.heap.size + 2) 0 R.toArray.size by rw [show R.toArray.size = 6 by rw [List.size_toArray]; exact HL.out]; exact TH.out)
  have hbu : Tryz.prog.built 35 [] = some R.toArray := by rw [hR]; kernel_rfl
  have HBU := hid hbu
  clear hR hbu
  as_aux_lemma =>
   go_wp2_with (first | (refine wpList_build_to rfl 35 _ rfl R.toArray [] rfl HBU.out ?_) | (refine wpList_store_mid rfl 35 _ _ rfl (w.heap.size + 2) 0 R.toArray rfl rfl TH2.out I2.out HC1.out ?_))
   have X13 := hid (show Bx (w2.setCells (w.heap.size + 2) 0 R) (w.heap.size + 2) R.toArray from HZ2.out.setAll R (by rw [HL.out]; simp))
   refine bodyPost_ret (results_mid_tmp Tryz.results54 rfl R X13.out.all Tryz.underlying35 rfl I1.out) rfl ?_
   rw [ED.out]
   exact ⟨_, _, _, [], [], [], by rw [HR.out]; rfl, ⟨by simp [I64, zDisk], by simp [I64, zDisk], by simp [I64, zDisk], OwnL.nil _ _ _, OwnL.nil _ _ _, OwnL.nil _ _ _, by simp, by simp, by simp⟩, Below.setCells _ (Nat.le_add_right _ _) _ _ HB2.out⟩
 have HOP := hid hop
 clear hop
 go_wp2_with (first | (refine wpList_load_mid rfl 35 _ rfl w.heap.size 0 rfl cs _ HX2.out.all Tryz.underlying35 rfl I0.out ?_))
 refine (s_l03Copy (grow H0.out HB2.out) (ok_small HDK.out)).mono ?_
 rintro e w3 ⟨v3, v4, v5, B3, B4, B5, rfl, hDF, hb3⟩
 have HX3 := hid (Bx.below hb3 HX2.out.f.lt HX2.out)
 have HY3 := hid (Bx.below hb3 HY2.out.f.lt HY2.out)
 have HZ3 := hid (Bx.below hb3 HZ2.out.f.lt HZ2.out)
 have HB3 := hid (HB2.out.trans (hb3.mono HB2.out.size))
 have SZ3 := hid (show w.heap.size + 3 ≤ w3.heap.size by have := SZ2.out; have := hb3.size; omega)
 have DF3 := hid (hDF.mono SZ2.out)
 have LT3 := hid (fun b hb => (DF3.out.lts b hb).2)
 clear hDF hb3 HX2 HY2 HZ2 HB2 SZ2
 have hsl := DF3.out.n.slice
 rw [List.length_map] at hsl
 obtain ⟨p3, c3, rfl⟩ := hsl
 obtain ⟨p4, c4, rfl⟩ := DF3.out.k.slice
 obtain ⟨p5, c5, rfl⟩ := DF3.out.t.slice
 obtain ⟨R, hR⟩ : ∃ R : List Value, R = [.int .i64 d.Room, .int .i64 d.Fuse, .int .i64 d.Next, .slice p3 d.Nodes.length c3, .slice p4 d.Kept.length c4, .slice p5 d.Turns.length c5] := ⟨_, rfl⟩
 have HC1 := hid (show R.toArray.all (·.oneCell') = true by rw [hR]; simp [Value.oneCell'])
 have HL := hid (show R.length = 6 by rw [hR]; rfl)
 have HR := hid hR
 have I2 := hid (show (Tryz.prog.info? 35).map (·.size) = some R.toArray.size by rw [List.size_toArray, HL.out]; exact I6.out)
 have ZN := hid (Bx.new w3 #[.int .i64 0, .int .i64 0, .int .i64 0, .slice none 0 0, .slice none 0 0, .slice none 0 0] 35 rfl)
 have TH := hid (show (w3.alloc (.cells #[.int .i64 0, .int .i64 0, .int .i64 0, .slice none 0 0, .slice none 0 0, .slice none 0 0] 35)).there w3.heap.size 0 R.toArray.size by rw [show R.toArray.size = 6 by rw [List.size_toArray]; exact HL.out]; exact ZN.out.there 0 6 (by simp))
 rw [show (#[Value.int .i64 d.Room, .int .i64 d.Fuse, .int .i64 d.Next, .slice p3 d.Nodes.length c3, .slice p4 d.Kept.length c4, .slice p5 d.Turns.length c5] : Array Value) = R.toArray by rw [hR]]
 clear hR
 go_upto_region 4 with (refine wpList_store_mid rfl 35 _ _ rfl w3.heap.size 0 R.toArray rfl rfl TH.out I2.out HC1.out ?_)
 refine late_genw (fun w4 hw4 => ?_)
 have hb4 : Below w3.heap.size w3 w4 := by rw [hw4]; exact Below.setCells _ (Nat.le_refl _) _ _ ((Below.refl _ _).alloc (Nat.le_refl _) _)
 have X64 := hid (show Bx w4 w3.heap.size R.toArray by rw [hw4]; exact ZN.out.setAll R (by rw [HL.out]; simp))
 have HX4 := hid (Bx.below hb4 HX3.out.f.lt HX3.out)
 have HY4 := hid (Bx.below hb4 HY3.out.f.lt HY3.out)
 have HZ4 := hid (Bx.below hb4 HZ3.out.f.lt HZ3.out)
 have HB4 := hid (HB3.out.trans (hb4.mono HB3.out.size))
 have DF4 := hid (DF3.out.grow hb4)
 clear hw4 hb4 HX3 HY3 HZ3 HB3 DF3 TH ZN
 obtain ⟨B6, hB6⟩ : ∃ B6, B6 = w3.heap.size := ⟨_, rfl⟩
 rw [← hB6] at X64 SZ3 LT3
 rw [← hB6]
 clear hB6
 have xo := HY4.out.out
 go_wp2_with (first | (refine wpList_load_mid rfl 35 _ rfl w.heap.size 0 rfl cs _ HX4.out.all Tryz.underlying35 rfl I0.out ?_))
 refine (s_l03Code (grow H0.out HB4.out) HDK.out HV.out (HO.out.grow HB4.out)).mono ?_
 rintro e w5 ⟨rfl, hb5⟩
 have X65 := hid (Bx.below hb5 X64.out.f.lt X64.out)
 have HX5 := hid (Bx.below hb5 HX4.out.f.lt HX4.out)
 have HY5 := hid (Bx.below hb5 HY4.out.f.lt HY4.out)
 have HZ5 := hid (Bx.below hb5 HZ4.out.f.lt HZ4.out)
 have HB5 := hid (HB4.out.trans (hb5.mono HB4.out.size))
 have DF5 := hid (DF4.out.grow hb5)
 have I1 := hid (show (Tryz.prog.info? 35).map (·.size) = some R.length by rw [HL.out]; exact I6.out)
 clear hb5 X64 HX4 HY4 HZ4 HB4 DF4 xo
 obtain ⟨code, hcode⟩ : ∃ code, code = opCode d kd nm tt sz := ⟨_, rfl⟩
 rw [← hcode]
 by_cases hc0 : code = 0
 rotate_left
 ·have ED := hid (show diskDo d kd nm tt sz data = (d, code) by unfold diskDo; rw [HDK.out, HOP.out, ← hcode, if_neg hc0]; rfl)
  have hcne : (code != 0) = true := by rw [bne_iff_ne]; exact hc0
  clear hcode hc0
  have TH := hid (show w5.there (w.heap.size + 2) 0 R.toArray.size by rw [show R.toArray.size = 6 by rw [List.size_toArray]; exact HL.out]; exact HZ5.out.there 0 6 (by simp))
  as_aux_lemma =>
   go_wp2_with (first | (refine wpList_load_mid rfl 35 _ rfl B6 0 rfl R _ X65.out.all Tryz.underlying35 rfl I1.out ?_) | (refine wpList_store_mid rfl 35 _ _ rfl (w.heap.size + 2) 0 R.toArray rfl rfl TH.out I2.out HC1.out ?_))
   have X13 := hid (show Bx (w5.setCells (w.heap.size + 2) 0 R) (w.heap.size + 2) R.toArray from HZ5.out.setAll R (by rw [HL.out]; simp))
   refine bodyPost_ret (results_mid_tmp Tryz.results54 rfl R X13.out.all Tryz.underlying35 rfl I1.out) rfl ?_
   rw [ED.out]
   refine ⟨_, _, _, B3, B4, B5, by rw [HR.out]; rfl, (DF5.out.mono (Nat.le_add_right _ _)).keep (fun b hb => setCells_heap _ _ _ _ _ ?_), Below.setCells _ (Nat.le_add_right _ _) _ _ HB5.out⟩
   have := DF5.out.lts b hb
   omega
 have HC := hid (show opCode d kd nm tt sz = 0 from hcode.symm.trans hc0)
 have ED := hid (show diskDo d kd nm tt sz data = doD d kd nm tt sz data by unfold diskDo; rw [HDK.out, HOP.out, HC.out]; rfl)
 clear hcode
 subst hc0
 have HRO := (diskOk_parts HDK.out).1
 have HROH := hid HRO
 have X6L := hid (show Bx w5 B6 #[.int .i64 d.Room, .int .i64 d.Fuse, .int .i64 d.Next, .slice p3 d.Nodes.length c3, .slice p4 d.Kept.length c4, .slice p5 d.Turns.length c5] by have := X65.out; rw [HR.out] at this; exact this)
 have hf1 := HRO.r3; have hf2 := HRO.r4
 clear HRO X65
 have xo := X6L.out.out; have xf := X6L.out.fr
 go_upto_if 37 with fail
 go_cut [7] (fun v W => v = .int .i64 0 ∧ Bx W w.heap.size cs.toArray ∧ Bx W (w.heap.size + 1) #[.int .i64 kd, .string nm, .string tt, .int .i64 sz, .slice ao data.length co] ∧ Bx W (w.heap.size + 2) #[.int .i64 0, .int .i64 0, .int .i64 0, .slice none 0 0, .slice none 0 0, .slice none 0 0] ∧ Bx W B6 #[.int .i64 d.Room, .int .i64 (fuseD d), .int .i64 d.Next, .slice p3 d.Nodes.length c3, .slice p4 d.Kept.length c4, .slice p5 d.Turns.length c5] ∧ DiskF 104 127 106 5 (w.heap.size + 3) W d (.slice p3 d.Nodes.length c3) (.slice p4 d.Kept.length c4) (.slice p5 d.Turns.length c5) B3 B4 B5 ∧ Below w.heap.size w W)
 case first =>
  by_cases hf : 0 < d.Fuse
  ·have HFU := hid (show fuseD d = d.Fuse - 1 by unfold fuseD; rw [if_pos hf])
   have hw1 : wrap64 (d.Fuse - 1) = d.Fuse - 1 := IntWalk.wrap64_in _ (by omega)
   go_wp2
   go_meet
   rw [HFU.out]
   exact ⟨rfl, HX5.out.setOther (by have := SZ3.out; simp; omega) _, HY5.out.setOther (by have := SZ3.out; simp; omega) _, HZ5.out.setOther (by have := SZ3.out; simp; omega) _, X6L.out.setSame 1 _,
    DF5.out.keep (fun b hb => Below.heap_setCell _ _ _ _ (by have := LT3.out b hb; simp; omega)), HB5.out.setCell (by have := SZ3.out; simp; omega) _⟩
  ·have HFU := hid (show fuseD d = d.Fuse by unfold fuseD; rw [if_neg hf])
   go_wp2
   go_meet
   rw [HFU.out]
   exact ⟨rfl, HX5.out, HY5.out, HZ5.out, X6L.out, DF5.out, HB5.out⟩
 case rest =>
  obtain ⟨rfl, hX, hY, hZ, h6, hDF, hB⟩ := hcut
  have HX6 := hid hX; have HY6 := hid hY; have HZ6 := hid hZ; have X66 := hid h6; have DF6 := hid hDF; have HB6 := hid hB
  clear hX hY hZ h6 hDF hB HX5 HY5 HZ5 X6L DF5 HB5 xo xf I1 HR HL HC1 I2 hf1 hf2
  have y1 := HY6.out.out 1
  go_upto_region 9 with fail
  refine late_start (fun V => V.rangeAt w.heap.size 0 cs ∧ V.cell? ⟨w.heap.size + 1, 1, none⟩ = some (.string nm) ∧ Below wc.heap.size wc V) 99 (by kernel_rfl) ?_ (fun hS => ?_)
  ·exact ⟨(World.rangeAt_drew _ _ _ _).2 HX6.out.all, y1, (Below.refl _ _).drew⟩
  refine late_take (i := 0) (v := .agg cs.toArray) rfl (by kernel_rfl) (fun _ _ _ h => h) (by rfl) (fun V hV => exec_load_mid 35 _ rfl w.heap.size 0 rfl cs _ hV.1 Tryz.underlying35 rfl I0.out) hS ?_
  try simp only [Act.put, putZ, List.getElem_toArray, List.getElem_cons_zero, List.getElem_cons_succ]
  refine late_take (i := 1) (v := .agg cs.toArray) rfl (by kernel_rfl) (fun _ _ _ h => h) (by rfl) (fun V hV => exec_load_mid 35 _ rfl w.heap.size 0 rfl cs _ hV.1 Tryz.underlying35 rfl I0.out) hS ?_
  try simp only [Act.put, putZ, List.getElem_toArray, List.getElem_cons_zero, List.getElem_cons_succ]
  refine ltk 3 rfl ?_
  try simp only [Act.put, putZ, List.getElem_toArray, List.getElem_cons_zero, List.getElem_cons_succ]
  refine ltk 4 rfl ?_
  try simp only [Act.put, putZ, List.getElem_toArray, List.getElem_cons_zero, List.getElem_cons_succ]
  refine late_one (i := 2) rfl (by kernel_rfl) (fun K9 hK9 => ?_)
  go_simp
  refine (s_DiskDir (grow H0.out (HB6.out.trans (hS.2.2.mono HB6.out.size))) (ok_small HDK.out) HDK.out HROH.out).mono ?_
  rintro e w7 ⟨v7, b7, rfl, hO7, hb7⟩
  obtain ⟨p7, c7, rfl⟩ := hO7.slice
  obtain ⟨b7s, _, s7⟩ := hO7.slcL
  have S7 := hid s7
  obtain ⟨n7, hn7⟩ : ∃ n, n = (dirAll d).length := ⟨_, rfl⟩
  rw [← hn7] at S7 ⊢
  clear hO7 s7 hn7
  go_wp2_with fail
  refine hK9.out _ _ (fun _ => ?_) (fun hS9 => ?_)
  ·(try dsimp only); exact ⟨range_below hS.1 hb7, keepcellF hb7 hS.2.1, hS.2.2.trans (hb7.mono hS.2.2.size)⟩
  replace hS := hS9 (by decide)
  clear hK9 K9 hS9
  try simp only [Act.put, putZ, List.getElem_toArray, List.getElem_cons_zero, List.getElem_cons_succ]
  clear hb7
  refine late_one (i := 5) rfl (by kernel_rfl) (fun K9 hK9 => ?_)
  go_simp
  refine (s_l03Find S7.out nm).mono ?_
  rintro e w8 ⟨rfl, hb8⟩
  go_wp2_with fail
  refine hK9.out _ _ (fun _ => ?_) (fun hS9 => ?_)
  ·(try dsimp only); exact ⟨range_below hS.1 hb8, keepcellF hb8 hS.2.1, hS.2.2.trans (hb8.mono hS.2.2.size)⟩
  replace hS := hS9 (by decide)
  clear hK9 K9 hS9
  try simp only [Act.put, putZ, List.getElem_toArray, List.getElem_cons_zero, List.getElem_cons_succ]
  clear hb8 S7
  refine late_one (i := 6) rfl (by kernel_rfl) (fun K9 hK9 => ?_)
  go_simp
  refine (s_l03At (grow H0.out (HB6.out.trans (hS.2.2.mono HB6.out.size))) _).mono ?_
  rintro e w9 ⟨rfl, hb9⟩
  obtain ⟨at0, hat⟩ : ∃ at0, at0 = nodeAt d (dirFind (dirAll d) nm) := ⟨_, rfl⟩
  rw [← hat]
  have HAT := hid hat
  clear hat
  go_wp2_with fail
  refine hK9.out _ _ (fun _ => ?_) (fun hS9 => ?_)
  ·(try dsimp only); exact ⟨range_below hS.1 hb9, keepcellF hb9 hS.2.1, hS.2.2.trans (hb9.mono hS.2.2.size)⟩
  replace hS := hS9 (by decide)
  clear hK9 K9 hS9
  try simp only [Act.put, putZ, List.getElem_toArray, List.getElem_cons_zero, List.getElem_cons_succ]
  clear hb9
  refine ltk 7 rfl ?_
  try simp only [Act.put, putZ, List.getElem_toArray, List.getElem_cons_zero, List.getElem_cons_succ]
  have hbA := hS.2.2
  have XD := hid (Bx.below hbA HX6.out.f.lt HX6.out)
  have XO := hid (Bx.below hbA HY6.out.f.lt HY6.out)
  have XR := hid (Bx.below hbA HZ6.out.f.lt HZ6.out)
  have X6 := hid (Bx.below hbA X66.out.f.lt X66.out)
  have DF := hid (DF6.out.grow hbA)
  have HB := hid (HB6.out.trans (hbA.mono HB6.out.size))
  clear hS hbA HX6 HY6 HZ6 X66 DF6 HB6 y1
  refine late_done (by kernel_rfl) ?_ _
  have xo := X6.out.out; have xf := X6.out.fr; have yo := XO.out.out
  have x6lt := X6.out.f.lt
  rcases HV.out.k with rfl | rfl | rfl | rfl | rfl | rfl | rfl
  ·as_aux_lemma =>
    have hN1 : d.Next ≤ 1000000 ∧ 1 ≤ d.Next := ⟨HROH.out.r6, HROH.out.r5⟩
    have HN1 := hid hN1
    have hN0 : I64 d.Next := JD.out.2.2
    have d2 : w9.cell? ⟨w.heap.size, 2, none⟩ = some (.int .i64 d.Next) := by
     have := H0.out
     obtain ⟨_, _, _, _, _, _, _, _, _, _, _, _, _, hcs, _⟩ := open_Disk this
     exact bx_at XD.out 2 (by rw [hcs]; rfl)
    have D2 := hid d2
    obtain ⟨y, hy⟩ : ∃ y : NodeF 5, y = ⟨d.Next, [], []⟩ := ⟨_, rfl⟩
    have PY := hid (fun V : World => show Rep.pt V ([] ++ []) [.int .i64 d.Next, .slice none 0 0, .slice none 0 0] y by rw [hy]; exact nf_mk hN0 (OwnL.nil _ _ _) (OwnL.nil _ _ _))
    have HYY := hid hy
    have NL := hid (show d.Nodes.length ≤ 8 from HROH.out.r7)
    clear hN1 hN0 hy
    have lw9 : w.heap.size < w9.heap.size := XD.out.f.lt
    go_wp2_with (at_builtin; refine wp_append rfl _ _ 31 rfl 104 i1 (.agg #[.int .i64 0, .slice none 0 0, .slice none 0 0]) 56 Tryz.underlying31 hi1 hz01 hz11 hz21 rfl (lo := w.heap.size + 3) (bs := B3) (xs := d.Nodes.map (NF 5)) rfl (DF.out.n.alloc _) (b2 := []) (ys := [y]) rfl ?nsrc List.nodup_nil (fun b hb => by cases hb) ?na ?nb ?nc ?_)
    case nsrc => exact src_new (PY.out _) (by simp) _ _
    try (case na => have := NL.out; simp; omega)
    try (case nb => have := NL.out; simp; omega)
    try (case nc => have := SZ3.out; simp; omega)
    intro pN cN wN bN hON hTN hmN
    have hLN : (d.Nodes.map (NF 5)).length + [y].length = d.Nodes.length + 1 := by rw [List.length_map]; rfl
    (try rw [hLN] at hON)
    (try rw [hLN])
    (try rw [List.length_map] at hON)
    (try rw [List.length_map])
    have ON := hid (show OwnL (w.heap.size + 3) wN 104 (.slice pN (d.Nodes.length + 1) cN) bN (d.Nodes.map (NF 5) ++ [y]) from hON)
    have TN9 := hid (((Tch.refl B3 w9).alloc (.cells #[.int .i64 d.Next, .slice none 0 0, .slice none 0 0] 104)).trans hTN)
    have MN := hid (fun b (hb : b ∈ bN) => show b ∈ B3 ∨ w9.heap.size < b from by have h3 := hmN b hb; (try simp at h3); rcases h3 with h3 | h3; exact .inl h3; exact .inr (by omega))
    clear hON hTN hmN xo xf yo hLN d2
    have N63 := hid (show B6 ∉ B3 from fun hm => by have := LT3.out B6 (.inl hm); omega)
    have X6N := hid (Bx.tch TN9.out X6.out.f.lt N63.out X6.out)
    have xo := X6N.out.out; have xf := X6N.out.fr
    go_upto_region 13 with fail
    refine late_genw (fun wM hwM => ?_)
    have hkM : ∀ k, k ≠ B6 → wM.heap[k]? = wN.heap[k]? := fun k hk => by rw [hwM]; exact Below.heap_setCell _ _ _ _ hk
    have SM := hid (show w9.heap.size ≤ wM.heap.size by rw [hwM]; have := TN9.out.size; simpa using this)
    have X6M := hid (show Bx wM B6 #[.int .i64 d.Room, .int .i64 (fuseD d), .int .i64 d.Next, .slice pN (d.Nodes.length + 1) cN, .slice p4 d.Kept.length c4, .slice p5 d.Turns.length c5] by rw [hwM]; exact X6N.out.setSame 3 _)
    have KM := hid (fun k (hk : k < w9.heap.size) (h6 : k ≠ B6) (h3 : k ∉ B3) => show wM.heap[k]? = w9.heap[k]? from (hkM k h6).trans (TN9.out.block k hk h3))
    have OM := hid (show OwnL (w.heap.size + 3) wM 104 (.slice pN (d.Nodes.length + 1) cN) bN (d.Nodes.map (NF 5) ++ [y]) from ON.out.keep fun b hb => hkM b (fun e => by
     subst e
     rcases MN.out _ hb with h9 | h9
     ·exact N63.out h9
     ·have := X6.out.f.lt; omega))
    have BM := hid (show Below w.heap.size w wM by
     rw [hwM]
     exact (HB.out.trans (TN9.out.below HB.out.size (fun b hb => by have := (DF.out.n.lts b hb).1; omega))).setCell (show w.heap.size ≤ B6 by have := SZ3.out; omega) _)
    have OT9 := hid (show OwnL (w.heap.size + 3) wM 106 (.slice p5 d.Turns.length c5) B5 d.Turns from DF.out.t.keep fun b hb => KM.out b (DF.out.t.lts b hb).2 (by have := LT3.out b (.inr (.inr hb)); omega) (fun h3 => DF.out.d35 b h3 hb))
    have XOM := hid (XO.out.keep (KM.out _ XO.out.f.lt (by have := SZ3.out; omega) (fun h3 => by have := (DF.out.n.lts _ h3).1; omega)))
    have XDM := hid (XD.out.keep (KM.out _ XD.out.f.lt (by have := SZ3.out; omega) (fun h3 => by have := (DF.out.n.lts _ h3).1; omega)))
    have LBN := hid (fun b (hb : b ∈ bN) => show b < wM.heap.size from (OM.out.lts b hb).2)
    clear hwM hkM xo xf X6N ON TN9
    have xo := X6M.out.out; have xf := X6M.out.fr; have yo := XOM.out.out
    have d2 : wM.cell? ⟨w.heap.size, 2, none⟩ = some (.int .i64 d.Next) := (World.cell?_of_block (a := ⟨w.heap.size, 2, none⟩) (KM.out w.heap.size XD.out.f.lt (by have := SZ3.out; omega) (fun h3 => by have := (DF.out.n.lts w.heap.size h3).1; omega))).trans D2.out
    obtain ⟨x, hx⟩ : ∃ x : TurnD, x = ⟨1, nm, emp, d.Next⟩ := ⟨_, rfl⟩
    have PX := hid (fun V : World => show Rep.pt V [] [.int .i64 1, .string nm, .string ⟨#[]⟩, .int .i64 d.Next] x by rw [hx]; exact mk_Turn (d := ⟨1, nm, emp, d.Next⟩) (by simp [I64]) HV.out.nl (show emp.size ≤ maxLen by decide) JD.out.2.2)
    have HXX := hid hx
    clear hx
    have TL := hid (show d.Turns.length ≤ 40 from HROH.out.r9)
    go_wp2_with (at_builtin; refine wp_append rfl _ _ 33 rfl 106 i3 (.agg #[.int .i64 0, .string ByteArray.empty, .string ByteArray.empty, .int .i64 0]) 48 Tryz.underlying33 hi3 hz03 hz13 hz23 rfl (lo := w.heap.size + 3) (bs := B5) (xs := d.Turns) rfl (OT9.out.alloc _) (b2 := []) (ys := [x]) rfl ?tsrc List.nodup_nil (fun b hb => by cases hb) ?ta ?tb ?tc ?_)
    case tsrc => exact src_new (PX.out _) (by simp) _ _
    try (case ta => have := TL.out; simp; omega)
    try (case tb => have := TL.out; simp; omega)
    try (case tc => have := SZ3.out; have := X6M.out.f.lt; simp; omega)
    intro pT cT wT bT hOT hTT hmT
    have OT := hid hOT
    have TTM := hid (((Tch.refl B5 wM).alloc (.cells #[.int .i64 1, .string nm, .string ⟨#[]⟩, .int .i64 d.Next] 106)).trans hTT)
    have MT := hid (fun b (hb : b ∈ bT) => show b ∈ B5 ∨ wM.heap.size < b from by have h3 := hmT b hb; (try simp at h3); rcases h3 with h3 | h3; exact .inl h3; exact .inr (by omega))
    clear hOT hTT hmT xo xf yo d2
    have N65 := hid (show B6 ∉ B5 from fun hm => by have := LT3.out B6 (.inr (.inr hm)); omega)
    have X6T := hid (Bx.tch TTM.out X6M.out.f.lt N65.out X6M.out)
    have xo := X6T.out.out; have xf := X6T.out.fr
    have w14 : wrap64 (d.Next + 1) = d.Next + 1 := IntWalk.wrap64_in _ (by have := HN1.out; omega)
    go_upto_region 46 with fail
    refine late_genw (fun wD hwD => ?_)
    have hkD : ∀ k, k ≠ B6 → wD.heap[k]? = wT.heap[k]? := fun k hk => by rw [hwD]; exact (Below.heap_setCell _ _ _ _ hk).trans (Below.heap_setCell _ _ _ _ hk)
    have X6D := hid (show Bx wD B6 #[.int .i64 d.Room, .int .i64 (fuseD d), .int .i64 (d.Next + 1), .slice pN (d.Nodes.length + 1) cN, .slice p4 d.Kept.length c4, .slice pT (d.Turns.length + 1) cT] by rw [hwD]; exact (X6T.out.setSame 5 _).setSame 2 _)
    have XRM := KM.out _ XR.out.f.lt (by have := SZ3.out; omega) (fun h3 => by have := (DF.out.n.lts _ h3).1; omega)
    have XRD := hid (XR.out.keep (((hkD _ (by have := SZ3.out; omega)).trans (TTM.out.block _ (by have := XR.out.f.lt; have := SM.out; omega) (fun hm => by have := (DF.out.t.lts _ hm).1; omega))).trans XRM))
    have hk4 : ∀ b, b ∈ B4 → wD.heap[b]? = w9.heap[b]? := fun b hb => by
     have h2 := DF.out.k.lts b hb
     have h1 := LT3.out b (.inr (.inl hb))
     exact ((hkD b (by omega)).trans (TTM.out.block b (by have := SM.out; omega) fun hm => DF.out.d45 b hb hm)).trans (KM.out b h2.2 (by omega) fun h3 => DF.out.d34 b h3 hb)
    have hmap : d.Nodes.map (NF 5) ++ [y] = (d.Nodes ++ [(⟨d.Next, [], []⟩ : NodeD)]).map (NF 5) := by rw [HYY.out, List.map_append]; rfl
    have hNB : ∀ b ∈ bN, b ∉ B5 := fun b hb h5 => by
     rcases MN.out b hb with h9 | h9
     ·exact DF.out.d35 b h9 h5
     ·have := (DF.out.t.lts b h5).2; omega
    have hN6 : ∀ b ∈ bN, b ≠ B6 := fun b hb e => by
     subst e
     rcases MN.out _ hb with h9 | h9
     ·exact N63.out h9
     ·have := X6.out.f.lt; omega
    have DFD := hid (show DiskF 104 127 106 5 (w.heap.size + 3) wD { d with Fuse := fuseD d, Nodes := d.Nodes ++ [⟨d.Next, [], []⟩], Turns := d.Turns ++ [x], Next := d.Next + 1 } (.slice pN (d.Nodes.length + 1) cN) (.slice p4 d.Kept.length c4) (.slice pT (d.Turns.length + 1) cT) bN B4 bT from
     ⟨JD.out.1, fuse_i64 JD.out.2.1, (by have := HN1.out; unfold I64; show _ ≤ d.Next + 1 ∧ d.Next + 1 ≤ _; omega),
      (by rw [← hmap]; exact OM.out.keep fun b hb => (hkD b (hN6 b hb)).trans (TTM.out.block b (LBN.out b hb) (hNB b hb))),
      DF.out.k.keep fun b hb => hk4 b hb,
      OT.out.keep fun b hb => hkD b (fun e => by
       subst e
       rcases MT.out _ hb with h9 | h9
       ·exact N65.out h9
       ·have := X6M.out.f.lt; omega),
      fun b h1 h2 => (by rcases MN.out b h1 with h9 | h9; exact DF.out.d34 b h9 h2; have := (DF.out.k.lts b h2).2; omega),
      fun b h1 h2 => (by rcases MT.out b h2 with h9 | h9; exact hNB b h1 h9; have := LBN.out b h1; omega),
      fun b h1 h2 => (by rcases MT.out b h2 with h9 | h9; exact DF.out.d45 b h1 h9; have := (DF.out.k.lts b h1).2; have := SM.out; omega)⟩)
    have BD := hid (show Below w.heap.size w wD by
     rw [hwD]
     exact ((BM.out.trans (TTM.out.below BM.out.size (fun b hb => by have := (DF.out.t.lts b hb).1; omega))).setCell (show w.heap.size ≤ B6 by have := SZ3.out; omega) _).setCell (show w.heap.size ≤ B6 by have := SZ3.out; omega) _)
    have HND := hid (show doD d 1 nm tt sz data = ({ d with Fuse := fuseD d, Nodes := d.Nodes ++ [⟨d.Next, [], []⟩], Turns := d.Turns ++ [x], Next := d.Next + 1 }, 0) by unfold doD; rw [HXX.out]; rfl)
    clear hwD hkD hk4 hmap hNB hN6 xo xf X6T w14 XRM
    have ED2 := hid (show diskDo d 1 nm tt sz data = ({ d with Fuse := fuseD d, Nodes := d.Nodes ++ [⟨d.Next, [], []⟩], Turns := d.Turns ++ [x], Next := d.Next + 1 }, 0) by rw [ED.out]; exact HND.out)
    obtain ⟨R, hR⟩ : ∃ R : List Value, R = [Value.int .i64 d.Room, .int .i64 (fuseD d), .int .i64 (d.Next + 1), .slice pN (d.Nodes.length + 1) cN, .slice p4 d.Kept.length c4, .slice pT (d.Turns.length + 1) cT] := ⟨_, rfl⟩
    have HC1 := hid (show R.toArray.all (·.oneCell') = true by rw [hR]; simp [Value.oneCell'])
    have HL := hid (show R.length = 6 by rw [hR]; rfl)
    have X6R := hid (show Bx wD B6 R.toArray by rw [hR]; exact X6D.out)
    have HR := hid hR
    have I1 := hid (show (Tryz.prog.info? 35).map (·.size) = some R.length by rw [HL.out]; exact I6.out)
    have I2 := hid (show (Tryz.prog.info? 35).map (·.size) = some R.toArray.size by rw [List.size_toArray, HL.out]; exact I6.out)
    have TH := hid (show wD.there (w.heap.size + 2) 0 R.toArray.size by rw [show R.toArray.size = 6 by rw [List.size_toArray]; exact HL.out]; exact XRD.out.there 0 6 (by simp))
    clear hR
    go_wp2_with (first | (refine wpList_load_mid rfl 35 _ rfl B6 0 rfl R _ X6R.out.all Tryz.underlying35 rfl I1.out ?_) | (refine wpList_store_mid rfl 35 _ _ rfl (w.heap.size + 2) 0 R.toArray rfl rfl TH.out I2.out HC1.out ?_))
    have X13 := hid (show Bx (wD.setCells (w.heap.size + 2) 0 R) (w.heap.size + 2) R.toArray from XRD.out.setAll R (by rw [HL.out]; simp))
    refine bodyPost_ret (results_mid_tmp Tryz.results54 rfl R X13.out.all Tryz.underlying35 rfl I1.out) rfl ?_
    rw [ED2.out]
    refine ⟨_, _, _, bN, B4, bT, by rw [HR.out]; rfl, (DFD.out.mono (Nat.le_add_right _ _)).keep (fun b hb => setCells_heap _ _ _ _ _ ?_), Below.setCells _ (Nat.le_add_right _ _) _ _ BD.out⟩
    have := DFD.out.lts b hb
    omega
  ·as_aux_lemma =>
    obtain ⟨j, hj, hn, hid2⟩ := node_of HDK.out nm (code_there HC.out (by decide))
    have hndj : ndAt d nm = j := by unfold ndAt; rw [hn]; simp
    have hatj : at0 = (j : Int) := by rw [HAT.out, hn]
    subst hatj
    obtain ⟨g, cap, bi, ci, hv3, hgB, hglo, hglt, hFg, hbi, hOi, hAi, hset⟩ := DF.out.n.setE j (by rw [List.length_map]; exact hj)
    rw [List.length_map] at hv3
    obtain ⟨rfl, _, rfl⟩ := Value.slice.inj hv3
    have hNFj : (d.Nodes.map (NF 5))[j]'(by rw [List.length_map]; exact hj) = NF 5 d.Nodes[j] := by rw [List.getElem_map]
    rw [hNFj] at hOi
    obtain ⟨v1, v2, b1, b2, hbi2, rfl, hId, hO1, hO2, hd12⟩ := nf_open hOi
    obtain ⟨n, hnn⟩ : ∃ n, n = d.Nodes[j] := ⟨_, rfl⟩
    rw [show (NF 5 d.Nodes[j]).Id = n.Id by rw [hnn]; rfl] at hId hAi
    rw [show (NF 5 d.Nodes[j]).Body = n.Body by rw [hnn]; rfl] at hO1
    rw [show (NF 5 d.Nodes[j]).Safe = n.Safe by rw [hnn]; rfl] at hO2
    obtain ⟨q1, k1, rfl⟩ := hO1.slice
    obtain ⟨q2, k2, rfl⟩ := hO2.slice
    have e0 : w9.cell? ⟨g, j * 3, none⟩ = some (.int .i64 n.Id) := by have := hAi 0 _ rfl; exact this
    have e1 : w9.cell? ⟨g, j * 3 + 1, none⟩ = some (.slice q1 n.Body.length k1) := by have := hAi 1 _ rfl; exact this
    have e2 : w9.cell? ⟨g, j * 3 + 2, none⟩ = some (.slice q2 n.Safe.length k2) := by have := hAi 2 _ rfl; exact this
    have HSET := hid hset; have O1 := hid hO1; have O2 := hid hO2; have D12 := hid hd12; have HID := hid hId; have HFG := hid hFg; have HBI := hid hbi; have HBI2 := hid hbi2; have HNDJ := hid hndj; have HN := hid hnn
    have hng6 : g ≠ B6 := fun e => by have := LT3.out g (.inl hgB); omega
    have hji : (j : Int) < (d.Nodes.length : Int) := by omega
    have HGB := hid hgB
    have GB := hid (show g < B6 ∧ w.heap.size + 3 ≤ g from ⟨LT3.out g (.inl hgB), hglo⟩)
    have LB := hid (fun b (hb : b ∈ b1 ∨ b ∈ b2) => show b < B6 ∧ b ≠ g ∧ w.heap.size + 3 ≤ b from by
     have hm : b ∈ bi := by rw [HBI2.out]; exact List.mem_append.2 hb
     exact ⟨LT3.out b (.inl (HBI.out b hm).1), (HBI.out b hm).2, (DF.out.n.lts b (HBI.out b hm).1).1⟩)
    have HSM := hid (show n.Body.length ≤ 60000 ∧ n.Safe.length ≤ 60000 by rw [hnn]; exact node_small HDK.out _ (List.getElem_mem hj))
    have HJ := hid hj; have E0 := hid e0; have E1 := hid e1; have E2 := hid e2
    clear hset hO1 hO2 hd12 hId hFg hbi hbi2 hndj hn hid2 hOi hAi hv3 hNFj hnn hgB hglo
    have hRU : (diskUsed d : Int) ≤ d.Room := (diskOk_parts HDK.out).2.2.2.2.2.2
    have hR6 := HROH.out.r2
    have hR0 := HROH.out.r1
    obtain ⟨A1, hA1⟩ : ∃ A1, A1 = d.Room.toNat - diskUsed d := ⟨_, rfl⟩
    obtain ⟨A2, hA2⟩ : ∃ A2, A2 = A1 + max n.Body.length n.Safe.length := ⟨_, rfl⟩
    obtain ⟨rm, hrm⟩ : ∃ rm, rm = A2 - n.Body.length := ⟨_, rfl⟩
    have hsm1 := HSM.out.1; have hsm2 := HSM.out.2
    have W1 := hid (show IntKind.i64.wrap (d.Room - (diskUsed d : Int)) = (A1 : Int) by rw [wrapI (by omega)]; omega)
    have V1 := hid (show wrap64 (d.Room - (diskUsed d : Int)) = (A1 : Int) by rw [IntWalk.wrap64_in _ (by omega)]; omega)
    have W2 := hid (show IntKind.i64.wrap ((A1 : Int) + max (n.Body.length : Int) (n.Safe.length : Int)) = (A2 : Int) by rw [wrapI (by omega)]; omega)
    have V2 := hid (show wrap64 ((A1 : Int) + max (n.Body.length : Int) (n.Safe.length : Int)) = (A2 : Int) by rw [IntWalk.wrap64_in _ (by omega)]; omega)
    have W3 := hid (show IntKind.i64.wrap ((A2 : Int) - (n.Body.length : Int)) = (rm : Int) by rw [wrapI (by omega)]; omega)
    have V3 := hid (show wrap64 ((A2 : Int) - (n.Body.length : Int)) = (rm : Int) by rw [IntWalk.wrap64_in _ (by omega)]; omega)
    have HRM := hid (show rm = roomOf d n by unfold roomOf; rw [hrm, hA2, hA1])
    have RM6 := hid (show rm ≤ 1000000 by omega)
    clear hRU hR6 hR0 hA1 hA2 hrm hsm1 hsm2
    go_upto_region 17 with fail
    refine late_genw (fun wB hwB => ?_)
    have hbb : Below w9.heap.size w9 wB := by rw [hwB]; exact (Below.refl _ _).alloc (Nat.le_refl _) _
    have XN := hid (show Bx wB w9.heap.size #[.int .i64 n.Id, .slice q1 n.Body.length k1, .slice q2 n.Safe.length k2] by rw [hwB]; exact Bx.new _ _ _ rfl)
    have NB := hid (show wB.heap.size = w9.heap.size + 1 by rw [hwB]; simp)
    clear hwB xo xf yo e0 e1 e2
    have xn := XN.out.out; have xnf := XN.out.fr
    have hB90 : w.heap.size < w9.heap.size := XD.out.f.lt
    have XDB := hid (Bx.below hbb XD.out.f.lt XD.out)
    have XOB := hid (Bx.below hbb XO.out.f.lt XO.out)
    have d0 : wB.cell? ⟨w.heap.size, 0, none⟩ = some (.int .i64 d.Room) := by
     have := H0.out
     obtain ⟨_, _, _, _, _, _, _, _, _, _, _, _, _, hcs, _⟩ := open_Disk this
     exact bx_at XDB.out 0 (by rw [hcs]; rfl)
    have n1 := XN.out.out 1; have n2 := XN.out.out 2
    clear xn xnf
    refine late_start (fun V => V.rangeAt w.heap.size 0 cs ∧ V.cell? ⟨w.heap.size, 0, none⟩ = some (.int .i64 d.Room) ∧ V.cell? ⟨w9.heap.size, 1, none⟩ = some (.slice q1 n.Body.length k1) ∧ V.cell? ⟨w9.heap.size, 2, none⟩ = some (.slice q2 n.Safe.length k2) ∧ Below wB.heap.size wB V) 99 (by kernel_rfl) ?_ (fun hS => ?_)
    ·exact ⟨(World.rangeAt_drew _ _ _ _).2 XDB.out.all, d0, n1, n2, (Below.refl _ _).drew⟩
    clear d0 n1 n2
    refine ltk 0 rfl ?_
    try simp only [Act.put, putZ, List.getElem_toArray, List.getElem_cons_zero, List.getElem_cons_succ]
    refine ltk 1 rfl ?_
    try simp only [Act.put, putZ, List.getElem_toArray, List.getElem_cons_zero, List.getElem_cons_succ]
    refine late_take (i := 2) (v := .agg cs.toArray) rfl (by kernel_rfl) (fun _ _ _ h => h) (by rfl) (fun V hV => exec_load_mid 35 _ rfl w.heap.size 0 rfl cs _ hV.1 Tryz.underlying35 rfl I0.out) hS ?_
    try simp only [Act.put, putZ, List.getElem_toArray, List.getElem_cons_zero, List.getElem_cons_succ]
    refine ltk 5 rfl ?_
    try simp only [Act.put, putZ, List.getElem_toArray, List.getElem_cons_zero, List.getElem_cons_succ]
    refine ltk 6 rfl ?_
    try simp only [Act.put, putZ, List.getElem_toArray, List.getElem_cons_zero, List.getElem_cons_succ]
    refine ltk 7 rfl ?_
    try simp only [Act.put, putZ, List.getElem_toArray, List.getElem_cons_zero, List.getElem_cons_succ]
    refine ltk 8 rfl ?_
    try simp only [Act.put, putZ, List.getElem_toArray, List.getElem_cons_zero, List.getElem_cons_succ]
    refine ltk 9 rfl ?_
    try simp only [Act.put, putZ, List.getElem_toArray, List.getElem_cons_zero, List.getElem_cons_succ]
    refine ltk 10 rfl ?_
    try simp only [Act.put, putZ, List.getElem_toArray, List.getElem_cons_zero, List.getElem_cons_succ]
    refine ltk 13 rfl ?_
    try simp only [Act.put, putZ, List.getElem_toArray, List.getElem_cons_zero, List.getElem_cons_succ]
    refine ltk 14 rfl ?_
    try simp only [Act.put, putZ, List.getElem_toArray, List.getElem_cons_zero, List.getElem_cons_succ]
    refine ltk 15 rfl ?_
    try simp only [Act.put, putZ, List.getElem_toArray, List.getElem_cons_zero, List.getElem_cons_succ]
    refine late_one (i := 3) rfl (by kernel_rfl) (fun K9 hK9 => ?_)
    go_simp
    refine (s_DiskUsed (grow H0.out (HB.out.trans ((hbb.trans (hS.2.2.2.2.mono hbb.size)).mono HB.out.size))) (ok_small HDK.out)).mono ?_
    rintro e wF ⟨rfl, hbF⟩
    go_wp2_with fail
    refine hK9.out _ _ (fun _ => ?_) (fun hS9 => ?_)
    ·(try dsimp only); exact ⟨range_below hS.1 hbF, keepcellF hbF hS.2.1, keepcellF hbF hS.2.2.1, keepcellF hbF hS.2.2.2.1, hS.2.2.2.2.trans (hbF.mono hS.2.2.2.2.size)⟩
    replace hS := hS9 (by decide)
    clear hK9 K9 hS9
    try simp only [Act.put, putZ, List.getElem_toArray, List.getElem_cons_zero, List.getElem_cons_succ]
    clear hbF
    have t1 := W1.out; have t2 := V1.out
    refine ltk 4 rfl ?_
    try simp only [Act.put, putZ, List.getElem_toArray, List.getElem_cons_zero, List.getElem_cons_succ]
    clear t1 t2
    refine late_one (i := 11) rfl (by kernel_rfl) (fun K9 hK9 => ?_)
    go_simp
    refine (s_l03Most _ _ _).mono ?_
    rintro e wG ⟨rfl, rfl⟩
    go_wp2_with fail
    refine hK9.out _ _ (fun _ => ?_) (fun hS9 => ?_)
    ·(try dsimp only); exact hS
    replace hS := hS9 (by decide)
    clear hK9 K9 hS9
    try simp only [Act.put, putZ, List.getElem_toArray, List.getElem_cons_zero, List.getElem_cons_succ]
    refine late_one (i := 12) rfl (by kernel_rfl) (fun K9 hK9 => ?_)
    go_simp
    first | rw [W2.out] | rw [V2.out]
    refine hK9.out _ _ (fun _ => ?_) (fun hS9 => ?_)
    ·(try dsimp only); exact hS
    replace hS := hS9 (by decide)
    clear hK9 K9 hS9
    try simp only [Act.put, putZ, List.getElem_toArray, List.getElem_cons_zero, List.getElem_cons_succ]
    refine late_one (i := 16) rfl (by kernel_rfl) (fun K9 hK9 => ?_)
    go_simp
    first | rw [W3.out] | rw [V3.out]
    refine hK9.out _ _ (fun _ => ?_) (fun hS9 => ?_)
    ·(try dsimp only); exact hS
    replace hS := hS9 (by decide)
    clear hK9 K9 hS9
    try simp only [Act.put, putZ, List.getElem_toArray, List.getElem_cons_zero, List.getElem_cons_succ]
    refine ltk 17 rfl ?_
    try simp only [Act.put, putZ, List.getElem_toArray, List.getElem_cons_zero, List.getElem_cons_succ]
    have hbF := hS.2.2.2.2
    have hb9F := hbb.trans (hbF.mono hbb.size)
    have XNF := hid (Bx.below hbF XN.out.f.lt XN.out)
    have XOF := hid (Bx.below hbF XOB.out.f.lt XOB.out)
    have XRF := hid (Bx.below hb9F XR.out.f.lt XR.out)
    have NF9 := hid (show w9.heap.size < wF.heap.size by have := NB.out; have := hbF.size; omega)
    have KF := hid (fun k (hk : k < w9.heap.size) => show wF.heap[k]? = w9.heap[k]? from hb9F.block k hk)
    have BF := hid (HB.out.trans (hb9F.mono HB.out.size))
    have OF := hid (O1.out.grow hb9F)
    have OF2 := hid (O2.out.grow hb9F)
    have SF := hid (HO.out.grow BF.out)
    clear hS hbF hb9F hbb XDB XOB XN NB hB90
    refine late_done (by kernel_rfl) ?_ _
    have yo := XOF.out.out
    obtain ⟨fits, hfits⟩ : ∃ fits : Nat, fits = if rm < data.length then rm else data.length := ⟨_, rfl⟩
    have HFI := hid hfits
    have FL := hid (show fits ≤ data.length by rw [hfits]; split <;> omega)
    obtain ⟨cd, hcd⟩ : ∃ cd : Int, cd = if rm < data.length then 5 else 0 := ⟨_, rfl⟩
    have HCD := hid hcd
    clear hfits hcd
    go_upto_if 106 with fail
    go_cut [7, 11] (fun c f V => c = .int .i64 cd ∧ f = .int .i64 (fits : Int) ∧ V = wF)
    case first =>
     by_cases hfit : rm < data.length
     ·have h1 := HFI.out; have h2 := HCD.out
      rw [if_pos hfit] at h1 h2
      have hfi : (rm : Int) < (data.length : Int) := by omega
      have G1 := hid h1; have G2 := hid h2
      clear h1 h2 hfit
      go_wp2
      go_meet
      exact ⟨by rw [G2.out], by rw [G1.out], rfl⟩
     ·have h1 := HFI.out; have h2 := HCD.out
      rw [if_neg hfit] at h1 h2
      have hfi : ¬ (rm : Int) < (data.length : Int) := by omega
      have G1 := hid h1; have G2 := hid h2
      clear h1 h2 hfit
      go_wp2
      go_meet
      exact ⟨by rw [G2.out], by rw [G1.out], rfl⟩
    case rest =>
     obtain ⟨rfl, rfl, rfl⟩ := hcut
     have FL1 := FL.out
     obtain ⟨aD, bD, hcutD, _, _, hSD⟩ := SF.out.cut_h 54 Tryz.underlying54 hi8 hz18 (fits : Int) (by omega) (by omega)
     rw [Int.toNat_natCast] at hSD
     simp only [Int.toNat_natCast] at hcutD
     have HSD := hid hSD
     have n1 := XNF.out.out 1
     have y4 := XOF.out.out 4
     clear hSD yo
     go_upto_region 22 with fail
     refine late_start (fun V => V.cell? ⟨w9.heap.size, 1, none⟩ = some (.slice q1 n.Body.length k1) ∧ V.cell? ⟨w.heap.size + 1, 4, none⟩ = some (.slice ao data.length co) ∧ V.frozen? ⟨w9.heap.size, 1, none⟩ = false ∧ Tch b1 wc V) 8 (by kernel_rfl) ?_ (fun hS => ?_)
     ·exact ⟨n1, y4, XNF.out.fr 1, (Tch.refl _ _).drew⟩
     refine late_genw (fun wG hwG => ?_)
     have hbG : Below wc.heap.size wc wG := by rw [hwG]; exact (Below.refl _ _).drew
     rw [← hwG] at hS
     have OG := hid (OF.out.grow hbG); have SG := hid (HSD.out.grow hbG); have BG := hid (BF.out.trans (hbG.mono BF.out.size))
     have NG := hid (show wG.heap.size = wc.heap.size by rw [hwG]; rfl)
     clear hwG hbG n1 y4
     refine ltk 0 rfl ?_
     try simp only [Act.put, putZ, List.getElem_toArray, List.getElem_cons_zero, List.getElem_cons_succ]
     refine ltk 1 rfl ?_
     try simp only [Act.put, putZ, List.getElem_toArray, List.getElem_cons_zero, List.getElem_cons_succ]
     refine ltk 2 rfl ?_
     try simp only [Act.put, putZ, List.getElem_toArray, List.getElem_cons_zero, List.getElem_cons_succ]
     refine ltk 3 rfl ?_
     try simp only [Act.put, putZ, List.getElem_toArray, List.getElem_cons_zero, List.getElem_cons_succ]
     refine ltk 4 rfl ?_
     try simp only [Act.put, putZ, List.getElem_toArray, List.getElem_cons_zero, List.getElem_cons_succ]
     refine ltk 5 rfl ?_
     try simp only [Act.put, putZ, List.getElem_toArray, List.getElem_cons_zero, List.getElem_cons_succ]
     refine late_one (i := 6) rfl (by kernel_rfl) (fun K9 hK9 => ?_)
     have hlD : (data.take fits).length = fits := by rw [List.length_take]; omega
     refine step_append rfl _ _ 54 rfl 5 i8 (.int .u8 0) 1 Tryz.underlying54 hi8 hz08 hz18 hz28 rfl (lo := w.heap.size + 3) (bs := b1) (xs := n.Body) rfl OG.out (b2 := []) (ys := data.take fits) rfl SG.out.srcF List.nodup_nil (fun b hb => by cases hb) ?ka ?kb ?kc ?_
     try (case ka => have := HSM.out; have := HDL.out; rw [hlD]; omega)
     try (case kb => have := HSM.out; have := HDL.out; rw [hlD]; omega)
     try (case kc => have := SZ3.out; have := NG.out; have := NF9.out; have := X6.out.f.lt; omega)
     intro pC cC wC bC hOC hTC hmC
     rw [hlD] at hOC ⊢
     have OC := hid hOC
     have BC := hid (below_tch BG.out hTC (fun x hx => by have := (LB.out x (.inl hx)).2.2; have := (OG.out.lts x hx).2; omega))
     have N91 := hid (show w9.heap.size ∉ b1 from fun hm => by have := (LB.out _ (.inl hm)).1; have := X6.out.f.lt; omega)
     have HMC := hid (fun b (hb : b ∈ bC) => show b ∈ b1 ∨ w9.heap.size < b from by have h3 := hmC b hb; have := NG.out; have := NF9.out; (try simp at h3); rcases h3 with h3 | h3; exact .inl h3; exact .inr (by omega))
     have HTG := hid hTC
     clear hOC hmC hlD
     refine hK9.out _ _ (fun _ => ?_) (fun hS9 => ?_)
     ·(try dsimp only); exact ⟨cellc hTC hS.1 N91.out, cellc hTC hS.2.1 (fun hm => absurd (LB.out _ (.inl hm)).2.2 (by show ¬ (w.heap.size + 3 ≤ w.heap.size + 1); omega)), (hTC.frozen (show w9.heap.size < wG.heap.size by have h1 := NG.out; have h2 := NF9.out; omega) N91.out).trans hS.2.2.1, hS.2.2.2.trans hTC⟩
     replace hS := hS9 (by decide)
     clear hK9 K9 hS9
     try simp only [Act.put, putZ, List.getElem_toArray, List.getElem_cons_zero, List.getElem_cons_succ]
     clear hTC
     refine ltk 7 rfl ?_
     try simp only [Act.put, putZ, List.getElem_toArray, List.getElem_cons_zero, List.getElem_cons_succ]
     have hT22 := hS.2.2.2
     have XN22 := hid (Bx.tch hT22 (by have := NF9.out; omega) N91.out XNF.out)
     have f1 := hS.1; have f2 := hS.2.2.1
     refine late_one (i := 8) rfl (by kernel_rfl) (fun K9 hK9 => ?_)
     go_simp
     refine hK9.out _ _ (fun h => absurd rfl h) (fun _ => ?_)
     clear hK9 K9
     try simp only [Act.put, putZ, List.getElem_toArray, List.getElem_cons_zero, List.getElem_cons_succ]
     refine late_done (by kernel_rfl) ?_ _
     clear hS f1 f2
     refine late_genw (fun wE hwE => ?_)
     have XNE := hid (show Bx wE w9.heap.size #[.int .i64 n.Id, .slice pC (n.Body.length + fits) cC, .slice q2 n.Safe.length k2] by rw [hwE]; exact XN22.out.setSame 1 _)
     have hE : ∀ k, k ≠ w9.heap.size → wE.heap[k]? = wC.heap[k]? := fun k hk => by rw [hwE]; exact Below.heap_setCell _ _ _ _ hk
     have HT9 := hid (fun k (hk : k < w9.heap.size) (hki : k ∉ bi) => show wE.heap[k]? = w9.heap[k]? from (hE k (by omega)).trans ((hT22.block k (by have := NF9.out; omega) (fun hm => hki (by rw [HBI2.out]; exact List.mem_append_left _ hm))).trans (KF.out k hk)))
     have BE := hid (show Below w.heap.size w wE by rw [hwE]; exact BC.out.setCell (by have := HB.out.size; simp; omega) _)
     have LE := hid (show w9.heap.size ≤ wE.heap.size by rw [hwE]; have := hT22.size; have := NF9.out; simp; omega)
     obtain ⟨bN, hbN⟩ : ∃ bN, bN = bC ++ b2 := ⟨_, rfl⟩
     have OCE := hid (show Own (w.heap.size + 3) wE bN [.int .i64 n.Id, .slice pC (n.Body.length + fits) cC, .slice q2 n.Safe.length k2] (⟨n.Id, n.Body ++ data.take fits, n.Safe⟩ : NodeF 5) from by
      rw [hbN]
      refine nf_own HID.out (OC.out.keep fun b hb => hE b fun e => ?_) (OF2.out.keep fun b hb => (hE b ?_).trans (hT22.block b (OF2.out.lts b hb).2 (fun hm => D12.out b hm hb))) (fun x hx h2 => ?_)
      ·subst e
       rcases HMC.out _ hb with h9 | h9
       ·exact N91.out h9
       ·omega
      ·have h9 := (LB.out b (.inr hb)).1; have h8 := X6.out.f.lt; omega
      ·rcases HMC.out x hx with h9 | h9
       ·exact D12.out x h9 h2
       ·have h7 := (LB.out x (.inr h2)).1; have h8 := X6.out.f.lt; omega)
     have HBN := hid (show ∀ b ∈ bN, b ∈ bi ∨ w9.heap.size < b from fun b hb => by
      rw [hbN] at hb
      rcases List.mem_append.1 hb with hb | hb
      ·rcases HMC.out b hb with h9 | h9
       ·exact .inl (by rw [HBI2.out]; exact List.mem_append_left _ h9)
       ·exact .inr h9
      ·exact .inl (by rw [HBI2.out]; exact List.mem_append_right _ hb))
     have XE := hid (show data.take fits = data.take (roomOf d n) by
      rw [HFI.out, ← HRM.out]
      split
      ·rfl
      ·rename_i h9; rw [List.take_of_length_le (Nat.le_refl _), List.take_of_length_le (by omega)])
     clear hwE hbN hE hT22 XN22 XNF XOF XRF OG SG OF OF2 SF BG BF BC OC HTG HSD hcutD KF FL1
     have xn := XNE.out.out; have xnf := XNE.out.fr
     have hgi : g ∉ bi := fun hm => (HBI.out g hm).2 rfl
     have h6i : B6 ∉ bi := fun hm => by have := LT3.out B6 (.inl (HBI.out B6 hm).1); omega
     have hRi : w.heap.size + 2 ∉ bi := fun hm => by have := (DF.out.n.lts _ (HBI.out _ hm).1).1; omega
     have hg9 : g < w9.heap.size := (DF.out.n.lts g HGB.out).2
     have X6C := hid (X6.out.keep (HT9.out B6 X6.out.f.lt h6i))
     have xo := X6C.out.out; have xf := X6C.out.fr
     have fg : ∀ o, wE.frozen? ⟨g, o, none⟩ = false := fun o => (HFG.out.keep (HT9.out g hg9 hgi)).frozen o
     have cg : ∀ o v, w9.cell? ⟨g, o, none⟩ = some v → wE.cell? ⟨g, o, none⟩ = some v := fun o v h => (World.cell?_of_block (a := ⟨g, o, none⟩) (HT9.out g hg9 hgi)).trans h
     have z0 := cg _ _ E0.out; have z1 := cg _ _ E1.out; have z2 := cg _ _ E2.out
     have hB69 : B6 < w9.heap.size := X6.out.f.lt
     have LE1 := LE.out
     clear cg h6i
     go_upto_region 46 with fail
     refine late_genw (fun wD hwD => ?_)
     have hkD : ∀ k, k ≠ g → wD.heap[k]? = wE.heap[k]? := fun k hk => by rw [hwD]; exact ((Below.heap_setCell _ _ _ _ hk).trans (Below.heap_setCell _ _ _ _ hk)).trans (Below.heap_setCell _ _ _ _ hk)
     obtain ⟨B3', hO3', hB3'⟩ := HSET.out wE (fun k hk hki => HT9.out k (DF.out.n.lts k hk).2 hki) bN [.int .i64 n.Id, .slice pC (n.Body.length + fits) cC, .slice q2 n.Safe.length k2] ⟨n.Id, n.Body ++ data.take fits, n.Safe⟩ OCE.out (fun b hb => by
      rcases HBN.out b hb with hb | hb
      ·exact .inr hb
      ·exact .inl fun hm => by have := (DF.out.n.lts b hm).2; omega)
     have hO3 : OwnL (w.heap.size + 3) wD 104 (.slice (some ⟨g, 0, none⟩) d.Nodes.length c3) B3' ((d.Nodes.map (NF 5)).set j ⟨n.Id, n.Body ++ data.take fits, n.Safe⟩) := by rw [hwD]; exact hO3'
     have hND : (d.Nodes.map (NF 5)).set j ⟨n.Id, n.Body ++ data.take fits, n.Safe⟩ = (d.Nodes.set j (bodyD n (n.Body ++ data.take fits))).map (NF 5) := by rw [List.map_set]; rfl
     rw [hND] at hO3
     have hB3o : ∀ b ∈ B3', b ∈ B3 ∨ w9.heap.size < b := fun b hb => by
      rcases hB3' b hb with h9 | h9
      ·exact .inl h9
      ·rcases HBN.out b h9 with h9 | h9
       ·exact .inl (HBI.out b h9).1
       ·exact .inr h9
     have hkk : ∀ b, b ∈ B4 ∨ b ∈ B5 → wD.heap[b]? = w9.heap[b]? := fun b hb => by
      have hb9 := DF.out.lts b (.inr hb)
      have hb3 : ∀ x ∈ B3, b ≠ x := fun x hx e => by
       subst e
       rcases hb with hb | hb
       ·exact DF.out.d34 _ hx hb
       ·exact DF.out.d35 _ hx hb
      exact (hkD b (hb3 g HGB.out)).trans (HT9.out b hb9.2 (fun hm => hb3 b (HBI.out b hm).1 rfl))
     have DFD := hid (show DiskF 104 127 106 5 (w.heap.size + 3) wD (setN d j (bodyD n (n.Body ++ data.take fits))) (.slice (some ⟨g, 0, none⟩) d.Nodes.length c3) (.slice p4 d.Kept.length c4) (.slice p5 d.Turns.length c5) B3' B4 B5 from
      ⟨JD.out.1, fuse_i64 JD.out.2.1, JD.out.2.2, hO3, DF.out.k.keep fun b hb => hkk b (.inl hb), DF.out.t.keep fun b hb => hkk b (.inr hb),
       fun b h1 h2 => (by rcases hB3o b h1 with h9 | h9; exact DF.out.d34 b h9 h2; have := (DF.out.k.lts b h2).2; omega),
       fun b h1 h2 => (by rcases hB3o b h1 with h9 | h9; exact DF.out.d35 b h9 h2; have := (DF.out.t.lts b h2).2; omega),
       DF.out.d45⟩)
     have X6D := hid (X6C.out.keep (hkD B6 (Ne.symm hng6)))
     have XRD := hid (XR.out.keep ((hkD (w.heap.size + 2) (by have := GB.out; omega)).trans (HT9.out _ XR.out.f.lt hRi)))
     have BD := hid (show Below w.heap.size w wD by
      rw [hwD]
      have hgw : w.heap.size ≤ g := by have := GB.out; omega
      exact ((BE.out.setCell hgw _).setCell hgw _).setCell hgw _)
     have HND := hid (show doD d 2 nm tt sz data = (setN d j (bodyD n (n.Body ++ data.take fits)), cd) by unfold doD; simp only [HNDJ.out, getD_at HJ.out, ← HN.out]; rw [← XE.out, ← HRM.out, HCD.out]; rfl)
     clear hwD hkD hO3' hB3' hO3 hND hB3o hkk xn xnf xo xf fg z0 z1 z2 X6C hB69 hgi hRi hg9
     have ED2 := hid (show diskDo d 2 nm tt sz data = (setN d j (bodyD n (n.Body ++ data.take fits)), cd) by rw [ED.out]; exact HND.out)
     obtain ⟨R, hR⟩ : ∃ R : List Value, R = [Value.int .i64 d.Room, .int .i64 (fuseD d), .int .i64 d.Next, .slice (some ⟨g, 0, none⟩) d.Nodes.length c3, .slice p4 d.Kept.length c4, .slice p5 d.Turns.length c5] := ⟨_, rfl⟩
     have HC1 := hid (show R.toArray.all (·.oneCell') = true by rw [hR]; simp [Value.oneCell'])
     have HL := hid (show R.length = 6 by rw [hR]; rfl)
     have X6R := hid (show Bx wD B6 R.toArray by rw [hR]; exact X6D.out)
     have HR := hid hR
     have I1 := hid (show (Tryz.prog.info? 35).map (·.size) = some R.length by rw [HL.out]; exact I6.out)
     have I2 := hid (show (Tryz.prog.info? 35).map (·.size) = some R.toArray.size by rw [List.size_toArray, HL.out]; exact I6.out)
     have TH := hid (show wD.there (w.heap.size + 2) 0 R.toArray.size by rw [show R.toArray.size = 6 by rw [List.size_toArray]; exact HL.out]; exact XRD.out.there 0 6 (by simp))
     clear hR
     go_wp2_with (first | (refine wpList_load_mid rfl 35 _ rfl B6 0 rfl R _ X6R.out.all Tryz.underlying35 rfl I1.out ?_) | (refine wpList_store_mid rfl 35 _ _ rfl (w.heap.size + 2) 0 R.toArray rfl rfl TH.out I2.out HC1.out ?_))
     have X13 := hid (show Bx (wD.setCells (w.heap.size + 2) 0 R) (w.heap.size + 2) R.toArray from XRD.out.setAll R (by rw [HL.out]; simp))
     refine bodyPost_ret (results_mid_tmp Tryz.results54 rfl R X13.out.all Tryz.underlying35 rfl I1.out) rfl ?_
     rw [ED2.out]
     refine ⟨_, _, _, B3', B4, B5, by rw [HR.out]; rfl, (DFD.out.mono (Nat.le_add_right _ _)).keep (fun b hb => setCells_heap _ _ _ _ _ ?_), Below.setCells _ (Nat.le_add_right _ _) _ _ BD.out⟩
     have := DFD.out.lts b hb
     omega
  ·as_aux_lemma =>
    obtain ⟨j, hj, hn, hid2⟩ := node_of HDK.out nm (code_there HC.out (by decide))
    have hndj : ndAt d nm = j := by unfold ndAt; rw [hn]; simp
    have hatj : at0 = (j : Int) := by rw [HAT.out, hn]
    subst hatj
    obtain ⟨g, cap, bi, ci, hv3, hgB, hglo, hglt, hFg, hbi, hOi, hAi, hset⟩ := DF.out.n.setE j (by rw [List.length_map]; exact hj)
    rw [List.length_map] at hv3
    obtain ⟨rfl, _, rfl⟩ := Value.slice.inj hv3
    have hNFj : (d.Nodes.map (NF 5))[j]'(by rw [List.length_map]; exact hj) = NF 5 d.Nodes[j] := by rw [List.getElem_map]
    rw [hNFj] at hOi
    obtain ⟨v1, v2, b1, b2, hbi2, rfl, hId, hO1, hO2, hd12⟩ := nf_open hOi
    obtain ⟨n, hnn⟩ : ∃ n, n = d.Nodes[j] := ⟨_, rfl⟩
    rw [show (NF 5 d.Nodes[j]).Id = n.Id by rw [hnn]; rfl] at hId hAi
    rw [show (NF 5 d.Nodes[j]).Body = n.Body by rw [hnn]; rfl] at hO1
    rw [show (NF 5 d.Nodes[j]).Safe = n.Safe by rw [hnn]; rfl] at hO2
    obtain ⟨q1, k1, rfl⟩ := hO1.slice
    obtain ⟨q2, k2, rfl⟩ := hO2.slice
    have e0 : w9.cell? ⟨g, j * 3, none⟩ = some (.int .i64 n.Id) := by have := hAi 0 _ rfl; exact this
    have e1 : w9.cell? ⟨g, j * 3 + 1, none⟩ = some (.slice q1 n.Body.length k1) := by have := hAi 1 _ rfl; exact this
    have e2 : w9.cell? ⟨g, j * 3 + 2, none⟩ = some (.slice q2 n.Safe.length k2) := by have := hAi 2 _ rfl; exact this
    have HSET := hid hset; have O1 := hid hO1; have O2 := hid hO2; have D12 := hid hd12; have HID := hid hId; have HFG := hid hFg; have HBI := hid hbi; have HBI2 := hid hbi2; have HNDJ := hid hndj; have HN := hid hnn
    have hng6 : g ≠ B6 := fun e => by have := LT3.out g (.inl hgB); omega
    have hji : (j : Int) < (d.Nodes.length : Int) := by omega
    have HGB := hid hgB
    have GB := hid (show g < B6 ∧ w.heap.size + 3 ≤ g from ⟨LT3.out g (.inl hgB), hglo⟩)
    have LB := hid (fun b (hb : b ∈ b1 ∨ b ∈ b2) => show b < B6 ∧ b ≠ g ∧ w.heap.size + 3 ≤ b from by
     have hm : b ∈ bi := by rw [HBI2.out]; exact List.mem_append.2 hb
     exact ⟨LT3.out b (.inl (HBI.out b hm).1), (HBI.out b hm).2, (DF.out.n.lts b (HBI.out b hm).1).1⟩)
    have HSM := hid (show n.Body.length ≤ 60000 ∧ n.Safe.length ≤ 60000 by rw [hnn]; exact node_small HDK.out _ (List.getElem_mem hj))
    have HJ := hid hj; have E0 := hid e0; have E1 := hid e1; have E2 := hid e2
    clear hset hO1 hO2 hd12 hId hFg hbi hbi2 hndj hn hid2 hOi hAi hv3 hNFj hnn hgB hglo
    go_upto_region 26 with fail
    refine late_genw (fun wB hwB => ?_)
    have hbb : Below w9.heap.size w9 wB := by rw [hwB]; exact (Below.refl _ _).alloc (Nat.le_refl _) _
    have XN := hid (show Bx wB w9.heap.size #[.int .i64 n.Id, .slice q1 n.Body.length k1, .slice q2 n.Safe.length k2] by rw [hwB]; exact Bx.new _ _ _ rfl)
    have NB := hid (show wB.heap.size = w9.heap.size + 1 by rw [hwB]; simp)
    clear hwB xo xf yo e0 e1 e2
    have xn := XN.out.out; have xnf := XN.out.fr
    have EB := hid (show OwnL (w.heap.size + 3) (wB.alloc (.cells #[] 5)) 5 (.slice (some ⟨wB.heap.size, 0, none⟩) 0 0) [wB.heap.size] ([] : List UInt8) from ownL_empty rfl (by have := SZ3.out; have := NB.out; omega))
    have hbb2 : Below w9.heap.size w9 (wB.alloc (.cells #[] 5)) := hbb.alloc hbb.size _
    have S1 := hid (show ∃ bs, Slc (wB.alloc (.cells #[] 5)) bs q1 n.Body.length k1 n.Body from by obtain ⟨bs', _, s⟩ := (O1.out.grow hbb2).slcL; exact ⟨bs', s⟩)
    obtain ⟨bsB, sB⟩ := S1.out
    have lnb : w9.heap.size < wB.heap.size := by have := NB.out; omega
    go_wp2_with (at_builtin; refine wp_append rfl _ _ 54 rfl 5 i8 (.int .u8 0) 1 Tryz.underlying54 hi8 hz08 hz18 hz28 rfl (lo := w.heap.size + 3) (bs := [wB.heap.size]) (xs := ([] : List UInt8)) rfl EB.out (b2 := []) (ys := n.Body) rfl sB.srcF List.nodup_nil (fun b hb => by cases hb) ?ka ?kb ?kc ?_)
    try (case ka => have := HSM.out; simp; omega)
    try (case kb => have := HSM.out; simp; omega)
    try (case kc => have := SZ3.out; simp; omega)
    intro pC cC wC bC hOC hTC hmC
    try rw [List.nil_append, show ([] : List UInt8).length + n.Body.length = n.Body.length by simp] at hOC
    (try rw [show ([] : List UInt8).length + n.Body.length = n.Body.length by simp])
    have OC := hid hOC
    have XNC := hid (Bx.tch hTC (by have := NB.out; simp; omega) (by have := NB.out; simp; omega) (Bx.alloc XN.out XN.out.f.lt _))
    have HTC9 := hid (fun k (hk : k < w9.heap.size) => show wC.heap[k]? = w9.heap[k]? from (hTC.block k (by have := NB.out; simp; omega) (by have := NB.out; simp; omega)).trans (hbb2.block k hk))
    have FC := hid (fun b (hb : b ∈ bC) => show wB.heap.size ≤ b from by have h3 := hmC b hb; (try simp at h3); omega)
    have BC := hid (below_tch (HB.out.trans (hbb2.mono HB.out.size)) hTC (fun x hx => by have := EB.out.lts x hx; have := SZ3.out; omega))
    have NC := hid (show wB.heap.size ≤ wC.heap.size by have := hTC.size; simp at this; omega)
    clear hOC hTC hmC hbb hbb2 sB S1 EB xn xnf XN lnb
    have xn := XNC.out.out; have xnf := XNC.out.fr
    go_upto_region 27 with fail
    refine late_genw (fun wE hwE => ?_)
    have XNE := hid (show Bx wE w9.heap.size #[.int .i64 n.Id, .slice q1 n.Body.length k1, .slice pC n.Body.length cC] by rw [hwE]; exact XNC.out.setSame 2 _)
    have HT9 := hid (fun k (hk : k < w9.heap.size) (_ : k ∉ bi) => show wE.heap[k]? = w9.heap[k]? by rw [hwE]; exact (Below.heap_setCell _ _ _ _ (by simp; omega)).trans (HTC9.out k hk))
    have OE := hid (show OwnL (w.heap.size + 3) wE 5 (.slice pC n.Body.length cC) bC n.Body by rw [hwE]; exact OC.out.setCell (fun b hb => by have := FC.out b hb; have := NB.out; simp; omega) _)
    have BE := hid (show Below w.heap.size w wE by rw [hwE]; exact BC.out.setCell (by have := HB.out.size; simp; omega) _)
    have LE := hid (show w9.heap.size ≤ wE.heap.size by rw [hwE]; have := NC.out; have := NB.out; simp; omega)
    obtain ⟨bN, hbN⟩ : ∃ bN, bN = b1 ++ bC := ⟨_, rfl⟩
    have OCE := hid (show Own (w.heap.size + 3) wE bN [.int .i64 n.Id, .slice q1 n.Body.length k1, .slice pC n.Body.length cC] (⟨n.Id, n.Body, n.Body⟩ : NodeF 5) from by
     rw [hbN]
     exact nf_own HID.out (O1.out.keep fun b hb => by rw [hwE]; exact (Below.heap_setCell _ _ _ _ (by have := (O1.out.lts b hb).2; simp; omega)).trans (HTC9.out b (O1.out.lts b hb).2)) OE.out (fun x hx h9 => by have := FC.out x h9; have := (O1.out.lts x hx).2; have := NB.out; omega))
    have HBN := hid (show ∀ b ∈ bN, b ∈ bi ∨ w9.heap.size < b from fun b hb => by
     rw [hbN] at hb
     rcases List.mem_append.1 hb with hb | hb
     ·exact .inl (by rw [HBI2.out]; exact List.mem_append_left _ hb)
     ·exact .inr (by have := FC.out b hb; have := NB.out; omega))
    clear hwE hbN xn xnf XNC HTC9 OC BC NC OE FC
    have xn := XNE.out.out; have xnf := XNE.out.fr
    have hgi : g ∉ bi := fun hm => (HBI.out g hm).2 rfl
    have h6i : B6 ∉ bi := fun hm => by have := LT3.out B6 (.inl (HBI.out B6 hm).1); omega
    have hRi : w.heap.size + 2 ∉ bi := fun hm => by have := (DF.out.n.lts _ (HBI.out _ hm).1).1; omega
    have hg9 : g < w9.heap.size := (DF.out.n.lts g HGB.out).2
    have X6C := hid (X6.out.keep (HT9.out B6 X6.out.f.lt h6i))
    have xo := X6C.out.out; have xf := X6C.out.fr
    have fg : ∀ o, wE.frozen? ⟨g, o, none⟩ = false := fun o => (HFG.out.keep (HT9.out g hg9 hgi)).frozen o
    have cg : ∀ o v, w9.cell? ⟨g, o, none⟩ = some v → wE.cell? ⟨g, o, none⟩ = some v := fun o v h => (World.cell?_of_block (a := ⟨g, o, none⟩) (HT9.out g hg9 hgi)).trans h
    have z0 := cg _ _ E0.out; have z1 := cg _ _ E1.out; have z2 := cg _ _ E2.out
    have hB69 : B6 < w9.heap.size := X6.out.f.lt
    have LE1 := LE.out
    clear cg h6i
    go_upto_region 46 with fail
    refine late_genw (fun wD hwD => ?_)
    have hkD : ∀ k, k ≠ g → wD.heap[k]? = wE.heap[k]? := fun k hk => by rw [hwD]; exact ((Below.heap_setCell _ _ _ _ hk).trans (Below.heap_setCell _ _ _ _ hk)).trans (Below.heap_setCell _ _ _ _ hk)
    obtain ⟨B3', hO3', hB3'⟩ := HSET.out wE (fun k hk hki => HT9.out k (DF.out.n.lts k hk).2 hki) bN [.int .i64 n.Id, .slice q1 n.Body.length k1, .slice pC n.Body.length cC] ⟨n.Id, n.Body, n.Body⟩ OCE.out (fun b hb => by
     rcases HBN.out b hb with hb | hb
     ·exact .inr hb
     ·exact .inl fun hm => by have := (DF.out.n.lts b hm).2; omega)
    have hO3 : OwnL (w.heap.size + 3) wD 104 (.slice (some ⟨g, 0, none⟩) d.Nodes.length c3) B3' ((d.Nodes.map (NF 5)).set j ⟨n.Id, n.Body, n.Body⟩) := by rw [hwD]; exact hO3'
    have hND : (d.Nodes.map (NF 5)).set j ⟨n.Id, n.Body, n.Body⟩ = (d.Nodes.set j (safeD n n.Body)).map (NF 5) := by rw [List.map_set]; rfl
    rw [hND] at hO3
    have hB3o : ∀ b ∈ B3', b ∈ B3 ∨ w9.heap.size < b := fun b hb => by
     rcases hB3' b hb with h9 | h9
     ·exact .inl h9
     ·rcases HBN.out b h9 with h9 | h9
      ·exact .inl (HBI.out b h9).1
      ·exact .inr h9
    have hkk : ∀ b, b ∈ B4 ∨ b ∈ B5 → wD.heap[b]? = w9.heap[b]? := fun b hb => by
     have hb9 := DF.out.lts b (.inr hb)
     have hb3 : ∀ x ∈ B3, b ≠ x := fun x hx e => by
      subst e
      rcases hb with hb | hb
      ·exact DF.out.d34 _ hx hb
      ·exact DF.out.d35 _ hx hb
     exact (hkD b (hb3 g HGB.out)).trans (HT9.out b hb9.2 (fun hm => hb3 b (HBI.out b hm).1 rfl))
    have DFD := hid (show DiskF 104 127 106 5 (w.heap.size + 3) wD (setN d j (safeD n n.Body)) (.slice (some ⟨g, 0, none⟩) d.Nodes.length c3) (.slice p4 d.Kept.length c4) (.slice p5 d.Turns.length c5) B3' B4 B5 from
     ⟨JD.out.1, fuse_i64 JD.out.2.1, JD.out.2.2, hO3, DF.out.k.keep fun b hb => hkk b (.inl hb), DF.out.t.keep fun b hb => hkk b (.inr hb),
      fun b h1 h2 => (by rcases hB3o b h1 with h9 | h9; exact DF.out.d34 b h9 h2; have := (DF.out.k.lts b h2).2; omega),
      fun b h1 h2 => (by rcases hB3o b h1 with h9 | h9; exact DF.out.d35 b h9 h2; have := (DF.out.t.lts b h2).2; omega),
      DF.out.d45⟩)
    have X6D := hid (X6C.out.keep (hkD B6 (Ne.symm hng6)))
    have XRD := hid (XR.out.keep ((hkD (w.heap.size + 2) (by have := GB.out; omega)).trans (HT9.out _ XR.out.f.lt hRi)))
    have BD := hid (show Below w.heap.size w wD by
     rw [hwD]
     have hgw : w.heap.size ≤ g := by have := GB.out; omega
     exact ((BE.out.setCell hgw _).setCell hgw _).setCell hgw _)
    have HND := hid (show doD d 3 nm tt sz data = (setN d j (safeD n n.Body), 0) by unfold doD; simp only [HNDJ.out, getD_at HJ.out, ← HN.out]; rfl)
    clear hwD hkD hO3' hB3' hO3 hND hB3o hkk xn xnf xo xf fg z0 z1 z2 X6C hB69 hgi hRi hg9
    have ED2 := hid (show diskDo d 3 nm tt sz data = (setN d j (safeD n n.Body), 0) by rw [ED.out]; exact HND.out)
    obtain ⟨R, hR⟩ : ∃ R : List Value, R = [Value.int .i64 d.Room, .int .i64 (fuseD d), .int .i64 d.Next, .slice (some ⟨g, 0, none⟩) d.Nodes.length c3, .slice p4 d.Kept.length c4, .slice p5 d.Turns.length c5] := ⟨_, rfl⟩
    have HC1 := hid (show R.toArray.all (·.oneCell') = true by rw [hR]; simp [Value.oneCell'])
    have HL := hid (show R.length = 6 by rw [hR]; rfl)
    have X6R := hid (show Bx wD B6 R.toArray by rw [hR]; exact X6D.out)
    have HR := hid hR
    have I1 := hid (show (Tryz.prog.info? 35).map (·.size) = some R.length by rw [HL.out]; exact I6.out)
    have I2 := hid (show (Tryz.prog.info? 35).map (·.size) = some R.toArray.size by rw [List.size_toArray, HL.out]; exact I6.out)
    have TH := hid (show wD.there (w.heap.size + 2) 0 R.toArray.size by rw [show R.toArray.size = 6 by rw [List.size_toArray]; exact HL.out]; exact XRD.out.there 0 6 (by simp))
    clear hR
    go_wp2_with (first | (refine wpList_load_mid rfl 35 _ rfl B6 0 rfl R _ X6R.out.all Tryz.underlying35 rfl I1.out ?_) | (refine wpList_store_mid rfl 35 _ _ rfl (w.heap.size + 2) 0 R.toArray rfl rfl TH.out I2.out HC1.out ?_))
    have X13 := hid (show Bx (wD.setCells (w.heap.size + 2) 0 R) (w.heap.size + 2) R.toArray from XRD.out.setAll R (by rw [HL.out]; simp))
    refine bodyPost_ret (results_mid_tmp Tryz.results54 rfl R X13.out.all Tryz.underlying35 rfl I1.out) rfl ?_
    rw [ED2.out]
    refine ⟨_, _, _, B3', B4, B5, by rw [HR.out]; rfl, (DFD.out.mono (Nat.le_add_right _ _)).keep (fun b hb => setCells_heap _ _ _ _ _ ?_), Below.setCells _ (Nat.le_add_right _ _) _ _ BD.out⟩
    have := DFD.out.lts b hb
    omega
  ·as_aux_lemma =>
    obtain ⟨j, hj, hn, hid2⟩ := node_of HDK.out nm (code_there HC.out (by decide))
    have hndj : ndAt d nm = j := by unfold ndAt; rw [hn]; simp
    have hatj : at0 = (j : Int) := by rw [HAT.out, hn]
    subst hatj
    obtain ⟨g, cap, bi, ci, hv3, hgB, hglo, hglt, hFg, hbi, hOi, hAi, hset⟩ := DF.out.n.setE j (by rw [List.length_map]; exact hj)
    rw [List.length_map] at hv3
    obtain ⟨rfl, _, rfl⟩ := Value.slice.inj hv3
    have hNFj : (d.Nodes.map (NF 5))[j]'(by rw [List.length_map]; exact hj) = NF 5 d.Nodes[j] := by rw [List.getElem_map]
    rw [hNFj] at hOi
    obtain ⟨v1, v2, b1, b2, hbi2, rfl, hId, hO1, hO2, hd12⟩ := nf_open hOi
    obtain ⟨n, hnn⟩ : ∃ n, n = d.Nodes[j] := ⟨_, rfl⟩
    rw [show (NF 5 d.Nodes[j]).Id = n.Id by rw [hnn]; rfl] at hId hAi
    rw [show (NF 5 d.Nodes[j]).Body = n.Body by rw [hnn]; rfl] at hO1
    rw [show (NF 5 d.Nodes[j]).Safe = n.Safe by rw [hnn]; rfl] at hO2
    obtain ⟨q1, k1, rfl⟩ := hO1.slice
    obtain ⟨q2, k2, rfl⟩ := hO2.slice
    have e0 : w9.cell? ⟨g, j * 3, none⟩ = some (.int .i64 n.Id) := by have := hAi 0 _ rfl; exact this
    have e1 : w9.cell? ⟨g, j * 3 + 1, none⟩ = some (.slice q1 n.Body.length k1) := by have := hAi 1 _ rfl; exact this
    have e2 : w9.cell? ⟨g, j * 3 + 2, none⟩ = some (.slice q2 n.Safe.length k2) := by have := hAi 2 _ rfl; exact this
    have HSET := hid hset; have O1 := hid hO1; have O2 := hid hO2; have D12 := hid hd12; have HID := hid hId; have HFG := hid hFg; have HBI := hid hbi; have HBI2 := hid hbi2; have HNDJ := hid hndj; have HN := hid hnn
    have hng6 : g ≠ B6 := fun e => by have := LT3.out g (.inl hgB); omega
    have hji : (j : Int) < (d.Nodes.length : Int) := by omega
    have HGB := hid hgB
    have GB := hid (show g < B6 ∧ w.heap.size + 3 ≤ g from ⟨LT3.out g (.inl hgB), hglo⟩)
    have LB := hid (fun b (hb : b ∈ b1 ∨ b ∈ b2) => show b < B6 ∧ b ≠ g ∧ w.heap.size + 3 ≤ b from by
     have hm : b ∈ bi := by rw [HBI2.out]; exact List.mem_append.2 hb
     exact ⟨LT3.out b (.inl (HBI.out b hm).1), (HBI.out b hm).2, (DF.out.n.lts b (HBI.out b hm).1).1⟩)
    have HSM := hid (show n.Body.length ≤ 60000 ∧ n.Safe.length ≤ 60000 by rw [hnn]; exact node_small HDK.out _ (List.getElem_mem hj))
    have HJ := hid hj; have E0 := hid e0; have E1 := hid e1; have E2 := hid e2
    clear hset hO1 hO2 hd12 hId hFg hbi hbi2 hndj hn hid2 hOi hAi hv3 hNFj hnn hgB hglo
    have hszb := code_size HC.out
    have hopB := HOP.out
    unfold opB at hopB
    simp only [if_true, if_neg (show ¬ (4 : Int) = 2 by decide), Bool.and_true, Bool.and_eq_true, decide_eq_true_eq] at hopB
    have hrd : readB d nm = n.Body := by rw [readB_at HJ.out HAT.out.symm, ← HN.out]
    rw [hrd] at hszb
    have SZB := hid (show sz ≤ (n.Body.length : Int) from hszb)
    have SZ0 := hid hopB.1
    clear hszb hopB hrd
    go_upto_region 30 with fail
    refine late_genw (fun wB hwB => ?_)
    have hbb : Below w9.heap.size w9 wB := by rw [hwB]; exact (Below.refl _ _).alloc (Nat.le_refl _) _
    have XN := hid (show Bx wB w9.heap.size #[.int .i64 n.Id, .slice q1 n.Body.length k1, .slice q2 n.Safe.length k2] by rw [hwB]; exact Bx.new _ _ _ rfl)
    have NB := hid (show wB.heap.size = w9.heap.size + 1 by rw [hwB]; simp)
    clear hwB xo xf yo e0 e1 e2
    have xn := XN.out.out; have xnf := XN.out.fr
    have hcut := own_cut (P := Tryz.prog) O1.out 54 Tryz.underlying54 hi8 hz18 sz SZ0.out SZB.out
    have yo := XO.out.out
    have hB91 : w.heap.size + 1 < w9.heap.size := XO.out.f.lt
    have yB : wB.cell? ⟨w.heap.size + 1, 3, none⟩ = some (.int .i64 sz) := (World.cell?_of_block (a := ⟨w.heap.size + 1, 3, none⟩) (hbb.block _ hB91)).trans (XO.out.out 3)
    clear yo
    go_upto_region 31 with fail
    refine late_genw (fun wE hwE => ?_)
    have XNE := hid (show Bx wE w9.heap.size #[.int .i64 n.Id, .slice q1 sz.toNat k1, .slice q2 n.Safe.length k2] by rw [hwE]; exact XN.out.setSame 1 _)
    have HT9 := hid (fun k (hk : k < w9.heap.size) (_ : k ∉ bi) => show wE.heap[k]? = w9.heap[k]? by rw [hwE]; exact (Below.heap_setCell _ _ _ _ (by simp; omega)).trans (hbb.block k hk))
    have BE := hid (show Below w.heap.size w wE by rw [hwE]; exact (HB.out.trans (hbb.mono HB.out.size)).setCell (by have := HB.out.size; simp; omega) _)
    have LE := hid (show w9.heap.size ≤ wE.heap.size by rw [hwE]; have := NB.out; simp; omega)
    have hkE : ∀ b ∈ b1 ++ b2, wE.heap[b]? = w9.heap[b]? := fun b hb => by
     have hb9 : b < w9.heap.size := by
      rcases List.mem_append.1 hb with hb | hb
      ·exact (O1.out.lts b hb).2
      ·exact (O2.out.lts b hb).2
     rw [hwE]; exact (Below.heap_setCell _ _ _ _ (by simp; omega)).trans (hbb.block b hb9)
    obtain ⟨bN, hbN⟩ : ∃ bN, bN = b1 ++ b2 := ⟨_, rfl⟩
    have OCE := hid (show Own (w.heap.size + 3) wE bN [.int .i64 n.Id, .slice q1 sz.toNat k1, .slice q2 n.Safe.length k2] (⟨n.Id, n.Body.take sz.toNat, n.Safe⟩ : NodeF 5) from by
     rw [hbN]
     exact nf_own HID.out ((O1.out.takeB sz.toNat (by have := SZB.out; omega)).keep fun b hb => hkE b (List.mem_append_left _ hb)) (O2.out.keep fun b hb => hkE b (List.mem_append_right _ hb)) D12.out)
    have HBN := hid (show ∀ b ∈ bN, b ∈ bi ∨ w9.heap.size < b from fun b hb => .inl (by rw [HBI2.out, ← hbN]; exact hb))
    clear hwE hbN xn xnf XN hbb hkE hcut yB hB91
    have xn := XNE.out.out; have xnf := XNE.out.fr
    have hgi : g ∉ bi := fun hm => (HBI.out g hm).2 rfl
    have h6i : B6 ∉ bi := fun hm => by have := LT3.out B6 (.inl (HBI.out B6 hm).1); omega
    have hRi : w.heap.size + 2 ∉ bi := fun hm => by have := (DF.out.n.lts _ (HBI.out _ hm).1).1; omega
    have hg9 : g < w9.heap.size := (DF.out.n.lts g HGB.out).2
    have X6C := hid (X6.out.keep (HT9.out B6 X6.out.f.lt h6i))
    have xo := X6C.out.out; have xf := X6C.out.fr
    have fg : ∀ o, wE.frozen? ⟨g, o, none⟩ = false := fun o => (HFG.out.keep (HT9.out g hg9 hgi)).frozen o
    have cg : ∀ o v, w9.cell? ⟨g, o, none⟩ = some v → wE.cell? ⟨g, o, none⟩ = some v := fun o v h => (World.cell?_of_block (a := ⟨g, o, none⟩) (HT9.out g hg9 hgi)).trans h
    have z0 := cg _ _ E0.out; have z1 := cg _ _ E1.out; have z2 := cg _ _ E2.out
    have hB69 : B6 < w9.heap.size := X6.out.f.lt
    have LE1 := LE.out
    clear cg h6i
    go_upto_region 46 with fail
    refine late_genw (fun wD hwD => ?_)
    have hkD : ∀ k, k ≠ g → wD.heap[k]? = wE.heap[k]? := fun k hk => by rw [hwD]; exact ((Below.heap_setCell _ _ _ _ hk).trans (Below.heap_setCell _ _ _ _ hk)).trans (Below.heap_setCell _ _ _ _ hk)
    obtain ⟨B3', hO3', hB3'⟩ := HSET.out wE (fun k hk hki => HT9.out k (DF.out.n.lts k hk).2 hki) bN [.int .i64 n.Id, .slice q1 sz.toNat k1, .slice q2 n.Safe.length k2] ⟨n.Id, n.Body.take sz.toNat, n.Safe⟩ OCE.out (fun b hb => by
     rcases HBN.out b hb with hb | hb
     ·exact .inr hb
     ·exact .inl fun hm => by have := (DF.out.n.lts b hm).2; omega)
    have hO3 : OwnL (w.heap.size + 3) wD 104 (.slice (some ⟨g, 0, none⟩) d.Nodes.length c3) B3' ((d.Nodes.map (NF 5)).set j ⟨n.Id, n.Body.take sz.toNat, n.Safe⟩) := by rw [hwD]; exact hO3'
    have hND : (d.Nodes.map (NF 5)).set j ⟨n.Id, n.Body.take sz.toNat, n.Safe⟩ = (d.Nodes.set j (bodyD n (n.Body.take sz.toNat))).map (NF 5) := by rw [List.map_set]; rfl
    rw [hND] at hO3
    have hB3o : ∀ b ∈ B3', b ∈ B3 ∨ w9.heap.size < b := fun b hb => by
     rcases hB3' b hb with h9 | h9
     ·exact .inl h9
     ·rcases HBN.out b h9 with h9 | h9
      ·exact .inl (HBI.out b h9).1
      ·exact .inr h9
    have hkk : ∀ b, b ∈ B4 ∨ b ∈ B5 → wD.heap[b]? = w9.heap[b]? := fun b hb => by
     have hb9 := DF.out.lts b (.inr hb)
     have hb3 : ∀ x ∈ B3, b ≠ x := fun x hx e => by
      subst e
      rcases hb with hb | hb
      ·exact DF.out.d34 _ hx hb
      ·exact DF.out.d35 _ hx hb
     exact (hkD b (hb3 g HGB.out)).trans (HT9.out b hb9.2 (fun hm => hb3 b (HBI.out b hm).1 rfl))
    have DFD := hid (show DiskF 104 127 106 5 (w.heap.size + 3) wD (setN d j (bodyD n (n.Body.take sz.toNat))) (.slice (some ⟨g, 0, none⟩) d.Nodes.length c3) (.slice p4 d.Kept.length c4) (.slice p5 d.Turns.length c5) B3' B4 B5 from
     ⟨JD.out.1, fuse_i64 JD.out.2.1, JD.out.2.2, hO3, DF.out.k.keep fun b hb => hkk b (.inl hb), DF.out.t.keep fun b hb => hkk b (.inr hb),
      fun b h1 h2 => (by rcases hB3o b h1 with h9 | h9; exact DF.out.d34 b h9 h2; have := (DF.out.k.lts b h2).2; omega),
      fun b h1 h2 => (by rcases hB3o b h1 with h9 | h9; exact DF.out.d35 b h9 h2; have := (DF.out.t.lts b h2).2; omega),
      DF.out.d45⟩)
    have X6D := hid (X6C.out.keep (hkD B6 (Ne.symm hng6)))
    have XRD := hid (XR.out.keep ((hkD (w.heap.size + 2) (by have := GB.out; omega)).trans (HT9.out _ XR.out.f.lt hRi)))
    have BD := hid (show Below w.heap.size w wD by
     rw [hwD]
     have hgw : w.heap.size ≤ g := by have := GB.out; omega
     exact ((BE.out.setCell hgw _).setCell hgw _).setCell hgw _)
    have HND := hid (show doD d 4 nm tt sz data = (setN d j (bodyD n (n.Body.take sz.toNat)), 0) by unfold doD; simp only [HNDJ.out, getD_at HJ.out, ← HN.out]; rfl)
    clear hwD hkD hO3' hB3' hO3 hND hB3o hkk xn xnf xo xf fg z0 z1 z2 X6C hB69 hgi hRi hg9
    have ED2 := hid (show diskDo d 4 nm tt sz data = (setN d j (bodyD n (n.Body.take sz.toNat)), 0) by rw [ED.out]; exact HND.out)
    obtain ⟨R, hR⟩ : ∃ R : List Value, R = [Value.int .i64 d.Room, .int .i64 (fuseD d), .int .i64 d.Next, .slice (some ⟨g, 0, none⟩) d.Nodes.length c3, .slice p4 d.Kept.length c4, .slice p5 d.Turns.length c5] := ⟨_, rfl⟩
    have HC1 := hid (show R.toArray.all (·.oneCell') = true by rw [hR]; simp [Value.oneCell'])
    have HL := hid (show R.length = 6 by rw [hR]; rfl)
    have X6R := hid (show Bx wD B6 R.toArray by rw [hR]; exact X6D.out)
    have HR := hid hR
    have I1 := hid (show (Tryz.prog.info? 35).map (·.size) = some R.length by rw [HL.out]; exact I6.out)
    have I2 := hid (show (Tryz.prog.info? 35).map (·.size) = some R.toArray.size by rw [List.size_toArray, HL.out]; exact I6.out)
    have TH := hid (show wD.there (w.heap.size + 2) 0 R.toArray.size by rw [show R.toArray.size = 6 by rw [List.size_toArray]; exact HL.out]; exact XRD.out.there 0 6 (by simp))
    clear hR
    go_wp2_with (first | (refine wpList_load_mid rfl 35 _ rfl B6 0 rfl R _ X6R.out.all Tryz.underlying35 rfl I1.out ?_) | (refine wpList_store_mid rfl 35 _ _ rfl (w.heap.size + 2) 0 R.toArray rfl rfl TH.out I2.out HC1.out ?_))
    have X13 := hid (show Bx (wD.setCells (w.heap.size + 2) 0 R) (w.heap.size + 2) R.toArray from XRD.out.setAll R (by rw [HL.out]; simp))
    refine bodyPost_ret (results_mid_tmp Tryz.results54 rfl R X13.out.all Tryz.underlying35 rfl I1.out) rfl ?_
    rw [ED2.out]
    refine ⟨_, _, _, B3', B4, B5, by rw [HR.out]; rfl, (DFD.out.mono (Nat.le_add_right _ _)).keep (fun b hb => setCells_heap _ _ _ _ _ ?_), Below.setCells _ (Nat.le_add_right _ _) _ _ BD.out⟩
    have := DFD.out.lts b hb
    omega
  ·as_aux_lemma =>
    obtain ⟨x, hx⟩ : ∃ x : TurnD, x = ⟨5, nm, tt, 0⟩ := ⟨_, rfl⟩
    have PX := hid (fun V : World => show Rep.pt V [] [.int .i64 5, .string nm, .string tt, .int .i64 0] x by rw [hx]; exact mk_Turn (d := ⟨5, nm, tt, 0⟩) (by simp [I64]) HV.out.nl HV.out.tl (by simp [I64]))
    have HXX := hid hx
    clear hx
    have TL := hid (show d.Turns.length ≤ 40 from HROH.out.r9)
    go_wp2_with (at_builtin; refine wp_append rfl _ _ 33 rfl 106 i3 (.agg #[.int .i64 0, .string ByteArray.empty, .string ByteArray.empty, .int .i64 0]) 48 Tryz.underlying33 hi3 hz03 hz13 hz23 rfl (lo := w.heap.size + 3) (bs := B5) (xs := d.Turns) rfl (DF.out.t.alloc _) (b2 := []) (ys := [x]) rfl ?tsrc List.nodup_nil (fun b hb => by cases hb) ?ta ?tb ?tc ?_)
    case tsrc => exact src_new (PX.out _) (by simp) _ _
    try (case ta => have := TL.out; simp; omega)
    try (case tb => have := TL.out; simp; omega)
    try (case tc => have := SZ3.out; have := X6.out.f.lt; simp; omega)
    intro pT cT wT bT hOT hTT hmT
    have OT := hid hOT
    have TT9 := hid (((Tch.refl B5 w9).alloc (.cells #[.int .i64 5, .string nm, .string tt, .int .i64 0] 106)).trans hTT)
    have MT := hid (fun b (hb : b ∈ bT) => show b ∈ B5 ∨ w9.heap.size < b from by have h3 := hmT b hb; (try simp at h3); rcases h3 with h3 | h3; exact .inl h3; exact .inr (by omega))
    clear hOT hTT hmT xo xf yo
    have N65 := hid (show B6 ∉ B5 from fun hm => by have := LT3.out B6 (.inr (.inr hm)); omega)
    have X6T := hid (Bx.tch TT9.out X6.out.f.lt N65.out X6.out)
    have xo := X6T.out.out; have xf := X6T.out.fr
    go_upto_region 46 with fail
    refine late_genw (fun wD hwD => ?_)
    have hkD : ∀ k, k ≠ B6 → wD.heap[k]? = wT.heap[k]? := fun k hk => by rw [hwD]; exact Below.heap_setCell _ _ _ _ hk
    have X6D := hid (show Bx wD B6 #[.int .i64 d.Room, .int .i64 (fuseD d), .int .i64 d.Next, .slice p3 d.Nodes.length c3, .slice p4 d.Kept.length c4, .slice pT (d.Turns.length + 1) cT] by rw [hwD]; exact X6T.out.setSame 5 _)
    have XRD := hid (XR.out.keep ((hkD _ (by have := SZ3.out; omega)).trans (TT9.out.block _ XR.out.f.lt (fun hm => by have := (DF.out.t.lts _ hm).1; omega))))
    have hk9 : ∀ b, b ∈ B3 ∨ b ∈ B4 → wD.heap[b]? = w9.heap[b]? := fun b hb => by
     have h1 := LT3.out b (by rcases hb with hb | hb; exact .inl hb; exact .inr (.inl hb))
     have h2 := DF.out.lts b (by rcases hb with hb | hb; exact .inl hb; exact .inr (.inl hb))
     refine (hkD b (by omega)).trans (TT9.out.block b h2.2 fun hm => ?_)
     rcases hb with hb | hb
     ·exact DF.out.d35 b hb hm
     ·exact DF.out.d45 b hb hm
    have DFD := hid (show DiskF 104 127 106 5 (w.heap.size + 3) wD { d with Fuse := fuseD d, Turns := d.Turns ++ [x] } (.slice p3 d.Nodes.length c3) (.slice p4 d.Kept.length c4) (.slice pT (d.Turns.length + 1) cT) B3 B4 bT from
     ⟨JD.out.1, fuse_i64 JD.out.2.1, JD.out.2.2, DF.out.n.keep fun b hb => hk9 b (.inl hb), DF.out.k.keep fun b hb => hk9 b (.inr hb), OT.out.keep fun b hb => hkD b (fun e => by
       subst e
       rcases MT.out _ hb with h9 | h9
       ·exact N65.out h9
       ·have := X6.out.f.lt; omega),
      DF.out.d34,
      fun b h1 h2 => (by rcases MT.out b h2 with h9 | h9; exact DF.out.d35 b h1 h9; have := (DF.out.n.lts b h1).2; omega),
      fun b h1 h2 => (by rcases MT.out b h2 with h9 | h9; exact DF.out.d45 b h1 h9; have := (DF.out.k.lts b h1).2; omega)⟩)
    have BD := hid (show Below w.heap.size w wD by
     rw [hwD]
     exact (HB.out.trans (TT9.out.below HB.out.size (fun b hb => by have := (DF.out.t.lts b hb).1; omega))).setCell (show w.heap.size ≤ B6 by have := SZ3.out; omega) _)
    have HND := hid (show doD d 5 nm tt sz data = ({ d with Fuse := fuseD d, Turns := d.Turns ++ [x] }, 0) by unfold doD; rw [HXX.out]; rfl)
    clear hwD hkD hk9 xo xf X6T
    have ED2 := hid (show diskDo d 5 nm tt sz data = ({ d with Fuse := fuseD d, Turns := d.Turns ++ [x] }, 0) by rw [ED.out]; exact HND.out)
    obtain ⟨R, hR⟩ : ∃ R : List Value, R = [Value.int .i64 d.Room, .int .i64 (fuseD d), .int .i64 d.Next, .slice p3 d.Nodes.length c3, .slice p4 d.Kept.length c4, .slice pT (d.Turns.length + 1) cT] := ⟨_, rfl⟩
    have HC1 := hid (show R.toArray.all (·.oneCell') = true by rw [hR]; simp [Value.oneCell'])
    have HL := hid (show R.length = 6 by rw [hR]; rfl)
    have X6R := hid (show Bx wD B6 R.toArray by rw [hR]; exact X6D.out)
    have HR := hid hR
    have I1 := hid (show (Tryz.prog.info? 35).map (·.size) = some R.length by rw [HL.out]; exact I6.out)
    have I2 := hid (show (Tryz.prog.info? 35).map (·.size) = some R.toArray.size by rw [List.size_toArray, HL.out]; exact I6.out)
    have TH := hid (show wD.there (w.heap.size + 2) 0 R.toArray.size by rw [show R.toArray.size = 6 by rw [List.size_toArray]; exact HL.out]; exact XRD.out.there 0 6 (by simp))
    clear hR
    go_wp2_with (first | (refine wpList_load_mid rfl 35 _ rfl B6 0 rfl R _ X6R.out.all Tryz.underlying35 rfl I1.out ?_) | (refine wpList_store_mid rfl 35 _ _ rfl (w.heap.size + 2) 0 R.toArray rfl rfl TH.out I2.out HC1.out ?_))
    have X13 := hid (show Bx (wD.setCells (w.heap.size + 2) 0 R) (w.heap.size + 2) R.toArray from XRD.out.setAll R (by rw [HL.out]; simp))
    refine bodyPost_ret (results_mid_tmp Tryz.results54 rfl R X13.out.all Tryz.underlying35 rfl I1.out) rfl ?_
    rw [ED2.out]
    refine ⟨_, _, _, B3, B4, bT, by rw [HR.out]; rfl, (DFD.out.mono (Nat.le_add_right _ _)).keep (fun b hb => setCells_heap _ _ _ _ _ ?_), Below.setCells _ (Nat.le_add_right _ _) _ _ BD.out⟩
    have := DFD.out.lts b hb
    omega
  ·as_aux_lemma =>
    obtain ⟨x, hx⟩ : ∃ x : TurnD, x = ⟨6, nm, tt, 0⟩ := ⟨_, rfl⟩
    have PX := hid (fun V : World => show Rep.pt V [] [.int .i64 6, .string nm, .string tt, .int .i64 0] x by rw [hx]; exact mk_Turn (d := ⟨6, nm, tt, 0⟩) (by simp [I64]) HV.out.nl HV.out.tl (by simp [I64]))
    have HXX := hid hx
    clear hx
    have TL := hid (show d.Turns.length ≤ 40 from HROH.out.r9)
    go_wp2_with (at_builtin; refine wp_append rfl _ _ 33 rfl 106 i3 (.agg #[.int .i64 0, .string ByteArray.empty, .string ByteArray.empty, .int .i64 0]) 48 Tryz.underlying33 hi3 hz03 hz13 hz23 rfl (lo := w.heap.size + 3) (bs := B5) (xs := d.Turns) rfl (DF.out.t.alloc _) (b2 := []) (ys := [x]) rfl ?tsrc List.nodup_nil (fun b hb => by cases hb) ?ta ?tb ?tc ?_)
    case tsrc => exact src_new (PX.out _) (by simp) _ _
    try (case ta => have := TL.out; simp; omega)
    try (case tb => have := TL.out; simp; omega)
    try (case tc => have := SZ3.out; have := X6.out.f.lt; simp; omega)
    intro pT cT wT bT hOT hTT hmT
    have OT := hid hOT
    have TT9 := hid (((Tch.refl B5 w9).alloc (.cells #[.int .i64 6, .string nm, .string tt, .int .i64 0] 106)).trans hTT)
    have MT := hid (fun b (hb : b ∈ bT) => show b ∈ B5 ∨ w9.heap.size < b from by have h3 := hmT b hb; (try simp at h3); rcases h3 with h3 | h3; exact .inl h3; exact .inr (by omega))
    clear hOT hTT hmT xo xf yo
    have N65 := hid (show B6 ∉ B5 from fun hm => by have := LT3.out B6 (.inr (.inr hm)); omega)
    have X6T := hid (Bx.tch TT9.out X6.out.f.lt N65.out X6.out)
    have xo := X6T.out.out; have xf := X6T.out.fr
    go_upto_region 46 with fail
    refine late_genw (fun wD hwD => ?_)
    have hkD : ∀ k, k ≠ B6 → wD.heap[k]? = wT.heap[k]? := fun k hk => by rw [hwD]; exact Below.heap_setCell _ _ _ _ hk
    have X6D := hid (show Bx wD B6 #[.int .i64 d.Room, .int .i64 (fuseD d), .int .i64 d.Next, .slice p3 d.Nodes.length c3, .slice p4 d.Kept.length c4, .slice pT (d.Turns.length + 1) cT] by rw [hwD]; exact X6T.out.setSame 5 _)
    have XRD := hid (XR.out.keep ((hkD _ (by have := SZ3.out; omega)).trans (TT9.out.block _ XR.out.f.lt (fun hm => by have := (DF.out.t.lts _ hm).1; omega))))
    have hk9 : ∀ b, b ∈ B3 ∨ b ∈ B4 → wD.heap[b]? = w9.heap[b]? := fun b hb => by
     have h1 := LT3.out b (by rcases hb with hb | hb; exact .inl hb; exact .inr (.inl hb))
     have h2 := DF.out.lts b (by rcases hb with hb | hb; exact .inl hb; exact .inr (.inl hb))
     refine (hkD b (by omega)).trans (TT9.out.block b h2.2 fun hm => ?_)
     rcases hb with hb | hb
     ·exact DF.out.d35 b hb hm
     ·exact DF.out.d45 b hb hm
    have DFD := hid (show DiskF 104 127 106 5 (w.heap.size + 3) wD { d with Fuse := fuseD d, Turns := d.Turns ++ [x] } (.slice p3 d.Nodes.length c3) (.slice p4 d.Kept.length c4) (.slice pT (d.Turns.length + 1) cT) B3 B4 bT from
     ⟨JD.out.1, fuse_i64 JD.out.2.1, JD.out.2.2, DF.out.n.keep fun b hb => hk9 b (.inl hb), DF.out.k.keep fun b hb => hk9 b (.inr hb), OT.out.keep fun b hb => hkD b (fun e => by
       subst e
       rcases MT.out _ hb with h9 | h9
       ·exact N65.out h9
       ·have := X6.out.f.lt; omega),
      DF.out.d34,
      fun b h1 h2 => (by rcases MT.out b h2 with h9 | h9; exact DF.out.d35 b h1 h9; have := (DF.out.n.lts b h1).2; omega),
      fun b h1 h2 => (by rcases MT.out b h2 with h9 | h9; exact DF.out.d45 b h1 h9; have := (DF.out.k.lts b h1).2; omega)⟩)
    have BD := hid (show Below w.heap.size w wD by
     rw [hwD]
     exact (HB.out.trans (TT9.out.below HB.out.size (fun b hb => by have := (DF.out.t.lts b hb).1; omega))).setCell (show w.heap.size ≤ B6 by have := SZ3.out; omega) _)
    have HND := hid (show doD d 6 nm tt sz data = ({ d with Fuse := fuseD d, Turns := d.Turns ++ [x] }, 0) by unfold doD; rw [HXX.out]; rfl)
    clear hwD hkD hk9 xo xf X6T
    have ED2 := hid (show diskDo d 6 nm tt sz data = ({ d with Fuse := fuseD d, Turns := d.Turns ++ [x] }, 0) by rw [ED.out]; exact HND.out)
    obtain ⟨R, hR⟩ : ∃ R : List Value, R = [Value.int .i64 d.Room, .int .i64 (fuseD d), .int .i64 d.Next, .slice p3 d.Nodes.length c3, .slice p4 d.Kept.length c4, .slice pT (d.Turns.length + 1) cT] := ⟨_, rfl⟩
    have HC1 := hid (show R.toArray.all (·.oneCell') = true by rw [hR]; simp [Value.oneCell'])
    have HL := hid (show R.length = 6 by rw [hR]; rfl)
    have X6R := hid (show Bx wD B6 R.toArray by rw [hR]; exact X6D.out)
    have HR := hid hR
    have I1 := hid (show (Tryz.prog.info? 35).map (·.size) = some R.length by rw [HL.out]; exact I6.out)
    have I2 := hid (show (Tryz.prog.info? 35).map (·.size) = some R.toArray.size by rw [List.size_toArray, HL.out]; exact I6.out)
    have TH := hid (show wD.there (w.heap.size + 2) 0 R.toArray.size by rw [show R.toArray.size = 6 by rw [List.size_toArray]; exact HL.out]; exact XRD.out.there 0 6 (by simp))
    clear hR
    go_wp2_with (first | (refine wpList_load_mid rfl 35 _ rfl B6 0 rfl R _ X6R.out.all Tryz.underlying35 rfl I1.out ?_) | (refine wpList_store_mid rfl 35 _ _ rfl (w.heap.size + 2) 0 R.toArray rfl rfl TH.out I2.out HC1.out ?_))
    have X13 := hid (show Bx (wD.setCells (w.heap.size + 2) 0 R) (w.heap.size + 2) R.toArray from XRD.out.setAll R (by rw [HL.out]; simp))
    refine bodyPost_ret (results_mid_tmp Tryz.results54 rfl R X13.out.all Tryz.underlying35 rfl I1.out) rfl ?_
    rw [ED2.out]
    refine ⟨_, _, _, B3, B4, bT, by rw [HR.out]; rfl, (DFD.out.mono (Nat.le_add_right _ _)).keep (fun b hb => setCells_heap _ _ _ _ _ ?_), Below.setCells _ (Nat.le_add_right _ _) _ _ BD.out⟩
    have := DFD.out.lts b hb
    omega
  ·as_aux_lemma =>
    go_wp2_with (first | (refine wpList_load_mid rfl 35 _ rfl w.heap.size 0 rfl cs _ XD.out.all Tryz.underlying35 rfl I0.out ?_))
    refine (s_DiskDir (grow H0.out HB.out) (ok_small HDK.out) HDK.out HROH.out).mono ?_
    rintro e wP ⟨v7, B7, rfl, hO7, hb7⟩
    obtain ⟨pv, cv, rfl⟩ := hO7.slice
    have O7 := hid hO7
    have X6P := hid (Bx.below hb7 X6.out.f.lt X6.out)
    have XRP := hid (Bx.below hb7 XR.out.f.lt XR.out)
    have DFP := hid (DF.out.n.grow hb7)
    have BP := hid (HB.out.trans (hb7.mono HB.out.size))
    have SP := hid hb7.size
    have L6 := hid (show B6 < w9.heap.size from X6.out.f.lt)
    clear hO7 hb7 xo xf yo x6lt
    have xo := X6P.out.out; have xf := X6P.out.fr
    go_upto_region 38 with fail
    refine late_genw (fun wQ hwQ => ?_)
    have hkQ : ∀ k, k ≠ B6 → wQ.heap[k]? = wP.heap[k]? := fun k hk => by rw [hwQ]; exact (Below.heap_setCell _ _ _ _ hk).trans (Below.heap_setCell _ _ _ _ hk)
    obtain ⟨nD, hnD⟩ : ∃ nD, nD = (dirAll d).length := ⟨_, rfl⟩
    rw [← hnD] at hwQ O7 ⊢
    have X6Q := hid (show Bx wQ B6 [Value.int .i64 d.Room, .int .i64 (fuseD d), .int .i64 d.Next, .slice p3 d.Nodes.length c3, .slice pv nD cv, .slice none 0 0].toArray by rw [hwQ]; exact (X6P.out.setSame 4 _).setSame 5 _)
    have SQ := hid (show wQ.heap.size = wP.heap.size by rw [hwQ]; simp)
    have O7Q := hid (show OwnL w9.heap.size wQ 127 (.slice pv nD cv) B7 (dirAll d) from O7.out.keep fun b hb => hkQ b (by have := (O7.out.lts b hb).1; have := L6.out; omega))
    have B7L := hid (fun b (hb : b ∈ B7) => show w9.heap.size ≤ b ∧ b < wQ.heap.size from ⟨(O7Q.out.lts b hb).1, (O7Q.out.lts b hb).2⟩)
    have NQ := hid (show OwnL (w.heap.size + 3) wQ 104 (.slice p3 d.Nodes.length c3) B3 (d.Nodes.map (NF 5)) from DFP.out.keep fun b hb => hkQ b (by have := LT3.out b (.inl hb); omega))
    have XRQ := hid (XRP.out.keep (hkQ _ (by have := SZ3.out; omega)))
    have BQ := hid (show Below w.heap.size w wQ by rw [hwQ]; exact (BP.out.setCell (show w.heap.size ≤ B6 by have := SZ3.out; omega) _).setCell (show w.heap.size ≤ B6 by have := SZ3.out; omega) _)
    have N3L := hid (fun b (hb : b ∈ B3) => (DF.out.n.lts b hb).2)
    clear hwQ hkQ hnD xo xf O7 X6P XRP DFP BP
    obtain ⟨dM, hdM⟩ : ∃ dM : DiskD, dM = { d with Fuse := fuseD d, Kept := dirAll d, Turns := [] } := ⟨_, rfl⟩
    obtain ⟨R6, hR6⟩ : ∃ R6 : List Value, R6 = [Value.int .i64 d.Room, .int .i64 (fuseD d), .int .i64 d.Next, .slice p3 d.Nodes.length c3, .slice pv nD cv, .slice none 0 0] := ⟨_, rfl⟩
    have PM := hid (show ∃ bM, Rep.pt wQ bM R6 dM from by
     have hDM : DiskF 104 127 106 5 (w.heap.size + 3) wQ dM (.slice p3 d.Nodes.length c3) (.slice pv nD cv) (.slice none 0 0) B3 B7 [] := by
      rw [hdM]
      exact ⟨JD.out.1, fuse_i64 JD.out.2.1, JD.out.2.2, NQ.out, O7Q.out.mono (by have := SZ3.out; have := L6.out; omega), OwnL.nil _ _ _, fun b h1 h2 => by have := N3L.out b h1; have := (B7L.out b h2).1; omega, by simp, by simp⟩
     obtain ⟨bM, h9, _⟩ := hDM.own
     refine ⟨bM, ?_⟩
     have h8 := h9.1
     rw [hR6]
     rw [hdM] at h8 ⊢
     exact h8)
    obtain ⟨bM, hPM⟩ := PM.out
    have PM2 := hid hPM
    have HIDM := hid (show diskIds dM = idKept (dirAll d) by rw [hdM]; simp [diskIds, idTurns])
    have HKM := hid (show dM.Kept.length ≤ 1048576 ∧ dM.Turns.length ≤ 1048576 by
     rw [hdM]
     have h1 := dirTo_len d d.Turns.length
     rw [dirTo_all] at h1
     have h2 := HROH.out.r8; have h3 := HROH.out.r9
     exact ⟨by show (dirAll d).length ≤ _; omega, by simp⟩)
    have IR6 := hid (show (Tryz.prog.info? 35).map (·.size) = some R6.length by rw [hR6]; exact I6.out)
    rw [← hR6] at X6Q
    have HR6 := hid hR6
    have x3 : wQ.cell? ⟨B6, 3, none⟩ = some (.slice p3 d.Nodes.length c3) := bx_at X6Q.out 3 (by rw [hR6]; rfl)
    have X3 := hid x3
    clear hPM hdM hR6 x3 PM
    obtain ⟨cells, bss, hRow, hEl, hB3e, hnd, hfr⟩ := NQ.out
    have HRow := hid hRow; have HEl := hid hEl; have HB3e := hid hB3e; have HNd := hid hnd; have HFr := hid hfr
    clear hRow hEl hB3e hnd hfr
    have HFL := hid (show bss.flatten.Nodup ∧ ∀ b ∈ bss.flatten, b ∈ B3 from ⟨(List.nodup_append.1 (HB3e.out ▸ HNd.out)).2.1, fun b hb => by rw [HB3e.out]; exact List.mem_append_right _ hb⟩)
    go_upto_region 39 with fail
    refine late_genw (fun wS hwS => ?_)
    have HOS := hid (show OwnL (w.heap.size + 3) wS 104 (.slice (some ⟨wQ.heap.size, 0, none⟩) 0 0) [wQ.heap.size] (([] : List NodeD).map (NF 5)) by rw [hwS]; exact ownL_empty rfl (by have := SQ.out; have := SP.out; have := SZ3.out; have := L6.out; omega))
    have hbS : Below wQ.heap.size wQ wS := by rw [hwS]; exact (Below.refl _ _).alloc (Nat.le_refl _) _
    have HBS := hid hbS
    have L6Q := hid (show B6 < wQ.heap.size from X6Q.out.f.lt)
    have x3 := ((bcell hbS).1 _ 3 L6Q.out).trans X3.out
    clear hwS hbS
    go_wp2_with fail
    go_loopw [14, 181] (fun o i wr => ∃ (k : Nat) (p : Option Addr) (c : Nat) (b' : List Nat) (m : Nat) (don : List NodeD), k ≤ d.Nodes.length ∧ m = don.length ∧ m ≤ k ∧ o = .slice p m c ∧ i = .int .i64 (k : Int) ∧ OwnL (w.heap.size + 3) wr 104 (.slice p m c) b' (don.map (NF 5)) ∧ don = (d.Nodes.take k).filter (fun x => hasI (idKept (dirAll d)) x.Id) ∧ (∀ b, (Value.slice p m c).ownBlock = some b → wQ.heap.size ≤ b) ∧ (∀ b ∈ b', wQ.heap.size ≤ b ∨ b ∈ (bss.take k).flatten) ∧ Below wQ.heap.size wQ wr) (fun _ i _ => d.Nodes.length - (intOf i).toNat)
    case atStart => exact ⟨0, _, _, [wQ.heap.size], 0, [], Nat.zero_le _, rfl, Nat.le_refl _, rfl, rfl, HOS.out, rfl, fun b hb => by simp [Value.ownBlock] at hb; omega, fun b hb => .inl (by simp at hb; omega), HBS.out⟩
    case round =>
     clear HOS HBS x3
     obtain ⟨k, p, c, b', m, don, hk, hm, hmk, rfl, rfl, hO, hd, hob, hbl, hb⟩ := hrel
     have HOr := hid hO; have HD := hid hd; have HOB := hid hob; have HBL := hid hbl; have HBr := hid hb; have HM := hid hm
     clear hO hd hob hbl hm
     have hn8 := HROH.out.r7
     by_cases hlt : k < d.Nodes.length
     ·obtain ⟨ck, bk, hpk, hbk, hck⟩ := HEl.out.get k (by rw [List.length_map]; exact hlt)
      obtain ⟨g, hg⟩ : ∃ g, p3 = some ⟨g, 0, none⟩ := by
       rcases HRow.out.2 with ⟨h1, _⟩ | ⟨g, cap, cur, h1, _⟩
       ·have := (Value.slice.inj h1).2.1; omega
       ·exact ⟨g, (Value.slice.inj h1).1⟩
      subst hg
      rw [show (d.Nodes.map (NF 5))[k]'(by rw [List.length_map]; exact hlt) = NF 5 d.Nodes[k] by rw [List.getElem_map]] at hpk
      obtain ⟨x, hx⟩ : ∃ x, x = d.Nodes[k] := ⟨_, rfl⟩
      rw [← hx] at hpk
      obtain ⟨v1, v2, b1, b2, hbk2, rfl, hId, hO1, hO2⟩ := hpk
      obtain ⟨q1, k1, rfl⟩ := hO1.slice
      obtain ⟨q2, k2, rfl⟩ := hO2.slice
      have hcell : ∀ j u, [Value.int .i64 x.Id, .slice q1 x.Body.length k1, .slice q2 x.Safe.length k2][j]? = some u → wQ.cell? ⟨g, k * 3 + j, none⟩ = some u := fun j u hu => by
       have hrow := HRow.out
       rw [List.length_map] at hrow
       have hl := hrow.1
       have h1 := hck j u hu
       have h2 := (List.getElem?_eq_some_iff.1 h1).1
       exact (World.ownsRow.cellAt hrow _ (by rw [← hl]; exact h2)).trans h1
      have hgl : g < wQ.heap.size := by
       have := hcell 0 _ rfl
       have := World.block_lt_of_cell? _ _ this
       simpa using this
      have T := bcell hb
      have c0 : wr.cell? ⟨g, k * 3, none⟩ = some (.int .i64 x.Id) := (T.1 g _ hgl).trans (hcell 0 _ rfl)
      have c1 : wr.cell? ⟨g, k * 3 + 1, none⟩ = some (.slice q1 x.Body.length k1) := (T.1 g _ hgl).trans (hcell 1 _ rfl)
      have c2 : wr.cell? ⟨g, k * 3 + 2, none⟩ = some (.slice q2 x.Safe.length k2) := (T.1 g _ hgl).trans (hcell 2 _ rfl)
      have PX := hid (show nodePt 5 wQ bk [.int .i64 x.Id, .slice q1 x.Body.length k1, .slice q2 x.Safe.length k2] (NF 5 x) from ⟨_, _, b1, b2, hbk2, rfl, hId, hO1, hO2⟩)
      have HBK := hid hbk
      have hki : (k : Int) < (d.Nodes.length : Int) := by omega
      have hst : (d.Nodes.take (k + 1)).filter (fun x => hasI (idKept (dirAll d)) x.Id) = (d.Nodes.take k).filter (fun x => hasI (idKept (dirAll d)) x.Id) ++ (if hasI (idKept (dirAll d)) x.Id then [x] else []) := by
       rw [List.take_succ_eq_append_getElem hlt, List.filter_append, ← hx]
       congr 1
       cases h9 : hasI (idKept (dirAll d)) x.Id <;> simp [h9]
      have HST := hid hst
      have X6r := hid (range_below X6Q.out.all hb)
      clear hbk hck hcell hgl T hId hO1 hO2 hbk2 hst hx hb
      go_upto_region 42 with fail
      refine late_genw (fun wB hwB => ?_)
      have hbb : Below wr.heap.size wr wB := by rw [hwB]; exact (Below.refl _ _).alloc (Nat.le_refl _) _
      have XN := hid (show Bx wB wr.heap.size #[.int .i64 x.Id, .slice q1 x.Body.length k1, .slice q2 x.Safe.length k2] by rw [hwB]; exact Bx.new _ _ _ rfl)
      have n0 : wB.cell? ⟨wr.heap.size, 0, none⟩ = some (.int .i64 x.Id) := XN.out.out 0
      have OB := hid (HOr.out.grow hbb)
      have BB := hid (HBr.out.trans (hbb.mono HBr.out.size))
      have X6B := hid (range_below X6r.out hbb)
      clear hwB hbb HOr HBr c0 c1 c2 X6r
      refine late_start (fun V => V.rangeAt B6 0 R6 ∧ V.cell? ⟨wr.heap.size, 0, none⟩ = some (.int .i64 x.Id) ∧ Below wB.heap.size wB V) 99 (by kernel_rfl) ?_ (fun hS => ?_)
      ·exact ⟨(World.rangeAt_drew _ _ _ _).2 X6B.out, n0, (Below.refl _ _).drew⟩
      refine late_take (i := 0) (v := .agg R6.toArray) rfl (by kernel_rfl) (fun _ _ _ h => h) (by rfl) (fun V hV => exec_load_mid 35 _ rfl B6 0 rfl R6 _ hV.1 Tryz.underlying35 rfl IR6.out) hS ?_
      try simp only [Act.put, putZ, List.getElem_toArray, List.getElem_cons_zero, List.getElem_cons_succ]
      refine ltk 2 rfl ?_
      try simp only [Act.put, putZ, List.getElem_toArray, List.getElem_cons_zero, List.getElem_cons_succ]
      refine ltk 3 rfl ?_
      try simp only [Act.put, putZ, List.getElem_toArray, List.getElem_cons_zero, List.getElem_cons_succ]
      refine late_one (i := 1) rfl (by kernel_rfl) (fun K9 hK9 => ?_)
      go_simp
      refine (s_l03Ids (ext PM2.out (BB.out.trans (hS.2.2.mono BB.out.size)) (Rep.lt PM2.out)) HKM.out.1 HKM.out.2).mono ?_
      rintro e wF ⟨vI, bI, rfl, hOI, hbI⟩
      rw [HIDM.out] at hOI
      obtain ⟨pI, cI, rfl⟩ := hOI.slice
      obtain ⟨bIs, _, sI⟩ := hOI.slcL
      have SI := hid sI
      clear hOI sI
      go_wp2_with fail
      refine hK9.out _ _ (fun _ => ?_) (fun hS9 => ?_)
      ·(try dsimp only); exact ⟨range_below hS.1 hbI, keepcellF hbI hS.2.1, hS.2.2.trans (hbI.mono hS.2.2.size)⟩
      replace hS := hS9 (by decide)
      clear hK9 K9 hS9
      try simp only [Act.put, putZ, List.getElem_toArray, List.getElem_cons_zero, List.getElem_cons_succ]
      clear hbI
      refine late_one (i := 4) rfl (by kernel_rfl) (fun K9 hK9 => ?_)
      go_simp
      refine (s_l03HasInt SI.out x.Id).mono ?_
      rintro e wG ⟨rfl, rfl⟩
      obtain ⟨hx9, hhx⟩ : ∃ hx9, hx9 = hasI (idKept (dirAll d)) x.Id := ⟨_, rfl⟩
      rw [← hhx]
      have HHX := hid hhx
      clear hhx
      go_wp2_with fail
      refine hK9.out _ _ (fun _ => ?_) (fun hS9 => ?_)
      ·(try dsimp only); exact hS
      replace hS := hS9 (by decide)
      clear hK9 K9 hS9
      try simp only [Act.put, putZ, List.getElem_toArray, List.getElem_cons_zero, List.getElem_cons_succ]
      have hbF := hS.2.2
      have OF := hid (OB.out.grow hbF)
      have BF := hid (BB.out.trans (hbF.mono BB.out.size))
      have XNF := hid (Bx.below hbF XN.out.f.lt XN.out)
      clear hS hbF OB BB XN n0 X6B SI
      refine late_done (by kernel_rfl) ?_ _
      cases hx9
      ·have E9 := hid (show don = (d.Nodes.take (k + 1)).filter (fun x => hasI (idKept (dirAll d)) x.Id) by rw [HST.out, ← HHX.out, HD.out]; simp)
       go_wp2
       exact ⟨⟨k + 1, p, c, b', m, don, by omega, HM.out, by omega, rfl, by go_num, OF.out, E9.out, HOB.out, fun b hb => (HBL.out b hb).imp id (fun h => flat_take_le (Nat.le_succ k) h), BF.out⟩, by simp [intOf]; try omega⟩
      ·have E9 := hid (show don ++ [x] = (d.Nodes.take (k + 1)).filter (fun x => hasI (idKept (dirAll d)) x.Id) by rw [HST.out, ← HHX.out, HD.out]; simp)
       have xn := XNF.out.out
       have PXF := hid (show Rep.pt wF bk [Value.int .i64 x.Id, .slice q1 x.Body.length k1, .slice q2 x.Safe.length k2] (NF 5 x) from ext (show Rep.pt wQ bk _ (NF 5 x) from PX.out) BF.out (Rep.lt (show Rep.pt wQ bk _ (NF 5 x) from PX.out)))
       have BKF := hid (fun b (hb : b ∈ bk) => show b ∈ bss.flatten from List.mem_flatten.2 ⟨bk, List.mem_of_getElem? HBK.out, hb⟩)
       have BKL := hid (fun b (hb : b ∈ bk) => show b < wQ.heap.size from NQ.out.lts b (HFL.out.2 b (BKF.out b hb)) |>.2)
       go_wp2_with (at_builtin; refine wp_append_T rfl _ _ 31 rfl 104 i1 (.agg #[.int .i64 0, .slice none 0 0, .slice none 0 0]) 56 Tryz.underlying31 hi1 hz01 hz11 hz21 rfl (lo := w.heap.size + 3) (bs := b') (xs := don.map (NF 5)) rfl (OF.out.alloc _) (b2 := bk) (ys := [NF 5 x]) rfl ?nsrc (flat_get_nodup HFL.out.1 HBK.out) ?nf2 ?na ?nb ?nc ?_)
       case nsrc => exact src_new (cs := [_, _, _]) PXF.out (by simp) _ _
       case nf2 => exact fun b hb => ⟨(NQ.out.lts b (HFL.out.2 b (BKF.out b hb))).1, ((NQ.out.fr b (HFL.out.2 b (BKF.out b hb))).keep (BF.out.block b (BKL.out b hb))).keep (Below.heap_alloc _ _ _ (Nat.lt_of_lt_of_le (BKL.out b hb) BF.out.size)), fun hm => by
        rcases HBL.out b hm with h9 | h9
        ·have := BKL.out b hb; omega
        ·exact flat_take_not HFL.out.1 HBK.out hb h9⟩
       try (case na => have := HM.out; rw [List.length_map, List.length_singleton]; omega)
       try (case nb => have := HM.out; rw [List.length_map, List.length_singleton]; omega)
       try (case nc => have := BF.out.size; have := L6Q.out; have := SZ3.out; simp; omega)
       intro pN cN wN bN hON hTN hmN hobN
       have hL := show don.length + 1 = m + 1 by rw [HM.out]
       have ON := hid (show OwnL (w.heap.size + 3) wN 104 (.slice pN (m + 1) cN) bN ((don ++ [x]).map (NF 5)) by have h1 := hON; rw [hL] at h1; rw [List.map_append]; exact h1)
       rw [hL] at hobN
       (try rw [List.length_singleton])
       (try rw [List.length_map])
       (try rw [← HM.out])
       have BN := hid (show Below wQ.heap.size wQ wN from (BF.out.alloc BF.out.size _).trans (hTN.below (by have := BF.out.size; simp; omega) (fun b hb => HOB.out b (by simpa using hb))))
       have OBN := hid (show ∀ b, (Value.slice pN (m + 1) cN).ownBlock = some b → wQ.heap.size ≤ b from fun b hb => by
        rcases hobN b hb with h9 | h9
        ·exact HOB.out b h9
        ·have := BF.out.size; (try simp at h9); omega)
       have BLN := hid (show ∀ b ∈ bN, wQ.heap.size ≤ b ∨ b ∈ (bss.take (k + 1)).flatten from fun b hb => by
        rcases hmN b hb with h9 | h9 | h9
        ·exact (HBL.out b h9).imp id (fun h => flat_take_le (Nat.le_succ k) h)
        ·exact .inr (flat_get_take HBK.out h9)
        ·exact .inl (by have := BF.out.size; (try simp at h9); omega))
       have HM9 := hid (show m + 1 = (don ++ [x]).length by rw [List.length_append, HM.out]; rfl)
       clear hON hTN hmN hobN hL xn
       go_wp2
       exact ⟨⟨k + 1, pN, cN, bN, m + 1, don ++ [x], by omega, HM9.out, by omega, rfl, by go_num, ON.out, E9.out, OBN.out, BLN.out, BN.out⟩, by simp [intOf]; try omega⟩
     ·obtain rfl : k = d.Nodes.length := by omega
      have hki : ¬ (d.Nodes.length : Int) < (d.Nodes.length : Int) := by omega
      have HD9 := hid (show don = d.Nodes.filter (fun x => hasI (idKept (dirAll d)) x.Id) by rw [HD.out, List.take_length])
      have X6r := hid (show Bx wr B6 #[.int .i64 d.Room, .int .i64 (fuseD d), .int .i64 d.Next, .slice p3 d.Nodes.length c3, .slice pv nD cv, .slice none 0 0] by have := Bx.below hb L6Q.out X6Q.out; rw [HR6.out] at this; exact this)
      have XRr := hid (Bx.below hb XRQ.out.f.lt XRQ.out)
      have O7r := hid (O7Q.out.grow hb)
      have Br := hid (BQ.out.trans (hb.mono BQ.out.size))
      have BLK := hid (fun b (h9 : b ∈ b') => show wQ.heap.size ≤ b ∨ b ∈ B3 from (HBL.out b h9).imp id (fun h => HFL.out.2 b (flat_take_sub h)))
      clear hb HBr
      have xo := X6r.out.out; have xf := X6r.out.fr
      go_upto_region 46 with fail
      refine late_genw (fun wD hwD => ?_)
      have hkD : ∀ k, k ≠ B6 → wD.heap[k]? = wr.heap[k]? := fun k hk => by rw [hwD]; exact Below.heap_setCell _ _ _ _ hk
      have X6D := hid (show Bx wD B6 #[.int .i64 d.Room, .int .i64 (fuseD d), .int .i64 d.Next, .slice p m c, .slice pv nD cv, .slice none 0 0] by rw [hwD]; exact X6r.out.setSame 3 _)
      have XRD := hid (XRr.out.keep (hkD _ (by have := SZ3.out; omega)))
      have DFD := hid (show DiskF 104 127 106 5 (w.heap.size + 3) wD { d with Fuse := fuseD d, Kept := dirAll d, Turns := [], Nodes := d.Nodes.filter fun x => hasI (idKept (dirAll d)) x.Id } (.slice p m c) (.slice pv nD cv) (.slice none 0 0) b' B7 [] from
       ⟨JD.out.1, fuse_i64 JD.out.2.1, JD.out.2.2, (by rw [← HD9.out]; exact HOr.out.keep fun b hb => hkD b (fun e => by
         subst e
         rcases BLK.out _ hb with h9 | h9
         ·have := L6Q.out; omega
         ·have := LT3.out _ (.inl h9); omega)),
        (O7r.out.keep fun b hb => hkD b (by have := (B7L.out b hb).1; have := L6.out; omega)).mono (by have := SZ3.out; have := L6.out; omega),
        OwnL.nil _ _ _,
        fun b h1 h2 => (by rcases BLK.out b h1 with h9 | h9; have := (B7L.out b h2).2; omega; have := N3L.out b h9; have := (B7L.out b h2).1; omega),
        by simp, by simp⟩)
      have BD := hid (show Below w.heap.size w wD by rw [hwD]; exact Br.out.setCell (show w.heap.size ≤ B6 by have := SZ3.out; omega) _)
      have HND := hid (show doD d 7 nm tt sz data = ({ d with Fuse := fuseD d, Kept := dirAll d, Turns := [], Nodes := d.Nodes.filter fun x => hasI (idKept (dirAll d)) x.Id }, 0) by unfold doD; rfl)
      clear hwD hkD xo xf
      have ED2 := hid (show diskDo d 7 nm tt sz data = ({ d with Fuse := fuseD d, Kept := dirAll d, Turns := [], Nodes := d.Nodes.filter fun x => hasI (idKept (dirAll d)) x.Id }, 0) by rw [ED.out]; exact HND.out)
      obtain ⟨R, hR⟩ : ∃ R : List Value, R = [Value.int .i64 d.Room, .int .i64 (fuseD d), .int .i64 d.Next, .slice p m c, .slice pv nD cv, .slice none 0 0] := ⟨_, rfl⟩
      have HC1 := hid (show R.toArray.all (·.oneCell') = true by rw [hR]; simp [Value.oneCell'])
      have HL := hid (show R.length = 6 by rw [hR]; rfl)
      have X6R := hid (show Bx wD B6 R.toArray by rw [hR]; exact X6D.out)
      have HR := hid hR
      have I1 := hid (show (Tryz.prog.info? 35).map (·.size) = some R.length by rw [HL.out]; exact I6.out)
      have I2 := hid (show (Tryz.prog.info? 35).map (·.size) = some R.toArray.size by rw [List.size_toArray, HL.out]; exact I6.out)
      have TH := hid (show wD.there (w.heap.size + 2) 0 R.toArray.size by rw [show R.toArray.size = 6 by rw [List.size_toArray]; exact HL.out]; exact XRD.out.there 0 6 (by simp))
      clear hR
      go_wp2_with (first | (refine wpList_load_mid rfl 35 _ rfl B6 0 rfl R _ X6R.out.all Tryz.underlying35 rfl I1.out ?_) | (refine wpList_store_mid rfl 35 _ _ rfl (w.heap.size + 2) 0 R.toArray rfl rfl TH.out I2.out HC1.out ?_))
      have X13 := hid (show Bx (wD.setCells (w.heap.size + 2) 0 R) (w.heap.size + 2) R.toArray from XRD.out.setAll R (by rw [HL.out]; simp))
      refine bodyPost_ret (results_mid_tmp Tryz.results54 rfl R X13.out.all Tryz.underlying35 rfl I1.out) rfl ?_
      rw [ED2.out]
      refine ⟨_, _, _, b', B7, [], by rw [HR.out]; rfl, (DFD.out.mono (Nat.le_add_right _ _)).keep (fun b hb => setCells_heap _ _ _ _ _ ?_), Below.setCells _ (Nat.le_add_right _ _) _ _ BD.out⟩
      have := DFD.out.lts b hb
      omega
end Go.Proofs.YtdjcjilipgpnmaaGreat
