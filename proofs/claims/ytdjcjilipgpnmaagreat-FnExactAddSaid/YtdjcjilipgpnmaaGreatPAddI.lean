/- An entry is added, as the program does it (printed by genaddi.py). -/
import Derived.Test.YtdjcjilipgpnmaaGreatPDoerI
set_option linter.unusedSimpArgs false
set_option linter.unusedVariables false
namespace Go.Proofs.YtdjcjilipgpnmaaGreat
open Go Go.RowKit Go.G6
set_option maxHeartbeats 8000000
set_option maxRecDepth 10000
theorem i_Add {w : World} {bs : List Nat} {cs : List Value} {s : StoreD} (h : Rep.pt w bs cs s) (hs : Small s.Disk) (hn : s.Ents.length ≤ 1048576) (t : ByteArray) (ht : t.size ≤ maxLen) :
  Calls Tryz.prog 8 #[.agg cs.toArray, .string t] w (RetSI 104 127 106 5 53 w (addS s t)) := by
 have hcl := Rep.len h
 have H0 := hid h; have HS := hid hs; have HN := hid hn; have HTL := hid ht
 have I10 := hid (show (Tryz.prog.info? 38).map (·.size) = some 10 by kernel_rfl)
 have I0 := hid (show (Tryz.prog.info? 38).map (·.size) = some cs.length by rw [show cs.length = 10 from hcl]; exact I10.out)
 obtain ⟨i0, hi, hz0, hz1, hz2⟩ := info_parts info_EntryF
 have J := hid (show I64 s.Keep ∧ I64 s.Size ∧ I64 s.Len by obtain ⟨_, _, _, _, _, _, _, _, i6, i7, _, i9, _⟩ := store_split h; exact ⟨i6, i7, i9⟩)
 have J6 := hid J.out.1; have J7 := hid J.out.2.1; have J9 := hid J.out.2.2
 have HXc : cs[9]? = some (.int .i64 s.Len) := by
  obtain ⟨_, _, R, _, _, _, hcs, hD, _⟩ := store_split h
  rw [hcs, List.getElem?_append_right (by rw [show R.length = 6 from Rep.len hD]; omega), show R.length = 6 from Rep.len hD]; rfl
 have HXC := hid HXc
 have HX := hid (Bx.alloc (Bx.new w cs.toArray 38 rfl) (by simp) (.cells #[.int .i64 0, .int .i64 0, .int .i64 0, .slice none 0 0, .slice none 0 0, .slice none 0 0, .int .i64 0, .int .i64 0, .slice none 0 0, .int .i64 0] 38))
 have HZ := hid (Bx.new (w.alloc (.cells cs.toArray 38)) #[.int .i64 0, .int .i64 0, .int .i64 0, .slice none 0 0, .slice none 0 0, .slice none 0 0, .int .i64 0, .int .i64 0, .slice none 0 0, .int .i64 0] 38 (b := w.heap.size + 1) (by simp))
 have hb0 := hid (((Below.refl w.heap.size w).alloc (Nat.le_refl _) (.cells cs.toArray 38)).alloc (by simp) (.cells #[.int .i64 0, .int .i64 0, .int .i64 0, .slice none 0 0, .slice none 0 0, .slice none 0 0, .int .i64 0, .int .i64 0, .slice none 0 0, .int .i64 0] 38))
 obtain ⟨wA, hwA⟩ : ∃ wA, wA = (w.alloc (.cells cs.toArray 38)).alloc (.cells #[.int .i64 0, .int .i64 0, .int .i64 0, .slice none 0 0, .slice none 0 0, .slice none 0 0, .int .i64 0, .int .i64 0, .slice none 0 0, .int .i64 0] 38) := ⟨_, rfl⟩
 have SA := hid (show wA.heap.size = w.heap.size + 2 by rw [hwA]; simp)
 rw [← hwA] at hb0 HX HZ
 clear h hs hn hcl HXc
 have htl : t.size ≤ 9223372036854775807 := HTL.out
 clear ht
 go_enter Tryz.func8, Tryz.ntmps8
 go_upto_region 1 with fail
 rw [← hwA]
 clear hwA
 go_wp2_with (first | (refine wpList_load_mid rfl 38 _ rfl w.heap.size 0 rfl cs _ HX.out.all Tryz.underlying38 rfl I0.out ?_))
 refine (i_StoreOk (grow H0.out hb0.out) HS.out).mono ?_
 rintro e w1 ⟨rfl, hb1⟩
 have HX1 := hid (Bx.below hb1 HX.out.f.lt HX.out)
 have HZ1 := hid (Bx.below hb1 HZ.out.f.lt HZ.out)
 have HB1 := hid (hb0.out.trans (hb1.mono hb0.out.size))
 have SZ1 := hid (show w.heap.size + 2 ≤ w1.heap.size by have := SA.out; have := hb1.size; omega)
 clear hb1 HX HZ
 cases hok : storeOk s
 ·have ED := hid (show addS s t = (zStore, 1) by unfold addS; rw [hok]; rfl)
  clear hok
  obtain ⟨R, hR⟩ : ∃ R : List Value, R = [Value.int .i64 0, .int .i64 0, .int .i64 0, .slice none 0 0, .slice none 0 0, .slice none 0 0, .int .i64 0, .int .i64 0, .slice none 0 0, .int .i64 0] := ⟨_, rfl⟩
  have HC1 := hid (show R.toArray.all (·.oneCell') = true by rw [hR]; simp [Value.oneCell'])
  have HL := hid (show R.length = 10 by rw [hR]; rfl)
  have HR := hid hR
  have I1 := hid (show (Tryz.prog.info? 38).map (·.size) = some R.length by rw [HL.out]; exact I10.out)
  have I2 := hid (show (Tryz.prog.info? 38).map (·.size) = some R.toArray.size by rw [List.size_toArray, HL.out]; exact I10.out)
  have TH2 := hid (show w1.there (w.heap.size + 1) 0 R.toArray.size by rw [show R.toArray.size = 10 by rw [List.size_toArray]; exact HL.out]; exact HZ1.out.there 0 10 (by simp))
  have hbu : Tryz.prog.built 38 [] = some R.toArray := by rw [hR]; kernel_rfl
  have HBU := hid hbu
  clear hR hbu
  as_aux_lemma =>
   go_wp2_with (first | (refine wpList_build_to rfl 38 _ rfl R.toArray [] rfl HBU.out ?_) | (refine wpList_store_mid rfl 38 _ _ rfl (w.heap.size + 1) 0 R.toArray rfl rfl TH2.out I2.out HC1.out ?_))
   have X13 := hid (show Bx (w1.setCells (w.heap.size + 1) 0 R) (w.heap.size + 1) R.toArray from HZ1.out.setAll R (by rw [HL.out]; simp))
   refine bodyPost_ret (results_mid_tmp Tryz.results8 rfl R X13.out.all Tryz.underlying38 rfl I1.out) rfl ?_
   rw [ED.out]
   exact ⟨_, _, _, _, [], [], [], [], by rw [HR.out]; rfl, ⟨⟨by simp [I64, zStore, zDisk], by simp [I64, zStore, zDisk], by simp [I64, zStore, zDisk], OwnL.nil _ _ _, OwnL.nil _ _ _, OwnL.nil _ _ _, by simp, by simp, by simp⟩, OwnL.nil _ _ _, by simp [I64, zStore], by simp [I64, zStore], by simp [I64, zStore], by simp⟩, Below.setCells _ (Nat.le_add_right _ _) _ _ HB1.out⟩
 have HOK := hid hok
 clear hok
 cases hin : inB (t.size : Int) 1 1000
 ·have hn := inB_no hin
  have ED := hid (show addS s t = (zStore, 1) by
   unfold addS
   rw [HOK.out]
   by_cases h1 : 1 ≤ t.size
   ·rw [decide_eq_true h1, decide_eq_false (show ¬ t.size ≤ 1000 by omega)]; rfl
   ·rw [decide_eq_false h1]; rfl)
  have HIN := hid hin
  clear hin hn
  obtain ⟨R, hR⟩ : ∃ R : List Value, R = [Value.int .i64 0, .int .i64 0, .int .i64 0, .slice none 0 0, .slice none 0 0, .slice none 0 0, .int .i64 0, .int .i64 0, .slice none 0 0, .int .i64 0] := ⟨_, rfl⟩
  have HC1 := hid (show R.toArray.all (·.oneCell') = true by rw [hR]; simp [Value.oneCell'])
  have HL := hid (show R.length = 10 by rw [hR]; rfl)
  have HR := hid hR
  have I1 := hid (show (Tryz.prog.info? 38).map (·.size) = some R.length by rw [HL.out]; exact I10.out)
  have I2 := hid (show (Tryz.prog.info? 38).map (·.size) = some R.toArray.size by rw [List.size_toArray, HL.out]; exact I10.out)
  have TH2 := hid (show w1.there (w.heap.size + 1) 0 R.toArray.size by rw [show R.toArray.size = 10 by rw [List.size_toArray]; exact HL.out]; exact HZ1.out.there 0 10 (by simp))
  have hbu : Tryz.prog.built 38 [] = some R.toArray := by rw [hR]; kernel_rfl
  have HBU := hid hbu
  clear hR hbu
  as_aux_lemma =>
   go_wp2_with (first | (go_at_call 26; refine (i_in _ _ _ _).mono ?_; rintro e w9 ⟨rfl, rfl⟩; rw [HIN.out]) | (refine wpList_build_to rfl 38 _ rfl R.toArray [] rfl HBU.out ?_) | (refine wpList_store_mid rfl 38 _ _ rfl (w.heap.size + 1) 0 R.toArray rfl rfl TH2.out I2.out HC1.out ?_))
   have X13 := hid (show Bx (w1.setCells (w.heap.size + 1) 0 R) (w.heap.size + 1) R.toArray from HZ1.out.setAll R (by rw [HL.out]; simp))
   refine bodyPost_ret (results_mid_tmp Tryz.results8 rfl R X13.out.all Tryz.underlying38 rfl I1.out) rfl ?_
   rw [ED.out]
   exact ⟨_, _, _, _, [], [], [], [], by rw [HR.out]; rfl, ⟨⟨by simp [I64, zStore, zDisk], by simp [I64, zStore, zDisk], by simp [I64, zStore, zDisk], OwnL.nil _ _ _, OwnL.nil _ _ _, OwnL.nil _ _ _, by simp, by simp, by simp⟩, OwnL.nil _ _ _, by simp [I64, zStore], by simp [I64, zStore], by simp [I64, zStore], by simp⟩, Below.setCells _ (Nat.le_add_right _ _) _ _ HB1.out⟩
 have hir := (inB_iff _ _ _).1 hin
 have HIN := hid hin
 have HTS := hid (show 1 ≤ t.size ∧ t.size ≤ 1000 by omega)
 clear hin hir
 have ht1 := HTS.out
 have ED0 := hid (show addS s t = (if entryOk ⟨nextNum s.Ents, t⟩ = true then addR s ⟨nextNum s.Ents, t⟩ else (s, 3)) by unfold addS; rw [HOK.out, decide_eq_true (show 1 ≤ t.size from HTS.out.1), decide_eq_true (show t.size ≤ 1000 from HTS.out.2)]; rfl)
 clear ht1
 go_wp2_with (first | (go_at_call 26; refine (i_in _ _ _ _).mono ?_; rintro e w9 ⟨rfl, rfl⟩; rw [HIN.out]) | (refine wpList_load_mid rfl 38 _ rfl w.heap.size 0 rfl cs _ HX1.out.all Tryz.underlying38 rfl I0.out ?_))
 refine (i_copyStore (grow H0.out HB1.out) HS.out HN.out).mono ?_
 rintro e w3 ⟨v3, v4, v5, vE, B3, B4, B5, BE, rfl, hSF, hb3⟩
 have HX3 := hid (Bx.below hb3 HX1.out.f.lt HX1.out)
 have HZ3 := hid (Bx.below hb3 HZ1.out.f.lt HZ1.out)
 have HB3 := hid (HB1.out.trans (hb3.mono HB1.out.size))
 have SF3 := hid (hSF.mono SZ1.out)
 have SZ3 := hid (show w.heap.size + 2 ≤ w3.heap.size by have := SZ1.out; have := hb3.size; omega)
 clear hSF hb3 HX1 HZ1
 obtain ⟨S, hS6⟩ : ∃ S, S = dskC s.Disk v3 v4 v5 ++ stoT s vE := ⟨_, rfl⟩
 rw [← hS6]
 have HL := hid (show S.length = 10 by rw [hS6]; rfl)
 have HC1 := hid (show S.toArray.all (·.oneCell') = true by rw [hS6]; exact SF3.out.one)
 have HSS := hid hS6
 have I2 := hid (show (Tryz.prog.info? 38).map (·.size) = some S.toArray.size by rw [List.size_toArray, HL.out]; exact I10.out)
 have ZN := hid (Bx.new w3 #[.int .i64 0, .int .i64 0, .int .i64 0, .slice none 0 0, .slice none 0 0, .slice none 0 0, .int .i64 0, .int .i64 0, .slice none 0 0, .int .i64 0] 38 rfl)
 have TH := hid (show (w3.alloc (.cells #[.int .i64 0, .int .i64 0, .int .i64 0, .slice none 0 0, .slice none 0 0, .slice none 0 0, .int .i64 0, .int .i64 0, .slice none 0 0, .int .i64 0] 38)).there w3.heap.size 0 S.toArray.size by rw [show S.toArray.size = 10 by rw [List.size_toArray]; exact HL.out]; exact ZN.out.there 0 10 (by simp))
 clear hS6
 go_upto_region 4 with (refine wpList_store_mid rfl 38 _ _ rfl w3.heap.size 0 S.toArray rfl rfl TH.out I2.out HC1.out ?_)
 refine late_genw (fun w4 hw4 => ?_)
 have hb4 : Below w3.heap.size w3 w4 := by rw [hw4]; exact Below.setCells _ (Nat.le_refl _) _ _ ((Below.refl _ _).alloc (Nat.le_refl _) _)
 have X64 := hid (show Bx w4 w3.heap.size S.toArray by rw [hw4]; exact ZN.out.setAll S (by rw [HL.out]; simp))
 have HX4 := hid (Bx.below hb4 HX3.out.f.lt HX3.out)
 have HZ4 := hid (Bx.below hb4 HZ3.out.f.lt HZ3.out)
 have HB4 := hid (HB3.out.trans (hb4.mono HB3.out.size))
 have SF4 := hid (SF3.out.keep fun b hb => hb4.block b (SF3.out.lts b hb).2)
 have LB4 := hid (fun b hb => show b < w3.heap.size from (SF3.out.lts b hb).2)
 obtain ⟨B6, hB6⟩ : ∃ B6, B6 = w3.heap.size := ⟨_, rfl⟩
 rw [← hB6] at X64 LB4 SZ3
 rw [← hB6]
 have SZ6 := SZ3
 clear hw4 hb4 HX3 HZ3 HB3 SF3 TH ZN hB6
 have LBE := hid (fun b (hb : b ∈ BE) => show b < B6 from LB4.out b (.inr hb))
 go_wp2_with (first | (refine wpList_load_mid rfl 38 _ rfl w.heap.size 0 rfl cs _ HX4.out.all Tryz.underlying38 rfl I0.out ?_))
 refine (i_NextNum (grow H0.out HB4.out)).mono ?_
 rintro e w5 ⟨rfl, hb5⟩
 have X65 := hid (Bx.below hb5 X64.out.f.lt X64.out)
 have HX5 := hid (Bx.below hb5 HX4.out.f.lt HX4.out)
 have HZ5 := hid (Bx.below hb5 HZ4.out.f.lt HZ4.out)
 have HB5 := hid (HB4.out.trans (hb5.mono HB4.out.size))
 have SF5 := hid (SF4.out.keep fun b hb => hb5.block b (SF4.out.lts b hb).2)
 clear hb5 X64 HX4 HZ4 HB4 SF4
 obtain ⟨nn, hnn⟩ : ∃ nn, nn = nextNum s.Ents := ⟨_, rfl⟩
 have HNR := hid (show 1 ≤ nn ∧ nn ≤ 1000000001 from by
  rw [hnn]
  have := HOK.out
  unfold storeOk at this
  simp only [Bool.and_eq_true] at this
  exact nextNum_range this.2.2.1)
 rw [← hnn] at ED0 ⊢
 clear hnn
 obtain ⟨en, hen⟩ : ∃ en : EntryD, en = ⟨nn, t⟩ := ⟨_, rfl⟩
 rw [← hen] at ED0
 have PE := hid (fun V : World => show Rep.pt V [] [.int .i64 nn, .string t] en by rw [hen]; exact mk_Entry (d := ⟨nn, t⟩) (by have := HNR.out; simp [I64]; omega) HTL.out)
 have HEO := hid (show entryOk en = decide (nn ≤ 1000000000) by rw [hen]; unfold entryOk; have := HTS.out; have := HNR.out; rw [Bool.eq_iff_iff]; simp; omega)
 clear hen
 go_upto_region 5 with fail
 refine late_genw (fun w6 hw6 => ?_)
 have hb6 : Below w5.heap.size w5 w6 := by rw [hw6]; exact (Below.refl _ _).alloc (Nat.le_refl _) _
 have XE6 := hid (show Bx w6 w5.heap.size #[.int .i64 nn, .string t] by rw [hw6]; exact Bx.new _ _ _ rfl)
 have X66 := hid (Bx.below hb6 X65.out.f.lt X65.out)
 have HX6 := hid (Bx.below hb6 HX5.out.f.lt HX5.out)
 have HZ6 := hid (Bx.below hb6 HZ5.out.f.lt HZ5.out)
 have HB6 := hid (HB5.out.trans (hb6.mono HB5.out.size))
 have SF6 := hid (SF5.out.keep fun b hb => hb6.block b (SF5.out.lts b hb).2)
 have L56 := hid (show B6 < w5.heap.size from X65.out.f.lt)
 obtain ⟨B7, hB7⟩ : ∃ B7, B7 = w5.heap.size := ⟨_, rfl⟩
 rw [← hB7] at XE6 L56
 rw [← hB7]
 clear hw6 hb6 X65 HX5 HZ5 HB5 SF5 hB7
 have e6 := XE6.out.out
 by_cases hnm : 1000000000 < nn
 ·have ED := hid (show addS s t = (s, 3) by rw [ED0.out, HEO.out, decide_eq_false (by omega)]; rfl)
  obtain ⟨R, hR⟩ : ∃ R : List Value, R = S := ⟨_, rfl⟩
  have X6R := hid (show Bx w6 B6 R.toArray by rw [hR]; exact X66.out)
  have HL := hid (show R.length = 10 by rw [hR]; exact HL.out)
  have HC1 := hid (show R.toArray.all (·.oneCell') = true by rw [hR, HSS.out]; exact SF6.out.one)
  have HR := hid hR
  have I1 := hid (show (Tryz.prog.info? 38).map (·.size) = some R.length by rw [HL.out]; exact I10.out)
  have I2 := hid (show (Tryz.prog.info? 38).map (·.size) = some R.toArray.size by rw [List.size_toArray, HL.out]; exact I10.out)
  have TH := hid (show w6.there (w.heap.size + 1) 0 R.toArray.size by rw [show R.toArray.size = 10 by rw [List.size_toArray]; exact HL.out]; exact HZ6.out.there 0 10 (by simp))
  clear hR
  as_aux_lemma =>
   go_wp2_with (first | (refine wpList_load_mid rfl 38 _ rfl B6 0 rfl R _ X6R.out.all Tryz.underlying38 rfl I1.out ?_) | (refine wpList_store_mid rfl 38 _ _ rfl (w.heap.size + 1) 0 R.toArray rfl rfl TH.out I2.out HC1.out ?_))
   have X13 := hid (show Bx (w6.setCells (w.heap.size + 1) 0 R) (w.heap.size + 1) R.toArray from HZ6.out.setAll R (by rw [HL.out]; simp))
   refine bodyPost_ret (results_mid_tmp Tryz.results8 rfl R X13.out.all Tryz.underlying38 rfl I1.out) rfl ?_
   rw [ED.out]
   refine ⟨_, _, _, _, B3, B4, B5, BE, by rw [HR.out, HSS.out]; rfl, (SF6.out.mono (Nat.le_add_right _ _)).keep (fun b hb => setCells_heap _ _ _ _ _ ?_), Below.setCells _ (Nat.le_add_right _ _) _ _ HB6.out⟩
   have := SF6.out.lts b hb
   omega
 have HEN := hid (show entryOk en = true by rw [HEO.out]; exact decide_eq_true (by omega))
 have ED1 := hid (show addS s t = addR s en by rw [ED0.out, HEN.out]; rfl)
 go_wp2_with fail
 refine (i_FrameBytes (PE.out _)).mono ?_
 rintro e w7 ⟨vb, bb, rfl, hOb, hb7⟩
 have XE7 := hid (Bx.below hb7 XE6.out.f.lt XE6.out)
 have X67 := hid (Bx.below hb7 X66.out.f.lt X66.out)
 have HX7 := hid (Bx.below hb7 HX6.out.f.lt HX6.out)
 have HZ7 := hid (Bx.below hb7 HZ6.out.f.lt HZ6.out)
 have HB7 := hid (HB6.out.trans (hb7.mono HB6.out.size))
 have SF7 := hid (SF6.out.keep fun b hb => hb7.block b (SF6.out.lts b hb).2)
 have OB7 := hid (show OwnL w6.heap.size w7 5 vb bb (frameL en) from hOb)
 have L67 := hid (show B7 < w6.heap.size from XE6.out.f.lt)
 have L77 := hid (show B7 < w7.heap.size from XE7.out.f.lt)
 obtain ⟨pb, kb, rfl⟩ := hOb.slice
 rw [HEN.out]
 clear hOb hb7 XE6 X66 HX6 HZ6 HB6 SF6 e6 hnm
 have hfl : frameL en = frameB en := by unfold frameL; rw [if_pos HEN.out]
 have FLE := hid (frameB_le HEN.out)
 rw [hfl] at OB7 ⊢
 obtain ⟨bDK, hDK, _⟩ := SF7.out.d.own
 have PD := hid (show Rep.pt w7 bDK (dskC s.Disk v3 v4 v5) s.Disk from hDK.1)
 have OE7 := hid SF7.out.e
 have X67s := hid (show Bx w7 B6 (dskC s.Disk v3 v4 v5 ++ stoT s vE).toArray by rw [← HSS.out]; exact X67.out)
 obtain ⟨fb, hfb⟩ : ∃ fb, fb = frameB en := ⟨_, rfl⟩
 rw [← hfb] at OB7 FLE ⊢
 have HFB := hid hfb
 obtain ⟨bbs, _, sb⟩ := OB7.out.slcL
 have SB := hid sb
 clear sb hfl hfb hDK
 have I6 := hid (show (Tryz.prog.info? 35).map (·.size) = some 6 by kernel_rfl)
 have I7 := hid (show (Tryz.prog.info? 69).map (·.size) = some 7 by kernel_rfl)
 have XR7 := hid (range_left X67s.out.all)
 go_wp2_with (first | (refine wpList_load_mid rfl 35 _ rfl B6 0 rfl (dskC s.Disk v3 v4 v5) _ XR7.out Tryz.underlying35 rfl I6.out ?_))
 refine (i_DiskDo (kd := 2) (nm := hist) (tt := emp) (sz := 0) (data := fb) PD.out HS.out ⟨by simp, by decide, by decide, fun _ => by decide, fun h => absurd h (by decide), fun _ => emp_nil, fun h => absurd h (by decide), fun _ => rfl, fun h => absurd rfl h⟩ SB.out (by have := FLE.out; omega)).mono ?_
 rintro e w8 ⟨u3a, u4a, u5a, C3a, C4a, C5a, rfl, hDF, hb8⟩
 obtain ⟨ra, hra⟩ : ∃ r, r = diskDo s.Disk 2 hist emp 0 fb := ⟨_, rfl⟩
 rw [← hra] at hDF ⊢
 have HRa := hid hra
 have SMa := hid (show Small ra.1 by rw [hra]; exact small_do HS.out (by have := FLE.out; omega))
 obtain ⟨ca, hca⟩ : ∃ c, c = ra.2 := ⟨_, rfl⟩
 rw [← hca]
 have HCa := hid hca
 have DF8 := hid hDF
 have XE8 := hid (Bx.below hb8 XE7.out.f.lt XE7.out)
 have X68 := hid (Bx.below hb8 X67s.out.f.lt X67s.out)
 have HX8 := hid (Bx.below hb8 HX7.out.f.lt HX7.out)
 have HZ8 := hid (Bx.below hb8 HZ7.out.f.lt HZ7.out)
 have HB8 := hid (HB7.out.trans (hb8.mono HB7.out.size))
 have OE8 := hid (OE7.out.grow hb8)
 have OB8 := hid (OB7.out.grow hb8)
 have L8 := hid (fun b (hb : b ∈ bb) => show B6 < b ∧ b < w8.heap.size from by have := OB7.out.lts b hb; have := L67.out; have := L56.out; have := hb8.size; omega)
 have L78 := hid (show B7 < w8.heap.size from XE8.out.f.lt)
 clear hra hca hDF hb8 XE7 X67 HX7 HZ7 HB7 SF7 OB7 OE7 X67s PD XR7 SB
 -- the disk's box and the doer's
 obtain ⟨RD, hRD⟩ : ∃ RD : List Value, RD = dskC ra.1 u3a u4a u5a := ⟨_, rfl⟩
 rw [show (#[Value.int .i64 ra.1.Room, .int .i64 ra.1.Fuse, .int .i64 ra.1.Next, u3a, u4a, u5a] : Array Value) = RD.toArray by rw [hRD]; rfl]
 have HLD := hid (show RD.length = 6 by rw [hRD]; rfl)
 have HCD := hid (show RD.toArray.all (·.oneCell') = true by rw [hRD]; exact DF8.out.one)
 have ID1 := hid (show (Tryz.prog.info? 35).map (·.size) = some RD.length by rw [HLD.out]; exact I6.out)
 have HZD := hid (show RD.toArray.size = 6 by rw [List.size_toArray]; exact HLD.out)
 have ID2 := hid (show (Tryz.prog.info? 35).map (·.size) = some RD.toArray.size by rw [HZD.out]; exact I6.out)
 have ZN := hid (Bx.new w8 #[.int .i64 0, .int .i64 0, .int .i64 0, .slice none 0 0, .slice none 0 0, .slice none 0 0] 35 rfl)
 have TH := hid (show (w8.alloc (.cells #[.int .i64 0, .int .i64 0, .int .i64 0, .slice none 0 0, .slice none 0 0, .slice none 0 0] 35)).there w8.heap.size 0 RD.toArray.size by rw [HZD.out]; exact ZN.out.there 0 6 (by simp))
 have HRD := hid hRD
 have hbu : Tryz.prog.built 69 [(0, .agg (dskC ra.1 u3a u4a u5a).toArray)] = some (dskC ra.1 u3a u4a u5a ++ [Value.int .i64 0]).toArray := by kernel_rfl
 rw [← hRD] at hbu
 have HBU := hid hbu
 clear hRD hbu
 go_upto_region 9 with (refine wpList_store_mid rfl 35 _ _ rfl w8.heap.size 0 RD.toArray rfl rfl TH.out ID2.out HCD.out ?_)
 refine late_genw (fun w9 hw9 => ?_)
 have hb9 : Below w8.heap.size w8 w9 := by rw [hw9]; exact Below.setCells _ (Nat.le_refl _) _ _ ((Below.refl _ _).alloc (Nat.le_refl _) _)
 have X10 := hid (show Bx w9 w8.heap.size RD.toArray by rw [hw9]; exact ZN.out.setAll RD (by rw [HLD.out]; simp))
 have XE9 := hid (Bx.below hb9 XE8.out.f.lt XE8.out)
 have X69 := hid (Bx.below hb9 X68.out.f.lt X68.out)
 have HX9 := hid (Bx.below hb9 HX8.out.f.lt HX8.out)
 have HZ9 := hid (Bx.below hb9 HZ8.out.f.lt HZ8.out)
 have HB9 := hid (HB8.out.trans (hb9.mono HB8.out.size))
 have OE9 := hid (OE8.out.grow hb9)
 have OB9 := hid (OB8.out.grow hb9)
 have DF9 := hid (DF8.out.grow hb9)
 have L89 := hid (show w8.heap.size < w9.heap.size from X10.out.f.lt)
 clear hw9 hb9 XE8 X68 HX8 HZ8 HB8 OE8 OB8 DF8 TH ZN
 obtain ⟨DC, hDC⟩ : ∃ DC : List Value, DC = RD ++ [Value.int .i64 0] := ⟨_, rfl⟩
 rw [← hDC] at HBU
 have HDL := hid (show DC.length = 7 by rw [hDC, List.length_append, HLD.out]; rfl)
 have HDZ := hid (show DC.toArray.size = 7 by rw [List.size_toArray]; exact HDL.out)
 have HDC1 := hid (show DC.toArray.all (·.oneCell') = true by
  rw [hDC, Array.all_eq_true_iff_forall_mem]
  intro v hv
  rw [List.mem_toArray] at hv
  rcases List.mem_append.1 hv with hv | hv
  ·exact Array.all_eq_true_iff_forall_mem.1 HCD.out v (by simpa using hv)
  ·simp at hv; subst hv; rfl)
 have ID3 := hid (show (Tryz.prog.info? 69).map (·.size) = some DC.toArray.size by rw [HDZ.out]; exact I7.out)
 have ZM := hid (Bx.new w9 #[.int .i64 0, .int .i64 0, .int .i64 0, .slice none 0 0, .slice none 0 0, .slice none 0 0, .int .i64 0] 69 rfl)
 have TH := hid (show (w9.alloc (.cells #[.int .i64 0, .int .i64 0, .int .i64 0, .slice none 0 0, .slice none 0 0, .slice none 0 0, .int .i64 0] 69)).there w9.heap.size 0 DC.toArray.size by rw [HDZ.out]; exact ZM.out.there 0 7 (by simp))
 have HDC := hid hDC
 clear hDC
 go_upto_region 10 with (first | (refine wpList_load_mid rfl 35 _ rfl w8.heap.size 0 rfl RD _ X10.out.all Tryz.underlying35 rfl ID1.out ?_; refine wpList_build_to rfl 69 _ rfl DC.toArray [(0, .agg RD.toArray)] rfl HBU.out ?_) | (refine wpList_store_mid rfl 69 _ _ rfl w9.heap.size 0 DC.toArray rfl rfl TH.out ID3.out HDC1.out ?_))
 refine late_genw (fun Wa hWa => ?_)
 have hba : Below w9.heap.size w9 Wa := by rw [hWa]; exact Below.setCells _ (Nat.le_refl _) _ _ ((Below.refl _ _).alloc (Nat.le_refl _) _)
 obtain ⟨B12, hB12⟩ : ∃ B12, B12 = w9.heap.size := ⟨_, rfl⟩
 have XDa := hid (show Bx Wa B12 (dskC ra.1 u3a u4a u5a ++ [Value.int .i64 0]).toArray by rw [hWa, hB12, ← HRD.out, ← HDC.out]; exact ZM.out.setAll DC (by rw [HDL.out]; simp))
 have XEa := hid (Bx.below hba XE9.out.f.lt XE9.out)
 have X6a := hid (Bx.below hba X69.out.f.lt X69.out)
 have HXa := hid (Bx.below hba HX9.out.f.lt HX9.out)
 have HZa := hid (Bx.below hba HZ9.out.f.lt HZ9.out)
 have HBa := hid (HB9.out.trans (hba.mono HB9.out.size))
 have OEa := hid (OE9.out.grow hba)
 have OBa := hid (OB9.out.grow hba)
 have DFa' := hid (DF9.out.grow hba)
 have N612 := hid (show B6 < B12 by have := X69.out.f.lt; omega)
 have N712 := hid (show B7 < B12 by have := XE9.out.f.lt; omega)
 have N012 := hid (show w.heap.size + 1 < B12 by have := HZ9.out.f.lt; omega)
 have N812 := hid (fun b (hb : b ∈ bb) => show b < B12 from by have := L8.out b hb; have := L89.out; omega)
 have LDF := hid (fun b hb => show w.heap.size + 2 ≤ b ∧ B6 < b ∧ b < B12 from by have h1 := DF9.out.lts b hb; have := SZ6.out; have := L77.out; have := L56.out; omega)
 rw [← hB12]
 clear hWa hba hB12 XE9 X69 HX9 HZ9 HB9 OE9 OB9 DF9 X10 TH ZM
 have DFa := hid (DFa'.out.mono (show w.heap.size + 2 ≤ w7.heap.size by have := SZ6.out; have := L77.out; have := L56.out; omega))
 clear HRD HDC HBU HLD HCD ID1 HZD ID2 HDL HDZ HDC1 ID3 DFa'
 by_cases h5 : ca = 5
 ·have H5 := hid (show ra.2 = 5 by rw [← HCa.out]; exact h5)
  subst h5
  have x9 := bx_at HXa.out 9 HXC.out
  go_wp2_with fail
  obtain ⟨bPb, hPb, _⟩ := DFa.out.own
  have PPb := hid (show Rep.pt Wa bPb (dskC ra.1 u3a u4a u5a) ra.1 from hPb.1)
  clear hPb
  refine (i_do0 (kd := 4) (nm := hist) (tt := emp) (sz := s.Len) (data := []) XDa.out PPb.out SMa.out ⟨by simp, by decide, by decide, fun _ => by decide, fun h => absurd h (by decide), fun _ => emp_nil, fun h => absurd h (by decide), fun h => absurd rfl h, fun _ => rfl⟩ (slc_nil Wa) (by simp)).mono ?_
  rintro e Wb ⟨u3b, u4b, u5b, C3b, C4b, C5b, rfl, hX, hDF, hT⟩
  obtain ⟨rb, hrb⟩ : ∃ r, r = diskDo ra.1 4 hist emp s.Len [] := ⟨_, rfl⟩
  rw [← hrb] at hX hDF
  have HRb := hid hrb
  clear hrb
  obtain ⟨cb, hcb⟩ : ∃ c, c = rb.2 := ⟨_, rfl⟩
  rw [← hcb] at hX
  have HCb := hid hcb
  have XDb := hid hX
  have DFb := hid hDF
  have SMb := hid (show Small rb.1 by rw [HRb.out]; exact small_do SMa.out (by simp))
  have LWb := hid (show B12 < Wa.heap.size from XDa.out.f.lt)
  have X6b := hid (bx_tchN X6a.out hT (by have := N612.out; simp; omega))
  have HXb := hid (bx_tchN HXa.out hT (by have := N012.out; simp; omega))
  have HZb := hid (bx_tchN HZa.out hT (by have := N012.out; simp; omega))
  have OEb := hid (OEa.out.tch hT (fun b hb hm => by have := LBE.out b hb; have := N612.out; simp at hm; omega))
  have HBb := hid (HBa.out.trans (hT.below HBa.out.size (fun x hx => by have := N012.out; simp at hx; omega)))
  have XEb := hid (bx_tchN XEa.out hT (by have := N712.out; simp; omega))
  have OBb := hid (OBa.out.tch hT (fun b hb hm => by have := N812.out b hb; simp at hm; omega))
  clear hX hDF hT hcb
  by_cases h0 : cb = 0
  ·have H0b := hid (show rb.2 = 0 by rw [← HCb.out]; exact h0)
   subst h0
   go_wp2_with fail
   obtain ⟨bPc, hPc, _⟩ := DFb.out.own
   have PPc := hid (show Rep.pt Wb bPc (dskC rb.1 u3b u4b u5b) rb.1 from hPc.1)
   clear hPc
   refine (i_do0 (kd := 3) (nm := hist) (tt := emp) (sz := 0) (data := []) XDb.out PPc.out SMb.out ⟨by simp, by decide, by decide, fun _ => by decide, fun h => absurd h (by decide), fun _ => emp_nil, fun h => absurd h (by decide), fun _ => rfl, fun _ => rfl⟩ (slc_nil Wb) (by simp)).mono ?_
   rintro e Wc ⟨u3c, u4c, u5c, C3c, C4c, C5c, rfl, hX, hDF, hT⟩
   obtain ⟨rc, hrc⟩ : ∃ r, r = diskDo rb.1 3 hist emp 0 [] := ⟨_, rfl⟩
   rw [← hrc] at hX hDF
   have HRc := hid hrc
   clear hrc
   obtain ⟨cc, hcc⟩ : ∃ c, c = rc.2 := ⟨_, rfl⟩
   rw [← hcc] at hX
   have HCc := hid hcc
   have XDc := hid hX
   have DFc := hid hDF
   have SMc := hid (show Small rc.1 by rw [HRc.out]; exact small_do SMb.out (by simp))
   have LWc := hid (show B12 < Wb.heap.size from XDb.out.f.lt)
   have X6c := hid (bx_tchN X6b.out hT (by have := N612.out; simp; omega))
   have HXc := hid (bx_tchN HXb.out hT (by have := N012.out; simp; omega))
   have HZc := hid (bx_tchN HZb.out hT (by have := N012.out; simp; omega))
   have OEc := hid (OEb.out.tch hT (fun b hb hm => by have := LBE.out b hb; have := N612.out; simp at hm; omega))
   have HBc := hid (HBb.out.trans (hT.below HBb.out.size (fun x hx => by have := N012.out; simp at hx; omega)))
   have XEc := hid (bx_tchN XEb.out hT (by have := N712.out; simp; omega))
   have OBc := hid (OBb.out.tch hT (fun b hb hm => by have := N812.out b hb; simp at hm; omega))
   clear hX hDF hT hcc
   obtain ⟨RD, hRD⟩ : ∃ RD : List Value, RD = dskC rc.1 u3c u4c u5c := ⟨_, rfl⟩
   have HLD := hid (show RD.length = 6 by rw [hRD]; rfl)
   have XDG := hid (show Bx Wc B12 (RD ++ [Value.int .i64 cc]).toArray by rw [hRD]; exact XDc.out)
   have XRG := hid (range_left XDG.out.all)
   have HCD := hid (show RD.toArray.all (·.oneCell') = true by rw [hRD]; exact DFc.out.one)
   have ID1 := hid (show (Tryz.prog.info? 35).map (·.size) = some RD.length by rw [HLD.out]; exact I6.out)
   have HZD := hid (show RD.toArray.size = 6 by rw [List.size_toArray]; exact HLD.out)
   have ID2 := hid (show (Tryz.prog.info? 35).map (·.size) = some RD.toArray.size by rw [HZD.out]; exact I6.out)
   have X6s := hid (show Bx Wc B6 (dskC s.Disk v3 v4 v5 ++ stoT s vE).toArray from X6c.out)
   have THD := hid (show Wc.there B6 0 RD.toArray.size by rw [HZD.out]; exact there_head X6s.out rfl)
   have HRD := hid hRD
   clear hRD
   go_upto_region 18 with (first | (refine wpList_load_mid rfl 35 _ rfl B12 0 rfl RD _ XRG.out Tryz.underlying35 rfl ID1.out ?_) | (refine wpList_store_mid rfl 35 _ _ rfl B6 0 RD.toArray rfl rfl THD.out ID2.out HCD.out ?_))
   refine late_genw (fun wG hwG => ?_)
   have kG : ∀ k, k ≠ B6 → wG.heap[k]? = Wc.heap[k]? := fun k hk => by rw [hwG]; exact setCells_heap _ _ _ _ _ hk
   have X6G := hid (show Bx wG B6 (dskC rc.1 u3c u4c u5c ++ stoT s vE).toArray by rw [hwG, ← HRD.out]; exact bx_head X6s.out rfl HLD.out)
   have XDH := hid (XDG.out.keep (kG _ (by have := N612.out; omega)))
   have HXG := hid (HXc.out.keep (kG _ (by have := SZ6.out; omega)))
   have HZG := hid (HZc.out.keep (kG _ (by have := SZ6.out; omega)))
   have OEG := hid (OEc.out.keep (fun b hb => kG b (by have := LBE.out b hb; omega)))
   have DFG := hid (DFc.out.keep (fun b hb => kG b (by have := (DFc.out.lts b hb).1; have := LWc.out; have := N612.out; omega)))
   have HBG := hid (show Below w.heap.size w wG by rw [hwG]; exact Below.setCells _ (by have := SZ6.out; omega) _ _ HBc.out)
   have SFz := hid (show StoreF 104 127 106 5 53 (w.heap.size + 2) wG (withD s rc.1) u3c u4c u5c vE C3c C4c C5c BE from
    ⟨DFG.out.mono (by have := SZ6.out; have := LWc.out; have := N612.out; omega), OEG.out, J6.out, J7.out, J9.out, fun b hb h2 => by have h3 := (DFG.out.lts b hb).1; have := LBE.out b h2; have := LWc.out; have := N612.out; omega⟩)
   have x12 := bx_at XDH.out 6 (v := .int .i64 cc) (by rw [List.getElem?_append_right (by rw [HLD.out]; omega), HLD.out]; rfl)
   clear hwG kG X6s THD XRG
   by_cases h0 : cc = 0
   ·skip
    have ED := hid (show addS s t = (withD s rc.1, 5) by
     rw [ED1.out]; unfold addR; simp only
     rw [← HFB.out, ← HRa.out, if_pos H5.out, ← HRb.out, if_pos H0b.out, ← HRc.out, ← HCc.out, if_pos h0])
    subst h0
    obtain ⟨R, hR⟩ : ∃ R : List Value, R = dskC rc.1 u3c u4c u5c ++ stoT s vE := ⟨_, rfl⟩
    have X6R := hid (show Bx wG B6 R.toArray by rw [hR]; exact X6G.out)
    have HL := hid (show R.length = 10 by rw [hR]; rfl)
    have HC1 := hid (show R.toArray.all (·.oneCell') = true by rw [hR]; exact SFz.out.one)
    have HR := hid hR
    have I1 := hid (show (Tryz.prog.info? 38).map (·.size) = some R.length by rw [HL.out]; exact I10.out)
    have I2 := hid (show (Tryz.prog.info? 38).map (·.size) = some R.toArray.size by rw [List.size_toArray, HL.out]; exact I10.out)
    have TH := hid (show wG.there (w.heap.size + 1) 0 R.toArray.size by rw [show R.toArray.size = 10 by rw [List.size_toArray]; exact HL.out]; exact HZG.out.there 0 10 (by simp))
    clear hR
    as_aux_lemma =>
     go_wp2_with (first | (refine wpList_load_mid rfl 38 _ rfl B6 0 rfl R _ X6R.out.all Tryz.underlying38 rfl I1.out ?_) | (refine wpList_store_mid rfl 38 _ _ rfl (w.heap.size + 1) 0 R.toArray rfl rfl TH.out I2.out HC1.out ?_))
     have X13 := hid (show Bx (wG.setCells (w.heap.size + 1) 0 R) (w.heap.size + 1) R.toArray from HZG.out.setAll R (by rw [HL.out]; simp))
     refine bodyPost_ret (results_mid_tmp Tryz.results8 rfl R X13.out.all Tryz.underlying38 rfl I1.out) rfl ?_
     rw [ED.out]
     refine ⟨_, _, _, _, C3c, C4c, C5c, BE, by rw [HR.out]; rfl, (SFz.out.mono (Nat.le_add_right _ _)).keep (fun b hb => setCells_heap _ _ _ _ _ ?_), Below.setCells _ (Nat.le_add_right _ _) _ _ HBG.out⟩
     have := SFz.out.lts b hb
     omega
   ·skip
    have ED := hid (show addS s t = (withD s rc.1, cc) by
     rw [ED1.out]; unfold addR; simp only
     rw [← HFB.out, ← HRa.out, if_pos H5.out, ← HRb.out, if_pos H0b.out, ← HRc.out, ← HCc.out, if_neg h0])
    obtain ⟨R, hR⟩ : ∃ R : List Value, R = dskC rc.1 u3c u4c u5c ++ stoT s vE := ⟨_, rfl⟩
    have X6R := hid (show Bx wG B6 R.toArray by rw [hR]; exact X6G.out)
    have HL := hid (show R.length = 10 by rw [hR]; rfl)
    have HC1 := hid (show R.toArray.all (·.oneCell') = true by rw [hR]; exact SFz.out.one)
    have HR := hid hR
    have I1 := hid (show (Tryz.prog.info? 38).map (·.size) = some R.length by rw [HL.out]; exact I10.out)
    have HZ1 := hid (show R.toArray.size = 10 by rw [List.size_toArray]; exact HL.out)
    have I2 := hid (show (Tryz.prog.info? 38).map (·.size) = some R.toArray.size by rw [HZ1.out]; exact I10.out)
    have TH := hid (show wG.there (w.heap.size + 1) 0 R.toArray.size by rw [HZ1.out]; exact HZG.out.there 0 10 (by simp))
    have n1 : B6 ≠ w.heap.size + 1 := by have := SZ6.out; omega
    have n2 : B12 ≠ w.heap.size + 1 := by have := N012.out; omega
    have cne : (cc != 0) = true := by rw [bne_iff_ne]; exact h0
    clear hR
    as_aux_lemma =>
     go_wp2_with fail
     refine late_start (fun V => V.rangeAt B6 0 R ∧ V.cell? ⟨B12, 6, none⟩ = some (.int .i64 cc)) 99 (by kernel_rfl) ?_ (fun hS => ?_)
     ·exact ⟨(World.rangeAt_drew _ _ _ _).2 X6R.out.all, x12⟩
     clear x12
     refine late_take (i := 0) (v := .agg (R).toArray) rfl (by kernel_rfl) (fun _ _ _ h => h) (by rfl) (fun W hW => exec_load_mid 38 _ rfl (B6) 0 rfl (R) _ (hW.1) Tryz.underlying38 rfl I1.out) hS ?_
     try simp only [Act.put, putZ, List.getElem_toArray, List.getElem_cons_zero, List.getElem_cons_succ]
     refine ltk 1 rfl ?_
     try simp only [Act.put, putZ, List.getElem_toArray, List.getElem_cons_zero, List.getElem_cons_succ]
     refine ltk 2 rfl ?_
     try simp only [Act.put, putZ, List.getElem_toArray, List.getElem_cons_zero, List.getElem_cons_succ]
     refine late_one (i := 3) rfl (by kernel_rfl) (fun K9 hK9 => ?_)
     refine step_store_mid rfl 38 _ _ rfl (w.heap.size + 1) 0 R.toArray rfl rfl ((World.there_drew _ _ _ _).2 TH.out) I2.out HC1.out ?_
     refine hK9.out _ _ (fun _ => ?_) (fun hS9 => ?_)
     ·(try dsimp only); exact ⟨range_set hS.1 n1, (World.cell?_of_block (a := ⟨B12, 6, none⟩) (setCells_heap _ _ _ _ _ n2)).trans hS.2⟩
     replace hS := hS9 (by decide)
     clear hK9 K9 hS9
     try simp only [Act.put, putZ, List.getElem_toArray, List.getElem_cons_zero, List.getElem_cons_succ]
     refine late_one (i := 4) rfl (by kernel_rfl) (fun K9 hK9 => ?_)
     go_simp
     refine hK9.out _ _ (fun _ => ?_) (fun hS9 => ?_)
     ·(try dsimp only); exact hS
     replace hS := hS9 (by decide)
     clear hK9 K9 hS9
     try simp only [Act.put, putZ, List.getElem_toArray, List.getElem_cons_zero, List.getElem_cons_succ]
     refine late_done (by kernel_rfl) ?_ _
     go_wp2
     have X13 := hid (show Bx (wG.drew.setCells (w.heap.size + 1) 0 R) (w.heap.size + 1) R.toArray from (HZG.out.keep (w' := wG.drew) rfl).setAll R (by rw [HL.out]; simp))
     refine bodyPost_ret (results_mid_tmp Tryz.results8 rfl R X13.out.all Tryz.underlying38 rfl I1.out) rfl ?_
     rw [ED.out]
     refine ⟨_, _, _, _, C3c, C4c, C5c, BE, by rw [HR.out]; rfl, (SFz.out.mono (Nat.le_add_right _ _)).keep (fun b hb => (setCells_heap _ _ _ _ _ ?_).trans rfl), Below.setCells _ (Nat.le_add_right _ _) _ _ HBG.out.drew⟩
     have := SFz.out.lts b hb
     omega
  ·skip
   go_wp2_with fail
   refine (i_doN XDb.out rfl (show cb ≠ 0 from h0)).mono ?_
   rintro e Wc ⟨rfl, hb⟩
   have hT : Tch [B12] Wb Wc := Tch.of_below hb
   have XDc := hid (Bx.below hb XDb.out.f.lt XDb.out)
   have DFc := hid (DFb.out.grow hb)
   have LWc := hid (show B12 < Wb.heap.size from XDb.out.f.lt)
   have X6c := hid (bx_tchN X6b.out hT (by have := N612.out; simp; omega))
   have HXc := hid (bx_tchN HXb.out hT (by have := N012.out; simp; omega))
   have HZc := hid (bx_tchN HZb.out hT (by have := N012.out; simp; omega))
   have OEc := hid (OEb.out.tch hT (fun b hb hm => by have := LBE.out b hb; have := N612.out; simp at hm; omega))
   have HBc := hid (HBb.out.trans (hT.below HBb.out.size (fun x hx => by have := N012.out; simp at hx; omega)))
   clear hb hT
   obtain ⟨RD, hRD⟩ : ∃ RD : List Value, RD = dskC rb.1 u3b u4b u5b := ⟨_, rfl⟩
   have HLD := hid (show RD.length = 6 by rw [hRD]; rfl)
   have XDG := hid (show Bx Wc B12 (RD ++ [Value.int .i64 cb]).toArray by rw [hRD]; exact XDc.out)
   have XRG := hid (range_left XDG.out.all)
   have HCD := hid (show RD.toArray.all (·.oneCell') = true by rw [hRD]; exact DFc.out.one)
   have ID1 := hid (show (Tryz.prog.info? 35).map (·.size) = some RD.length by rw [HLD.out]; exact I6.out)
   have HZD := hid (show RD.toArray.size = 6 by rw [List.size_toArray]; exact HLD.out)
   have ID2 := hid (show (Tryz.prog.info? 35).map (·.size) = some RD.toArray.size by rw [HZD.out]; exact I6.out)
   have X6s := hid (show Bx Wc B6 (dskC s.Disk v3 v4 v5 ++ stoT s vE).toArray from X6c.out)
   have THD := hid (show Wc.there B6 0 RD.toArray.size by rw [HZD.out]; exact there_head X6s.out rfl)
   have HRD := hid hRD
   clear hRD
   go_upto_region 18 with (first | (refine wpList_load_mid rfl 35 _ rfl B12 0 rfl RD _ XRG.out Tryz.underlying35 rfl ID1.out ?_) | (refine wpList_store_mid rfl 35 _ _ rfl B6 0 RD.toArray rfl rfl THD.out ID2.out HCD.out ?_))
   refine late_genw (fun wG hwG => ?_)
   have kG : ∀ k, k ≠ B6 → wG.heap[k]? = Wc.heap[k]? := fun k hk => by rw [hwG]; exact setCells_heap _ _ _ _ _ hk
   have X6G := hid (show Bx wG B6 (dskC rb.1 u3b u4b u5b ++ stoT s vE).toArray by rw [hwG, ← HRD.out]; exact bx_head X6s.out rfl HLD.out)
   have XDH := hid (XDG.out.keep (kG _ (by have := N612.out; omega)))
   have HXG := hid (HXc.out.keep (kG _ (by have := SZ6.out; omega)))
   have HZG := hid (HZc.out.keep (kG _ (by have := SZ6.out; omega)))
   have OEG := hid (OEc.out.keep (fun b hb => kG b (by have := LBE.out b hb; omega)))
   have DFG := hid (DFc.out.keep (fun b hb => kG b (by have := (DFc.out.lts b hb).1; have := LWb.out; have := N612.out; omega)))
   have HBG := hid (show Below w.heap.size w wG by rw [hwG]; exact Below.setCells _ (by have := SZ6.out; omega) _ _ HBc.out)
   have SFz := hid (show StoreF 104 127 106 5 53 (w.heap.size + 2) wG (withD s rb.1) u3b u4b u5b vE C3b C4b C5b BE from
    ⟨DFG.out.mono (by have := SZ6.out; have := LWb.out; have := N612.out; omega), OEG.out, J6.out, J7.out, J9.out, fun b hb h2 => by have h3 := (DFG.out.lts b hb).1; have := LBE.out b h2; have := LWb.out; have := N612.out; omega⟩)
   have x12 := bx_at XDH.out 6 (v := .int .i64 cb) (by rw [List.getElem?_append_right (by rw [HLD.out]; omega), HLD.out]; rfl)
   clear hwG kG X6s THD XRG
   have ED := hid (show addS s t = (withD s rb.1, cb) by
    rw [ED1.out]; unfold addR; simp only
    rw [← HFB.out, ← HRa.out, if_pos H5.out, ← HRb.out, ← HCb.out, if_neg h0])
   obtain ⟨R, hR⟩ : ∃ R : List Value, R = dskC rb.1 u3b u4b u5b ++ stoT s vE := ⟨_, rfl⟩
   have X6R := hid (show Bx wG B6 R.toArray by rw [hR]; exact X6G.out)
   have HL := hid (show R.length = 10 by rw [hR]; rfl)
   have HC1 := hid (show R.toArray.all (·.oneCell') = true by rw [hR]; exact SFz.out.one)
   have HR := hid hR
   have I1 := hid (show (Tryz.prog.info? 38).map (·.size) = some R.length by rw [HL.out]; exact I10.out)
   have HZ1 := hid (show R.toArray.size = 10 by rw [List.size_toArray]; exact HL.out)
   have I2 := hid (show (Tryz.prog.info? 38).map (·.size) = some R.toArray.size by rw [HZ1.out]; exact I10.out)
   have TH := hid (show wG.there (w.heap.size + 1) 0 R.toArray.size by rw [HZ1.out]; exact HZG.out.there 0 10 (by simp))
   have n1 : B6 ≠ w.heap.size + 1 := by have := SZ6.out; omega
   have n2 : B12 ≠ w.heap.size + 1 := by have := N012.out; omega
   have cne : (cb != 0) = true := by rw [bne_iff_ne]; exact h0
   clear hR
   as_aux_lemma =>
    go_wp2_with fail
    refine late_start (fun V => V.rangeAt B6 0 R ∧ V.cell? ⟨B12, 6, none⟩ = some (.int .i64 cb)) 99 (by kernel_rfl) ?_ (fun hS => ?_)
    ·exact ⟨(World.rangeAt_drew _ _ _ _).2 X6R.out.all, x12⟩
    clear x12
    refine late_take (i := 0) (v := .agg (R).toArray) rfl (by kernel_rfl) (fun _ _ _ h => h) (by rfl) (fun W hW => exec_load_mid 38 _ rfl (B6) 0 rfl (R) _ (hW.1) Tryz.underlying38 rfl I1.out) hS ?_
    try simp only [Act.put, putZ, List.getElem_toArray, List.getElem_cons_zero, List.getElem_cons_succ]
    refine ltk 1 rfl ?_
    try simp only [Act.put, putZ, List.getElem_toArray, List.getElem_cons_zero, List.getElem_cons_succ]
    refine ltk 2 rfl ?_
    try simp only [Act.put, putZ, List.getElem_toArray, List.getElem_cons_zero, List.getElem_cons_succ]
    refine late_one (i := 3) rfl (by kernel_rfl) (fun K9 hK9 => ?_)
    refine step_store_mid rfl 38 _ _ rfl (w.heap.size + 1) 0 R.toArray rfl rfl ((World.there_drew _ _ _ _).2 TH.out) I2.out HC1.out ?_
    refine hK9.out _ _ (fun _ => ?_) (fun hS9 => ?_)
    ·(try dsimp only); exact ⟨range_set hS.1 n1, (World.cell?_of_block (a := ⟨B12, 6, none⟩) (setCells_heap _ _ _ _ _ n2)).trans hS.2⟩
    replace hS := hS9 (by decide)
    clear hK9 K9 hS9
    try simp only [Act.put, putZ, List.getElem_toArray, List.getElem_cons_zero, List.getElem_cons_succ]
    refine late_one (i := 4) rfl (by kernel_rfl) (fun K9 hK9 => ?_)
    go_simp
    refine hK9.out _ _ (fun _ => ?_) (fun hS9 => ?_)
    ·(try dsimp only); exact hS
    replace hS := hS9 (by decide)
    clear hK9 K9 hS9
    try simp only [Act.put, putZ, List.getElem_toArray, List.getElem_cons_zero, List.getElem_cons_succ]
    refine late_done (by kernel_rfl) ?_ _
    go_wp2
    have X13 := hid (show Bx (wG.drew.setCells (w.heap.size + 1) 0 R) (w.heap.size + 1) R.toArray from (HZG.out.keep (w' := wG.drew) rfl).setAll R (by rw [HL.out]; simp))
    refine bodyPost_ret (results_mid_tmp Tryz.results8 rfl R X13.out.all Tryz.underlying38 rfl I1.out) rfl ?_
    rw [ED.out]
    refine ⟨_, _, _, _, C3b, C4b, C5b, BE, by rw [HR.out]; rfl, (SFz.out.mono (Nat.le_add_right _ _)).keep (fun b hb => (setCells_heap _ _ _ _ _ ?_).trans rfl), Below.setCells _ (Nat.le_add_right _ _) _ _ HBG.out.drew⟩
    have := SFz.out.lts b hb
    omega
 by_cases h0 : ca = 0
 ·have N5 := hid (show ¬ ra.2 = 5 by rw [← HCa.out]; exact h5)
  have H0a := hid (show ra.2 = 0 by rw [← HCa.out]; exact h0)
  clear h5
  subst h0
  go_wp2_with fail
  obtain ⟨bPb, hPb, _⟩ := DFa.out.own
  have PPb := hid (show Rep.pt Wa bPb (dskC ra.1 u3a u4a u5a) ra.1 from hPb.1)
  clear hPb
  refine (i_do0 (kd := 3) (nm := hist) (tt := emp) (sz := 0) (data := []) XDa.out PPb.out SMa.out ⟨by simp, by decide, by decide, fun _ => by decide, fun h => absurd h (by decide), fun _ => emp_nil, fun h => absurd h (by decide), fun _ => rfl, fun _ => rfl⟩ (slc_nil Wa) (by simp)).mono ?_
  rintro e Wb ⟨u3b, u4b, u5b, C3b, C4b, C5b, rfl, hX, hDF, hT⟩
  obtain ⟨rb, hrb⟩ : ∃ r, r = diskDo ra.1 3 hist emp 0 [] := ⟨_, rfl⟩
  rw [← hrb] at hX hDF
  have HRb := hid hrb
  clear hrb
  obtain ⟨cb, hcb⟩ : ∃ c, c = rb.2 := ⟨_, rfl⟩
  rw [← hcb] at hX
  have HCb := hid hcb
  have XDb := hid hX
  have DFb := hid hDF
  have SMb := hid (show Small rb.1 by rw [HRb.out]; exact small_do SMa.out (by simp))
  have LWb := hid (show B12 < Wa.heap.size from XDa.out.f.lt)
  have X6b := hid (bx_tchN X6a.out hT (by have := N612.out; simp; omega))
  have HXb := hid (bx_tchN HXa.out hT (by have := N012.out; simp; omega))
  have HZb := hid (bx_tchN HZa.out hT (by have := N012.out; simp; omega))
  have OEb := hid (OEa.out.tch hT (fun b hb hm => by have := LBE.out b hb; have := N612.out; simp at hm; omega))
  have HBb := hid (HBa.out.trans (hT.below HBa.out.size (fun x hx => by have := N012.out; simp at hx; omega)))
  have XEb := hid (bx_tchN XEa.out hT (by have := N712.out; simp; omega))
  have OBb := hid (OBa.out.tch hT (fun b hb hm => by have := N812.out b hb; simp at hm; omega))
  clear hX hDF hT hcb
  obtain ⟨RD, hRD⟩ : ∃ RD : List Value, RD = dskC rb.1 u3b u4b u5b := ⟨_, rfl⟩
  have HLD := hid (show RD.length = 6 by rw [hRD]; rfl)
  have XDG := hid (show Bx Wb B12 (RD ++ [Value.int .i64 cb]).toArray by rw [hRD]; exact XDb.out)
  have XRG := hid (range_left XDG.out.all)
  have HCD := hid (show RD.toArray.all (·.oneCell') = true by rw [hRD]; exact DFb.out.one)
  have ID1 := hid (show (Tryz.prog.info? 35).map (·.size) = some RD.length by rw [HLD.out]; exact I6.out)
  have HZD := hid (show RD.toArray.size = 6 by rw [List.size_toArray]; exact HLD.out)
  have ID2 := hid (show (Tryz.prog.info? 35).map (·.size) = some RD.toArray.size by rw [HZD.out]; exact I6.out)
  have X6s := hid (show Bx Wb B6 (dskC s.Disk v3 v4 v5 ++ stoT s vE).toArray from X6b.out)
  have THD := hid (show Wb.there B6 0 RD.toArray.size by rw [HZD.out]; exact there_head X6s.out rfl)
  have HRD := hid hRD
  clear hRD
  go_upto_region 18 with (first | (refine wpList_load_mid rfl 35 _ rfl B12 0 rfl RD _ XRG.out Tryz.underlying35 rfl ID1.out ?_) | (refine wpList_store_mid rfl 35 _ _ rfl B6 0 RD.toArray rfl rfl THD.out ID2.out HCD.out ?_))
  refine late_genw (fun wG hwG => ?_)
  have kG : ∀ k, k ≠ B6 → wG.heap[k]? = Wb.heap[k]? := fun k hk => by rw [hwG]; exact setCells_heap _ _ _ _ _ hk
  have X6G := hid (show Bx wG B6 (dskC rb.1 u3b u4b u5b ++ stoT s vE).toArray by rw [hwG, ← HRD.out]; exact bx_head X6s.out rfl HLD.out)
  have XDH := hid (XDG.out.keep (kG _ (by have := N612.out; omega)))
  have HXG := hid (HXb.out.keep (kG _ (by have := SZ6.out; omega)))
  have HZG := hid (HZb.out.keep (kG _ (by have := SZ6.out; omega)))
  have OEG := hid (OEb.out.keep (fun b hb => kG b (by have := LBE.out b hb; omega)))
  have DFG := hid (DFb.out.keep (fun b hb => kG b (by have := (DFb.out.lts b hb).1; have := LWb.out; have := N612.out; omega)))
  have HBG := hid (show Below w.heap.size w wG by rw [hwG]; exact Below.setCells _ (by have := SZ6.out; omega) _ _ HBb.out)
  have SFz := hid (show StoreF 104 127 106 5 53 (w.heap.size + 2) wG (withD s rb.1) u3b u4b u5b vE C3b C4b C5b BE from
   ⟨DFG.out.mono (by have := SZ6.out; have := LWb.out; have := N612.out; omega), OEG.out, J6.out, J7.out, J9.out, fun b hb h2 => by have h3 := (DFG.out.lts b hb).1; have := LBE.out b h2; have := LWb.out; have := N612.out; omega⟩)
  have XEG := hid (XEb.out.keep (kG _ (by have := L56.out; omega)))
  have OBG := hid (OBb.out.keep (fun b hb => kG b (by have := L8.out b hb; omega)))
  have x12 := bx_at XDH.out 6 (v := .int .i64 cb) (by rw [List.getElem?_append_right (by rw [HLD.out]; omega), HLD.out]; rfl)
  clear hwG kG X6s THD XRG
  by_cases h0 : cb = 0
  ·skip
   have ED := hid (show addS s t = ({ s with Disk := rb.1, Ents := s.Ents ++ [en], Len := s.Len + (fb.length : Int) }, 0) by
    rw [ED1.out]; unfold addR; simp only
    rw [← HFB.out, ← HRa.out, if_neg N5.out, if_pos H0a.out, ← HRb.out, ← HCb.out, if_pos h0])
   subst h0
   clear SFz
   have hfz := do_fuse (show (diskDo s.Disk 2 hist emp 0 fb).2 = 0 by rw [← HRa.out]; exact H0a.out)
   have HLN := hid (len_small HOK.out hfz.2)
   clear hfz
   obtain ⟨aE, cE, hvE⟩ := OEG.out.slice
   subst hvE
   have x8 : wG.cell? ⟨B6, 8, none⟩ = some (.slice aE s.Ents.length cE) := bx_at X6G.out 8 rfl
   have f6 := X6G.out.fr
   have e0 := XEG.out.out
   have lt6 := X6G.out.f.lt
   have PEN := hid (PE.out)
   go_wp2_with (at_builtin; refine wp_append rfl _ _ 36 rfl 53 i0 (.agg #[.int .i64 0, .string ByteArray.empty]) 24 Tryz.underlying36 hi hz0 hz1 hz2 rfl (lo := w.heap.size + 2) (bs := BE) (xs := s.Ents) rfl (OEG.out.alloc _) (b2 := []) (ys := [en]) rfl ?esrc List.nodup_nil (fun b hb => by cases hb) ?ea ?eb ?ec ?_)
   case esrc => exact src_new (PE.out _) (by simp) _ _
   try (case ea => have := HN.out; simp; omega)
   try (case eb => have := HN.out; simp; omega)
   try (case ec => have := SZ6.out; simp; omega)
   intro pN cN wN bN hON hTN hmN
   have ON := hid hON
   have kN := hid (fun k (hk : k < wG.heap.size) (hn : k ∉ BE) => show wN.heap[k]? = wG.heap[k]? from (hTN.block k (by simp; omega) hn).trans (Below.heap_alloc _ _ _ hk))
   have BNN := hid (HBG.out.trans ((((Below.refl wG.heap.size wG).alloc (Nat.le_refl _) (.cells #[.int .i64 nn, .string t] 53)).mono HBG.out.size).trans (hTN.below (by have := HBG.out.size; simp; omega) (fun x hx => by have := (OEG.out.lts x hx).1; omega))))
   have MN := hid (fun b (hb : b ∈ bN) => show b ∈ BE ∨ wG.heap.size < b from by have h3 := hmN b hb; (try simp at h3); rcases h3 with h3 | h3; exact .inl h3; exact .inr (by omega))
   clear hON hTN hmN x8 f6 e0
   have X6N := hid (X6G.out.keep (kN.out _ X6G.out.f.lt (fun hm => by have := LBE.out _ hm; omega)))
   have HXN := hid (HXG.out.keep (kN.out _ HXG.out.f.lt (fun hm => by have := (OEG.out.lts _ hm).1; omega)))
   have HZN := hid (HZG.out.keep (kN.out _ HZG.out.f.lt (fun hm => by have := (OEG.out.lts _ hm).1; omega)))
   have x6 := bx_at X6N.out 8 (v := .slice aE s.Ents.length cE) rfl
   have f6 := X6N.out.fr
   have x9 := bx_at X6N.out 9 (v := .int .i64 s.Len) rfl
   have hw9 : wrap64 (s.Len + (fb.length : Int)) = s.Len + (fb.length : Int) := IntWalk.wrap64_in _ (by have := HLN.out; have := FLE.out; omega)
   have n60 : w.heap.size ≠ B6 := by have := SZ6.out; omega
   go_upto_region 24 with fail
   refine late_genw (fun wD hwD => ?_)
   have kD : ∀ k, k ≠ B6 → wD.heap[k]? = wN.heap[k]? := fun k hk => by rw [hwD]; exact (Below.heap_setCell _ _ _ _ hk).trans (Below.heap_setCell _ _ _ _ hk)
   have X6D := hid (show Bx wD B6 (dskC rb.1 u3b u4b u5b ++ stoT { s with Disk := rb.1, Ents := s.Ents ++ [en], Len := s.Len + (fb.length : Int) } (.slice pN (s.Ents.length + 1) cN)).toArray by rw [hwD]; exact (X6N.out.setSame 8 _).setSame 9 _)
   have HZD := hid (HZN.out.keep (kD _ (by have := SZ6.out; omega)))
   have BDD := hid (show Below w.heap.size w wD by rw [hwD]; exact (BNN.out.setCell (show w.heap.size ≤ B6 by have := SZ6.out; omega) _).setCell (show w.heap.size ≤ B6 by have := SZ6.out; omega) _)
   have SFz := hid (show StoreF 104 127 106 5 53 (w.heap.size + 2) wD { s with Disk := rb.1, Ents := s.Ents ++ [en], Len := s.Len + (fb.length : Int) } u3b u4b u5b (.slice pN (s.Ents.length + 1) cN) C3b C4b C5b bN from
    ⟨(DFG.out.mono (by have := SZ6.out; have := LWb.out; have := N612.out; omega)).keep (fun b hb => (kD b (by have := (DFG.out.lts b hb).1; have := LWb.out; have := N612.out; omega)).trans (kN.out b (DFG.out.lts b hb).2 (fun hm => by have := LBE.out b hm; have := (DFG.out.lts b hb).1; have := LWb.out; have := N612.out; omega))),
     ON.out.keep (fun b hb => kD b (fun e => by
      subst e
      rcases MN.out _ hb with h9 | h9
      ·have := LBE.out _ h9; omega
      ·omega)), J6.out, J7.out, (by have := HLN.out; have := FLE.out; unfold I64; show _ ≤ s.Len + (fb.length : Int) ∧ s.Len + (fb.length : Int) ≤ _; omega),
     fun b hb h2 => by
      have h8 := DFG.out.lts b hb
      have h7 := LWb.out; have := N612.out
      rcases MN.out b h2 with h9 | h9
      ·have := LBE.out b h9; omega
      ·omega⟩)
   clear hwD kD x6 f6 x9 hw9 n60 lt6
   obtain ⟨R, hR⟩ : ∃ R : List Value, R = dskC rb.1 u3b u4b u5b ++ stoT { s with Disk := rb.1, Ents := s.Ents ++ [en], Len := s.Len + (fb.length : Int) } (.slice pN (s.Ents.length + 1) cN) := ⟨_, rfl⟩
   have X6R := hid (show Bx wD B6 R.toArray by rw [hR]; exact X6D.out)
   have HL := hid (show R.length = 10 by rw [hR]; rfl)
   have HC1 := hid (show R.toArray.all (·.oneCell') = true by rw [hR]; exact SFz.out.one)
   have HR := hid hR
   have I1 := hid (show (Tryz.prog.info? 38).map (·.size) = some R.length by rw [HL.out]; exact I10.out)
   have I2 := hid (show (Tryz.prog.info? 38).map (·.size) = some R.toArray.size by rw [List.size_toArray, HL.out]; exact I10.out)
   have TH := hid (show wD.there (w.heap.size + 1) 0 R.toArray.size by rw [show R.toArray.size = 10 by rw [List.size_toArray]; exact HL.out]; exact HZD.out.there 0 10 (by simp))
   clear hR
   as_aux_lemma =>
    go_wp2_with (first | (refine wpList_load_mid rfl 38 _ rfl B6 0 rfl R _ X6R.out.all Tryz.underlying38 rfl I1.out ?_) | (refine wpList_store_mid rfl 38 _ _ rfl (w.heap.size + 1) 0 R.toArray rfl rfl TH.out I2.out HC1.out ?_))
    have X13 := hid (show Bx (wD.setCells (w.heap.size + 1) 0 R) (w.heap.size + 1) R.toArray from HZD.out.setAll R (by rw [HL.out]; simp))
    refine bodyPost_ret (results_mid_tmp Tryz.results8 rfl R X13.out.all Tryz.underlying38 rfl I1.out) rfl ?_
    rw [ED.out]
    refine ⟨_, _, _, _, C3b, C4b, C5b, bN, by rw [HR.out]; rfl, (SFz.out.mono (Nat.le_add_right _ _)).keep (fun b hb => setCells_heap _ _ _ _ _ ?_), Below.setCells _ (Nat.le_add_right _ _) _ _ BDD.out⟩
    have := SFz.out.lts b hb
    omega
  ·skip
   have ED := hid (show addS s t = (withD s rb.1, cb) by
    rw [ED1.out]; unfold addR; simp only
    rw [← HFB.out, ← HRa.out, if_neg N5.out, if_pos H0a.out, ← HRb.out, ← HCb.out, if_neg h0])
   obtain ⟨R, hR⟩ : ∃ R : List Value, R = dskC rb.1 u3b u4b u5b ++ stoT s vE := ⟨_, rfl⟩
   have X6R := hid (show Bx wG B6 R.toArray by rw [hR]; exact X6G.out)
   have HL := hid (show R.length = 10 by rw [hR]; rfl)
   have HC1 := hid (show R.toArray.all (·.oneCell') = true by rw [hR]; exact SFz.out.one)
   have HR := hid hR
   have I1 := hid (show (Tryz.prog.info? 38).map (·.size) = some R.length by rw [HL.out]; exact I10.out)
   have HZ1 := hid (show R.toArray.size = 10 by rw [List.size_toArray]; exact HL.out)
   have I2 := hid (show (Tryz.prog.info? 38).map (·.size) = some R.toArray.size by rw [HZ1.out]; exact I10.out)
   have TH := hid (show wG.there (w.heap.size + 1) 0 R.toArray.size by rw [HZ1.out]; exact HZG.out.there 0 10 (by simp))
   have n1 : B6 ≠ w.heap.size + 1 := by have := SZ6.out; omega
   have n2 : B12 ≠ w.heap.size + 1 := by have := N012.out; omega
   have cne : (cb != 0) = true := by rw [bne_iff_ne]; exact h0
   clear hR
   as_aux_lemma =>
    go_wp2_with fail
    refine late_start (fun V => V.rangeAt B6 0 R ∧ V.cell? ⟨B12, 6, none⟩ = some (.int .i64 cb)) 99 (by kernel_rfl) ?_ (fun hS => ?_)
    ·exact ⟨(World.rangeAt_drew _ _ _ _).2 X6R.out.all, x12⟩
    clear x12
    refine late_take (i := 0) (v := .agg (R).toArray) rfl (by kernel_rfl) (fun _ _ _ h => h) (by rfl) (fun W hW => exec_load_mid 38 _ rfl (B6) 0 rfl (R) _ (hW.1) Tryz.underlying38 rfl I1.out) hS ?_
    try simp only [Act.put, putZ, List.getElem_toArray, List.getElem_cons_zero, List.getElem_cons_succ]
    refine ltk 1 rfl ?_
    try simp only [Act.put, putZ, List.getElem_toArray, List.getElem_cons_zero, List.getElem_cons_succ]
    refine ltk 2 rfl ?_
    try simp only [Act.put, putZ, List.getElem_toArray, List.getElem_cons_zero, List.getElem_cons_succ]
    refine late_one (i := 3) rfl (by kernel_rfl) (fun K9 hK9 => ?_)
    refine step_store_mid rfl 38 _ _ rfl (w.heap.size + 1) 0 R.toArray rfl rfl ((World.there_drew _ _ _ _).2 TH.out) I2.out HC1.out ?_
    refine hK9.out _ _ (fun _ => ?_) (fun hS9 => ?_)
    ·(try dsimp only); exact ⟨range_set hS.1 n1, (World.cell?_of_block (a := ⟨B12, 6, none⟩) (setCells_heap _ _ _ _ _ n2)).trans hS.2⟩
    replace hS := hS9 (by decide)
    clear hK9 K9 hS9
    try simp only [Act.put, putZ, List.getElem_toArray, List.getElem_cons_zero, List.getElem_cons_succ]
    refine late_one (i := 4) rfl (by kernel_rfl) (fun K9 hK9 => ?_)
    go_simp
    refine hK9.out _ _ (fun _ => ?_) (fun hS9 => ?_)
    ·(try dsimp only); exact hS
    replace hS := hS9 (by decide)
    clear hK9 K9 hS9
    try simp only [Act.put, putZ, List.getElem_toArray, List.getElem_cons_zero, List.getElem_cons_succ]
    refine late_done (by kernel_rfl) ?_ _
    go_wp2
    have X13 := hid (show Bx (wG.drew.setCells (w.heap.size + 1) 0 R) (w.heap.size + 1) R.toArray from (HZG.out.keep (w' := wG.drew) rfl).setAll R (by rw [HL.out]; simp))
    refine bodyPost_ret (results_mid_tmp Tryz.results8 rfl R X13.out.all Tryz.underlying38 rfl I1.out) rfl ?_
    rw [ED.out]
    refine ⟨_, _, _, _, C3b, C4b, C5b, BE, by rw [HR.out]; rfl, (SFz.out.mono (Nat.le_add_right _ _)).keep (fun b hb => (setCells_heap _ _ _ _ _ ?_).trans rfl), Below.setCells _ (Nat.le_add_right _ _) _ _ HBG.out.drew⟩
    have := SFz.out.lts b hb
    omega
 have XDz := hid (show Bx Wa B12 (dskC ra.1 u3a u4a u5a ++ [Value.int .i64 0]).toArray from XDa.out)
 have x12 := bx_at XDz.out 6 (v := .int .i64 0) rfl
 have f12 := XDz.out.fr; have l12 := XDz.out.f.lt
 have LWd := hid (show B12 < Wa.heap.size from l12)
 go_upto_region 17 with fail
 refine late_genw (fun Wd hWd => ?_)
 have hT : Tch [B12] Wa Wd := by rw [hWd]; exact (Tch.refl _ _).setCell (by simp) _
 have XDd := hid (show Bx Wd B12 (dskC ra.1 u3a u4a u5a ++ [Value.int .i64 ca]).toArray by rw [hWd]; exact XDz.out.setSame 6 _)
 have DFd := hid (DFa.out.keep (w' := Wd) (fun b hb => by rw [hWd]; exact Below.heap_setCell _ _ _ _ (by have := (LDF.out b hb).2.2; simp; omega)))
 have X6d := hid (bx_tchN X6a.out hT (by have := N612.out; simp; omega))
 have HXd := hid (bx_tchN HXa.out hT (by have := N012.out; simp; omega))
 have HZd := hid (bx_tchN HZa.out hT (by have := N012.out; simp; omega))
 have OEd := hid (OEa.out.tch hT (fun b hb hm => by have := LBE.out b hb; have := N612.out; simp at hm; omega))
 have HBd := hid (HBa.out.trans (hT.below HBa.out.size (fun x hx => by have := N012.out; simp at hx; omega)))
 clear hWd hT x12 f12 l12
 obtain ⟨RD, hRD⟩ : ∃ RD : List Value, RD = dskC ra.1 u3a u4a u5a := ⟨_, rfl⟩
 have HLD := hid (show RD.length = 6 by rw [hRD]; rfl)
 have XDG := hid (show Bx Wd B12 (RD ++ [Value.int .i64 ca]).toArray by rw [hRD]; exact XDd.out)
 have XRG := hid (range_left XDG.out.all)
 have HCD := hid (show RD.toArray.all (·.oneCell') = true by rw [hRD]; exact DFd.out.one)
 have ID1 := hid (show (Tryz.prog.info? 35).map (·.size) = some RD.length by rw [HLD.out]; exact I6.out)
 have HZD := hid (show RD.toArray.size = 6 by rw [List.size_toArray]; exact HLD.out)
 have ID2 := hid (show (Tryz.prog.info? 35).map (·.size) = some RD.toArray.size by rw [HZD.out]; exact I6.out)
 have X6s := hid (show Bx Wd B6 (dskC s.Disk v3 v4 v5 ++ stoT s vE).toArray from X6d.out)
 have THD := hid (show Wd.there B6 0 RD.toArray.size by rw [HZD.out]; exact there_head X6s.out rfl)
 have HRD := hid hRD
 clear hRD
 go_upto_region 18 with (first | (refine wpList_load_mid rfl 35 _ rfl B12 0 rfl RD _ XRG.out Tryz.underlying35 rfl ID1.out ?_) | (refine wpList_store_mid rfl 35 _ _ rfl B6 0 RD.toArray rfl rfl THD.out ID2.out HCD.out ?_))
 refine late_genw (fun wG hwG => ?_)
 have kG : ∀ k, k ≠ B6 → wG.heap[k]? = Wd.heap[k]? := fun k hk => by rw [hwG]; exact setCells_heap _ _ _ _ _ hk
 have X6G := hid (show Bx wG B6 (dskC ra.1 u3a u4a u5a ++ stoT s vE).toArray by rw [hwG, ← HRD.out]; exact bx_head X6s.out rfl HLD.out)
 have XDH := hid (XDG.out.keep (kG _ (by have := N612.out; omega)))
 have HXG := hid (HXd.out.keep (kG _ (by have := SZ6.out; omega)))
 have HZG := hid (HZd.out.keep (kG _ (by have := SZ6.out; omega)))
 have OEG := hid (OEd.out.keep (fun b hb => kG b (by have := LBE.out b hb; omega)))
 have DFG := hid (DFd.out.keep (fun b hb => kG b (by have := (LDF.out b hb).2.1; omega)))
 have HBG := hid (show Below w.heap.size w wG by rw [hwG]; exact Below.setCells _ (by have := SZ6.out; omega) _ _ HBd.out)
 have SFz := hid (show StoreF 104 127 106 5 53 (w.heap.size + 2) wG (withD s ra.1) u3a u4a u5a vE C3a C4a C5a BE from
  ⟨DFG.out, OEG.out, J6.out, J7.out, J9.out, fun b hb h2 => by have h3 := (LDF.out b hb).2.1; have := LBE.out b h2; omega⟩)
 have x12 := bx_at XDH.out 6 (v := .int .i64 ca) (by rw [List.getElem?_append_right (by rw [HLD.out]; omega), HLD.out]; rfl)
 clear hwG kG X6s THD XRG
 have ED := hid (show addS s t = (withD s ra.1, ca) by
  rw [ED1.out]; unfold addR; simp only
  rw [← HFB.out, ← HRa.out, ← HCa.out, if_neg h5, if_neg h0])
 obtain ⟨R, hR⟩ : ∃ R : List Value, R = dskC ra.1 u3a u4a u5a ++ stoT s vE := ⟨_, rfl⟩
 have X6R := hid (show Bx wG B6 R.toArray by rw [hR]; exact X6G.out)
 have HL := hid (show R.length = 10 by rw [hR]; rfl)
 have HC1 := hid (show R.toArray.all (·.oneCell') = true by rw [hR]; exact SFz.out.one)
 have HR := hid hR
 have I1 := hid (show (Tryz.prog.info? 38).map (·.size) = some R.length by rw [HL.out]; exact I10.out)
 have HZ1 := hid (show R.toArray.size = 10 by rw [List.size_toArray]; exact HL.out)
 have I2 := hid (show (Tryz.prog.info? 38).map (·.size) = some R.toArray.size by rw [HZ1.out]; exact I10.out)
 have TH := hid (show wG.there (w.heap.size + 1) 0 R.toArray.size by rw [HZ1.out]; exact HZG.out.there 0 10 (by simp))
 have n1 : B6 ≠ w.heap.size + 1 := by have := SZ6.out; omega
 have n2 : B12 ≠ w.heap.size + 1 := by have := N012.out; omega
 have cne : (ca != 0) = true := by rw [bne_iff_ne]; exact h0
 clear hR
 as_aux_lemma =>
  go_wp2_with fail
  refine late_start (fun V => V.rangeAt B6 0 R ∧ V.cell? ⟨B12, 6, none⟩ = some (.int .i64 ca)) 99 (by kernel_rfl) ?_ (fun hS => ?_)
  ·exact ⟨(World.rangeAt_drew _ _ _ _).2 X6R.out.all, x12⟩
  clear x12
  refine late_take (i := 0) (v := .agg (R).toArray) rfl (by kernel_rfl) (fun _ _ _ h => h) (by rfl) (fun W hW => exec_load_mid 38 _ rfl (B6) 0 rfl (R) _ (hW.1) Tryz.underlying38 rfl I1.out) hS ?_
  try simp only [Act.put, putZ, List.getElem_toArray, List.getElem_cons_zero, List.getElem_cons_succ]
  refine ltk 1 rfl ?_
  try simp only [Act.put, putZ, List.getElem_toArray, List.getElem_cons_zero, List.getElem_cons_succ]
  refine ltk 2 rfl ?_
  try simp only [Act.put, putZ, List.getElem_toArray, List.getElem_cons_zero, List.getElem_cons_succ]
  refine late_one (i := 3) rfl (by kernel_rfl) (fun K9 hK9 => ?_)
  refine step_store_mid rfl 38 _ _ rfl (w.heap.size + 1) 0 R.toArray rfl rfl ((World.there_drew _ _ _ _).2 TH.out) I2.out HC1.out ?_
  refine hK9.out _ _ (fun _ => ?_) (fun hS9 => ?_)
  ·(try dsimp only); exact ⟨range_set hS.1 n1, (World.cell?_of_block (a := ⟨B12, 6, none⟩) (setCells_heap _ _ _ _ _ n2)).trans hS.2⟩
  replace hS := hS9 (by decide)
  clear hK9 K9 hS9
  try simp only [Act.put, putZ, List.getElem_toArray, List.getElem_cons_zero, List.getElem_cons_succ]
  refine late_one (i := 4) rfl (by kernel_rfl) (fun K9 hK9 => ?_)
  go_simp
  refine hK9.out _ _ (fun _ => ?_) (fun hS9 => ?_)
  ·(try dsimp only); exact hS
  replace hS := hS9 (by decide)
  clear hK9 K9 hS9
  try simp only [Act.put, putZ, List.getElem_toArray, List.getElem_cons_zero, List.getElem_cons_succ]
  refine late_done (by kernel_rfl) ?_ _
  go_wp2
  have X13 := hid (show Bx (wG.drew.setCells (w.heap.size + 1) 0 R) (w.heap.size + 1) R.toArray from (HZG.out.keep (w' := wG.drew) rfl).setAll R (by rw [HL.out]; simp))
  refine bodyPost_ret (results_mid_tmp Tryz.results8 rfl R X13.out.all Tryz.underlying38 rfl I1.out) rfl ?_
  rw [ED.out]
  refine ⟨_, _, _, _, C3a, C4a, C5a, BE, by rw [HR.out]; rfl, (SFz.out.mono (Nat.le_add_right _ _)).keep (fun b hb => (setCells_heap _ _ _ _ _ ?_).trans rfl), Below.setCells _ (Nat.le_add_right _ _) _ _ HBG.out.drew⟩
  have := SFz.out.lts b hb
  omega
end Go.Proofs.YtdjcjilipgpnmaaGreat
