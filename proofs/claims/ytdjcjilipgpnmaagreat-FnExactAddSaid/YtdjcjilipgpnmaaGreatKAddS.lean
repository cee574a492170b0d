/- An entry is added, as the reference does it (printed by genadd.py). -/
import Derived.Test.YtdjcjilipgpnmaaGreatKAddD
set_option linter.unusedSimpArgs false
set_option linter.unusedVariables false
namespace Go.Proofs.YtdjcjilipgpnmaaGreat
open Go Go.RowKit Go.G6
set_option maxHeartbeats 6000000
set_option maxRecDepth 10000
theorem s_Add {w : World} {bs : List Nat} {cs : List Value} {s : StoreD} (h : Rep.pt w bs cs s) (hs : Small s.Disk) (hn : s.Ents.length ≤ 1048576) (t : ByteArray) (ht : t.size ≤ maxLen) :
  Calls Tryz.prog 6 #[.agg cs.toArray, .string t] w (RetSI 104 127 106 5 53 w (addS s t)) := by
 have hcl := Rep.len h
 have H0 := hid h; have HS := hid hs; have HN := hid hn; have HTL := hid ht
 have I10 := hid (show (Tryz.prog.info? 38).map (·.size) = some 10 by kernel_rfl)
 have I0 := hid (show (Tryz.prog.info? 38).map (·.size) = some cs.length by rw [show cs.length = 10 from hcl]; exact I10.out)
 obtain ⟨i0, hi, hz0, hz1, hz2⟩ := info_parts info_EntryF
 have J := hid (show I64 s.Keep ∧ I64 s.Size ∧ I64 s.Len by obtain ⟨_, _, _, _, _, _, _, _, i6, i7, _, i9, _⟩ := store_split h; exact ⟨i6, i7, i9⟩)
 have J6 := hid J.out.1; have J7 := hid J.out.2.1; have J9 := hid J.out.2.2
 have HXc : cs[9]? = some (.int .i64 s.Len) := by
  obtain ⟨_, _, R, _, _, _, hcs, hD, _⟩ := store_split h
  rw [hcs, List.getElem?_append_right (by rw [show R.length = 6 from Rep.len hD]; omega), show R.length = 6 from Rep.len hD]; rfl
 have HXC := hid HXc
 have HX := hid (Bx.alloc (Bx.new w cs.toArray 38 rfl) (by simp) (.cells #[.int .i64 0, .int .i64 0, .int .i64 0, .slice none 0 0, .slice none 0 0, .slice none 0 0, .int .i64 0, .int .i64 0, .slice none 0 0, .int .i64 0] 38))
 have HZ := hid (Bx.new (w.alloc (.cells cs.toArray 38)) #[.int .i64 0, .int .i64 0, .int .i64 0, .slice none 0 0, .slice none 0 0, .slice none 0 0, .int .i64 0, .int .i64 0, .slice none 0 0, .int .i64 0] 38 (b := w.heap.size + 1) (by simp))
 have hb0 := hid (((Below.refl w.heap.size w).alloc (Nat.le_refl _) (.cells cs.toArray 38)).alloc (by simp) (.cells #[.int .i64 0, .int .i64 0, .int .i64 0, .slice none 0 0, .slice none 0 0, .slice none 0 0, .int .i64 0, .int .i64 0, .slice none 0 0, .int .i64 0] 38))
 obtain ⟨wA, hwA⟩ : ∃ wA, wA = (w.alloc (.cells cs.toArray 38)).alloc (.cells #[.int .i64 0, .int .i64 0, .int .i64 0, .slice none 0 0, .slice none 0 0, .slice none 0 0, .int .i64 0, .int .i64 0, .slice none 0 0, .int .i64 0] 38) := ⟨_, rfl⟩
 have SA := hid (show wA.heap.size = w.heap.size + 2 by rw [hwA]; simp)
 rw [← hwA] at hb0 HX HZ
 clear h hs hn hcl HXc
 have htl : t.size ≤ 9223372036854775807 := HTL.out
 clear ht
 go_enter Tryz.func6, Tryz.ntmps6
 go_upto_region 1 with fail
 rw [← hwA]
 clear hwA
 go_wp2_with (first | (refine wpList_load_mid rfl 38 _ rfl w.heap.size 0 rfl cs _ HX.out.all Tryz.underlying38 rfl I0.out ?_))
 refine (s_StoreOk (grow H0.out hb0.out) HS.out).mono ?_
 rintro e w1 ⟨rfl, hb1⟩
 have HX1 := hid (Bx.below hb1 HX.out.f.lt HX.out)
 have HZ1 := hid (Bx.below hb1 HZ.out.f.lt HZ.out)
 have HB1 := hid (hb0.out.trans (hb1.mono hb0.out.size))
 have SZ1 := hid (show w.heap.size + 2 ≤ w1.heap.size by have := SA.out; have := hb1.size; omega)
 clear hb1 HX HZ
 cases hok : storeOk s
 ·have ED := hid (show addS s t = (zStore, 1) by unfold addS; rw [hok]; rfl)
  clear hok
  obtain ⟨R, hR⟩ : ∃ R : List Value, R = [Value.int .i64 0, .int .i64 0, .int .i64 0, .slice none 0 0, .slice none 0 0, .slice none 0 0, .int .i64 0, .int .i64 0, .slice none 0 0, .int .i64 0] := ⟨_, rfl⟩
  have HC1 := hid (show R.toArray.all (·.oneCell') = true by rw [hR]; simp [Value.oneCell'])
  have HL := hid (show R.length = 10 by rw [hR]; rfl)
  have HR := hid hR
  have I1 := hid (show (Tryz.prog.info? 38).map (·.size) = some R.length by rw [HL.out]; exact I10.out)
  have I2 := hid (show (Tryz.prog.info? 38).map (·.size) = some R.toArray.size by rw [List.size_toArray, HL.out]; exact I10.out)
  have TH2 := hid (show w1.there (w.heap.size + 1) 0 R.toArray.size by rw [show R.toArray.size = 10 by rw [List.size_toArray]; exact HL.out]; exact HZ1.out.there 0 10 (by simp))
  have hbu : Tryz.prog.built 38 [] = some R.toArray := by rw [hR]; kernel_rfl
  have HBU := hid hbu
  clear hR hbu
  as_aux_lemma =>
   go_wp2_with (first | (refine wpList_build_to rfl 38 _ rfl R.toArray [] rfl HBU.out ?_) | (refine wpList_store_mid rfl 38 _ _ rfl (w.heap.size + 1) 0 R.toArray rfl rfl TH2.out I2.out HC1.out ?_))
   have X13 := hid (show Bx (w1.setCells (w.heap.size + 1) 0 R) (w.heap.size + 1) R.toArray from HZ1.out.setAll R (by rw [HL.out]; simp))
   refine bodyPost_ret (results_mid_tmp Tryz.results6 rfl R X13.out.all Tryz.underlying38 rfl I1.out) rfl ?_
   rw [ED.out]
   exact ⟨_, _, _, _, [], [], [], [], by rw [HR.out]; rfl, ⟨⟨by simp [I64, zStore, zDisk], by simp [I64, zStore, zDisk], by simp [I64, zStore, zDisk], OwnL.nil _ _ _, OwnL.nil _ _ _, OwnL.nil _ _ _, by simp, by simp, by simp⟩, OwnL.nil _ _ _, by simp [I64, zStore], by simp [I64, zStore], by simp [I64, zStore], by simp⟩, Below.setCells _ (Nat.le_add_right _ _) _ _ HB1.out⟩
 have HOK := hid hok
 clear hok
 by_cases ht1 : t.size < 1
 ·have ED := hid (show addS s t = (zStore, 1) by unfold addS; rw [HOK.out, decide_eq_false (by omega)]; rfl)
  have hti : (t.size : Int) < 1 := by omega
  clear ht1
  obtain ⟨R, hR⟩ : ∃ R : List Value, R = [Value.int .i64 0, .int .i64 0, .int .i64 0, .slice none 0 0, .slice none 0 0, .slice none 0 0, .int .i64 0, .int .i64 0, .slice none 0 0, .int .i64 0] := ⟨_, rfl⟩
  have HC1 := hid (show R.toArray.all (·.oneCell') = true by rw [hR]; simp [Value.oneCell'])
  have HL := hid (show R.length = 10 by rw [hR]; rfl)
  have HR := hid hR
  have I1 := hid (show (Tryz.prog.info? 38).map (·.size) = some R.length by rw [HL.out]; exact I10.out)
  have I2 := hid (show (Tryz.prog.info? 38).map (·.size) = some R.toArray.size by rw [List.size_toArray, HL.out]; exact I10.out)
  have TH2 := hid (show w1.there (w.heap.size + 1) 0 R.toArray.size by rw [show R.toArray.size = 10 by rw [List.size_toArray]; exact HL.out]; exact HZ1.out.there 0 10 (by simp))
  have hbu : Tryz.prog.built 38 [] = some R.toArray := by rw [hR]; kernel_rfl
  have HBU := hid hbu
  clear hR hbu
  as_aux_lemma =>
   go_wp2_with (first | (refine wpList_build_to rfl 38 _ rfl R.toArray [] rfl HBU.out ?_) | (refine wpList_store_mid rfl 38 _ _ rfl (w.heap.size + 1) 0 R.toArray rfl rfl TH2.out I2.out HC1.out ?_))
   have X13 := hid (show Bx (w1.setCells (w.heap.size + 1) 0 R) (w.heap.size + 1) R.toArray from HZ1.out.setAll R (by rw [HL.out]; simp))
   refine bodyPost_ret (results_mid_tmp Tryz.results6 rfl R X13.out.all Tryz.underlying38 rfl I1.out) rfl ?_
   rw [ED.out]
   exact ⟨_, _, _, _, [], [], [], [], by rw [HR.out]; rfl, ⟨⟨by simp [I64, zStore, zDisk], by simp [I64, zStore, zDisk], by simp [I64, zStore, zDisk], OwnL.nil _ _ _, OwnL.nil _ _ _, OwnL.nil _ _ _, by simp, by simp, by simp⟩, OwnL.nil _ _ _, by simp [I64, zStore], by simp [I64, zStore], by simp [I64, zStore], by simp⟩, Below.setCells _ (Nat.le_add_right _ _) _ _ HB1.out⟩
 by_cases ht2 : 1000 < t.size
 ·have ED := hid (show addS s t = (zStore, 1) by unfold addS; rw [HOK.out, decide_eq_true (show 1 ≤ t.size by omega), decide_eq_false (by omega)]; rfl)
  have hti : ¬ (t.size : Int) < 1 := by omega
  have htj : (1000 : Int) < (t.size : Int) := by omega
  clear ht1 ht2
  obtain ⟨R, hR⟩ : ∃ R : List Value, R = [Value.int .i64 0, .int .i64 0, .int .i64 0, .slice none 0 0, .slice none 0 0, .slice none 0 0, .int .i64 0, .int .i64 0, .slice none 0 0, .int .i64 0] := ⟨_, rfl⟩
  have HC1 := hid (show R.toArray.all (·.oneCell') = true by rw [hR]; simp [Value.oneCell'])
  have HL := hid (show R.length = 10 by rw [hR]; rfl)
  have HR := hid hR
  have I1 := hid (show (Tryz.prog.info? 38).map (·.size) = some R.length by rw [HL.out]; exact I10.out)
  have I2 := hid (show (Tryz.prog.info? 38).map (·.size) = some R.toArray.size by rw [List.size_toArray, HL.out]; exact I10.out)
  have TH2 := hid (show w1.there (w.heap.size + 1) 0 R.toArray.size by rw [show R.toArray.size = 10 by rw [List.size_toArray]; exact HL.out]; exact HZ1.out.there 0 10 (by simp))
  have hbu : Tryz.prog.built 38 [] = some R.toArray := by rw [hR]; kernel_rfl
  have HBU := hid hbu
  clear hR hbu
  as_aux_lemma =>
   go_wp2_with (first | (refine wpList_build_to rfl 38 _ rfl R.toArray [] rfl HBU.out ?_) | (refine wpList_store_mid rfl 38 _ _ rfl (w.heap.size + 1) 0 R.toArray rfl rfl TH2.out I2.out HC1.out ?_))
   have X13 := hid (show Bx (w1.setCells (w.heap.size + 1) 0 R) (w.heap.size + 1) R.toArray from HZ1.out.setAll R (by rw [HL.out]; simp))
   refine bodyPost_ret (results_mid_tmp Tryz.results6 rfl R X13.out.all Tryz.underlying38 rfl I1.out) rfl ?_
   rw [ED.out]
   exact ⟨_, _, _, _, [], [], [], [], by rw [HR.out]; rfl, ⟨⟨by simp [I64, zStore, zDisk], by simp [I64, zStore, zDisk], by simp [I64, zStore, zDisk], OwnL.nil _ _ _, OwnL.nil _ _ _, OwnL.nil _ _ _, by simp, by simp, by simp⟩, OwnL.nil _ _ _, by simp [I64, zStore], by simp [I64, zStore], by simp [I64, zStore], by simp⟩, Below.setCells _ (Nat.le_add_right _ _) _ _ HB1.out⟩
 have hti : ¬ (t.size : Int) < 1 := by omega
 have htj : ¬ (1000 : Int) < (t.size : Int) := by omega
 have ED0 := hid (show addS s t = (if entryOk ⟨nextNum s.Ents, t⟩ = true then addR s ⟨nextNum s.Ents, t⟩ else (s, 3)) by unfold addS; rw [HOK.out, decide_eq_true (show 1 ≤ t.size by omega), decide_eq_true (show t.size ≤ 1000 by omega)]; rfl)
 clear ht1 ht2
 go_wp2_with (first | (refine wpList_load_mid rfl 38 _ rfl w.heap.size 0 rfl cs _ HX1.out.all Tryz.underlying38 rfl I0.out ?_))
 refine (s_l06Copy (grow H0.out HB1.out) HS.out HN.out).mono ?_
 rintro e w3 ⟨v3, v4, v5, vE, B3, B4, B5, BE, rfl, hSF, hb3⟩
 have HX3 := hid (Bx.below hb3 HX1.out.f.lt HX1.out)
 have HZ3 := hid (Bx.below hb3 HZ1.out.f.lt HZ1.out)
 have HB3 := hid (HB1.out.trans (hb3.mono HB1.out.size))
 have SF3 := hid (hSF.mono SZ1.out)
 have SZ3 := hid (show w.heap.size + 2 ≤ w3.heap.size by have := SZ1.out; have := hb3.size; omega)
 clear hSF hb3 HX1 HZ1 hti htj
 obtain ⟨S, hS6⟩ : ∃ S, S = dskC s.Disk v3 v4 v5 ++ stoT s vE := ⟨_, rfl⟩
 rw [← hS6]
 have HL := hid (show S.length = 10 by rw [hS6]; rfl)
 have HC1 := hid (show S.toArray.all (·.oneCell') = true by rw [hS6]; exact SF3.out.one)
 have HSS := hid hS6
 have I2 := hid (show (Tryz.prog.info? 38).map (·.size) = some S.toArray.size by rw [List.size_toArray, HL.out]; exact I10.out)
 have ZN := hid (Bx.new w3 #[.int .i64 0, .int .i64 0, .int .i64 0, .slice none 0 0, .slice none 0 0, .slice none 0 0, .int .i64 0, .int .i64 0, .slice none 0 0, .int .i64 0] 38 rfl)
 have TH := hid (show (w3.alloc (.cells #[.int .i64 0, .int .i64 0, .int .i64 0, .slice none 0 0, .slice none 0 0, .slice none 0 0, .int .i64 0, .int .i64 0, .slice none 0 0, .int .i64 0] 38)).there w3.heap.size 0 S.toArray.size by rw [show S.toArray.size = 10 by rw [List.size_toArray]; exact HL.out]; exact ZN.out.there 0 10 (by simp))
 clear hS6
 go_upto_region 4 with (refine wpList_store_mid rfl 38 _ _ rfl w3.heap.size 0 S.toArray rfl rfl TH.out I2.out HC1.out ?_)
 refine late_genw (fun w4 hw4 => ?_)
 have hb4 : Below w3.heap.size w3 w4 := by rw [hw4]; exact Below.setCells _ (Nat.le_refl _) _ _ ((Below.refl _ _).alloc (Nat.le_refl _) _)
 have X64 := hid (show Bx w4 w3.heap.size S.toArray by rw [hw4]; exact ZN.out.setAll S (by rw [HL.out]; simp))
 have HX4 := hid (Bx.below hb4 HX3.out.f.lt HX3.out)
 have HZ4 := hid (Bx.below hb4 HZ3.out.f.lt HZ3.out)
 have HB4 := hid (HB3.out.trans (hb4.mono HB3.out.size))
 have SF4 := hid (SF3.out.keep fun b hb => hb4.block b (SF3.out.lts b hb).2)
 have LB4 := hid (fun b hb => show b < w3.heap.size from (SF3.out.lts b hb).2)
 obtain ⟨B6, hB6⟩ : ∃ B6, B6 = w3.heap.size := ⟨_, rfl⟩
 rw [← hB6] at X64 LB4 SZ3
 rw [← hB6]
 have SZ6 := SZ3
 clear hw4 hb4 HX3 HZ3 HB3 SF3 TH ZN hB6
 have LBE := hid (fun b (hb : b ∈ BE) => show b < B6 from LB4.out b (.inr hb))
 go_wp2_with (first | (refine wpList_load_mid rfl 38 _ rfl w.heap.size 0 rfl cs _ HX4.out.all Tryz.underlying38 rfl I0.out ?_))
 refine (s_NextNum (grow H0.out HB4.out)).mono ?_
 rintro e w5 ⟨rfl, hb5⟩
 have X65 := hid (Bx.below hb5 X64.out.f.lt X64.out)
 have HX5 := hid (Bx.below hb5 HX4.out.f.lt HX4.out)
 have HZ5 := hid (Bx.below hb5 HZ4.out.f.lt HZ4.out)
 have HB5 := hid (HB4.out.trans (hb5.mono HB4.out.size))
 have SF5 := hid (SF4.out.keep fun b hb => hb5.block b (SF4.out.lts b hb).2)
 clear hb5 X64 HX4 HZ4 HB4 SF4
 obtain ⟨nn, hnn⟩ : ∃ nn, nn = nextNum s.Ents := ⟨_, rfl⟩
 have HNR := hid (show 1 ≤ nn ∧ nn ≤ 1000000001 from by
  rw [hnn]
  have := HOK.out
  unfold storeOk at this
  simp only [Bool.and_eq_true] at this
  exact nextNum_range this.2.2.1)
 rw [← hnn] at ED0 ⊢
 clear hnn
 obtain ⟨en, hen⟩ : ∃ en : EntryD, en = ⟨nn, t⟩ := ⟨_, rfl⟩
 rw [← hen] at ED0
 have PE := hid (fun V : World => show Rep.pt V [] [.int .i64 nn, .string t] en by rw [hen]; exact mk_Entry (d := ⟨nn, t⟩) (by have := HNR.out; simp [I64]; omega) HTL.out)
 clear hen
 go_upto_region 5 with fail
 refine late_genw (fun w6 hw6 => ?_)
 have hb6 : Below w5.heap.size w5 w6 := by rw [hw6]; exact (Below.refl _ _).alloc (Nat.le_refl _) _
 have XE6 := hid (show Bx w6 w5.heap.size #[.int .i64 nn, .string t] by rw [hw6]; exact Bx.new _ _ _ rfl)
 have X66 := hid (Bx.below hb6 X65.out.f.lt X65.out)
 have HX6 := hid (Bx.below hb6 HX5.out.f.lt HX5.out)
 have HZ6 := hid (Bx.below hb6 HZ5.out.f.lt HZ5.out)
 have HB6 := hid (HB5.out.trans (hb6.mono HB5.out.size))
 have SF6 := hid (SF5.out.keep fun b hb => hb6.block b (SF5.out.lts b hb).2)
 have L56 := hid (show B6 < w5.heap.size from X65.out.f.lt)
 obtain ⟨B7, hB7⟩ : ∃ B7, B7 = w5.heap.size := ⟨_, rfl⟩
 rw [← hB7] at XE6 L56
 rw [← hB7]
 clear hw6 hb6 X65 HX5 HZ5 HB5 SF5 hB7
 have e6 := XE6.out.out
 go_wp2_with fail
 refine (s_FrameBytes (PE.out _)).mono ?_
 rintro e w7 ⟨vb, bb, rfl, hOb, hb7⟩
 have XE7 := hid (Bx.below hb7 XE6.out.f.lt XE6.out)
 have X67 := hid (Bx.below hb7 X66.out.f.lt X66.out)
 have HX7 := hid (Bx.below hb7 HX6.out.f.lt HX6.out)
 have HZ7 := hid (Bx.below hb7 HZ6.out.f.lt HZ6.out)
 have HB7 := hid (HB6.out.trans (hb7.mono HB6.out.size))
 have SF7 := hid (SF6.out.keep fun b hb => hb7.block b (SF6.out.lts b hb).2)
 have OB := hid (show OwnL w6.heap.size w7 5 vb bb (frameL en) from hOb)
 have LOB := hid (show B6 < w6.heap.size from X66.out.f.lt)
 obtain ⟨pb, kb, rfl⟩ := hOb.slice
 clear hOb hb7 XE6 X66 HX6 HZ6 HB6 SF6 e6
 cases hen : entryOk en
 ·have ED := hid (show addS s t = (s, 3) by rw [ED0.out, hen]; rfl)
  clear hen
  obtain ⟨R, hR⟩ : ∃ R : List Value, R = S := ⟨_, rfl⟩
  have X6R := hid (show Bx w7 B6 R.toArray by rw [hR]; exact X67.out)
  have HL := hid (show R.length = 10 by rw [hR]; exact HL.out)
  have HC1 := hid (show R.toArray.all (·.oneCell') = true by rw [hR, HSS.out]; exact SF7.out.one)
  have HR := hid hR
  have I1 := hid (show (Tryz.prog.info? 38).map (·.size) = some R.length by rw [HL.out]; exact I10.out)
  have I2 := hid (show (Tryz.prog.info? 38).map (·.size) = some R.toArray.size by rw [List.size_toArray, HL.out]; exact I10.out)
  have TH := hid (show w7.there (w.heap.size + 1) 0 R.toArray.size by rw [show R.toArray.size = 10 by rw [List.size_toArray]; exact HL.out]; exact HZ7.out.there 0 10 (by simp))
  clear hR
  as_aux_lemma =>
   go_wp2_with (first | (refine wpList_load_mid rfl 38 _ rfl B6 0 rfl R _ X6R.out.all Tryz.underlying38 rfl I1.out ?_) | (refine wpList_store_mid rfl 38 _ _ rfl (w.heap.size + 1) 0 R.toArray rfl rfl TH.out I2.out HC1.out ?_))
   have X13 := hid (show Bx (w7.setCells (w.heap.size + 1) 0 R) (w.heap.size + 1) R.toArray from HZ7.out.setAll R (by rw [HL.out]; simp))
   refine bodyPost_ret (results_mid_tmp Tryz.results6 rfl R X13.out.all Tryz.underlying38 rfl I1.out) rfl ?_
   rw [ED.out]
   refine ⟨_, _, _, _, B3, B4, B5, BE, by rw [HR.out, HSS.out]; rfl, (SF7.out.mono (Nat.le_add_right _ _)).keep (fun b hb => setCells_heap _ _ _ _ _ ?_), Below.setCells _ (Nat.le_add_right _ _) _ _ HB7.out⟩
   have := SF7.out.lts b hb
   omega
 have HEN := hid hen
 clear hen
 have ED1 := hid (show addS s t = addR s en by rw [ED0.out, HEN.out]; rfl)
 have hfl : frameL en = frameB en := by unfold frameL; rw [if_pos HEN.out]
 have FLE := hid (frameB_le HEN.out)
 rw [hfl] at OB ⊢
 have DF7 := hid SF7.out.d
 have OE7 := hid SF7.out.e
 have X67s := hid (show Bx w7 B6 (dskC s.Disk v3 v4 v5 ++ stoT s vE).toArray by rw [← HSS.out]; exact X67.out)
 obtain ⟨fb, hfb⟩ : ∃ fb, fb = frameB en := ⟨_, rfl⟩
 rw [← hfb] at OB FLE ⊢
 have HFB := hid hfb
 clear hfl hfb
 obtain ⟨bbs, _, sb⟩ := OB.out.slcL
 have SB := hid sb
 clear sb
 go_wp2_with fail
 obtain ⟨bPa, hPa, _⟩ := DF7.out.own
 have PPa := hid (show Rep.pt w7 bPa (dskC s.Disk v3 v4 v5) s.Disk from hPa.1)
 clear hPa
 refine (s_l06Put X67s.out PPa.out HS.out (show hist.size ≤ maxLen by decide) (by decide) SB.out (by have := FLE.out; omega)).mono ?_
 rintro e Wa ⟨u3a, u4a, u5a, C3a, C4a, C5a, rfl, hX, hDF, hT⟩
 obtain ⟨ra, hra⟩ : ∃ r, r = diskDo s.Disk 2 hist emp 0 fb := ⟨_, rfl⟩
 rw [← hra] at hX hDF ⊢
 have HRa := hid hra
 clear hra
 have X6a := hid hX
 have DFa := hid hDF
 have SMa := hid (show Small ra.1 by rw [HRa.out]; exact small_do HS.out (by have := FLE.out; omega))
 have HXa := hid (bx_tchN HX7.out hT (by have := SZ6.out; simp; omega))
 have HZa := hid (bx_tchN HZ7.out hT (by have := SZ6.out; simp; omega))
 have OEa := hid (OE7.out.tch hT (fun b hb hm => by have := LBE.out b hb; simp at hm; omega))
 have XEa := hid (bx_tchN XE7.out hT (by have := L56.out; simp; omega))
 have OBa := hid (OB.out.tch hT (fun b hb hm => by have := (OB.out.lts b hb).1; have := LOB.out; simp at hm; omega))
 have HBa := hid (HB7.out.trans (hT.below HB7.out.size (fun x hx => by have := SZ6.out; simp at hx; omega)))
 have LWa := hid (show B6 < w7.heap.size from X67.out.f.lt)
 obtain ⟨ca, hca⟩ : ∃ c, c = ra.2 := ⟨_, rfl⟩
 rw [← hca]
 have HCa := hid hca
 clear hX hDF hT hca
 by_cases h5 : ca = 5
 ·have x9 := bx_at HXa.out 9 HXC.out
  have H5 := hid (show ra.2 = 5 by rw [← HCa.out]; exact h5)
  subst h5
  go_wp2_with fail
  obtain ⟨bPb, hPb, _⟩ := DFa.out.own
  have PPb := hid (show Rep.pt Wa bPb (dskC ra.1 u3a u4a u5a) ra.1 from hPb.1)
  clear hPb
  refine (s_l06Cut X6a.out PPb.out SMa.out J9.out).mono ?_
  rintro e Wb ⟨u3b, u4b, u5b, C3b, C4b, C5b, rfl, hX, hDF, hT⟩
  obtain ⟨rb, hrb⟩ : ∃ r, r = diskDo ra.1 4 hist emp s.Len [] := ⟨_, rfl⟩
  rw [← hrb] at hX hDF ⊢
  have HRb := hid hrb
  clear hrb
  have X6b := hid hX
  have DFb := hid hDF
  have SMb := hid (show Small rb.1 by rw [HRb.out]; exact small_do SMa.out (by simp))
  have HXb := hid (bx_tchN HXa.out hT (by have := SZ6.out; simp; omega))
  have HZb := hid (bx_tchN HZa.out hT (by have := SZ6.out; simp; omega))
  have OEb := hid (OEa.out.tch hT (fun b hb hm => by have := LBE.out b hb; simp at hm; omega))
  have XEb := hid (bx_tchN XEa.out hT (by have := L56.out; simp; omega))
  have OBb := hid (OBa.out.tch hT (fun b hb hm => by have := (OBa.out.lts b hb).1; have := LOB.out; simp at hm; omega))
  have HBb := hid (HBa.out.trans (hT.below HBa.out.size (fun x hx => by have := SZ6.out; simp at hx; omega)))
  have LWb := hid (show B6 < Wa.heap.size from X6a.out.f.lt)
  obtain ⟨cb, hcb⟩ : ∃ c, c = rb.2 := ⟨_, rfl⟩
  rw [← hcb]
  have HCb := hid hcb
  clear hX hDF hT hcb
  by_cases h0 : cb = 0
  ·have H0b := hid (show rb.2 = 0 by rw [← HCb.out]; exact h0)
   subst h0
   go_wp2_with fail
   obtain ⟨bPc, hPc, _⟩ := DFb.out.own
   have PPc := hid (show Rep.pt Wb bPc (dskC rb.1 u3b u4b u5b) rb.1 from hPc.1)
   clear hPc
   refine (s_l06DoE (kd := 3) (nm := hist) X6b.out PPc.out SMb.out (by decide) ⟨by simp, by decide, by decide, fun _ => by decide, fun h => absurd h (by decide), fun _ => emp_nil, fun h => absurd h (by decide), fun _ => rfl, fun _ => rfl⟩).mono ?_
   rintro e Wc ⟨u3c, u4c, u5c, C3c, C4c, C5c, rfl, hX, hDF, hT⟩
   obtain ⟨rc, hrc⟩ : ∃ r, r = diskDo rb.1 3 hist emp 0 [] := ⟨_, rfl⟩
   rw [← hrc] at hX hDF ⊢
   have HRc := hid hrc
   clear hrc
   have X6c := hid hX
   have DFc := hid hDF
   have SMc := hid (show Small rc.1 by rw [HRc.out]; exact small_do SMb.out (by simp))
   have HXc := hid (bx_tchN HXb.out hT (by have := SZ6.out; simp; omega))
   have HZc := hid (bx_tchN HZb.out hT (by have := SZ6.out; simp; omega))
   have OEc := hid (OEb.out.tch hT (fun b hb hm => by have := LBE.out b hb; simp at hm; omega))
   have XEc := hid (bx_tchN XEb.out hT (by have := L56.out; simp; omega))
   have OBc := hid (OBb.out.tch hT (fun b hb hm => by have := (OBb.out.lts b hb).1; have := LOB.out; simp at hm; omega))
   have HBc := hid (HBb.out.trans (hT.below HBb.out.size (fun x hx => by have := SZ6.out; simp at hx; omega)))
   have LWc := hid (show B6 < Wb.heap.size from X6b.out.f.lt)
   obtain ⟨cc, hcc⟩ : ∃ c, c = rc.2 := ⟨_, rfl⟩
   rw [← hcc]
   have HCc := hid hcc
   clear hX hDF hT hcc
   by_cases h00 : cc = 0
   ·have ED := hid (show addS s t = (withD s rc.1, 5) by
     rw [ED1.out]; unfold addR; simp only
     rw [← HFB.out, ← HRa.out, if_pos H5.out, ← HRb.out, if_pos H0b.out, ← HRc.out, ← HCc.out, if_pos h00])
    subst h00
    have SFz := hid (show StoreF 104 127 106 5 53 (w.heap.size + 2) Wc (withD s rc.1) u3c u4c u5c vE C3c C4c C5c BE from
     ⟨DFc.out.mono (by have := SZ6.out; have := LWc.out; omega), OEc.out, J6.out, J7.out, J9.out, fun b hb h2 => by have h3 := (DFc.out.lts b hb).1; have := LBE.out b h2; have := LWc.out; omega⟩)
    obtain ⟨R, hR⟩ : ∃ R : List Value, R = dskC rc.1 u3c u4c u5c ++ stoT s vE := ⟨_, rfl⟩
    have X6R := hid (show Bx Wc B6 R.toArray by rw [hR]; exact X6c.out)
    have HL := hid (show R.length = 10 by rw [hR]; rfl)
    have HC1 := hid (show R.toArray.all (·.oneCell') = true by rw [hR]; exact SFz.out.one)
    have HR := hid hR
    have I1 := hid (show (Tryz.prog.info? 38).map (·.size) = some R.length by rw [HL.out]; exact I10.out)
    have I2 := hid (show (Tryz.prog.info? 38).map (·.size) = some R.toArray.size by rw [List.size_toArray, HL.out]; exact I10.out)
    have TH := hid (show Wc.there (w.heap.size + 1) 0 R.toArray.size by rw [show R.toArray.size = 10 by rw [List.size_toArray]; exact HL.out]; exact HZc.out.there 0 10 (by simp))
    clear hR
    as_aux_lemma =>
     go_wp2_with (first | (refine wpList_load_mid rfl 38 _ rfl B6 0 rfl R _ X6R.out.all Tryz.underlying38 rfl I1.out ?_) | (refine wpList_store_mid rfl 38 _ _ rfl (w.heap.size + 1) 0 R.toArray rfl rfl TH.out I2.out HC1.out ?_))
     have X13 := hid (show Bx (Wc.setCells (w.heap.size + 1) 0 R) (w.heap.size + 1) R.toArray from HZc.out.setAll R (by rw [HL.out]; simp))
     refine bodyPost_ret (results_mid_tmp Tryz.results6 rfl R X13.out.all Tryz.underlying38 rfl I1.out) rfl ?_
     rw [ED.out]
     refine ⟨_, _, _, _, C3c, C4c, C5c, BE, by rw [HR.out]; rfl, (SFz.out.mono (Nat.le_add_right _ _)).keep (fun b hb => setCells_heap _ _ _ _ _ ?_), Below.setCells _ (Nat.le_add_right _ _) _ _ HBc.out⟩
     have := SFz.out.lts b hb
     omega
   ·have ED := hid (show addS s t = (withD s rc.1, cc) by
     rw [ED1.out]; unfold addR; simp only
     rw [← HFB.out, ← HRa.out, if_pos H5.out, ← HRb.out, if_pos H0b.out, ← HRc.out, ← HCc.out, if_neg h00])
    have SFz := hid (show StoreF 104 127 106 5 53 (w.heap.size + 2) Wc (withD s rc.1) u3c u4c u5c vE C3c C4c C5c BE from
     ⟨DFc.out.mono (by have := SZ6.out; have := LWc.out; omega), OEc.out, J6.out, J7.out, J9.out, fun b hb h2 => by have h3 := (DFc.out.lts b hb).1; have := LBE.out b h2; have := LWc.out; omega⟩)
    obtain ⟨R, hR⟩ : ∃ R : List Value, R = dskC rc.1 u3c u4c u5c ++ stoT s vE := ⟨_, rfl⟩
    have X6R := hid (show Bx Wc B6 R.toArray by rw [hR]; exact X6c.out)
    have HL := hid (show R.length = 10 by rw [hR]; rfl)
    have HC1 := hid (show R.toArray.all (·.oneCell') = true by rw [hR]; exact SFz.out.one)
    have HR := hid hR
    have I1 := hid (show (Tryz.prog.info? 38).map (·.size) = some R.length by rw [HL.out]; exact I10.out)
    have I2 := hid (show (Tryz.prog.info? 38).map (·.size) = some R.toArray.size by rw [List.size_toArray, HL.out]; exact I10.out)
    have TH := hid (show Wc.there (w.heap.size + 1) 0 R.toArray.size by rw [show R.toArray.size = 10 by rw [List.size_toArray]; exact HL.out]; exact HZc.out.there 0 10 (by simp))
    clear hR
    as_aux_lemma =>
     go_wp2_with (first | (refine wpList_load_mid rfl 38 _ rfl B6 0 rfl R _ X6R.out.all Tryz.underlying38 rfl I1.out ?_) | (refine wpList_store_mid rfl 38 _ _ rfl (w.heap.size + 1) 0 R.toArray rfl rfl TH.out I2.out HC1.out ?_))
     have X13 := hid (show Bx (Wc.setCells (w.heap.size + 1) 0 R) (w.heap.size + 1) R.toArray from HZc.out.setAll R (by rw [HL.out]; simp))
     refine bodyPost_ret (results_mid_tmp Tryz.results6 rfl R X13.out.all Tryz.underlying38 rfl I1.out) rfl ?_
     rw [ED.out]
     refine ⟨_, _, _, _, C3c, C4c, C5c, BE, by rw [HR.out]; rfl, (SFz.out.mono (Nat.le_add_right _ _)).keep (fun b hb => setCells_heap _ _ _ _ _ ?_), Below.setCells _ (Nat.le_add_right _ _) _ _ HBc.out⟩
     have := SFz.out.lts b hb
     omega
  ·have ED := hid (show addS s t = (withD s rb.1, cb) by
    rw [ED1.out]; unfold addR; simp only
    rw [← HFB.out, ← HRa.out, if_pos H5.out, ← HRb.out, ← HCb.out, if_neg h0])
   have SFz := hid (show StoreF 104 127 106 5 53 (w.heap.size + 2) Wb (withD s rb.1) u3b u4b u5b vE C3b C4b C5b BE from
    ⟨DFb.out.mono (by have := SZ6.out; have := LWb.out; omega), OEb.out, J6.out, J7.out, J9.out, fun b hb h2 => by have h3 := (DFb.out.lts b hb).1; have := LBE.out b h2; have := LWb.out; omega⟩)
   obtain ⟨R, hR⟩ : ∃ R : List Value, R = dskC rb.1 u3b u4b u5b ++ stoT s vE := ⟨_, rfl⟩
   have X6R := hid (show Bx Wb B6 R.toArray by rw [hR]; exact X6b.out)
   have HL := hid (show R.length = 10 by rw [hR]; rfl)
   have HC1 := hid (show R.toArray.all (·.oneCell') = true by rw [hR]; exact SFz.out.one)
   have HR := hid hR
   have I1 := hid (show (Tryz.prog.info? 38).map (·.size) = some R.length by rw [HL.out]; exact I10.out)
   have I2 := hid (show (Tryz.prog.info? 38).map (·.size) = some R.toArray.size by rw [List.size_toArray, HL.out]; exact I10.out)
   have TH := hid (show Wb.there (w.heap.size + 1) 0 R.toArray.size by rw [show R.toArray.size = 10 by rw [List.size_toArray]; exact HL.out]; exact HZb.out.there 0 10 (by simp))
   clear hR
   as_aux_lemma =>
    go_wp2_with (first | (refine wpList_load_mid rfl 38 _ rfl B6 0 rfl R _ X6R.out.all Tryz.underlying38 rfl I1.out ?_) | (refine wpList_store_mid rfl 38 _ _ rfl (w.heap.size + 1) 0 R.toArray rfl rfl TH.out I2.out HC1.out ?_))
    have X13 := hid (show Bx (Wb.setCells (w.heap.size + 1) 0 R) (w.heap.size + 1) R.toArray from HZb.out.setAll R (by rw [HL.out]; simp))
    refine bodyPost_ret (results_mid_tmp Tryz.results6 rfl R X13.out.all Tryz.underlying38 rfl I1.out) rfl ?_
    rw [ED.out]
    refine ⟨_, _, _, _, C3b, C4b, C5b, BE, by rw [HR.out]; rfl, (SFz.out.mono (Nat.le_add_right _ _)).keep (fun b hb => setCells_heap _ _ _ _ _ ?_), Below.setCells _ (Nat.le_add_right _ _) _ _ HBb.out⟩
    have := SFz.out.lts b hb
    omega
 by_cases h0 : ca = 0
 ·have N5 := hid (show ¬ ra.2 = 5 by rw [← HCa.out]; exact h5)
  have H0a := hid (show ra.2 = 0 by rw [← HCa.out]; exact h0)
  clear h5
  subst h0
  go_wp2_with fail
  obtain ⟨bPb, hPb, _⟩ := DFa.out.own
  have PPb := hid (show Rep.pt Wa bPb (dskC ra.1 u3a u4a u5a) ra.1 from hPb.1)
  clear hPb
  refine (s_l06DoE (kd := 3) (nm := hist) X6a.out PPb.out SMa.out (by decide) ⟨by simp, by decide, by decide, fun _ => by decide, fun h => absurd h (by decide), fun _ => emp_nil, fun h => absurd h (by decide), fun _ => rfl, fun _ => rfl⟩).mono ?_
  rintro e Wb ⟨u3b, u4b, u5b, C3b, C4b, C5b, rfl, hX, hDF, hT⟩
  obtain ⟨rb, hrb⟩ : ∃ r, r = diskDo ra.1 3 hist emp 0 [] := ⟨_, rfl⟩
  rw [← hrb] at hX hDF ⊢
  have HRb := hid hrb
  clear hrb
  have X6b := hid hX
  have DFb := hid hDF
  have SMb := hid (show Small rb.1 by rw [HRb.out]; exact small_do SMa.out (by simp))
  have HXb := hid (bx_tchN HXa.out hT (by have := SZ6.out; simp; omega))
  have HZb := hid (bx_tchN HZa.out hT (by have := SZ6.out; simp; omega))
  have OEb := hid (OEa.out.tch hT (fun b hb hm => by have := LBE.out b hb; simp at hm; omega))
  have XEb := hid (bx_tchN XEa.out hT (by have := L56.out; simp; omega))
  have OBb := hid (OBa.out.tch hT (fun b hb hm => by have := (OBa.out.lts b hb).1; have := LOB.out; simp at hm; omega))
  have HBb := hid (HBa.out.trans (hT.below HBa.out.size (fun x hx => by have := SZ6.out; simp at hx; omega)))
  have LWb := hid (show B6 < Wa.heap.size from X6a.out.f.lt)
  obtain ⟨cb, hcb⟩ : ∃ c, c = rb.2 := ⟨_, rfl⟩
  rw [← hcb]
  have HCb := hid hcb
  clear hX hDF hT hcb
  by_cases h00 : cb = 0
  ·have ED := hid (show addS s t = ({ s with Disk := rb.1, Ents := s.Ents ++ [en], Len := s.Len + (fb.length : Int) }, 0) by
    rw [ED1.out]; unfold addR; simp only
    rw [← HFB.out, ← HRa.out, if_neg N5.out, if_pos H0a.out, ← HRb.out, ← HCb.out, if_pos h00])
   subst h00
   have hfz := do_fuse (show (diskDo s.Disk 2 hist emp 0 fb).2 = 0 by rw [← HRa.out]; exact H0a.out)
   have HLN := hid (len_small HOK.out hfz.2)
   clear hfz
   obtain ⟨aE, cE, hvE⟩ := OEb.out.slice
   subst hvE
   have x8 : Wb.cell? ⟨B6, 8, none⟩ = some (.slice aE s.Ents.length cE) := bx_at X6b.out 8 rfl
   have f6 := X6b.out.fr
   have e0 := XEb.out.out
   have lt6 := X6b.out.f.lt
   have PEN := hid (PE.out)
   go_wp2_with (at_builtin; refine wp_append rfl _ _ 36 rfl 53 i0 (.agg #[.int .i64 0, .string ByteArray.empty]) 24 Tryz.underlying36 hi hz0 hz1 hz2 rfl (lo := w.heap.size + 2) (bs := BE) (xs := s.Ents) rfl (OEb.out.alloc _) (b2 := []) (ys := [en]) rfl ?esrc List.nodup_nil (fun b hb => by cases hb) ?ea ?eb ?ec ?_)
   case esrc => exact src_new (PE.out _) (by simp) _ _
   try (case ea => have := HN.out; simp; omega)
   try (case eb => have := HN.out; simp; omega)
   try (case ec => have := SZ6.out; simp; omega)
   intro pN cN wN bN hON hTN hmN
   have ON := hid hON
   have kN := hid (fun k (hk : k < Wb.heap.size) (hn : k ∉ BE) => show wN.heap[k]? = Wb.heap[k]? from (hTN.block k (by simp; omega) hn).trans (Below.heap_alloc _ _ _ hk))
   have BNN := hid (HBb.out.trans ((((Below.refl Wb.heap.size Wb).alloc (Nat.le_refl _) (.cells #[.int .i64 nn, .string t] 53)).mono HBb.out.size).trans (hTN.below (by have := HBb.out.size; simp; omega) (fun x hx => by have := (OEb.out.lts x hx).1; omega))))
   have MN := hid (fun b (hb : b ∈ bN) => show b ∈ BE ∨ Wb.heap.size < b from by have h3 := hmN b hb; (try simp at h3); rcases h3 with h3 | h3; exact .inl h3; exact .inr (by omega))
   clear hON hTN hmN x8 f6 e0
   have X6N := hid (X6b.out.keep (kN.out _ X6b.out.f.lt (fun hm => by have := LBE.out _ hm; omega)))
   have HXN := hid (HXb.out.keep (kN.out _ HXb.out.f.lt (fun hm => by have := (OEb.out.lts _ hm).1; omega)))
   have HZN := hid (HZb.out.keep (kN.out _ HZb.out.f.lt (fun hm => by have := (OEb.out.lts _ hm).1; omega)))
   have x6 := X6N.out.out; have f6 := X6N.out.fr
   have x9 := bx_at HXN.out 9 HXC.out
   have hw9 : wrap64 (s.Len + (fb.length : Int)) = s.Len + (fb.length : Int) := IntWalk.wrap64_in _ (by have := HLN.out; have := FLE.out; omega)
   have n60 : w.heap.size ≠ B6 := by have := SZ6.out; omega
   go_upto_region 21 with fail
   refine late_genw (fun wD hwD => ?_)
   have kD : ∀ k, k ≠ B6 → wD.heap[k]? = wN.heap[k]? := fun k hk => by rw [hwD]; exact (Below.heap_setCell _ _ _ _ hk).trans (Below.heap_setCell _ _ _ _ hk)
   have X6D := hid (show Bx wD B6 (dskC rb.1 u3b u4b u5b ++ stoT { s with Disk := rb.1, Ents := s.Ents ++ [en], Len := s.Len + (fb.length : Int) } (.slice pN (s.Ents.length + 1) cN)).toArray by rw [hwD]; exact (X6N.out.setSame 8 _).setSame 9 _)
   have HZD := hid (HZN.out.keep (kD _ (by have := SZ6.out; omega)))
   have BDD := hid (show Below w.heap.size w wD by rw [hwD]; exact (BNN.out.setCell (show w.heap.size ≤ B6 by have := SZ6.out; omega) _).setCell (show w.heap.size ≤ B6 by have := SZ6.out; omega) _)
   have SFz := hid (show StoreF 104 127 106 5 53 (w.heap.size + 2) wD { s with Disk := rb.1, Ents := s.Ents ++ [en], Len := s.Len + (fb.length : Int) } u3b u4b u5b (.slice pN (s.Ents.length + 1) cN) C3b C4b C5b bN from
    ⟨(DFb.out.mono (by have := SZ6.out; have := LWb.out; omega)).keep (fun b hb => (kD b (by have := (DFb.out.lts b hb).1; have := LWb.out; omega)).trans (kN.out b (DFb.out.lts b hb).2 (fun hm => by have := LBE.out b hm; have := (DFb.out.lts b hb).1; have := LWb.out; omega))),
     ON.out.keep (fun b hb => kD b (fun e => by
      subst e
      rcases MN.out _ hb with h9 | h9
      ·have := LBE.out _ h9; omega
      ·omega)), J6.out, J7.out, (by have := HLN.out; have := FLE.out; unfold I64; show _ ≤ s.Len + (fb.length : Int) ∧ s.Len + (fb.length : Int) ≤ _; omega),
     fun b hb h2 => by
      have h8 := DFb.out.lts b hb
      have h7 := LWb.out
      rcases MN.out b h2 with h9 | h9
      ·have := LBE.out b h9; omega
      ·omega⟩)
   clear hwD kD x6 f6 x9 hw9 n60 lt6
   obtain ⟨R, hR⟩ : ∃ R : List Value, R = dskC rb.1 u3b u4b u5b ++ stoT { s with Disk := rb.1, Ents := s.Ents ++ [en], Len := s.Len + (fb.length : Int) } (.slice pN (s.Ents.length + 1) cN) := ⟨_, rfl⟩
   have X6R := hid (show Bx wD B6 R.toArray by rw [hR]; exact X6D.out)
   have HL := hid (show R.length = 10 by rw [hR]; rfl)
   have HC1 := hid (show R.toArray.all (·.oneCell') = true by rw [hR]; exact SFz.out.one)
   have HR := hid hR
   have I1 := hid (show (Tryz.prog.info? 38).map (·.size) = some R.length by rw [HL.out]; exact I10.out)
   have I2 := hid (show (Tryz.prog.info? 38).map (·.size) = some R.toArray.size by rw [List.size_toArray, HL.out]; exact I10.out)
   have TH := hid (show wD.there (w.heap.size + 1) 0 R.toArray.size by rw [show R.toArray.size = 10 by rw [List.size_toArray]; exact HL.out]; exact HZD.out.there 0 10 (by simp))
   clear hR
   as_aux_lemma =>
    go_wp2_with (first | (refine wpList_load_mid rfl 38 _ rfl B6 0 rfl R _ X6R.out.all Tryz.underlying38 rfl I1.out ?_) | (refine wpList_store_mid rfl 38 _ _ rfl (w.heap.size + 1) 0 R.toArray rfl rfl TH.out I2.out HC1.out ?_))
    have X13 := hid (show Bx (wD.setCells (w.heap.size + 1) 0 R) (w.heap.size + 1) R.toArray from HZD.out.setAll R (by rw [HL.out]; simp))
    refine bodyPost_ret (results_mid_tmp Tryz.results6 rfl R X13.out.all Tryz.underlying38 rfl I1.out) rfl ?_
    rw [ED.out]
    refine ⟨_, _, _, _, C3b, C4b, C5b, bN, by rw [HR.out]; rfl, (SFz.out.mono (Nat.le_add_right _ _)).keep (fun b hb => setCells_heap _ _ _ _ _ ?_), Below.setCells _ (Nat.le_add_right _ _) _ _ BDD.out⟩
    have := SFz.out.lts b hb
    omega
  ·have ED := hid (show addS s t = (withD s rb.1, cb) by
    rw [ED1.out]; unfold addR; simp only
    rw [← HFB.out, ← HRa.out, if_neg N5.out, if_pos H0a.out, ← HRb.out, ← HCb.out, if_neg h00])
   have SFz := hid (show StoreF 104 127 106 5 53 (w.heap.size + 2) Wb (withD s rb.1) u3b u4b u5b vE C3b C4b C5b BE from
    ⟨DFb.out.mono (by have := SZ6.out; have := LWb.out; omega), OEb.out, J6.out, J7.out, J9.out, fun b hb h2 => by have h3 := (DFb.out.lts b hb).1; have := LBE.out b h2; have := LWb.out; omega⟩)
   obtain ⟨R, hR⟩ : ∃ R : List Value, R = dskC rb.1 u3b u4b u5b ++ stoT s vE := ⟨_, rfl⟩
   have X6R := hid (show Bx Wb B6 R.toArray by rw [hR]; exact X6b.out)
   have HL := hid (show R.length = 10 by rw [hR]; rfl)
   have HC1 := hid (show R.toArray.all (·.oneCell') = true by rw [hR]; exact SFz.out.one)
   have HR := hid hR
   have I1 := hid (show (Tryz.prog.info? 38).map (·.size) = some R.length by rw [HL.out]; exact I10.out)
   have I2 := hid (show (Tryz.prog.info? 38).map (·.size) = some R.toArray.size by rw [List.size_toArray, HL.out]; exact I10.out)
   have TH := hid (show Wb.there (w.heap.size + 1) 0 R.toArray.size by rw [show R.toArray.size = 10 by rw [List.size_toArray]; exact HL.out]; exact HZb.out.there 0 10 (by simp))
   clear hR
   as_aux_lemma =>
    go_wp2_with (first | (refine wpList_load_mid rfl 38 _ rfl B6 0 rfl R _ X6R.out.all Tryz.underlying38 rfl I1.out ?_) | (refine wpList_store_mid rfl 38 _ _ rfl (w.heap.size + 1) 0 R.toArray rfl rfl TH.out I2.out HC1.out ?_))
    have X13 := hid (show Bx (Wb.setCells (w.heap.size + 1) 0 R) (w.heap.size + 1) R.toArray from HZb.out.setAll R (by rw [HL.out]; simp))
    refine bodyPost_ret (results_mid_tmp Tryz.results6 rfl R X13.out.all Tryz.underlying38 rfl I1.out) rfl ?_
    rw [ED.out]
    refine ⟨_, _, _, _, C3b, C4b, C5b, BE, by rw [HR.out]; rfl, (SFz.out.mono (Nat.le_add_right _ _)).keep (fun b hb => setCells_heap _ _ _ _ _ ?_), Below.setCells _ (Nat.le_add_right _ _) _ _ HBb.out⟩
    have := SFz.out.lts b hb
    omega
 ·have ED := hid (show addS s t = (withD s ra.1, ca) by
   rw [ED1.out]; unfold addR; simp only
   rw [← HFB.out, ← HRa.out, ← HCa.out, if_neg h5, if_neg h0])
  have SFz := hid (show StoreF 104 127 106 5 53 (w.heap.size + 2) Wa (withD s ra.1) u3a u4a u5a vE C3a C4a C5a BE from
   ⟨DFa.out.mono (by have := SZ6.out; have := LWa.out; omega), OEa.out, J6.out, J7.out, J9.out, fun b hb h2 => by have h3 := (DFa.out.lts b hb).1; have := LBE.out b h2; have := LWa.out; omega⟩)
  obtain ⟨R, hR⟩ : ∃ R : List Value, R = dskC ra.1 u3a u4a u5a ++ stoT s vE := ⟨_, rfl⟩
  have X6R := hid (show Bx Wa B6 R.toArray by rw [hR]; exact X6a.out)
  have HL := hid (show R.length = 10 by rw [hR]; rfl)
  have HC1 := hid (show R.toArray.all (·.oneCell') = true by rw [hR]; exact SFz.out.one)
  have HR := hid hR
  have I1 := hid (show (Tryz.prog.info? 38).map (·.size) = some R.length by rw [HL.out]; exact I10.out)
  have I2 := hid (show (Tryz.prog.info? 38).map (·.size) = some R.toArray.size by rw [List.size_toArray, HL.out]; exact I10.out)
  have TH := hid (show Wa.there (w.heap.size + 1) 0 R.toArray.size by rw [show R.toArray.size = 10 by rw [List.size_toArray]; exact HL.out]; exact HZa.out.there 0 10 (by simp))
  clear hR
  as_aux_lemma =>
   go_wp2_with (first | (refine wpList_load_mid rfl 38 _ rfl B6 0 rfl R _ X6R.out.all Tryz.underlying38 rfl I1.out ?_) | (refine wpList_store_mid rfl 38 _ _ rfl (w.heap.size + 1) 0 R.toArray rfl rfl TH.out I2.out HC1.out ?_))
   have X13 := hid (show Bx (Wa.setCells (w.heap.size + 1) 0 R) (w.heap.size + 1) R.toArray from HZa.out.setAll R (by rw [HL.out]; simp))
   refine bodyPost_ret (results_mid_tmp Tryz.results6 rfl R X13.out.all Tryz.underlying38 rfl I1.out) rfl ?_
   rw [ED.out]
   refine ⟨_, _, _, _, C3a, C4a, C5a, BE, by rw [HR.out]; rfl, (SFz.out.mono (Nat.le_add_right _ _)).keep (fun b hb => setCells_heap _ _ _ _ _ ?_), Below.setCells _ (Nat.le_add_right _ _) _ _ HBa.out⟩
   have := SFz.out.lts b hb
   omega
end Go.Proofs.YtdjcjilipgpnmaaGreat
