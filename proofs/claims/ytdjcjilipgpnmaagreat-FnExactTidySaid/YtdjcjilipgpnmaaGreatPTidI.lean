/- A store is tidied, as the program does it (printed by gentidi.py). -/
import Derived.Test.YtdjcjilipgpnmaaGreatPDoerI
import Derived.Test.YtdjcjilipgpnmaaGreatKTidS
set_option linter.unusedSimpArgs false
set_option linter.unusedVariables false
namespace Go.G6
open Go Go.RowKit Rep
theorem doI_pos {r : DiskD × Int} {kd : Int} {nm tt : ByteArray} {sz : Int} {data : List UInt8} (h : r.2 = 0) : doI r kd nm tt sz data = diskDo r.1 kd nm tt sz data := by unfold doI; rw [if_pos h]
theorem doI_neg {r : DiskD × Int} {kd : Int} {nm tt : ByteArray} {sz : Int} {data : List UInt8} (h : r.2 ≠ 0) : doI r kd nm tt sz data = r := by unfold doI; rw [if_neg h]
theorem tidy5 {s : StoreD} {l : List EntryD} {ra rb rc rd re : DiskD × Int} (ha : ra = doI (s.Disk, 0) 7 emp emp 0 []) (hb : rb = doI ra 1 temp emp 0 []) (hc : rc = doI rb 2 temp emp 0 (logL l)) (hd : rd = doI (rc.1, 0) 6 temp emp 0 []) (he : re = doI rd 7 emp emp 0 []) (h5 : rc.2 = 5) :
  tidyR s l = (withD s re.1, if re.2 = 0 then 5 else re.2) := by
 rw [doI_pos rfl] at ha hd
 have a0 : ra.2 = 0 := by
  apply Classical.byContradiction
  intro h
  rw [doI_neg h] at hb
  subst hb
  rw [doI_neg h] at hc
  subst hc
  rw [ha] at h5
  exact do_five (by decide) h5
 rw [doI_pos a0] at hb
 have b0 : rb.2 = 0 := by
  apply Classical.byContradiction
  intro h
  rw [doI_neg h] at hc
  subst hc
  rw [hb] at h5
  exact do_five (by decide) h5
 rw [doI_pos b0] at hc
 unfold tidyR
 simp only
 simp only at ha hd
 rw [← ha, if_pos a0, ← hb, if_pos b0, ← hc, if_pos h5, ← hd]
 by_cases d0 : rd.2 = 0
 ·rw [doI_pos d0] at he
  rw [if_pos d0, ← he]
 ·rw [doI_neg d0] at he
  rw [if_neg d0, he, if_neg d0]
theorem tidy0 {s : StoreD} {l : List EntryD} {ra rb rc rd re rf : DiskD × Int} (ha : ra = doI (s.Disk, 0) 7 emp emp 0 []) (hb : rb = doI ra 1 temp emp 0 []) (hc : rc = doI rb 2 temp emp 0 (logL l)) (hd : rd = doI rc 3 temp emp 0 []) (he : re = doI rd 5 temp hist 0 []) (hf : rf = doI re 7 emp emp 0 []) (n5 : rc.2 ≠ 5) :
  tidyR s l = if rf.2 = 0 then ({ s with Disk := rf.1, Ents := l, Len := ((logL l).length : Int) }, 0) else (withD s rf.1, rf.2) := by
 rw [doI_pos rfl] at ha
 simp only at ha
 unfold tidyR
 simp only
 rw [← ha]
 by_cases a0 : ra.2 = 0
 ·rw [doI_pos a0] at hb
  rw [if_pos a0, ← hb]
  by_cases b0 : rb.2 = 0
  ·rw [doI_pos b0] at hc
   rw [if_pos b0, ← hc, if_neg n5]
   by_cases c0 : rc.2 = 0
   ·rw [doI_pos c0] at hd
    rw [if_pos c0, ← hd]
    by_cases d0 : rd.2 = 0
    ·rw [doI_pos d0] at he
     rw [if_pos d0, ← he]
     by_cases e0 : re.2 = 0
     ·rw [doI_pos e0] at hf
      rw [if_pos e0, ← hf]
     ·rw [doI_neg e0] at hf
      rw [if_neg e0, hf, if_neg e0]
    ·rw [doI_neg d0] at he
     subst he
     rw [doI_neg d0] at hf
     rw [if_neg d0, hf, if_neg d0]
   ·rw [doI_neg c0] at hd
    subst hd
    rw [doI_neg c0] at he
    subst he
    rw [doI_neg c0] at hf
    rw [if_neg c0, hf, if_neg c0]
  ·rw [doI_neg b0] at hc
   subst hc
   rw [doI_neg b0] at hd
   subst hd
   rw [doI_neg b0] at he
   subst he
   rw [doI_neg b0] at hf
   rw [if_neg b0, hf, if_neg b0]
 ·rw [doI_neg a0] at hb
  subst hb
  rw [doI_neg a0] at hc
  subst hc
  rw [doI_neg a0] at hd
  subst hd
  rw [doI_neg a0] at he
  subst he
  rw [doI_neg a0] at hf
  rw [if_neg a0, hf, if_neg a0]
end Go.G6
namespace Go.Proofs.YtdjcjilipgpnmaaGreat
open Go Go.RowKit Go.G6
set_option maxHeartbeats 8000000
set_option maxRecDepth 10000
theorem i_Tidy {w : World} {bs : List Nat} {cs : List Value} {s : StoreD} (h : Rep.pt w bs cs s) (hs : Small s.Disk) (hn : s.Ents.length ≤ 1048576) :
  Calls Tryz.prog 13 #[.agg cs.toArray] w (RetSI 104 127 106 5 53 w (tidyS s)) := by
 have hcl := Rep.len h
 have H0 := hid h; have HS := hid hs; have HN := hid hn
 have I10 := hid (show (Tryz.prog.info? 38).map (·.size) = some 10 by kernel_rfl)
 have I0 := hid (show (Tryz.prog.info? 38).map (·.size) = some cs.length by rw [show cs.length = 10 from hcl]; exact I10.out)
 obtain ⟨i0, hi, hz0, hz1, hz2⟩ := info_parts info_EntryF
 have J := hid (show I64 s.Keep ∧ I64 s.Size ∧ I64 s.Len by obtain ⟨_, _, _, _, _, _, _, _, i6, i7, _, i9, _⟩ := store_split h; exact ⟨i6, i7, i9⟩)
 have J6 := hid J.out.1; have J7 := hid J.out.2.1; have J9 := hid J.out.2.2
 have HXc : cs[9]? = some (.int .i64 s.Len) := by
  obtain ⟨_, _, R, _, _, _, hcs, hD, _⟩ := store_split h
  rw [hcs, List.getElem?_append_right (by rw [show R.length = 6 from Rep.len hD]; omega), show R.length = 6 from Rep.len hD]; rfl
 have HXC := hid HXc
 obtain ⟨bD, bEs, RD, aE, lE, kE, hcs, hD, _, _, hE, _, _⟩ := store_split h
 have hD6 : RD.length = 6 := Rep.len hD
 have HC6 := hid (show cs[6]? = some (.int .i64 s.Keep) by rw [hcs, List.getElem?_append_right (by omega), hD6]; rfl)
 have HC7 := hid (show cs[7]? = some (.int .i64 s.Size) by rw [hcs, List.getElem?_append_right (by omega), hD6]; rfl)
 have HC8 := hid (show cs[8]? = some (.slice aE lE kE) by rw [hcs, List.getElem?_append_right (by omega), hD6]; rfl)
 obtain rfl := hE.len_eq
 have HEs := hid hE
 clear hcs hD hE hD6
 have HX := hid (Bx.alloc (Bx.new w cs.toArray 38 rfl) (by simp) (.cells #[.int .i64 0, .int .i64 0, .int .i64 0, .slice none 0 0, .slice none 0 0, .slice none 0 0, .int .i64 0, .int .i64 0, .slice none 0 0, .int .i64 0] 38))
 have HZ := hid (Bx.new (w.alloc (.cells cs.toArray 38)) #[.int .i64 0, .int .i64 0, .int .i64 0, .slice none 0 0, .slice none 0 0, .slice none 0 0, .int .i64 0, .int .i64 0, .slice none 0 0, .int .i64 0] 38 (b := w.heap.size + 1) (by simp))
 have hb0 := hid (((Below.refl w.heap.size w).alloc (Nat.le_refl _) (.cells cs.toArray 38)).alloc (by simp) (.cells #[.int .i64 0, .int .i64 0, .int .i64 0, .slice none 0 0, .slice none 0 0, .slice none 0 0, .int .i64 0, .int .i64 0, .slice none 0 0, .int .i64 0] 38))
 obtain ⟨wA, hwA⟩ : ∃ wA, wA = (w.alloc (.cells cs.toArray 38)).alloc (.cells #[.int .i64 0, .int .i64 0, .int .i64 0, .slice none 0 0, .slice none 0 0, .slice none 0 0, .int .i64 0, .int .i64 0, .slice none 0 0, .int .i64 0] 38) := ⟨_, rfl⟩
 have SA := hid (show wA.heap.size = w.heap.size + 2 by rw [hwA]; simp)
 rw [← hwA] at hb0 HX HZ
 clear h hs hn hcl HXc
 go_enter Tryz.func13, Tryz.ntmps13
 go_upto_region 1 with fail
 rw [← hwA]
 clear hwA
 go_wp2_with (first | (refine wpList_load_mid rfl 38 _ rfl w.heap.size 0 rfl cs _ HX.out.all Tryz.underlying38 rfl I0.out ?_))
 refine (i_StoreOk (grow H0.out hb0.out) HS.out).mono ?_
 rintro e w1 ⟨rfl, hb1⟩
 have HX1 := hid (Bx.below hb1 HX.out.f.lt HX.out)
 have HZ1 := hid (Bx.below hb1 HZ.out.f.lt HZ.out)
 have HB1 := hid (hb0.out.trans (hb1.mono hb0.out.size))
 have SZ1 := hid (show w.heap.size + 2 ≤ w1.heap.size by have := SA.out; have := hb1.size; omega)
 clear hb1 HX HZ
 cases hok : storeOk s
 ·have ED := hid (show tidyS s = (zStore, 1) by unfold tidyS; rw [hok]; rfl)
  clear hok
  obtain ⟨R, hR⟩ : ∃ R : List Value, R = [Value.int .i64 0, .int .i64 0, .int .i64 0, .slice none 0 0, .slice none 0 0, .slice none 0 0, .int .i64 0, .int .i64 0, .slice none 0 0, .int .i64 0] := ⟨_, rfl⟩
  have HC1 := hid (show R.toArray.all (·.oneCell') = true by rw [hR]; simp [Value.oneCell'])
  have HL := hid (show R.length = 10 by rw [hR]; rfl)
  have HR := hid hR
  have I1 := hid (show (Tryz.prog.info? 38).map (·.size) = some R.length by rw [HL.out]; exact I10.out)
  have I2 := hid (show (Tryz.prog.info? 38).map (·.size) = some R.toArray.size by rw [List.size_toArray, HL.out]; exact I10.out)
  have TH2 := hid (show w1.there (w.heap.size + 1) 0 R.toArray.size by rw [show R.toArray.size = 10 by rw [List.size_toArray]; exact HL.out]; exact HZ1.out.there 0 10 (by simp))
  have hbu : Tryz.prog.built 38 [] = some R.toArray := by rw [hR]; kernel_rfl
  have HBU := hid hbu
  clear hR hbu
  as_aux_lemma =>
   go_wp2_with (first | (refine wpList_build_to rfl 38 _ rfl R.toArray [] rfl HBU.out ?_) | (refine wpList_store_mid rfl 38 _ _ rfl (w.heap.size + 1) 0 R.toArray rfl rfl TH2.out I2.out HC1.out ?_))
   have X13 := hid (show Bx (w1.setCells (w.heap.size + 1) 0 R) (w.heap.size + 1) R.toArray from HZ1.out.setAll R (by rw [HL.out]; simp))
   refine bodyPost_ret (results_mid_tmp Tryz.results13 rfl R X13.out.all Tryz.underlying38 rfl I1.out) rfl ?_
   rw [ED.out]
   exact ⟨_, _, _, _, [], [], [], [], by rw [HR.out]; rfl, ⟨⟨by simp [I64, zStore, zDisk], by simp [I64, zStore, zDisk], by simp [I64, zStore, zDisk], OwnL.nil _ _ _, OwnL.nil _ _ _, OwnL.nil _ _ _, by simp, by simp, by simp⟩, OwnL.nil _ _ _, by simp [I64, zStore], by simp [I64, zStore], by simp [I64, zStore], by simp⟩, Below.setCells _ (Nat.le_add_right _ _) _ _ HB1.out⟩
 have HOK := hid hok
 clear hok
 have KR := hid (show 1 ≤ s.Keep ∧ s.Keep ≤ 100 by
  have := HOK.out
  unfold storeOk rngKS at this
  simp only [Bool.and_eq_true, decide_eq_true_eq] at this
  omega)
 go_wp2_with (first | (refine wpList_load_mid rfl 38 _ rfl w.heap.size 0 rfl cs _ HX1.out.all Tryz.underlying38 rfl I0.out ?_))
 refine (i_copyStore (grow H0.out HB1.out) HS.out HN.out).mono ?_
 rintro e w3 ⟨v3, v4, v5, vE, B3, B4, B5, BE, rfl, hSF, hb3⟩
 have HX3 := hid (Bx.below hb3 HX1.out.f.lt HX1.out)
 have HZ3 := hid (Bx.below hb3 HZ1.out.f.lt HZ1.out)
 have HB3 := hid (HB1.out.trans (hb3.mono HB1.out.size))
 have SF3 := hid (hSF.mono SZ1.out)
 have SZ3 := hid (show w.heap.size + 2 ≤ w3.heap.size by have := SZ1.out; have := hb3.size; omega)
 clear hSF hb3 HX1 HZ1
 obtain ⟨S, hS6⟩ : ∃ S, S = dskC s.Disk v3 v4 v5 ++ stoT s vE := ⟨_, rfl⟩
 rw [← hS6]
 have HL := hid (show S.length = 10 by rw [hS6]; rfl)
 have HC1 := hid (show S.toArray.all (·.oneCell') = true by rw [hS6]; exact SF3.out.one)
 have HSS := hid hS6
 have I2 := hid (show (Tryz.prog.info? 38).map (·.size) = some S.toArray.size by rw [List.size_toArray, HL.out]; exact I10.out)
 have ZN := hid (Bx.new w3 #[.int .i64 0, .int .i64 0, .int .i64 0, .slice none 0 0, .slice none 0 0, .slice none 0 0, .int .i64 0, .int .i64 0, .slice none 0 0, .int .i64 0] 38 rfl)
 have TH := hid (show (w3.alloc (.cells #[.int .i64 0, .int .i64 0, .int .i64 0, .slice none 0 0, .slice none 0 0, .slice none 0 0, .int .i64 0, .int .i64 0, .slice none 0 0, .int .i64 0] 38)).there w3.heap.size 0 S.toArray.size by rw [show S.toArray.size = 10 by rw [List.size_toArray]; exact HL.out]; exact ZN.out.there 0 10 (by simp))
 clear hS6
 go_upto_region 4 with (refine wpList_store_mid rfl 38 _ _ rfl w3.heap.size 0 S.toArray rfl rfl TH.out I2.out HC1.out ?_)
 refine late_genw (fun w4 hw4 => ?_)
 have hb4 : Below w3.heap.size w3 w4 := by rw [hw4]; exact Below.setCells _ (Nat.le_refl _) _ _ ((Below.refl _ _).alloc (Nat.le_refl _) _)
 have X64 := hid (show Bx w4 w3.heap.size S.toArray by rw [hw4]; exact ZN.out.setAll S (by rw [HL.out]; simp))
 have HX4 := hid (Bx.below hb4 HX3.out.f.lt HX3.out)
 have HZ4 := hid (Bx.below hb4 HZ3.out.f.lt HZ3.out)
 have HB4 := hid (HB3.out.trans (hb4.mono HB3.out.size))
 have SF4 := hid (SF3.out.keep fun b hb => hb4.block b (SF3.out.lts b hb).2)
 have LB4 := hid (fun b hb => show b < w3.heap.size from (SF3.out.lts b hb).2)
 obtain ⟨B6, hB6⟩ : ∃ B6, B6 = w3.heap.size := ⟨_, rfl⟩
 rw [← hB6] at X64 LB4 SZ3
 rw [← hB6]
 have SZ6 := SZ3
 have L64 := hid (show B6 < w4.heap.size from X64.out.f.lt)
 clear hw4 hb4 HX3 HZ3 HB3 SF3 TH ZN hB6
 have LBE := hid (fun b (hb : b ∈ BE) => show b < B6 from LB4.out b (.inr hb))
 have x9 := bx_at HX4.out 9 HXC.out
 have x7 := bx_at HX4.out 7 HC7.out
 have x6 := bx_at HX4.out 6 HC6.out
 have x8 := bx_at HX4.out 8 HC8.out
 have hml := HN.out
 by_cases hA : s.Len ≤ s.Size
 ·have ED := hid (show tidyS s = (s, 0) by unfold tidyS; rw [if_pos HOK.out, if_pos (.inl hA)])
  obtain ⟨R, hR⟩ : ∃ R : List Value, R = S := ⟨_, rfl⟩
  have X6R := hid (show Bx w4 B6 R.toArray by rw [hR]; exact X64.out)
  have HL := hid (show R.length = 10 by rw [hR]; exact HL.out)
  have HC1 := hid (show R.toArray.all (·.oneCell') = true by rw [hR, HSS.out]; exact SF4.out.one)
  have HR := hid hR
  have I1 := hid (show (Tryz.prog.info? 38).map (·.size) = some R.length by rw [HL.out]; exact I10.out)
  have I2 := hid (show (Tryz.prog.info? 38).map (·.size) = some R.toArray.size by rw [List.size_toArray, HL.out]; exact I10.out)
  have TH := hid (show w4.there (w.heap.size + 1) 0 R.toArray.size by rw [show R.toArray.size = 10 by rw [List.size_toArray]; exact HL.out]; exact HZ4.out.there 0 10 (by simp))
  clear hR
  as_aux_lemma =>
   go_wp2_with (first | (refine wpList_load_mid rfl 38 _ rfl B6 0 rfl R _ X6R.out.all Tryz.underlying38 rfl I1.out ?_) | (refine wpList_store_mid rfl 38 _ _ rfl (w.heap.size + 1) 0 R.toArray rfl rfl TH.out I2.out HC1.out ?_))
   have X13 := hid (show Bx (w4.setCells (w.heap.size + 1) 0 R) (w.heap.size + 1) R.toArray from HZ4.out.setAll R (by rw [HL.out]; simp))
   refine bodyPost_ret (results_mid_tmp Tryz.results13 rfl R X13.out.all Tryz.underlying38 rfl I1.out) rfl ?_
   rw [ED.out]
   refine ⟨_, _, _, _, B3, B4, B5, BE, by rw [HR.out, HSS.out]; rfl, (SF4.out.mono (Nat.le_add_right _ _)).keep (fun b hb => setCells_heap _ _ _ _ _ ?_), Below.setCells _ (Nat.le_add_right _ _) _ _ HB4.out⟩
   have := SF4.out.lts b hb
   omega
 by_cases hA2 : (s.Ents.length : Int) ≤ s.Keep
 ·have ED := hid (show tidyS s = (s, 0) by unfold tidyS; rw [if_pos HOK.out, if_pos (.inr hA2)])
  obtain ⟨R, hR⟩ : ∃ R : List Value, R = S := ⟨_, rfl⟩
  have X6R := hid (show Bx w4 B6 R.toArray by rw [hR]; exact X64.out)
  have HL := hid (show R.length = 10 by rw [hR]; exact HL.out)
  have HC1 := hid (show R.toArray.all (·.oneCell') = true by rw [hR, HSS.out]; exact SF4.out.one)
  have HR := hid hR
  have I1 := hid (show (Tryz.prog.info? 38).map (·.size) = some R.length by rw [HL.out]; exact I10.out)
  have I2 := hid (show (Tryz.prog.info? 38).map (·.size) = some R.toArray.size by rw [List.size_toArray, HL.out]; exact I10.out)
  have TH := hid (show w4.there (w.heap.size + 1) 0 R.toArray.size by rw [show R.toArray.size = 10 by rw [List.size_toArray]; exact HL.out]; exact HZ4.out.there 0 10 (by simp))
  clear hR
  as_aux_lemma =>
   go_wp2_with (first | (refine wpList_load_mid rfl 38 _ rfl B6 0 rfl R _ X6R.out.all Tryz.underlying38 rfl I1.out ?_) | (refine wpList_store_mid rfl 38 _ _ rfl (w.heap.size + 1) 0 R.toArray rfl rfl TH.out I2.out HC1.out ?_))
   have X13 := hid (show Bx (w4.setCells (w.heap.size + 1) 0 R) (w.heap.size + 1) R.toArray from HZ4.out.setAll R (by rw [HL.out]; simp))
   refine bodyPost_ret (results_mid_tmp Tryz.results13 rfl R X13.out.all Tryz.underlying38 rfl I1.out) rfl ?_
   rw [ED.out]
   refine ⟨_, _, _, _, B3, B4, B5, BE, by rw [HR.out, HSS.out]; rfl, (SF4.out.mono (Nat.le_add_right _ _)).keep (fun b hb => setCells_heap _ _ _ _ _ ?_), Below.setCells _ (Nat.le_add_right _ _) _ _ HB4.out⟩
   have := SF4.out.lts b hb
   omega
 obtain ⟨n, hn⟩ : ∃ n : Nat, s.Keep = (n : Int) := ⟨s.Keep.toNat, by have := KR.out; omega⟩
 have ED1' := hid (show tidyS s = tidyR s (lastN n s.Ents) by unfold tidyS; rw [if_pos HOK.out, if_neg (fun h => h.elim hA hA2), hn]; rfl)
 have HLN := hid (i_LastN (HEs.out.grow HB4.out) n (by have := KR.out; omega) (by have := KR.out; omega))
 rw [← hn] at HLN
 obtain ⟨l, hl⟩ : ∃ l, l = lastN n s.Ents := ⟨_, rfl⟩
 rw [← hl] at HLN ED1'
 have hll : l.length ≤ 100 := by rw [hl, lastN_len]; have := KR.out; omega
 have HLL := hid hll
 clear hll hl hn
 go_upto_region 6 with fail
 go_wp2_with fail
 refine (HLN.out).mono ?_
 rintro e w5 ⟨vL, BL, rfl, hOL, hb5⟩
 have X65 := hid (Bx.below hb5 X64.out.f.lt X64.out)
 have HX5 := hid (Bx.below hb5 HX4.out.f.lt HX4.out)
 have HZ5 := hid (Bx.below hb5 HZ4.out.f.lt HZ4.out)
 have HB5 := hid (HB4.out.trans (hb5.mono HB4.out.size))
 have SF5 := hid (SF4.out.keep fun b hb => hb5.block b (SF4.out.lts b hb).2)
 have OL5 := hid hOL
 have S45 := hid (show w4.heap.size ≤ w5.heap.size from hb5.size)
 obtain ⟨aL, kL, rfl⟩ := hOL.slice
 clear hb5 hOL X64 HX4 HZ4 HB4 SF4 x9 x7 x6 x8 HLN hA hA2
 obtain ⟨bls, _, sl⟩ := OL5.out.slcL
 have SL := hid sl
 clear sl
 go_wp2_with fail
 refine (i_LogBytes SL.out).mono ?_
 rintro e w7 ⟨vb, BB, rfl, hOB, hb7⟩
 have X60 := hid (show Bx w7 B6 (dskC s.Disk v3 v4 v5 ++ stoT s vE).toArray by rw [← HSS.out]; exact Bx.below hb7 X65.out.f.lt X65.out)
 have HX0 := hid (Bx.below hb7 HX5.out.f.lt HX5.out)
 have HZ0 := hid (Bx.below hb7 HZ5.out.f.lt HZ5.out)
 have HB0 := hid (HB5.out.trans (hb7.mono HB5.out.size))
 have SF7 := hid (SF5.out.keep fun b hb => hb7.block b (SF5.out.lts b hb).2)
 have OL0 := hid (OL5.out.keep fun b hb => hb7.block b (OL5.out.lts b hb).2)
 have OB0 := hid hOB
 have LBL := hid (fun b (hb : b ∈ BL) => show B6 < b ∧ b < w7.heap.size by have := OL5.out.lts b hb; have := hb7.size; have := L64.out; omega)
 have LBB := hid (fun b (hb : b ∈ BB) => show B6 < b by have := (OB0.out.lts b hb).1; have := S45.out; have := L64.out; omega)
 have SW0 := hid (Nat.le_refl w7.heap.size)
 have DF0 := hid SF7.out.d
 have OE0 := hid SF7.out.e
 obtain ⟨pb, kb, rfl⟩ := hOB.slice
 clear hb7 hOB X65 HX5 HZ5 HB5 SF5 OL5 SL S45
 have ED1 := hid (show tidyS s = tidyR s l from ED1'.out)
 have FLE := hid (logL_le l)
 obtain ⟨fb, hfb⟩ : ∃ fb, fb = logL l := ⟨_, rfl⟩
 rw [← hfb] at OB0 FLE ⊢
 have HFB := hid hfb
 clear ED1' hfb
 obtain ⟨bbs, _, sb⟩ := OB0.out.slcL
 have SB := hid sb
 clear sb
 have I6 := hid (show (Tryz.prog.info? 35).map (·.size) = some 6 by kernel_rfl)
 have I7 := hid (show (Tryz.prog.info? 69).map (·.size) = some 7 by kernel_rfl)
 obtain ⟨RD, hRD⟩ : ∃ RD : List Value, RD = dskC s.Disk v3 v4 v5 := ⟨_, rfl⟩
 have HLD := hid (show RD.length = 6 by rw [hRD]; rfl)
 have HCD := hid (show RD.toArray.all (·.oneCell') = true by rw [hRD]; exact DF0.out.one)
 have ID1 := hid (show (Tryz.prog.info? 35).map (·.size) = some RD.length by rw [HLD.out]; exact I6.out)
 have XRD := hid (show w7.rangeAt B6 0 RD by rw [hRD]; exact range_left X60.out.all)
 have hbu : Tryz.prog.built 69 [(0, .agg (dskC s.Disk v3 v4 v5).toArray)] = some (dskC s.Disk v3 v4 v5 ++ [Value.int .i64 0]).toArray := by kernel_rfl
 obtain ⟨DC, hDC⟩ : ∃ DC : List Value, DC = RD ++ [Value.int .i64 0] := ⟨_, rfl⟩
 rw [← hRD, ← hDC] at hbu
 have HBU := hid hbu
 have HDL := hid (show DC.length = 7 by rw [hDC, List.length_append, HLD.out]; rfl)
 have HDZ := hid (show DC.toArray.size = 7 by rw [List.size_toArray]; exact HDL.out)
 have HDC1 := hid (show DC.toArray.all (·.oneCell') = true by
  rw [hDC, Array.all_eq_true_iff_forall_mem]
  intro v hv
  rw [List.mem_toArray] at hv
  rcases List.mem_append.1 hv with hv | hv
  ·exact Array.all_eq_true_iff_forall_mem.1 HCD.out v (by simpa using hv)
  ·simp at hv; subst hv; rfl)
 have ID3 := hid (show (Tryz.prog.info? 69).map (·.size) = some DC.toArray.size by rw [HDZ.out]; exact I7.out)
 have ZM := hid (Bx.new w7 #[.int .i64 0, .int .i64 0, .int .i64 0, .slice none 0 0, .slice none 0 0, .slice none 0 0, .int .i64 0] 69 rfl)
 have TH := hid (show (w7.alloc (.cells #[.int .i64 0, .int .i64 0, .int .i64 0, .slice none 0 0, .slice none 0 0, .slice none 0 0, .int .i64 0] 69)).there w7.heap.size 0 DC.toArray.size by rw [HDZ.out]; exact ZM.out.there 0 7 (by simp))
 have HRD := hid hRD; have HDC := hid hDC
 clear hRD hDC hbu
 go_upto_region 9 with (first | (refine wpList_load_mid rfl 35 _ rfl B6 0 rfl RD _ XRD.out Tryz.underlying35 rfl ID1.out ?_; refine wpList_build_to rfl 69 _ rfl DC.toArray [(0, .agg RD.toArray)] rfl HBU.out ?_) | (refine wpList_store_mid rfl 69 _ _ rfl w7.heap.size 0 DC.toArray rfl rfl TH.out ID3.out HDC1.out ?_))
 refine late_genw (fun Wz hW => ?_)
 have hba : Below w7.heap.size w7 Wz := by rw [hW]; exact Below.setCells _ (Nat.le_refl _) _ _ ((Below.refl _ _).alloc (Nat.le_refl _) _)
 obtain ⟨B12, hB⟩ : ∃ B, B = w7.heap.size := ⟨_, rfl⟩
 obtain ⟨rz, hr⟩ : ∃ r : DiskD × Int, r = (s.Disk, 0) := ⟨_, rfl⟩
 have XDz := hid (show Bx Wz B12 (dskC rz.1 v3 v4 v5 ++ [Value.int .i64 rz.2]).toArray by rw [hr]; show Bx Wz B12 (dskC s.Disk v3 v4 v5 ++ [Value.int .i64 0]).toArray; rw [hW, hB, ← HRD.out, ← HDC.out]; exact ZM.out.setAll DC (by rw [HDL.out]; simp))
 have X6z := hid (Bx.below hba X60.out.f.lt X60.out)
 have HXz := hid (Bx.below hba HX0.out.f.lt HX0.out)
 have HZz := hid (Bx.below hba HZ0.out.f.lt HZ0.out)
 have HBz := hid (HB0.out.trans (hba.mono HB0.out.size))
 have OEz := hid (OE0.out.grow hba)
 have OLz := hid (OL0.out.grow hba)
 have OBz := hid (OB0.out.grow hba)
 have N612 := hid (show B6 < B12 by have := X60.out.f.lt; omega)
 have N012 := hid (show w.heap.size + 1 < B12 by have := HZ0.out.f.lt; omega)
 have LL12 := hid (fun b (hb : b ∈ BL) => show b < B12 from by have := (OL0.out.lts b hb).2; omega)
 have LO12 := hid (fun b (hb : b ∈ BB) => show b < B12 from by have := (OB0.out.lts b hb).2; omega)
 have DFz := hid (show DiskF 104 127 106 5 (w.heap.size + 2) Wz rz.1 v3 v4 v5 B3 B4 B5 by rw [hr]; exact DF0.out.grow hba)
 have SMz := hid (show Small rz.1 by rw [hr]; exact HS.out)
 have LWz := hid (show B12 < Wz.heap.size from XDz.out.f.lt)
 have FRS := hid (fun b (h : B12 < b) => show b ≠ B6 ∧ b ∉ BE ∧ b ∉ BL from ⟨by have := N612.out; omega, fun hm => by have := LBE.out b hm; have := N612.out; omega, fun hm => by have := LL12.out b hm; omega⟩)
 have BPz := hid (fun b (hb : b ∈ B3 ∨ b ∈ B4 ∨ b ∈ B5) => show b ≠ B6 ∧ b ∉ BE ∧ b ∉ BL from by
  have h1 := LB4.out b (.inl hb)
  exact ⟨by omega, fun hm => SF7.out.de b hb hm, fun hm => by have := LBL.out b hm; omega⟩)
 have HRz := hid hr
 rw [← hB]
 clear hW hba hB hr X60 HX0 HZ0 HB0 OE0 OL0 OB0 DF0 SF7 ZM TH XRD HRD HDC HBU HLD HCD ID1 HDL HDZ HDC1 ID3
 go_wp2_with fail
 refine (i_do (r := rz) (kd := 7) (nm := emp) (tt := emp) (sz := 0) (data := []) XDz.out DFz.out (by have := HZz.out.f.lt; omega) SMz.out ⟨by simp, by decide, by decide, fun h => absurd rfl h, fun _ => emp_nil, fun _ => emp_nil, fun h => absurd h (by decide), fun _ => rfl, fun _ => rfl⟩ (slc_nil Wz) (by simp)).mono ?_
 rintro e Wa ⟨u3a, u4a, u5a, C3a, C4a, C5a, rfl, hX, hDF, hBL, hT⟩
 obtain ⟨ra, hra⟩ : ∃ r, r = doI rz 7 emp emp 0 [] := ⟨_, rfl⟩
 rw [← hra] at hX hDF
 have HRa := hid hra
 clear hra
 have XDa := hid hX
 have DFa := hid hDF
 have SMa := hid (show Small ra.1 by rw [HRa.out]; exact small_doI SMz.out (by simp))
 have LWa := hid (show B12 < Wa.heap.size by have := LWz.out; have := hT.size; omega)
 have BPa := hid (fun b hb => show b ≠ B6 ∧ b ∉ BE ∧ b ∉ BL from (hBL b hb).elim (BPz.out b) (fun h => FRS.out b (by have := LWz.out; omega)))
 have X6a := hid (bx_tchN X6z.out hT (by have := N612.out; simp; omega))
 have HXa := hid (bx_tchN HXz.out hT (by have := N012.out; simp; omega))
 have HZa := hid (bx_tchN HZz.out hT (by have := N012.out; simp; omega))
 have OEa := hid (OEz.out.tch hT (fun b hb hm => by have := LBE.out b hb; have := N612.out; simp at hm; omega))
 have OLa := hid (OLz.out.tch hT (fun b hb hm => by have := LL12.out b hb; simp at hm; omega))
 have OBa := hid (OBz.out.tch hT (fun b hb hm => by have := LO12.out b hb; simp at hm; omega))
 have HBa := hid (HBz.out.trans (hT.below HBz.out.size (fun x hx => by have := N012.out; simp at hx; omega)))
 clear hX hDF hBL hT
 go_wp2_with fail
 refine (i_do (r := ra) (kd := 1) (nm := temp) (tt := emp) (sz := 0) (data := []) XDa.out DFa.out (by have := HZa.out.f.lt; omega) SMa.out ⟨by simp, by decide, by decide, fun _ => by decide, fun h => absurd h (by decide), fun _ => emp_nil, fun h => absurd h (by decide), fun _ => rfl, fun _ => rfl⟩ (slc_nil Wa) (by simp)).mono ?_
 rintro e Wb ⟨u3b, u4b, u5b, C3b, C4b, C5b, rfl, hX, hDF, hBL, hT⟩
 obtain ⟨rb, hrb⟩ : ∃ r, r = doI ra 1 temp emp 0 [] := ⟨_, rfl⟩
 rw [← hrb] at hX hDF
 have HRb := hid hrb
 clear hrb
 have XDb := hid hX
 have DFb := hid hDF
 have SMb := hid (show Small rb.1 by rw [HRb.out]; exact small_doI SMa.out (by simp))
 have LWb := hid (show B12 < Wb.heap.size by have := LWa.out; have := hT.size; omega)
 have BPb := hid (fun b hb => show b ≠ B6 ∧ b ∉ BE ∧ b ∉ BL from (hBL b hb).elim (BPa.out b) (fun h => FRS.out b (by have := LWa.out; omega)))
 have X6b := hid (bx_tchN X6a.out hT (by have := N612.out; simp; omega))
 have HXb := hid (bx_tchN HXa.out hT (by have := N012.out; simp; omega))
 have HZb := hid (bx_tchN HZa.out hT (by have := N012.out; simp; omega))
 have OEb := hid (OEa.out.tch hT (fun b hb hm => by have := LBE.out b hb; have := N612.out; simp at hm; omega))
 have OLb := hid (OLa.out.tch hT (fun b hb hm => by have := LL12.out b hb; simp at hm; omega))
 have OBb := hid (OBa.out.tch hT (fun b hb hm => by have := LO12.out b hb; simp at hm; omega))
 have HBb := hid (HBa.out.trans (hT.below HBa.out.size (fun x hx => by have := N012.out; simp at hx; omega)))
 clear hX hDF hBL hT
 obtain ⟨bqs, _, sb⟩ := OBb.out.slcL
 have SBb := hid sb
 clear sb
 go_wp2_with fail
 refine (i_do (r := rb) (kd := 2) (nm := temp) (tt := emp) (sz := 0) (data := fb) XDb.out DFb.out (by have := HZb.out.f.lt; omega) SMb.out ⟨by simp, by decide, by decide, fun _ => by decide, fun h => absurd h (by decide), fun _ => emp_nil, fun h => absurd h (by decide), fun _ => rfl, fun h => absurd rfl h⟩ SBb.out (by have := FLE.out; omega)).mono ?_
 rintro e Wc ⟨u3c, u4c, u5c, C3c, C4c, C5c, rfl, hX, hDF, hBL, hT⟩
 obtain ⟨rc, hrc⟩ : ∃ r, r = doI rb 2 temp emp 0 fb := ⟨_, rfl⟩
 rw [← hrc] at hX hDF
 have HRc := hid hrc
 clear hrc
 have XDc := hid hX
 have DFc := hid hDF
 have SMc := hid (show Small rc.1 by rw [HRc.out]; exact small_doI SMb.out (by have := FLE.out; omega))
 have LWc := hid (show B12 < Wc.heap.size by have := LWb.out; have := hT.size; omega)
 have BPc := hid (fun b hb => show b ≠ B6 ∧ b ∉ BE ∧ b ∉ BL from (hBL b hb).elim (BPb.out b) (fun h => FRS.out b (by have := LWb.out; omega)))
 have X6c := hid (bx_tchN X6b.out hT (by have := N612.out; simp; omega))
 have HXc := hid (bx_tchN HXb.out hT (by have := N012.out; simp; omega))
 have HZc := hid (bx_tchN HZb.out hT (by have := N012.out; simp; omega))
 have OEc := hid (OEb.out.tch hT (fun b hb hm => by have := LBE.out b hb; have := N612.out; simp at hm; omega))
 have OLc := hid (OLb.out.tch hT (fun b hb hm => by have := LL12.out b hb; simp at hm; omega))
 have OBc := hid (OBb.out.tch hT (fun b hb hm => by have := LO12.out b hb; simp at hm; omega))
 have HBc := hid (HBb.out.trans (hT.below HBb.out.size (fun x hx => by have := N012.out; simp at hx; omega)))
 clear hX hDF hBL hT
 obtain ⟨cc, hcc⟩ : ∃ c, c = rc.2 := ⟨_, rfl⟩
 have HCc := hid hcc
 have XDc' := hid (show Bx Wc B12 (dskC rc.1 u3c u4c u5c ++ [Value.int .i64 cc]).toArray by rw [hcc]; exact XDc.out)
 have x12 := bx_at XDc'.out 6 (v := .int .i64 cc) rfl
 clear hcc
 by_cases h5 : cc = 5
 ·have H5 := hid (show rc.2 = 5 by rw [← HCc.out]; exact h5)
  subst h5
  as_aux_lemma =>
   obtain ⟨RD, hRD⟩ : ∃ RD : List Value, RD = dskC rc.1 u3c u4c u5c := ⟨_, rfl⟩
   have HLD := hid (show RD.length = 6 by rw [hRD]; rfl)
   have HCD := hid (show RD.toArray.all (·.oneCell') = true by rw [hRD]; exact DFc.out.one)
   have ID1 := hid (show (Tryz.prog.info? 35).map (·.size) = some RD.length by rw [HLD.out]; exact I6.out)
   have XRD := hid (show Wc.rangeAt B12 0 RD by rw [hRD]; exact range_left XDc.out.all)
   have hbu : Tryz.prog.built 69 [(0, .agg (dskC rc.1 u3c u4c u5c).toArray)] = some (dskC rc.1 u3c u4c u5c ++ [Value.int .i64 0]).toArray := by kernel_rfl
   obtain ⟨DC, hDC⟩ : ∃ DC : List Value, DC = RD ++ [Value.int .i64 0] := ⟨_, rfl⟩
   rw [← hRD, ← hDC] at hbu
   have HBU := hid hbu
   have HDL := hid (show DC.length = 7 by rw [hDC, List.length_append, HLD.out]; rfl)
   have HDZ := hid (show DC.toArray.size = 7 by rw [List.size_toArray]; exact HDL.out)
   have HDC1 := hid (show DC.toArray.all (·.oneCell') = true by
    rw [hDC, Array.all_eq_true_iff_forall_mem]
    intro v hv
    rw [List.mem_toArray] at hv
    rcases List.mem_append.1 hv with hv | hv
    ·exact Array.all_eq_true_iff_forall_mem.1 HCD.out v (by simpa using hv)
    ·simp at hv; subst hv; rfl)
   have ID3 := hid (show (Tryz.prog.info? 69).map (·.size) = some DC.toArray.size by rw [HDZ.out]; exact I7.out)
   have ZM := hid (Bx.new Wc #[.int .i64 0, .int .i64 0, .int .i64 0, .slice none 0 0, .slice none 0 0, .slice none 0 0, .int .i64 0] 69 rfl)
   have TH := hid (show (Wc.alloc (.cells #[.int .i64 0, .int .i64 0, .int .i64 0, .slice none 0 0, .slice none 0 0, .slice none 0 0, .int .i64 0] 69)).there Wc.heap.size 0 DC.toArray.size by rw [HDZ.out]; exact ZM.out.there 0 7 (by simp))
   have HRD := hid hRD; have HDC := hid hDC
   clear hRD hDC hbu
   go_upto_region 14 with (first | (refine wpList_load_mid rfl 35 _ rfl B12 0 rfl RD _ XRD.out Tryz.underlying35 rfl ID1.out ?_; refine wpList_build_to rfl 69 _ rfl DC.toArray [(0, .agg RD.toArray)] rfl HBU.out ?_) | (refine wpList_store_mid rfl 69 _ _ rfl Wc.heap.size 0 DC.toArray rfl rfl TH.out ID3.out HDC1.out ?_))
   refine late_genw (fun Wy hW => ?_)
   have hba : Below Wc.heap.size Wc Wy := by rw [hW]; exact Below.setCells _ (Nat.le_refl _) _ _ ((Below.refl _ _).alloc (Nat.le_refl _) _)
   obtain ⟨B13, hB⟩ : ∃ B, B = Wc.heap.size := ⟨_, rfl⟩
   obtain ⟨ry, hr⟩ : ∃ r : DiskD × Int, r = (rc.1, 0) := ⟨_, rfl⟩
   have XDy := hid (show Bx Wy B13 (dskC ry.1 u3c u4c u5c ++ [Value.int .i64 ry.2]).toArray by rw [hr]; show Bx Wy B13 (dskC rc.1 u3c u4c u5c ++ [Value.int .i64 0]).toArray; rw [hW, hB, ← HRD.out, ← HDC.out]; exact ZM.out.setAll DC (by rw [HDL.out]; simp))
   have X6y := hid (Bx.below hba X6c.out.f.lt X6c.out)
   have HXy := hid (Bx.below hba HXc.out.f.lt HXc.out)
   have HZy := hid (Bx.below hba HZc.out.f.lt HZc.out)
   have HBy := hid (HBc.out.trans (hba.mono HBc.out.size))
   have OEy := hid (OEc.out.grow hba)
   have OLy := hid (OLc.out.grow hba)
   have OBy := hid (OBc.out.grow hba)
   have N613 := hid (show B6 < B13 by have := X6c.out.f.lt; omega)
   have N013 := hid (show w.heap.size + 1 < B13 by have := HZc.out.f.lt; omega)
   have LL13 := hid (fun b (hb : b ∈ BL) => show b < B13 from by have := (OLc.out.lts b hb).2; omega)
   have LO13 := hid (fun b (hb : b ∈ BB) => show b < B13 from by have := (OBc.out.lts b hb).2; omega)
   have DFy := hid (show DiskF 104 127 106 5 (w.heap.size + 2) Wy ry.1 u3c u4c u5c C3c C4c C5c by rw [hr]; exact DFc.out.grow hba)
   have SMy := hid (show Small ry.1 by rw [hr]; exact SMc.out)
   have LWy := hid (show B12 < Wy.heap.size by have := LWc.out; have := hba.size; omega)
   have BPy := hid BPc.out
   have HRy := hid hr
   rw [← hB]
   clear x12 hW hba hB hr ZM TH XRD HRD HDC HBU HLD HCD ID1 HDL HDZ HDC1 ID3
   go_wp2_with fail
   refine (i_do (r := ry) (kd := 6) (nm := temp) (tt := emp) (sz := 0) (data := []) XDy.out DFy.out (by have := HZy.out.f.lt; omega) SMy.out ⟨by simp, by decide, by decide, fun _ => by decide, fun h => absurd h (by decide), fun _ => emp_nil, fun h => absurd h (by decide), fun _ => rfl, fun _ => rfl⟩ (slc_nil Wy) (by simp)).mono ?_
   rintro e Wd ⟨u3d, u4d, u5d, C3d, C4d, C5d, rfl, hX, hDF, hBL, hT⟩
   obtain ⟨rd, hrd⟩ : ∃ r, r = doI ry 6 temp emp 0 [] := ⟨_, rfl⟩
   rw [← hrd] at hX hDF
   have HRd := hid hrd
   clear hrd
   have XDd := hid hX
   have DFd := hid hDF
   have SMd := hid (show Small rd.1 by rw [HRd.out]; exact small_doI SMy.out (by simp))
   have LWd := hid (show B12 < Wd.heap.size by have := LWy.out; have := hT.size; omega)
   have BPd := hid (fun b hb => show b ≠ B6 ∧ b ∉ BE ∧ b ∉ BL from (hBL b hb).elim (BPy.out b) (fun h => FRS.out b (by have := LWy.out; omega)))
   have X6d := hid (bx_tchN X6y.out hT (by have := N613.out; simp; omega))
   have HXd := hid (bx_tchN HXy.out hT (by have := N013.out; simp; omega))
   have HZd := hid (bx_tchN HZy.out hT (by have := N013.out; simp; omega))
   have OEd := hid (OEy.out.tch hT (fun b hb hm => by have := LBE.out b hb; have := N613.out; simp at hm; omega))
   have OLd := hid (OLy.out.tch hT (fun b hb hm => by have := LL13.out b hb; simp at hm; omega))
   have OBd := hid (OBy.out.tch hT (fun b hb hm => by have := LO13.out b hb; simp at hm; omega))
   have HBd := hid (HBy.out.trans (hT.below HBy.out.size (fun x hx => by have := N013.out; simp at hx; omega)))
   clear hX hDF hBL hT
   go_wp2_with fail
   refine (i_do (r := rd) (kd := 7) (nm := emp) (tt := emp) (sz := 0) (data := []) XDd.out DFd.out (by have := HZd.out.f.lt; omega) SMd.out ⟨by simp, by decide, by decide, fun h => absurd rfl h, fun _ => emp_nil, fun _ => emp_nil, fun h => absurd h (by decide), fun _ => rfl, fun _ => rfl⟩ (slc_nil Wd) (by simp)).mono ?_
   rintro e We ⟨u3e, u4e, u5e, C3e, C4e, C5e, rfl, hX, hDF, hBL, hT⟩
   obtain ⟨re, hre⟩ : ∃ r, r = doI rd 7 emp emp 0 [] := ⟨_, rfl⟩
   rw [← hre] at hX hDF
   have HRe := hid hre
   clear hre
   have XDe := hid hX
   have DFe := hid hDF
   have SMe := hid (show Small re.1 by rw [HRe.out]; exact small_doI SMd.out (by simp))
   have LWe := hid (show B12 < We.heap.size by have := LWd.out; have := hT.size; omega)
   have BPe := hid (fun b hb => show b ≠ B6 ∧ b ∉ BE ∧ b ∉ BL from (hBL b hb).elim (BPd.out b) (fun h => FRS.out b (by have := LWd.out; omega)))
   have X6e := hid (bx_tchN X6d.out hT (by have := N613.out; simp; omega))
   have HXe := hid (bx_tchN HXd.out hT (by have := N013.out; simp; omega))
   have HZe := hid (bx_tchN HZd.out hT (by have := N013.out; simp; omega))
   have OEe := hid (OEd.out.tch hT (fun b hb hm => by have := LBE.out b hb; have := N613.out; simp at hm; omega))
   have OLe := hid (OLd.out.tch hT (fun b hb hm => by have := LL13.out b hb; simp at hm; omega))
   have OBe := hid (OBd.out.tch hT (fun b hb hm => by have := LO13.out b hb; simp at hm; omega))
   have HBe := hid (HBd.out.trans (hT.below HBd.out.size (fun x hx => by have := N013.out; simp at hx; omega)))
   clear hX hDF hBL hT
   obtain ⟨ce, hce⟩ : ∃ c, c = re.2 := ⟨_, rfl⟩
   have HCe := hid hce
   obtain ⟨RD, hRD⟩ : ∃ RD : List Value, RD = dskC re.1 u3e u4e u5e := ⟨_, rfl⟩
   have HLD := hid (show RD.length = 6 by rw [hRD]; rfl)
   have XDG := hid (show Bx We B13 (RD ++ [Value.int .i64 ce]).toArray by rw [hRD, hce]; exact XDe.out)
   have XRG := hid (range_left XDG.out.all)
   have HCD := hid (show RD.toArray.all (·.oneCell') = true by rw [hRD]; exact DFe.out.one)
   have ID1 := hid (show (Tryz.prog.info? 35).map (·.size) = some RD.length by rw [HLD.out]; exact I6.out)
   have HZD := hid (show RD.toArray.size = 6 by rw [List.size_toArray]; exact HLD.out)
   have ID2 := hid (show (Tryz.prog.info? 35).map (·.size) = some RD.toArray.size by rw [HZD.out]; exact I6.out)
   have THD := hid (show We.there B6 0 RD.toArray.size by rw [HZD.out]; exact there_head X6e.out rfl)
   have HRD := hid hRD
   clear hRD hce
   go_upto_region 17 with (first | (refine wpList_load_mid rfl 35 _ rfl B13 0 rfl RD _ XRG.out Tryz.underlying35 rfl ID1.out ?_) | (refine wpList_store_mid rfl 35 _ _ rfl B6 0 RD.toArray rfl rfl THD.out ID2.out HCD.out ?_))
   refine late_genw (fun wG hwG => ?_)
   have kG : ∀ k, k ≠ B6 → wG.heap[k]? = We.heap[k]? := fun k hk => by rw [hwG]; exact setCells_heap _ _ _ _ _ hk
   have X6G := hid (show Bx wG B6 (dskC re.1 u3e u4e u5e ++ stoT s vE).toArray by rw [hwG, ← HRD.out]; exact bx_head X6e.out rfl HLD.out)
   have XDH := hid (XDG.out.keep (kG _ (by have := N613.out; omega)))
   have HXG := hid (HXe.out.keep (kG _ (by have := SZ6.out; omega)))
   have HZG := hid (HZe.out.keep (kG _ (by have := SZ6.out; omega)))
   have OEG := hid (OEe.out.keep (fun b hb => kG b (by have := LBE.out b hb; omega)))
   have OLG := hid (OLe.out.keep (fun b hb => kG b (by have := LBL.out b hb; omega)))
   have DFG := hid (DFe.out.keep (fun b hb => kG b (BPe.out b hb).1))
   have HBG := hid (show Below w.heap.size w wG by rw [hwG]; exact Below.setCells _ (by have := SZ6.out; omega) _ _ HBe.out)
   have SFz := hid (show StoreF 104 127 106 5 53 (w.heap.size + 2) wG (withD s re.1) u3e u4e u5e vE C3e C4e C5e BE from
    ⟨DFG.out, OEG.out, J6.out, J7.out, J9.out, fun b hb h2 => (BPe.out b hb).2.1 h2⟩)
   have x12 := bx_at XDH.out 6 (v := .int .i64 ce) (by rw [List.getElem?_append_right (by rw [HLD.out]; omega), HLD.out]; rfl)
   clear hwG kG THD XRG
   have ED0' := hid (show tidyS s = (withD s re.1, if re.2 = 0 then 5 else re.2) by
    rw [ED1.out]
    exact tidy5 (by rw [HRa.out, HRz.out]) HRb.out (by rw [HRc.out, HFB.out]) (by rw [HRd.out, HRy.out]) HRe.out H5.out)
   by_cases h0 : ce = 0
   ·have ED := hid (show tidyS s = (withD s re.1, 5) by rw [ED0'.out, ← HCe.out, if_pos h0])
    subst h0
    obtain ⟨R, hR⟩ : ∃ R : List Value, R = dskC re.1 u3e u4e u5e ++ stoT s vE := ⟨_, rfl⟩
    have X6R := hid (show Bx wG B6 R.toArray by rw [hR]; exact X6G.out)
    have HL := hid (show R.length = 10 by rw [hR]; rfl)
    have HC1 := hid (show R.toArray.all (·.oneCell') = true by rw [hR]; exact SFz.out.one)
    have HR := hid hR
    have I1 := hid (show (Tryz.prog.info? 38).map (·.size) = some R.length by rw [HL.out]; exact I10.out)
    have I2 := hid (show (Tryz.prog.info? 38).map (·.size) = some R.toArray.size by rw [List.size_toArray, HL.out]; exact I10.out)
    have TH := hid (show wG.there (w.heap.size + 1) 0 R.toArray.size by rw [show R.toArray.size = 10 by rw [List.size_toArray]; exact HL.out]; exact HZG.out.there 0 10 (by simp))
    clear hR
    as_aux_lemma =>
     go_wp2_with (first | (refine wpList_load_mid rfl 38 _ rfl B6 0 rfl R _ X6R.out.all Tryz.underlying38 rfl I1.out ?_) | (refine wpList_store_mid rfl 38 _ _ rfl (w.heap.size + 1) 0 R.toArray rfl rfl TH.out I2.out HC1.out ?_))
     have X13 := hid (show Bx (wG.setCells (w.heap.size + 1) 0 R) (w.heap.size + 1) R.toArray from HZG.out.setAll R (by rw [HL.out]; simp))
     refine bodyPost_ret (results_mid_tmp Tryz.results13 rfl R X13.out.all Tryz.underlying38 rfl I1.out) rfl ?_
     rw [ED.out]
     refine ⟨_, _, _, _, C3e, C4e, C5e, BE, by rw [HR.out]; rfl, (SFz.out.mono (Nat.le_add_right _ _)).keep (fun b hb => setCells_heap _ _ _ _ _ ?_), Below.setCells _ (Nat.le_add_right _ _) _ _ HBG.out⟩
     have := SFz.out.lts b hb
     omega
   ·have ED := hid (show tidyS s = (withD s re.1, ce) by rw [ED0'.out, ← HCe.out, if_neg h0])
    obtain ⟨R, hR⟩ : ∃ R : List Value, R = dskC re.1 u3e u4e u5e ++ stoT s vE := ⟨_, rfl⟩
    have X6R := hid (show Bx wG B6 R.toArray by rw [hR]; exact X6G.out)
    have HL := hid (show R.length = 10 by rw [hR]; rfl)
    have HC1 := hid (show R.toArray.all (·.oneCell') = true by rw [hR]; exact SFz.out.one)
    have HR := hid hR
    have I1 := hid (show (Tryz.prog.info? 38).map (·.size) = some R.length by rw [HL.out]; exact I10.out)
    have HZ1 := hid (show R.toArray.size = 10 by rw [List.size_toArray]; exact HL.out)
    have I2 := hid (show (Tryz.prog.info? 38).map (·.size) = some R.toArray.size by rw [HZ1.out]; exact I10.out)
    have TH := hid (show wG.there (w.heap.size + 1) 0 R.toArray.size by rw [HZ1.out]; exact HZG.out.there 0 10 (by simp))
    have n1 : B6 ≠ w.heap.size + 1 := by have := SZ6.out; omega
    have n2 : B13 ≠ w.heap.size + 1 := by have := N013.out; omega
    have cne : (ce != 0) = true := by rw [bne_iff_ne]; exact h0
    clear hR
    as_aux_lemma =>
     go_wp2_with fail
     refine late_start (fun V => V.rangeAt B6 0 R ∧ V.cell? ⟨B13, 6, none⟩ = some (.int .i64 ce)) 99 (by kernel_rfl) ?_ (fun hS => ?_)
     ·exact ⟨(World.rangeAt_drew _ _ _ _).2 X6R.out.all, x12⟩
     clear x12
     refine late_take (i := 0) (v := .agg (R).toArray) rfl (by kernel_rfl) (fun _ _ _ h => h) (by rfl) (fun W hW => exec_load_mid 38 _ rfl (B6) 0 rfl (R) _ (hW.1) Tryz.underlying38 rfl I1.out) hS ?_
     try simp only [Act.put, putZ, List.getElem_toArray, List.getElem_cons_zero, List.getElem_cons_succ]
     refine ltk 1 rfl ?_
     try simp only [Act.put, putZ, List.getElem_toArray, List.getElem_cons_zero, List.getElem_cons_succ]
     refine ltk 2 rfl ?_
     try simp only [Act.put, putZ, List.getElem_toArray, List.getElem_cons_zero, List.getElem_cons_succ]
     refine late_one (i := 3) rfl (by kernel_rfl) (fun K9 hK9 => ?_)
     refine step_store_mid rfl 38 _ _ rfl (w.heap.size + 1) 0 R.toArray rfl rfl ((World.there_drew _ _ _ _).2 TH.out) I2.out HC1.out ?_
     refine hK9.out _ _ (fun _ => ?_) (fun hS9 => ?_)
     ·(try dsimp only); exact ⟨range_set hS.1 n1, (World.cell?_of_block (a := ⟨B13, 6, none⟩) (setCells_heap _ _ _ _ _ n2)).trans hS.2⟩
     replace hS := hS9 (by decide)
     clear hK9 K9 hS9
     try simp only [Act.put, putZ, List.getElem_toArray, List.getElem_cons_zero, List.getElem_cons_succ]
     refine late_one (i := 4) rfl (by kernel_rfl) (fun K9 hK9 => ?_)
     go_simp
     refine hK9.out _ _ (fun _ => ?_) (fun hS9 => ?_)
     ·(try dsimp only); exact hS
     replace hS := hS9 (by decide)
     clear hK9 K9 hS9
     try simp only [Act.put, putZ, List.getElem_toArray, List.getElem_cons_zero, List.getElem_cons_succ]
     refine late_done (by kernel_rfl) ?_ _
     go_wp2
     have X13 := hid (show Bx (wG.drew.setCells (w.heap.size + 1) 0 R) (w.heap.size + 1) R.toArray from (HZG.out.keep (w' := wG.drew) rfl).setAll R (by rw [HL.out]; simp))
     refine bodyPost_ret (results_mid_tmp Tryz.results13 rfl R X13.out.all Tryz.underlying38 rfl I1.out) rfl ?_
     rw [ED.out]
     refine ⟨_, _, _, _, C3e, C4e, C5e, BE, by rw [HR.out]; rfl, (SFz.out.mono (Nat.le_add_right _ _)).keep (fun b hb => (setCells_heap _ _ _ _ _ ?_).trans rfl), Below.setCells _ (Nat.le_add_right _ _) _ _ HBG.out.drew⟩
     have := SFz.out.lts b hb
     omega
 have N5 := hid (show rc.2 ≠ 5 by rw [← HCc.out]; exact h5)
 have x12 := bx_at XDc'.out 6 (v := .int .i64 cc) rfl
 go_wp2_with fail
 clear x12
 refine (i_do (r := rc) (kd := 3) (nm := temp) (tt := emp) (sz := 0) (data := []) XDc.out DFc.out (by have := HZc.out.f.lt; omega) SMc.out ⟨by simp, by decide, by decide, fun _ => by decide, fun h => absurd h (by decide), fun _ => emp_nil, fun h => absurd h (by decide), fun _ => rfl, fun _ => rfl⟩ (slc_nil Wc) (by simp)).mono ?_
 rintro e Wd ⟨u3d, u4d, u5d, C3d, C4d, C5d, rfl, hX, hDF, hBL, hT⟩
 obtain ⟨rd, hrd⟩ : ∃ r, r = doI rc 3 temp emp 0 [] := ⟨_, rfl⟩
 rw [← hrd] at hX hDF
 have HRd := hid hrd
 clear hrd
 have XDd := hid hX
 have DFd := hid hDF
 have SMd := hid (show Small rd.1 by rw [HRd.out]; exact small_doI SMc.out (by simp))
 have LWd := hid (show B12 < Wd.heap.size by have := LWc.out; have := hT.size; omega)
 have BPd := hid (fun b hb => show b ≠ B6 ∧ b ∉ BE ∧ b ∉ BL from (hBL b hb).elim (BPc.out b) (fun h => FRS.out b (by have := LWc.out; omega)))
 have X6d := hid (bx_tchN X6c.out hT (by have := N612.out; simp; omega))
 have HXd := hid (bx_tchN HXc.out hT (by have := N012.out; simp; omega))
 have HZd := hid (bx_tchN HZc.out hT (by have := N012.out; simp; omega))
 have OEd := hid (OEc.out.tch hT (fun b hb hm => by have := LBE.out b hb; have := N612.out; simp at hm; omega))
 have OLd := hid (OLc.out.tch hT (fun b hb hm => by have := LL12.out b hb; simp at hm; omega))
 have OBd := hid (OBc.out.tch hT (fun b hb hm => by have := LO12.out b hb; simp at hm; omega))
 have HBd := hid (HBc.out.trans (hT.below HBc.out.size (fun x hx => by have := N012.out; simp at hx; omega)))
 clear hX hDF hBL hT
 go_wp2_with fail
 refine (i_do (r := rd) (kd := 5) (nm := temp) (tt := hist) (sz := 0) (data := []) XDd.out DFd.out (by have := HZd.out.f.lt; omega) SMd.out ⟨by simp, by decide, by decide, fun _ => by decide, fun h => absurd h (by decide), fun h => absurd rfl h, fun _ => by decide, fun _ => rfl, fun _ => rfl⟩ (slc_nil Wd) (by simp)).mono ?_
 rintro e We ⟨u3e, u4e, u5e, C3e, C4e, C5e, rfl, hX, hDF, hBL, hT⟩
 obtain ⟨re, hre⟩ : ∃ r, r = doI rd 5 temp hist 0 [] := ⟨_, rfl⟩
 rw [← hre] at hX hDF
 have HRe := hid hre
 clear hre
 have XDe := hid hX
 have DFe := hid hDF
 have SMe := hid (show Small re.1 by rw [HRe.out]; exact small_doI SMd.out (by simp))
 have LWe := hid (show B12 < We.heap.size by have := LWd.out; have := hT.size; omega)
 have BPe := hid (fun b hb => show b ≠ B6 ∧ b ∉ BE ∧ b ∉ BL from (hBL b hb).elim (BPd.out b) (fun h => FRS.out b (by have := LWd.out; omega)))
 have X6e := hid (bx_tchN X6d.out hT (by have := N612.out; simp; omega))
 have HXe := hid (bx_tchN HXd.out hT (by have := N012.out; simp; omega))
 have HZe := hid (bx_tchN HZd.out hT (by have := N012.out; simp; omega))
 have OEe := hid (OEd.out.tch hT (fun b hb hm => by have := LBE.out b hb; have := N612.out; simp at hm; omega))
 have OLe := hid (OLd.out.tch hT (fun b hb hm => by have := LL12.out b hb; simp at hm; omega))
 have OBe := hid (OBd.out.tch hT (fun b hb hm => by have := LO12.out b hb; simp at hm; omega))
 have HBe := hid (HBd.out.trans (hT.below HBd.out.size (fun x hx => by have := N012.out; simp at hx; omega)))
 clear hX hDF hBL hT
 go_wp2_with fail
 refine (i_do (r := re) (kd := 7) (nm := emp) (tt := emp) (sz := 0) (data := []) XDe.out DFe.out (by have := HZe.out.f.lt; omega) SMe.out ⟨by simp, by decide, by decide, fun h => absurd rfl h, fun _ => emp_nil, fun _ => emp_nil, fun h => absurd h (by decide), fun _ => rfl, fun _ => rfl⟩ (slc_nil We) (by simp)).mono ?_
 rintro e Wf ⟨u3f, u4f, u5f, C3f, C4f, C5f, rfl, hX, hDF, hBL, hT⟩
 obtain ⟨rf, hrf⟩ : ∃ r, r = doI re 7 emp emp 0 [] := ⟨_, rfl⟩
 rw [← hrf] at hX hDF
 have HRf := hid hrf
 clear hrf
 have XDf := hid hX
 have DFf := hid hDF
 have SMf := hid (show Small rf.1 by rw [HRf.out]; exact small_doI SMe.out (by simp))
 have LWf := hid (show B12 < Wf.heap.size by have := LWe.out; have := hT.size; omega)
 have BPf := hid (fun b hb => show b ≠ B6 ∧ b ∉ BE ∧ b ∉ BL from (hBL b hb).elim (BPe.out b) (fun h => FRS.out b (by have := LWe.out; omega)))
 have X6f := hid (bx_tchN X6e.out hT (by have := N612.out; simp; omega))
 have HXf := hid (bx_tchN HXe.out hT (by have := N012.out; simp; omega))
 have HZf := hid (bx_tchN HZe.out hT (by have := N012.out; simp; omega))
 have OEf := hid (OEe.out.tch hT (fun b hb hm => by have := LBE.out b hb; have := N612.out; simp at hm; omega))
 have OLf := hid (OLe.out.tch hT (fun b hb hm => by have := LL12.out b hb; simp at hm; omega))
 have OBf := hid (OBe.out.tch hT (fun b hb hm => by have := LO12.out b hb; simp at hm; omega))
 have HBf := hid (HBe.out.trans (hT.below HBe.out.size (fun x hx => by have := N012.out; simp at hx; omega)))
 clear hX hDF hBL hT
 obtain ⟨cf, hcf⟩ : ∃ c, c = rf.2 := ⟨_, rfl⟩
 have HCf := hid hcf
 obtain ⟨RD, hRD⟩ : ∃ RD : List Value, RD = dskC rf.1 u3f u4f u5f := ⟨_, rfl⟩
 have HLD := hid (show RD.length = 6 by rw [hRD]; rfl)
 have XDG := hid (show Bx Wf B12 (RD ++ [Value.int .i64 cf]).toArray by rw [hRD, hcf]; exact XDf.out)
 have XRG := hid (range_left XDG.out.all)
 have HCD := hid (show RD.toArray.all (·.oneCell') = true by rw [hRD]; exact DFf.out.one)
 have ID1 := hid (show (Tryz.prog.info? 35).map (·.size) = some RD.length by rw [HLD.out]; exact I6.out)
 have HZD := hid (show RD.toArray.size = 6 by rw [List.size_toArray]; exact HLD.out)
 have ID2 := hid (show (Tryz.prog.info? 35).map (·.size) = some RD.toArray.size by rw [HZD.out]; exact I6.out)
 have THD := hid (show Wf.there B6 0 RD.toArray.size by rw [HZD.out]; exact there_head X6f.out rfl)
 have HRD := hid hRD
 clear hRD hcf
 go_upto_region 24 with (first | (refine wpList_load_mid rfl 35 _ rfl B12 0 rfl RD _ XRG.out Tryz.underlying35 rfl ID1.out ?_) | (refine wpList_store_mid rfl 35 _ _ rfl B6 0 RD.toArray rfl rfl THD.out ID2.out HCD.out ?_))
 refine late_genw (fun wG hwG => ?_)
 have kG : ∀ k, k ≠ B6 → wG.heap[k]? = Wf.heap[k]? := fun k hk => by rw [hwG]; exact setCells_heap _ _ _ _ _ hk
 have X6G := hid (show Bx wG B6 (dskC rf.1 u3f u4f u5f ++ stoT s vE).toArray by rw [hwG, ← HRD.out]; exact bx_head X6f.out rfl HLD.out)
 have XDH := hid (XDG.out.keep (kG _ (by have := N612.out; omega)))
 have HXG := hid (HXf.out.keep (kG _ (by have := SZ6.out; omega)))
 have HZG := hid (HZf.out.keep (kG _ (by have := SZ6.out; omega)))
 have OEG := hid (OEf.out.keep (fun b hb => kG b (by have := LBE.out b hb; omega)))
 have OLG := hid (OLf.out.keep (fun b hb => kG b (by have := LBL.out b hb; omega)))
 have DFG := hid (DFf.out.keep (fun b hb => kG b (BPf.out b hb).1))
 have HBG := hid (show Below w.heap.size w wG by rw [hwG]; exact Below.setCells _ (by have := SZ6.out; omega) _ _ HBf.out)
 have SFz := hid (show StoreF 104 127 106 5 53 (w.heap.size + 2) wG (withD s rf.1) u3f u4f u5f vE C3f C4f C5f BE from
  ⟨DFG.out, OEG.out, J6.out, J7.out, J9.out, fun b hb h2 => (BPf.out b hb).2.1 h2⟩)
 have x12 := bx_at XDH.out 6 (v := .int .i64 cf) (by rw [List.getElem?_append_right (by rw [HLD.out]; omega), HLD.out]; rfl)
 clear hwG kG THD XRG
 have ED0' := hid (show tidyS s = if rf.2 = 0 then ({ s with Disk := rf.1, Ents := l, Len := (fb.length : Int) }, 0) else (withD s rf.1, rf.2) by
  rw [ED1.out, HFB.out]
  exact tidy0 (by rw [HRa.out, HRz.out]) HRb.out (by rw [HRc.out, HFB.out]) HRd.out HRe.out HRf.out N5.out)
 by_cases h0 : cf = 0
 rotate_left
 ·have ED := hid (show tidyS s = (withD s rf.1, cf) by rw [ED0'.out, ← HCf.out, if_neg h0])
  obtain ⟨R, hR⟩ : ∃ R : List Value, R = dskC rf.1 u3f u4f u5f ++ stoT s vE := ⟨_, rfl⟩
  have X6R := hid (show Bx wG B6 R.toArray by rw [hR]; exact X6G.out)
  have HL := hid (show R.length = 10 by rw [hR]; rfl)
  have HC1 := hid (show R.toArray.all (·.oneCell') = true by rw [hR]; exact SFz.out.one)
  have HR := hid hR
  have I1 := hid (show (Tryz.prog.info? 38).map (·.size) = some R.length by rw [HL.out]; exact I10.out)
  have HZ1 := hid (show R.toArray.size = 10 by rw [List.size_toArray]; exact HL.out)
  have I2 := hid (show (Tryz.prog.info? 38).map (·.size) = some R.toArray.size by rw [HZ1.out]; exact I10.out)
  have TH := hid (show wG.there (w.heap.size + 1) 0 R.toArray.size by rw [HZ1.out]; exact HZG.out.there 0 10 (by simp))
  have n1 : B6 ≠ w.heap.size + 1 := by have := SZ6.out; omega
  have n2 : B12 ≠ w.heap.size + 1 := by have := N012.out; omega
  have cne : (cf != 0) = true := by rw [bne_iff_ne]; exact h0
  clear hR
  as_aux_lemma =>
   go_wp2_with fail
   refine late_start (fun V => V.rangeAt B6 0 R ∧ V.cell? ⟨B12, 6, none⟩ = some (.int .i64 cf)) 99 (by kernel_rfl) ?_ (fun hS => ?_)
   ·exact ⟨(World.rangeAt_drew _ _ _ _).2 X6R.out.all, x12⟩
   clear x12
   refine late_take (i := 0) (v := .agg (R).toArray) rfl (by kernel_rfl) (fun _ _ _ h => h) (by rfl) (fun W hW => exec_load_mid 38 _ rfl (B6) 0 rfl (R) _ (hW.1) Tryz.underlying38 rfl I1.out) hS ?_
   try simp only [Act.put, putZ, List.getElem_toArray, List.getElem_cons_zero, List.getElem_cons_succ]
   refine ltk 1 rfl ?_
   try simp only [Act.put, putZ, List.getElem_toArray, List.getElem_cons_zero, List.getElem_cons_succ]
   refine ltk 2 rfl ?_
   try simp only [Act.put, putZ, List.getElem_toArray, List.getElem_cons_zero, List.getElem_cons_succ]
   refine late_one (i := 3) rfl (by kernel_rfl) (fun K9 hK9 => ?_)
   refine step_store_mid rfl 38 _ _ rfl (w.heap.size + 1) 0 R.toArray rfl rfl ((World.there_drew _ _ _ _).2 TH.out) I2.out HC1.out ?_
   refine hK9.out _ _ (fun _ => ?_) (fun hS9 => ?_)
   ·(try dsimp only); exact ⟨range_set hS.1 n1, (World.cell?_of_block (a := ⟨B12, 6, none⟩) (setCells_heap _ _ _ _ _ n2)).trans hS.2⟩
   replace hS := hS9 (by decide)
   clear hK9 K9 hS9
   try simp only [Act.put, putZ, List.getElem_toArray, List.getElem_cons_zero, List.getElem_cons_succ]
   refine late_one (i := 4) rfl (by kernel_rfl) (fun K9 hK9 => ?_)
   go_simp
   refine hK9.out _ _ (fun _ => ?_) (fun hS9 => ?_)
   ·(try dsimp only); exact hS
   replace hS := hS9 (by decide)
   clear hK9 K9 hS9
   try simp only [Act.put, putZ, List.getElem_toArray, List.getElem_cons_zero, List.getElem_cons_succ]
   refine late_done (by kernel_rfl) ?_ _
   go_wp2
   have X13 := hid (show Bx (wG.drew.setCells (w.heap.size + 1) 0 R) (w.heap.size + 1) R.toArray from (HZG.out.keep (w' := wG.drew) rfl).setAll R (by rw [HL.out]; simp))
   refine bodyPost_ret (results_mid_tmp Tryz.results13 rfl R X13.out.all Tryz.underlying38 rfl I1.out) rfl ?_
   rw [ED.out]
   refine ⟨_, _, _, _, C3f, C4f, C5f, BE, by rw [HR.out]; rfl, (SFz.out.mono (Nat.le_add_right _ _)).keep (fun b hb => (setCells_heap _ _ _ _ _ ?_).trans rfl), Below.setCells _ (Nat.le_add_right _ _) _ _ HBG.out.drew⟩
   have := SFz.out.lts b hb
   omega
 have ED := hid (show tidyS s = ({ s with Disk := rf.1, Ents := l, Len := (fb.length : Int) }, 0) by rw [ED0'.out, ← HCf.out, if_pos h0])
 subst h0
 clear SFz
 have x8 := bx_at X6G.out 8 (v := vE) rfl
 have x9 := bx_at X6G.out 9 (v := .int .i64 s.Len) rfl
 have f6 := X6G.out.fr
 go_upto_region 27 with fail
 refine late_genw (fun wD hwD => ?_)
 have kD : ∀ k, k ≠ B6 → wD.heap[k]? = wG.heap[k]? := fun k hk => by rw [hwD]; exact (Below.heap_setCell _ _ _ _ hk).trans (Below.heap_setCell _ _ _ _ hk)
 have X6D := hid (show Bx wD B6 (dskC rf.1 u3f u4f u5f ++ stoT { s with Disk := rf.1, Ents := l, Len := (fb.length : Int) } (.slice aL l.length kL)).toArray by rw [hwD]; exact (X6G.out.setSame 8 _).setSame 9 _)
 have HZD := hid (HZG.out.keep (kD _ (by have := SZ6.out; omega)))
 have BDD := hid (show Below w.heap.size w wD by rw [hwD]; exact (HBG.out.setCell (show w.heap.size ≤ B6 by have := SZ6.out; omega) _).setCell (show w.heap.size ≤ B6 by have := SZ6.out; omega) _)
 have SFz := hid (show StoreF 104 127 106 5 53 (w.heap.size + 2) wD { s with Disk := rf.1, Ents := l, Len := (fb.length : Int) } u3f u4f u5f (.slice aL l.length kL) C3f C4f C5f BL from
  ⟨DFG.out.keep (fun b hb => kD b (BPf.out b hb).1),
   (OLG.out.mono (by have := SZ6.out; have := L64.out; omega)).keep (fun b hb => kD b (by have := LBL.out b hb; omega)), J6.out, J7.out, (by have := FLE.out; unfold I64; show _ ≤ (fb.length : Int) ∧ (fb.length : Int) ≤ _; omega),
   fun b hb h2 => (BPf.out b hb).2.2 h2⟩)
 clear hwD kD x8 x9 f6 x12
 obtain ⟨R, hR⟩ : ∃ R : List Value, R = dskC rf.1 u3f u4f u5f ++ stoT { s with Disk := rf.1, Ents := l, Len := (fb.length : Int) } (.slice aL l.length kL) := ⟨_, rfl⟩
 have X6R := hid (show Bx wD B6 R.toArray by rw [hR]; exact X6D.out)
 have HL := hid (show R.length = 10 by rw [hR]; rfl)
 have HC1 := hid (show R.toArray.all (·.oneCell') = true by rw [hR]; exact SFz.out.one)
 have HR := hid hR
 have I1 := hid (show (Tryz.prog.info? 38).map (·.size) = some R.length by rw [HL.out]; exact I10.out)
 have I2 := hid (show (Tryz.prog.info? 38).map (·.size) = some R.toArray.size by rw [List.size_toArray, HL.out]; exact I10.out)
 have TH := hid (show wD.there (w.heap.size + 1) 0 R.toArray.size by rw [show R.toArray.size = 10 by rw [List.size_toArray]; exact HL.out]; exact HZD.out.there 0 10 (by simp))
 clear hR
 as_aux_lemma =>
  go_wp2_with (first | (refine wpList_load_mid rfl 38 _ rfl B6 0 rfl R _ X6R.out.all Tryz.underlying38 rfl I1.out ?_) | (refine wpList_store_mid rfl 38 _ _ rfl (w.heap.size + 1) 0 R.toArray rfl rfl TH.out I2.out HC1.out ?_))
  have X13 := hid (show Bx (wD.setCells (w.heap.size + 1) 0 R) (w.heap.size + 1) R.toArray from HZD.out.setAll R (by rw [HL.out]; simp))
  refine bodyPost_ret (results_mid_tmp Tryz.results13 rfl R X13.out.all Tryz.underlying38 rfl I1.out) rfl ?_
  rw [ED.out]
  refine ⟨_, _, _, _, C3f, C4f, C5f, BL, by rw [HR.out]; rfl, (SFz.out.mono (Nat.le_add_right _ _)).keep (fun b hb => setCells_heap _ _ _ _ _ ?_), Below.setCells _ (Nat.le_add_right _ _) _ _ BDD.out⟩
  have := SFz.out.lts b hb
  omega
end Go.Proofs.YtdjcjilipgpnmaaGreat
