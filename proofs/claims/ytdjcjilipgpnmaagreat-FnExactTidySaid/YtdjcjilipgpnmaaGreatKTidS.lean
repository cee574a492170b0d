/- A store is tidied, as the reference does it (printed by gentid.py). -/
import Derived.Test.YtdjcjilipgpnmaaGreatKAddD
set_option linter.unusedSimpArgs false
set_option linter.unusedVariables false
namespace Go.G6
open Go Go.RowKit Rep
/-- The operations of a tidying whose file holds b. -/
def tidyR (s : StoreD) (l : List EntryD) : StoreD × Int :=
 let r1 := diskDo s.Disk 7 emp emp 0 []
 if r1.2 = 0 then
  let r2 := diskDo r1.1 1 temp emp 0 []
  if r2.2 = 0 then
   let r3 := diskDo r2.1 2 temp emp 0 (logL l)
   if r3.2 = 5 then
    let r4 := diskDo r3.1 6 temp emp 0 []
    if r4.2 = 0 then
     let r5 := diskDo r4.1 7 emp emp 0 []
     (withD s r5.1, if r5.2 = 0 then 5 else r5.2)
    else (withD s r4.1, r4.2)
   else if r3.2 = 0 then
    let r4 := diskDo r3.1 3 temp emp 0 []
    if r4.2 = 0 then
     let r5 := diskDo r4.1 5 temp hist 0 []
     if r5.2 = 0 then
      let r6 := diskDo r5.1 7 emp emp 0 []
      if r6.2 = 0 then ({ s with Disk := r6.1, Ents := l, Len := ((logL l).length : Int) }, 0) else (withD s r6.1, r6.2)
     else (withD s r5.1, r5.2)
    else (withD s r4.1, r4.2)
   else (withD s r3.1, r3.2)
  else (withD s r2.1, r2.2)
 else (withD s r1.1, r1.2)
def tidyS (s : StoreD) : StoreD × Int :=
 if storeOk s = true then (if s.Len ≤ s.Size ∨ (s.Ents.length : Int) ≤ s.Keep then (s, 0) else tidyR s (lastN s.Keep.toNat s.Ents)) else (zStore, 1)
theorem logL_le (l : List EntryD) : (logL l).length ≤ 65536 := by
 unfold logL
 split
 ·rename_i h; unfold logOk at h; simp at h; exact h.2
 ·simp
end Go.G6
namespace Go.Proofs.YtdjcjilipgpnmaaGreat
open Go Go.RowKit Go.G6
set_option maxHeartbeats 6000000
set_option maxRecDepth 10000
theorem s_Tidy {w : World} {bs : List Nat} {cs : List Value} {s : StoreD} (h : Rep.pt w bs cs s) (hs : Small s.Disk) (hn : s.Ents.length ≤ 1048576) :
  Calls Tryz.prog 12 #[.agg cs.toArray] w (RetSI 104 127 106 5 53 w (tidyS s)) := by
 have hcl := Rep.len h
 have H0 := hid h; have HS := hid hs; have HN := hid hn
 have I10 := hid (show (Tryz.prog.info? 38).map (·.size) = some 10 by kernel_rfl)
 have I0 := hid (show (Tryz.prog.info? 38).map (·.size) = some cs.length by rw [show cs.length = 10 from hcl]; exact I10.out)
 obtain ⟨i0, hi, hz0, hz1, hz2⟩ := info_parts info_EntryF
 have J := hid (show I64 s.Keep ∧ I64 s.Size ∧ I64 s.Len by obtain ⟨_, _, _, _, _, _, _, _, i6, i7, _, i9, _⟩ := store_split h; exact ⟨i6, i7, i9⟩)
 have J6 := hid J.out.1; have J7 := hid J.out.2.1; have J9 := hid J.out.2.2
 have HXc : cs[9]? = some (.int .i64 s.Len) := by
  obtain ⟨_, _, R, _, _, _, hcs, hD, _⟩ := store_split h
  rw [hcs, List.getElem?_append_right (by rw [show R.length = 6 from Rep.len hD]; omega), show R.length = 6 from Rep.len hD]; rfl
 have HXC := hid HXc
 obtain ⟨bD, bEs, RD, aE, lE, kE, hcs, hD, _, _, hE, _, _⟩ := store_split h
 have hD6 : RD.length = 6 := Rep.len hD
 have HC6 := hid (show cs[6]? = some (.int .i64 s.Keep) by rw [hcs, List.getElem?_append_right (by omega), hD6]; rfl)
 have HC7 := hid (show cs[7]? = some (.int .i64 s.Size) by rw [hcs, List.getElem?_append_right (by omega), hD6]; rfl)
 have HC8 := hid (show cs[8]? = some (.slice aE lE kE) by rw [hcs, List.getElem?_append_right (by omega), hD6]; rfl)
 obtain rfl := hE.len_eq
 have HEs := hid hE
 clear hcs hD hE hD6
 have HX := hid (Bx.alloc (Bx.new w cs.toArray 38 rfl) (by simp) (.cells #[.int .i64 0, .int .i64 0, .int .i64 0, .slice none 0 0, .slice none 0 0, .slice none 0 0, .int .i64 0, .int .i64 0, .slice none 0 0, .int .i64 0] 38))
 have HZ := hid (Bx.new (w.alloc (.cells cs.toArray 38)) #[.int .i64 0, .int .i64 0, .int .i64 0, .slice none 0 0, .slice none 0 0, .slice none 0 0, .int .i64 0, .int .i64 0, .slice none 0 0, .int .i64 0] 38 (b := w.heap.size + 1) (by simp))
 have hb0 := hid (((Below.refl w.heap.size w).alloc (Nat.le_refl _) (.cells cs.toArray 38)).alloc (by simp) (.cells #[.int .i64 0, .int .i64 0, .int .i64 0, .slice none 0 0, .slice none 0 0, .slice none 0 0, .int .i64 0, .int .i64 0, .slice none 0 0, .int .i64 0] 38))
 obtain ⟨wA, hwA⟩ : ∃ wA, wA = (w.alloc (.cells cs.toArray 38)).alloc (.cells #[.int .i64 0, .int .i64 0, .int .i64 0, .slice none 0 0, .slice none 0 0, .slice none 0 0, .int .i64 0, .int .i64 0, .slice none 0 0, .int .i64 0] 38) := ⟨_, rfl⟩
 have SA := hid (show wA.heap.size = w.heap.size + 2 by rw [hwA]; simp)
 rw [← hwA] at hb0 HX HZ
 clear h hs hn hcl HXc
 go_enter Tryz.func12, Tryz.ntmps12
 go_upto_region 1 with fail
 rw [← hwA]
 clear hwA
 go_wp2_with (first | (refine wpList_load_mid rfl 38 _ rfl w.heap.size 0 rfl cs _ HX.out.all Tryz.underlying38 rfl I0.out ?_))
 refine (s_StoreOk (grow H0.out hb0.out) HS.out).mono ?_
 rintro e w1 ⟨rfl, hb1⟩
 have HX1 := hid (Bx.below hb1 HX.out.f.lt HX.out)
 have HZ1 := hid (Bx.below hb1 HZ.out.f.lt HZ.out)
 have HB1 := hid (hb0.out.trans (hb1.mono hb0.out.size))
 have SZ1 := hid (show w.heap.size + 2 ≤ w1.heap.size by have := SA.out; have := hb1.size; omega)
 clear hb1 HX HZ
 cases hok : storeOk s
 ·have ED := hid (show tidyS s = (zStore, 1) by unfold tidyS; rw [hok]; rfl)
  clear hok
  obtain ⟨R, hR⟩ : ∃ R : List Value, R = [Value.int .i64 0, .int .i64 0, .int .i64 0, .slice none 0 0, .slice none 0 0, .slice none 0 0, .int .i64 0, .int .i64 0, .slice none 0 0, .int .i64 0] := ⟨_, rfl⟩
  have HC1 := hid (show R.toArray.all (·.oneCell') = true by rw [hR]; simp [Value.oneCell'])
  have HL := hid (show R.length = 10 by rw [hR]; rfl)
  have HR := hid hR
  have I1 := hid (show (Tryz.prog.info? 38).map (·.size) = some R.length by rw [HL.out]; exact I10.out)
  have I2 := hid (show (Tryz.prog.info? 38).map (·.size) = some R.toArray.size by rw [List.size_toArray, HL.out]; exact I10.out)
  have TH2 := hid (show w1.there (w.heap.size + 1) 0 R.toArray.size by rw [show R.toArray.size = 10 by rw [List.size_toArray]; exact HL.out]; exact HZ1.out.there 0 10 (by simp))
  have hbu : Tryz.prog.built 38 [] = some R.toArray := by rw [hR]; kernel_rfl
  have HBU := hid hbu
  clear hR hbu
  as_aux_lemma =>
   go_wp2_with (first | (refine wpList_build_to rfl 38 _ rfl R.toArray [] rfl HBU.out ?_) | (refine wpList_store_mid rfl 38 _ _ rfl (w.heap.size + 1) 0 R.toArray rfl rfl TH2.out I2.out HC1.out ?_))
   have X13 := hid (show Bx (w1.setCells (w.heap.size + 1) 0 R) (w.heap.size + 1) R.toArray from HZ1.out.setAll R (by rw [HL.out]; simp))
   refine bodyPost_ret (results_mid_tmp Tryz.results12 rfl R X13.out.all Tryz.underlying38 rfl I1.out) rfl ?_
   rw [ED.out]
   exact ⟨_, _, _, _, [], [], [], [], by rw [HR.out]; rfl, ⟨⟨by simp [I64, zStore, zDisk], by simp [I64, zStore, zDisk], by simp [I64, zStore, zDisk], OwnL.nil _ _ _, OwnL.nil _ _ _, OwnL.nil _ _ _, by simp, by simp, by simp⟩, OwnL.nil _ _ _, by simp [I64, zStore], by simp [I64, zStore], by simp [I64, zStore], by simp⟩, Below.setCells _ (Nat.le_add_right _ _) _ _ HB1.out⟩
 have HOK := hid hok
 clear hok
 have KR := hid (show 1 ≤ s.Keep ∧ s.Keep ≤ 100 by
  have := HOK.out
  unfold storeOk rngKS at this
  simp only [Bool.and_eq_true, decide_eq_true_eq] at this
  omega)
 go_wp2_with (first | (refine wpList_load_mid rfl 38 _ rfl w.heap.size 0 rfl cs _ HX1.out.all Tryz.underlying38 rfl I0.out ?_))
 refine (s_l06Copy (grow H0.out HB1.out) HS.out HN.out).mono ?_
 rintro e w3 ⟨v3, v4, v5, vE, B3, B4, B5, BE, rfl, hSF, hb3⟩
 have HX3 := hid (Bx.below hb3 HX1.out.f.lt HX1.out)
 have HZ3 := hid (Bx.below hb3 HZ1.out.f.lt HZ1.out)
 have HB3 := hid (HB1.out.trans (hb3.mono HB1.out.size))
 have SF3 := hid (hSF.mono SZ1.out)
 have SZ3 := hid (show w.heap.size + 2 ≤ w3.heap.size by have := SZ1.out; have := hb3.size; omega)
 clear hSF hb3 HX1 HZ1
 obtain ⟨S, hS6⟩ : ∃ S, S = dskC s.Disk v3 v4 v5 ++ stoT s vE := ⟨_, rfl⟩
 rw [← hS6]
 have HL := hid (show S.length = 10 by rw [hS6]; rfl)
 have HC1 := hid (show S.toArray.all (·.oneCell') = true by rw [hS6]; exact SF3.out.one)
 have HSS := hid hS6
 have I2 := hid (show (Tryz.prog.info? 38).map (·.size) = some S.toArray.size by rw [List.size_toArray, HL.out]; exact I10.out)
 have ZN := hid (Bx.new w3 #[.int .i64 0, .int .i64 0, .int .i64 0, .slice none 0 0, .slice none 0 0, .slice none 0 0, .int .i64 0, .int .i64 0, .slice none 0 0, .int .i64 0] 38 rfl)
 have TH := hid (show (w3.alloc (.cells #[.int .i64 0, .int .i64 0, .int .i64 0, .slice none 0 0, .slice none 0 0, .slice none 0 0, .int .i64 0, .int .i64 0, .slice none 0 0, .int .i64 0] 38)).there w3.heap.size 0 S.toArray.size by rw [show S.toArray.size = 10 by rw [List.size_toArray]; exact HL.out]; exact ZN.out.there 0 10 (by simp))
 clear hS6
 go_upto_region 4 with (refine wpList_store_mid rfl 38 _ _ rfl w3.heap.size 0 S.toArray rfl rfl TH.out I2.out HC1.out ?_)
 refine late_genw (fun w4 hw4 => ?_)
 have hb4 : Below w3.heap.size w3 w4 := by rw [hw4]; exact Below.setCells _ (Nat.le_refl _) _ _ ((Below.refl _ _).alloc (Nat.le_refl _) _)
 have X64 := hid (show Bx w4 w3.heap.size S.toArray by rw [hw4]; exact ZN.out.setAll S (by rw [HL.out]; simp))
 have HX4 := hid (Bx.below hb4 HX3.out.f.lt HX3.out)
 have HZ4 := hid (Bx.below hb4 HZ3.out.f.lt HZ3.out)
 have HB4 := hid (HB3.out.trans (hb4.mono HB3.out.size))
 have SF4 := hid (SF3.out.keep fun b hb => hb4.block b (SF3.out.lts b hb).2)
 have LB4 := hid (fun b hb => show b < w3.heap.size from (SF3.out.lts b hb).2)
 obtain ⟨B6, hB6⟩ : ∃ B6, B6 = w3.heap.size := ⟨_, rfl⟩
 rw [← hB6] at X64 LB4 SZ3
 rw [← hB6]
 have SZ6 := SZ3
 have L64 := hid (show B6 < w4.heap.size from X64.out.f.lt)
 clear hw4 hb4 HX3 HZ3 HB3 SF3 TH ZN hB6
 have LBE := hid (fun b (hb : b ∈ BE) => show b < B6 from LB4.out b (.inr hb))
 have x9 := bx_at HX4.out 9 HXC.out
 have x7 := bx_at HX4.out 7 HC7.out
 have x6 := bx_at HX4.out 6 HC6.out
 have x8 := bx_at HX4.out 8 HC8.out
 have hml := HN.out
 by_cases hA : s.Len ≤ s.Size
 ·have ED := hid (show tidyS s = (s, 0) by unfold tidyS; rw [if_pos HOK.out, if_pos (.inl hA)])
  obtain ⟨R, hR⟩ : ∃ R : List Value, R = S := ⟨_, rfl⟩
  have X6R := hid (show Bx w4 B6 R.toArray by rw [hR]; exact X64.out)
  have HL := hid (show R.length = 10 by rw [hR]; exact HL.out)
  have HC1 := hid (show R.toArray.all (·.oneCell') = true by rw [hR, HSS.out]; exact SF4.out.one)
  have HR := hid hR
  have I1 := hid (show (Tryz.prog.info? 38).map (·.size) = some R.length by rw [HL.out]; exact I10.out)
  have I2 := hid (show (Tryz.prog.info? 38).map (·.size) = some R.toArray.size by rw [List.size_toArray, HL.out]; exact I10.out)
  have TH := hid (show w4.there (w.heap.size + 1) 0 R.toArray.size by rw [show R.toArray.size = 10 by rw [List.size_toArray]; exact HL.out]; exact HZ4.out.there 0 10 (by simp))
  clear hR
  as_aux_lemma =>
   go_wp2_with (first | (refine wpList_load_mid rfl 38 _ rfl B6 0 rfl R _ X6R.out.all Tryz.underlying38 rfl I1.out ?_) | (refine wpList_store_mid rfl 38 _ _ rfl (w.heap.size + 1) 0 R.toArray rfl rfl TH.out I2.out HC1.out ?_))
   have X13 := hid (show Bx (w4.setCells (w.heap.size + 1) 0 R) (w.heap.size + 1) R.toArray from HZ4.out.setAll R (by rw [HL.out]; simp))
   refine bodyPost_ret (results_mid_tmp Tryz.results12 rfl R X13.out.all Tryz.underlying38 rfl I1.out) rfl ?_
   rw [ED.out]
   refine ⟨_, _, _, _, B3, B4, B5, BE, by rw [HR.out, HSS.out]; rfl, (SF4.out.mono (Nat.le_add_right _ _)).keep (fun b hb => setCells_heap _ _ _ _ _ ?_), Below.setCells _ (Nat.le_add_right _ _) _ _ HB4.out⟩
   have := SF4.out.lts b hb
   omega
 by_cases hA2 : (s.Ents.length : Int) ≤ s.Keep
 ·have ED := hid (show tidyS s = (s, 0) by unfold tidyS; rw [if_pos HOK.out, if_pos (.inr hA2)])
  obtain ⟨R, hR⟩ : ∃ R : List Value, R = S := ⟨_, rfl⟩
  have X6R := hid (show Bx w4 B6 R.toArray by rw [hR]; exact X64.out)
  have HL := hid (show R.length = 10 by rw [hR]; exact HL.out)
  have HC1 := hid (show R.toArray.all (·.oneCell') = true by rw [hR, HSS.out]; exact SF4.out.one)
  have HR := hid hR
  have I1 := hid (show (Tryz.prog.info? 38).map (·.size) = some R.length by rw [HL.out]; exact I10.out)
  have I2 := hid (show (Tryz.prog.info? 38).map (·.size) = some R.toArray.size by rw [List.size_toArray, HL.out]; exact I10.out)
  have TH := hid (show w4.there (w.heap.size + 1) 0 R.toArray.size by rw [show R.toArray.size = 10 by rw [List.size_toArray]; exact HL.out]; exact HZ4.out.there 0 10 (by simp))
  clear hR
  as_aux_lemma =>
   go_wp2_with (first | (refine wpList_load_mid rfl 38 _ rfl B6 0 rfl R _ X6R.out.all Tryz.underlying38 rfl I1.out ?_) | (refine wpList_store_mid rfl 38 _ _ rfl (w.heap.size + 1) 0 R.toArray rfl rfl TH.out I2.out HC1.out ?_))
   have X13 := hid (show Bx (w4.setCells (w.heap.size + 1) 0 R) (w.heap.size + 1) R.toArray from HZ4.out.setAll R (by rw [HL.out]; simp))
   refine bodyPost_ret (results_mid_tmp Tryz.results12 rfl R X13.out.all Tryz.underlying38 rfl I1.out) rfl ?_
   rw [ED.out]
   refine ⟨_, _, _, _, B3, B4, B5, BE, by rw [HR.out, HSS.out]; rfl, (SF4.out.mono (Nat.le_add_right _ _)).keep (fun b hb => setCells_heap _ _ _ _ _ ?_), Below.setCells _ (Nat.le_add_right _ _) _ _ HB4.out⟩
   have := SF4.out.lts b hb
   omega
 obtain ⟨n, hn⟩ : ∃ n : Nat, s.Keep = (n : Int) := ⟨s.Keep.toNat, by have := KR.out; omega⟩
 have ED1' := hid (show tidyS s = tidyR s (lastN n s.Ents) by unfold tidyS; rw [if_pos HOK.out, if_neg (fun h => h.elim hA hA2), hn]; rfl)
 have HLN := hid (s_LastN (HEs.out.grow HB4.out) n (by have := KR.out; omega) (by have := KR.out; omega))
 rw [← hn] at HLN
 obtain ⟨l, hl⟩ : ∃ l, l = lastN n s.Ents := ⟨_, rfl⟩
 rw [← hl] at HLN ED1'
 have hll : l.length ≤ 100 := by rw [hl, lastN_len]; have := KR.out; omega
 have HLL := hid hll
 clear hll hl hn
 go_upto_region 6 with fail
 go_wp2_with fail
 refine (HLN.out).mono ?_
 rintro e w5 ⟨vL, BL, rfl, hOL, hb5⟩
 have X65 := hid (Bx.below hb5 X64.out.f.lt X64.out)
 have HX5 := hid (Bx.below hb5 HX4.out.f.lt HX4.out)
 have HZ5 := hid (Bx.below hb5 HZ4.out.f.lt HZ4.out)
 have HB5 := hid (HB4.out.trans (hb5.mono HB4.out.size))
 have SF5 := hid (SF4.out.keep fun b hb => hb5.block b (SF4.out.lts b hb).2)
 have OL5 := hid hOL
 have S45 := hid (show w4.heap.size ≤ w5.heap.size from hb5.size)
 obtain ⟨aL, kL, rfl⟩ := hOL.slice
 clear hb5 hOL X64 HX4 HZ4 HB4 SF4 x9 x7 x6 x8 HLN hA hA2
 obtain ⟨bls, _, sl⟩ := OL5.out.slcL
 have SL := hid sl
 clear sl
 go_wp2_with fail
 refine (s_LogBytes SL.out).mono ?_
 rintro e w7 ⟨vb, BB, rfl, hOB, hb7⟩
 have X60 := hid (show Bx w7 B6 (dskC s.Disk v3 v4 v5 ++ stoT s vE).toArray by rw [← HSS.out]; exact Bx.below hb7 X65.out.f.lt X65.out)
 have HX0 := hid (Bx.below hb7 HX5.out.f.lt HX5.out)
 have HZ0 := hid (Bx.below hb7 HZ5.out.f.lt HZ5.out)
 have HB0 := hid (HB5.out.trans (hb7.mono HB5.out.size))
 have SF7 := hid (SF5.out.keep fun b hb => hb7.block b (SF5.out.lts b hb).2)
 have OL0 := hid (OL5.out.keep fun b hb => hb7.block b (OL5.out.lts b hb).2)
 have OB0 := hid hOB
 have LBL := hid (fun b (hb : b ∈ BL) => show B6 < b ∧ b < w7.heap.size by have := OL5.out.lts b hb; have := hb7.size; have := L64.out; omega)
 have LBB := hid (fun b (hb : b ∈ BB) => show B6 < b by have := (OB0.out.lts b hb).1; have := S45.out; have := L64.out; omega)
 have SW0 := hid (Nat.le_refl w7.heap.size)
 have DF0 := hid SF7.out.d
 have OE0 := hid SF7.out.e
 obtain ⟨pb, kb, rfl⟩ := hOB.slice
 clear hb7 hOB X65 HX5 HZ5 HB5 SF5 OL5 SL SF7 S45
 have ED1 := hid (show tidyS s = tidyR s l from ED1'.out)
 have FLE := hid (logL_le l)
 obtain ⟨fb, hfb⟩ : ∃ fb, fb = logL l := ⟨_, rfl⟩
 rw [← hfb] at OB0 FLE ⊢
 have HFB := hid hfb
 clear ED1' hfb
 go_wp2_with fail
 obtain ⟨bPa, hPa, _⟩ := DF0.out.own
 have PPa := hid (show Rep.pt w7 bPa (dskC s.Disk v3 v4 v5) s.Disk from hPa.1)
 clear hPa
 refine (s_l06DoE (kd := 7) (nm := emp) X60.out PPa.out HS.out (by decide) ⟨by simp, by decide, by decide, fun h => absurd rfl h, fun _ => emp_nil, fun _ => emp_nil, fun h => absurd h (by decide), fun _ => rfl, fun _ => rfl⟩).mono ?_
 rintro e Wa ⟨u3a, u4a, u5a, C3a, C4a, C5a, rfl, hX, hDF, hT⟩
 obtain ⟨ra, hra⟩ : ∃ r, r = diskDo s.Disk 7 emp emp 0 [] := ⟨_, rfl⟩
 rw [← hra] at hX hDF ⊢
 have HRa := hid hra
 clear hra
 have X6a := hid hX
 have DFa := hid hDF
 have SMa := hid (show Small ra.1 by rw [HRa.out]; exact small_do HS.out (by simp))
 have HXa := hid (bx_tchN HX0.out hT (by have := SZ6.out; simp; omega))
 have HZa := hid (bx_tchN HZ0.out hT (by have := SZ6.out; simp; omega))
 have OEa := hid (OE0.out.tch hT (fun b hb hm => by have := LBE.out b hb; simp at hm; omega))
 have OLa := hid (OL0.out.tch hT (fun b hb hm => by have := LBL.out b hb; simp at hm; omega))
 have OBa := hid (OB0.out.tch hT (fun b hb hm => by have := LBB.out b hb; simp at hm; omega))
 have SWa := hid (show w7.heap.size ≤ Wa.heap.size from Nat.le_trans SW0.out hT.size)
 have HBa := hid (HB0.out.trans (hT.below HB0.out.size (fun x hx => by have := SZ6.out; simp at hx; omega)))
 have LWa := hid (show B6 < w7.heap.size from X60.out.f.lt)
 obtain ⟨ca, hca⟩ : ∃ c, c = ra.2 := ⟨_, rfl⟩
 rw [← hca]
 have HCa := hid hca
 clear hX hDF hT hca
 by_cases h0 : ca = 0
 rotate_left
 ·have ED := hid (show tidyS s = (withD s ra.1, ca) by
   rw [ED1.out]; unfold tidyR; simp only
   rw [← HRa.out, ← HCa.out, if_neg h0])
  have SFz := hid (show StoreF 104 127 106 5 53 (w.heap.size + 2) Wa (withD s ra.1) u3a u4a u5a vE C3a C4a C5a BE from
   ⟨DFa.out.mono (by have := SZ6.out; have := LWa.out; omega), OEa.out, J6.out, J7.out, J9.out, fun b hb h2 => by have h3 := (DFa.out.lts b hb).1; have := LBE.out b h2; have := LWa.out; omega⟩)
  obtain ⟨R, hR⟩ : ∃ R : List Value, R = dskC ra.1 u3a u4a u5a ++ stoT s vE := ⟨_, rfl⟩
  have X6R := hid (show Bx Wa B6 R.toArray by rw [hR]; exact X6a.out)
  have HL := hid (show R.length = 10 by rw [hR]; rfl)
  have HC1 := hid (show R.toArray.all (·.oneCell') = true by rw [hR]; exact SFz.out.one)
  have HR := hid hR
  have I1 := hid (show (Tryz.prog.info? 38).map (·.size) = some R.length by rw [HL.out]; exact I10.out)
  have I2 := hid (show (Tryz.prog.info? 38).map (·.size) = some R.toArray.size by rw [List.size_toArray, HL.out]; exact I10.out)
  have TH := hid (show Wa.there (w.heap.size + 1) 0 R.toArray.size by rw [show R.toArray.size = 10 by rw [List.size_toArray]; exact HL.out]; exact HZa.out.there 0 10 (by simp))
  clear hR
  as_aux_lemma =>
   go_wp2_with (first | (refine wpList_load_mid rfl 38 _ rfl B6 0 rfl R _ X6R.out.all Tryz.underlying38 rfl I1.out ?_) | (refine wpList_store_mid rfl 38 _ _ rfl (w.heap.size + 1) 0 R.toArray rfl rfl TH.out I2.out HC1.out ?_))
   have X13 := hid (show Bx (Wa.setCells (w.heap.size + 1) 0 R) (w.heap.size + 1) R.toArray from HZa.out.setAll R (by rw [HL.out]; simp))
   refine bodyPost_ret (results_mid_tmp Tryz.results12 rfl R X13.out.all Tryz.underlying38 rfl I1.out) rfl ?_
   rw [ED.out]
   refine ⟨_, _, _, _, C3a, C4a, C5a, BE, by rw [HR.out]; rfl, (SFz.out.mono (Nat.le_add_right _ _)).keep (fun b hb => setCells_heap _ _ _ _ _ ?_), Below.setCells _ (Nat.le_add_right _ _) _ _ HBa.out⟩
   have := SFz.out.lts b hb
   omega
 have H0a := hid (show ra.2 = 0 by rw [← HCa.out]; exact h0)
 subst h0
 go_wp2_with fail
 obtain ⟨bPb, hPb, _⟩ := DFa.out.own
 have PPb := hid (show Rep.pt Wa bPb (dskC ra.1 u3a u4a u5a) ra.1 from hPb.1)
 clear hPb
 refine (s_l06DoE (kd := 1) (nm := temp) X6a.out PPb.out SMa.out (by decide) ⟨by simp, by decide, by decide, fun _ => by decide, fun h => absurd h (by decide), fun _ => emp_nil, fun h => absurd h (by decide), fun _ => rfl, fun _ => rfl⟩).mono ?_
 rintro e Wb ⟨u3b, u4b, u5b, C3b, C4b, C5b, rfl, hX, hDF, hT⟩
 obtain ⟨rb, hrb⟩ : ∃ r, r = diskDo ra.1 1 temp emp 0 [] := ⟨_, rfl⟩
 rw [← hrb] at hX hDF ⊢
 have HRb := hid hrb
 clear hrb
 have X6b := hid hX
 have DFb := hid hDF
 have SMb := hid (show Small rb.1 by rw [HRb.out]; exact small_do SMa.out (by simp))
 have HXb := hid (bx_tchN HXa.out hT (by have := SZ6.out; simp; omega))
 have HZb := hid (bx_tchN HZa.out hT (by have := SZ6.out; simp; omega))
 have OEb := hid (OEa.out.tch hT (fun b hb hm => by have := LBE.out b hb; simp at hm; omega))
 have OLb := hid (OLa.out.tch hT (fun b hb hm => by have := LBL.out b hb; simp at hm; omega))
 have OBb := hid (OBa.out.tch hT (fun b hb hm => by have := LBB.out b hb; simp at hm; omega))
 have SWb := hid (show w7.heap.size ≤ Wb.heap.size from Nat.le_trans SWa.out hT.size)
 have HBb := hid (HBa.out.trans (hT.below HBa.out.size (fun x hx => by have := SZ6.out; simp at hx; omega)))
 have LWb := hid (show B6 < Wa.heap.size from X6a.out.f.lt)
 obtain ⟨cb, hcb⟩ : ∃ c, c = rb.2 := ⟨_, rfl⟩
 rw [← hcb]
 have HCb := hid hcb
 clear hX hDF hT hcb
 by_cases h0 : cb = 0
 rotate_left
 ·have ED := hid (show tidyS s = (withD s rb.1, cb) by
   rw [ED1.out]; unfold tidyR; simp only
   rw [← HRa.out, if_pos H0a.out, ← HRb.out, ← HCb.out, if_neg h0])
  have SFz := hid (show StoreF 104 127 106 5 53 (w.heap.size + 2) Wb (withD s rb.1) u3b u4b u5b vE C3b C4b C5b BE from
   ⟨DFb.out.mono (by have := SZ6.out; have := LWb.out; omega), OEb.out, J6.out, J7.out, J9.out, fun b hb h2 => by have h3 := (DFb.out.lts b hb).1; have := LBE.out b h2; have := LWb.out; omega⟩)
  obtain ⟨R, hR⟩ : ∃ R : List Value, R = dskC rb.1 u3b u4b u5b ++ stoT s vE := ⟨_, rfl⟩
  have X6R := hid (show Bx Wb B6 R.toArray by rw [hR]; exact X6b.out)
  have HL := hid (show R.length = 10 by rw [hR]; rfl)
  have HC1 := hid (show R.toArray.all (·.oneCell') = true by rw [hR]; exact SFz.out.one)
  have HR := hid hR
  have I1 := hid (show (Tryz.prog.info? 38).map (·.size) = some R.length by rw [HL.out]; exact I10.out)
  have I2 := hid (show (Tryz.prog.info? 38).map (·.size) = some R.toArray.size by rw [List.size_toArray, HL.out]; exact I10.out)
  have TH := hid (show Wb.there (w.heap.size + 1) 0 R.toArray.size by rw [show R.toArray.size = 10 by rw [List.size_toArray]; exact HL.out]; exact HZb.out.there 0 10 (by simp))
  clear hR
  as_aux_lemma =>
   go_wp2_with (first | (refine wpList_load_mid rfl 38 _ rfl B6 0 rfl R _ X6R.out.all Tryz.underlying38 rfl I1.out ?_) | (refine wpList_store_mid rfl 38 _ _ rfl (w.heap.size + 1) 0 R.toArray rfl rfl TH.out I2.out HC1.out ?_))
   have X13 := hid (show Bx (Wb.setCells (w.heap.size + 1) 0 R) (w.heap.size + 1) R.toArray from HZb.out.setAll R (by rw [HL.out]; simp))
   refine bodyPost_ret (results_mid_tmp Tryz.results12 rfl R X13.out.all Tryz.underlying38 rfl I1.out) rfl ?_
   rw [ED.out]
   refine ⟨_, _, _, _, C3b, C4b, C5b, BE, by rw [HR.out]; rfl, (SFz.out.mono (Nat.le_add_right _ _)).keep (fun b hb => setCells_heap _ _ _ _ _ ?_), Below.setCells _ (Nat.le_add_right _ _) _ _ HBb.out⟩
   have := SFz.out.lts b hb
   omega
 have H0b := hid (show rb.2 = 0 by rw [← HCb.out]; exact h0)
 subst h0
 go_wp2_with fail
 obtain ⟨bbs, _, sb⟩ := OBb.out.slcL
 have SB := hid sb
 clear sb
 obtain ⟨bPc, hPc, _⟩ := DFb.out.own
 have PPc := hid (show Rep.pt Wb bPc (dskC rb.1 u3b u4b u5b) rb.1 from hPc.1)
 clear hPc
 refine (s_l06Put X6b.out PPc.out SMb.out (show temp.size ≤ maxLen by decide) (by decide) SB.out (by have := FLE.out; omega)).mono ?_
 rintro e Wc ⟨u3c, u4c, u5c, C3c, C4c, C5c, rfl, hX, hDF, hT⟩
 obtain ⟨rc, hrc⟩ : ∃ r, r = diskDo rb.1 2 temp emp 0 fb := ⟨_, rfl⟩
 rw [← hrc] at hX hDF ⊢
 have HRc := hid hrc
 clear hrc
 have X6c := hid hX
 have DFc := hid hDF
 have SMc := hid (show Small rc.1 by rw [HRc.out]; exact small_do SMb.out (by have := FLE.out; omega))
 have HXc := hid (bx_tchN HXb.out hT (by have := SZ6.out; simp; omega))
 have HZc := hid (bx_tchN HZb.out hT (by have := SZ6.out; simp; omega))
 have OEc := hid (OEb.out.tch hT (fun b hb hm => by have := LBE.out b hb; simp at hm; omega))
 have OLc := hid (OLb.out.tch hT (fun b hb hm => by have := LBL.out b hb; simp at hm; omega))
 have OBc := hid (OBb.out.tch hT (fun b hb hm => by have := LBB.out b hb; simp at hm; omega))
 have SWc := hid (show w7.heap.size ≤ Wc.heap.size from Nat.le_trans SWb.out hT.size)
 have HBc := hid (HBb.out.trans (hT.below HBb.out.size (fun x hx => by have := SZ6.out; simp at hx; omega)))
 have LWc := hid (show B6 < Wb.heap.size from X6b.out.f.lt)
 obtain ⟨cc, hcc⟩ : ∃ c, c = rc.2 := ⟨_, rfl⟩
 rw [← hcc]
 have HCc := hid hcc
 clear hX hDF hT hcc
 by_cases h5 : cc = 5
 ·have H5 := hid (show rc.2 = 5 by rw [← HCc.out]; exact h5)
  subst h5
  go_wp2_with fail
  obtain ⟨bPd, hPd, _⟩ := DFc.out.own
  have PPd := hid (show Rep.pt Wc bPd (dskC rc.1 u3c u4c u5c) rc.1 from hPd.1)
  clear hPd
  refine (s_l06DoE (kd := 6) (nm := temp) X6c.out PPd.out SMc.out (by decide) ⟨by simp, by decide, by decide, fun _ => by decide, fun h => absurd h (by decide), fun _ => emp_nil, fun h => absurd h (by decide), fun _ => rfl, fun _ => rfl⟩).mono ?_
  rintro e Wd ⟨u3d, u4d, u5d, C3d, C4d, C5d, rfl, hX, hDF, hT⟩
  obtain ⟨rd, hrd⟩ : ∃ r, r = diskDo rc.1 6 temp emp 0 [] := ⟨_, rfl⟩
  rw [← hrd] at hX hDF ⊢
  have HRd := hid hrd
  clear hrd
  have X6d := hid hX
  have DFd := hid hDF
  have SMd := hid (show Small rd.1 by rw [HRd.out]; exact small_do SMc.out (by simp))
  have HXd := hid (bx_tchN HXc.out hT (by have := SZ6.out; simp; omega))
  have HZd := hid (bx_tchN HZc.out hT (by have := SZ6.out; simp; omega))
  have OEd := hid (OEc.out.tch hT (fun b hb hm => by have := LBE.out b hb; simp at hm; omega))
  have OLd := hid (OLc.out.tch hT (fun b hb hm => by have := LBL.out b hb; simp at hm; omega))
  have OBd := hid (OBc.out.tch hT (fun b hb hm => by have := LBB.out b hb; simp at hm; omega))
  have SWd := hid (show w7.heap.size ≤ Wd.heap.size from Nat.le_trans SWc.out hT.size)
  have HBd := hid (HBc.out.trans (hT.below HBc.out.size (fun x hx => by have := SZ6.out; simp at hx; omega)))
  have LWd := hid (show B6 < Wc.heap.size from X6c.out.f.lt)
  obtain ⟨cd, hcd⟩ : ∃ c, c = rd.2 := ⟨_, rfl⟩
  rw [← hcd]
  have HCd := hid hcd
  clear hX hDF hT hcd
  by_cases h0 : cd = 0
  rotate_left
  ·have ED := hid (show tidyS s = (withD s rd.1, cd) by
    rw [ED1.out]; unfold tidyR; simp only
    rw [← HRa.out, if_pos H0a.out, ← HRb.out, if_pos H0b.out, ← HFB.out, ← HRc.out, if_pos H5.out, ← HRd.out, ← HCd.out, if_neg h0])
   have SFz := hid (show StoreF 104 127 106 5 53 (w.heap.size + 2) Wd (withD s rd.1) u3d u4d u5d vE C3d C4d C5d BE from
    ⟨DFd.out.mono (by have := SZ6.out; have := LWd.out; omega), OEd.out, J6.out, J7.out, J9.out, fun b hb h2 => by have h3 := (DFd.out.lts b hb).1; have := LBE.out b h2; have := LWd.out; omega⟩)
   obtain ⟨R, hR⟩ : ∃ R : List Value, R = dskC rd.1 u3d u4d u5d ++ stoT s vE := ⟨_, rfl⟩
   have X6R := hid (show Bx Wd B6 R.toArray by rw [hR]; exact X6d.out)
   have HL := hid (show R.length = 10 by rw [hR]; rfl)
   have HC1 := hid (show R.toArray.all (·.oneCell') = true by rw [hR]; exact SFz.out.one)
   have HR := hid hR
   have I1 := hid (show (Tryz.prog.info? 38).map (·.size) = some R.length by rw [HL.out]; exact I10.out)
   have I2 := hid (show (Tryz.prog.info? 38).map (·.size) = some R.toArray.size by rw [List.size_toArray, HL.out]; exact I10.out)
   have TH := hid (show Wd.there (w.heap.size + 1) 0 R.toArray.size by rw [show R.toArray.size = 10 by rw [List.size_toArray]; exact HL.out]; exact HZd.out.there 0 10 (by simp))
   clear hR
   as_aux_lemma =>
    go_wp2_with (first | (refine wpList_load_mid rfl 38 _ rfl B6 0 rfl R _ X6R.out.all Tryz.underlying38 rfl I1.out ?_) | (refine wpList_store_mid rfl 38 _ _ rfl (w.heap.size + 1) 0 R.toArray rfl rfl TH.out I2.out HC1.out ?_))
    have X13 := hid (show Bx (Wd.setCells (w.heap.size + 1) 0 R) (w.heap.size + 1) R.toArray from HZd.out.setAll R (by rw [HL.out]; simp))
    refine bodyPost_ret (results_mid_tmp Tryz.results12 rfl R X13.out.all Tryz.underlying38 rfl I1.out) rfl ?_
    rw [ED.out]
    refine ⟨_, _, _, _, C3d, C4d, C5d, BE, by rw [HR.out]; rfl, (SFz.out.mono (Nat.le_add_right _ _)).keep (fun b hb => setCells_heap _ _ _ _ _ ?_), Below.setCells _ (Nat.le_add_right _ _) _ _ HBd.out⟩
    have := SFz.out.lts b hb
    omega
  have H0d := hid (show rd.2 = 0 by rw [← HCd.out]; exact h0)
  subst h0
  go_wp2_with fail
  obtain ⟨bPe, hPe, _⟩ := DFd.out.own
  have PPe := hid (show Rep.pt Wd bPe (dskC rd.1 u3d u4d u5d) rd.1 from hPe.1)
  clear hPe
  refine (s_l06DoE (kd := 7) (nm := emp) X6d.out PPe.out SMd.out (by decide) ⟨by simp, by decide, by decide, fun h => absurd rfl h, fun _ => emp_nil, fun _ => emp_nil, fun h => absurd h (by decide), fun _ => rfl, fun _ => rfl⟩).mono ?_
  rintro e We ⟨u3e, u4e, u5e, C3e, C4e, C5e, rfl, hX, hDF, hT⟩
  obtain ⟨re, hre⟩ : ∃ r, r = diskDo rd.1 7 emp emp 0 [] := ⟨_, rfl⟩
  rw [← hre] at hX hDF ⊢
  have HRe := hid hre
  clear hre
  have X6e := hid hX
  have DFe := hid hDF
  have SMe := hid (show Small re.1 by rw [HRe.out]; exact small_do SMd.out (by simp))
  have HXe := hid (bx_tchN HXd.out hT (by have := SZ6.out; simp; omega))
  have HZe := hid (bx_tchN HZd.out hT (by have := SZ6.out; simp; omega))
  have OEe := hid (OEd.out.tch hT (fun b hb hm => by have := LBE.out b hb; simp at hm; omega))
  have OLe := hid (OLd.out.tch hT (fun b hb hm => by have := LBL.out b hb; simp at hm; omega))
  have OBe := hid (OBd.out.tch hT (fun b hb hm => by have := LBB.out b hb; simp at hm; omega))
  have SWe := hid (show w7.heap.size ≤ We.heap.size from Nat.le_trans SWd.out hT.size)
  have HBe := hid (HBd.out.trans (hT.below HBd.out.size (fun x hx => by have := SZ6.out; simp at hx; omega)))
  have LWe := hid (show B6 < Wd.heap.size from X6d.out.f.lt)
  obtain ⟨ce, hce⟩ : ∃ c, c = re.2 := ⟨_, rfl⟩
  rw [← hce]
  have HCe := hid hce
  clear hX hDF hT hce
  by_cases h0 : ce = 0
  ·have ED := hid (show tidyS s = (withD s re.1, 5) by
    rw [ED1.out]; unfold tidyR; simp only
    rw [← HRa.out, if_pos H0a.out, ← HRb.out, if_pos H0b.out, ← HFB.out, ← HRc.out, if_pos H5.out, ← HRd.out, if_pos H0d.out, ← HRe.out, ← HCe.out, if_pos h0])
   subst h0
   have SFz := hid (show StoreF 104 127 106 5 53 (w.heap.size + 2) We (withD s re.1) u3e u4e u5e vE C3e C4e C5e BE from
    ⟨DFe.out.mono (by have := SZ6.out; have := LWe.out; omega), OEe.out, J6.out, J7.out, J9.out, fun b hb h2 => by have h3 := (DFe.out.lts b hb).1; have := LBE.out b h2; have := LWe.out; omega⟩)
   obtain ⟨R, hR⟩ : ∃ R : List Value, R = dskC re.1 u3e u4e u5e ++ stoT s vE := ⟨_, rfl⟩
   have X6R := hid (show Bx We B6 R.toArray by rw [hR]; exact X6e.out)
   have HL := hid (show R.length = 10 by rw [hR]; rfl)
   have HC1 := hid (show R.toArray.all (·.oneCell') = true by rw [hR]; exact SFz.out.one)
   have HR := hid hR
   have I1 := hid (show (Tryz.prog.info? 38).map (·.size) = some R.length by rw [HL.out]; exact I10.out)
   have I2 := hid (show (Tryz.prog.info? 38).map (·.size) = some R.toArray.size by rw [List.size_toArray, HL.out]; exact I10.out)
   have TH := hid (show We.there (w.heap.size + 1) 0 R.toArray.size by rw [show R.toArray.size = 10 by rw [List.size_toArray]; exact HL.out]; exact HZe.out.there 0 10 (by simp))
   clear hR
   as_aux_lemma =>
    go_wp2_with (first | (refine wpList_load_mid rfl 38 _ rfl B6 0 rfl R _ X6R.out.all Tryz.underlying38 rfl I1.out ?_) | (refine wpList_store_mid rfl 38 _ _ rfl (w.heap.size + 1) 0 R.toArray rfl rfl TH.out I2.out HC1.out ?_))
    have X13 := hid (show Bx (We.setCells (w.heap.size + 1) 0 R) (w.heap.size + 1) R.toArray from HZe.out.setAll R (by rw [HL.out]; simp))
    refine bodyPost_ret (results_mid_tmp Tryz.results12 rfl R X13.out.all Tryz.underlying38 rfl I1.out) rfl ?_
    rw [ED.out]
    refine ⟨_, _, _, _, C3e, C4e, C5e, BE, by rw [HR.out]; rfl, (SFz.out.mono (Nat.le_add_right _ _)).keep (fun b hb => setCells_heap _ _ _ _ _ ?_), Below.setCells _ (Nat.le_add_right _ _) _ _ HBe.out⟩
    have := SFz.out.lts b hb
    omega
  ·have ED := hid (show tidyS s = (withD s re.1, ce) by
    rw [ED1.out]; unfold tidyR; simp only
    rw [← HRa.out, if_pos H0a.out, ← HRb.out, if_pos H0b.out, ← HFB.out, ← HRc.out, if_pos H5.out, ← HRd.out, if_pos H0d.out, ← HRe.out, ← HCe.out, if_neg h0])
   have SFz := hid (show StoreF 104 127 106 5 53 (w.heap.size + 2) We (withD s re.1) u3e u4e u5e vE C3e C4e C5e BE from
    ⟨DFe.out.mono (by have := SZ6.out; have := LWe.out; omega), OEe.out, J6.out, J7.out, J9.out, fun b hb h2 => by have h3 := (DFe.out.lts b hb).1; have := LBE.out b h2; have := LWe.out; omega⟩)
   obtain ⟨R, hR⟩ : ∃ R : List Value, R = dskC re.1 u3e u4e u5e ++ stoT s vE := ⟨_, rfl⟩
   have X6R := hid (show Bx We B6 R.toArray by rw [hR]; exact X6e.out)
   have HL := hid (show R.length = 10 by rw [hR]; rfl)
   have HC1 := hid (show R.toArray.all (·.oneCell') = true by rw [hR]; exact SFz.out.one)
   have HR := hid hR
   have I1 := hid (show (Tryz.prog.info? 38).map (·.size) = some R.length by rw [HL.out]; exact I10.out)
   have I2 := hid (show (Tryz.prog.info? 38).map (·.size) = some R.toArray.size by rw [List.size_toArray, HL.out]; exact I10.out)
   have TH := hid (show We.there (w.heap.size + 1) 0 R.toArray.size by rw [show R.toArray.size = 10 by rw [List.size_toArray]; exact HL.out]; exact HZe.out.there 0 10 (by simp))
   clear hR
   as_aux_lemma =>
    go_wp2_with (first | (refine wpList_load_mid rfl 38 _ rfl B6 0 rfl R _ X6R.out.all Tryz.underlying38 rfl I1.out ?_) | (refine wpList_store_mid rfl 38 _ _ rfl (w.heap.size + 1) 0 R.toArray rfl rfl TH.out I2.out HC1.out ?_))
    have X13 := hid (show Bx (We.setCells (w.heap.size + 1) 0 R) (w.heap.size + 1) R.toArray from HZe.out.setAll R (by rw [HL.out]; simp))
    refine bodyPost_ret (results_mid_tmp Tryz.results12 rfl R X13.out.all Tryz.underlying38 rfl I1.out) rfl ?_
    rw [ED.out]
    refine ⟨_, _, _, _, C3e, C4e, C5e, BE, by rw [HR.out]; rfl, (SFz.out.mono (Nat.le_add_right _ _)).keep (fun b hb => setCells_heap _ _ _ _ _ ?_), Below.setCells _ (Nat.le_add_right _ _) _ _ HBe.out⟩
    have := SFz.out.lts b hb
    omega
 have N5 := hid (show ¬ rc.2 = 5 by rw [← HCc.out]; exact h5)
 by_cases h0 : cc = 0
 rotate_left
 ·have ED := hid (show tidyS s = (withD s rc.1, cc) by
   rw [ED1.out]; unfold tidyR; simp only
   rw [← HRa.out, if_pos H0a.out, ← HRb.out, if_pos H0b.out, ← HFB.out, ← HRc.out, if_neg N5.out, ← HCc.out, if_neg h0])
  have SFz := hid (show StoreF 104 127 106 5 53 (w.heap.size + 2) Wc (withD s rc.1) u3c u4c u5c vE C3c C4c C5c BE from
   ⟨DFc.out.mono (by have := SZ6.out; have := LWc.out; omega), OEc.out, J6.out, J7.out, J9.out, fun b hb h2 => by have h3 := (DFc.out.lts b hb).1; have := LBE.out b h2; have := LWc.out; omega⟩)
  obtain ⟨R, hR⟩ : ∃ R : List Value, R = dskC rc.1 u3c u4c u5c ++ stoT s vE := ⟨_, rfl⟩
  have X6R := hid (show Bx Wc B6 R.toArray by rw [hR]; exact X6c.out)
  have HL := hid (show R.length = 10 by rw [hR]; rfl)
  have HC1 := hid (show R.toArray.all (·.oneCell') = true by rw [hR]; exact SFz.out.one)
  have HR := hid hR
  have I1 := hid (show (Tryz.prog.info? 38).map (·.size) = some R.length by rw [HL.out]; exact I10.out)
  have I2 := hid (show (Tryz.prog.info? 38).map (·.size) = some R.toArray.size by rw [List.size_toArray, HL.out]; exact I10.out)
  have TH := hid (show Wc.there (w.heap.size + 1) 0 R.toArray.size by rw [show R.toArray.size = 10 by rw [List.size_toArray]; exact HL.out]; exact HZc.out.there 0 10 (by simp))
  clear hR
  as_aux_lemma =>
   go_wp2_with (first | (refine wpList_load_mid rfl 38 _ rfl B6 0 rfl R _ X6R.out.all Tryz.underlying38 rfl I1.out ?_) | (refine wpList_store_mid rfl 38 _ _ rfl (w.heap.size + 1) 0 R.toArray rfl rfl TH.out I2.out HC1.out ?_))
   have X13 := hid (show Bx (Wc.setCells (w.heap.size + 1) 0 R) (w.heap.size + 1) R.toArray from HZc.out.setAll R (by rw [HL.out]; simp))
   refine bodyPost_ret (results_mid_tmp Tryz.results12 rfl R X13.out.all Tryz.underlying38 rfl I1.out) rfl ?_
   rw [ED.out]
   refine ⟨_, _, _, _, C3c, C4c, C5c, BE, by rw [HR.out]; rfl, (SFz.out.mono (Nat.le_add_right _ _)).keep (fun b hb => setCells_heap _ _ _ _ _ ?_), Below.setCells _ (Nat.le_add_right _ _) _ _ HBc.out⟩
   have := SFz.out.lts b hb
   omega
 clear h5
 have H0c := hid (show rc.2 = 0 by rw [← HCc.out]; exact h0)
 subst h0
 go_wp2_with fail
 obtain ⟨bPd, hPd, _⟩ := DFc.out.own
 have PPd := hid (show Rep.pt Wc bPd (dskC rc.1 u3c u4c u5c) rc.1 from hPd.1)
 clear hPd
 refine (s_l06DoE (kd := 3) (nm := temp) X6c.out PPd.out SMc.out (by decide) ⟨by simp, by decide, by decide, fun _ => by decide, fun h => absurd h (by decide), fun _ => emp_nil, fun h => absurd h (by decide), fun _ => rfl, fun _ => rfl⟩).mono ?_
 rintro e Wd ⟨u3d, u4d, u5d, C3d, C4d, C5d, rfl, hX, hDF, hT⟩
 obtain ⟨rd, hrd⟩ : ∃ r, r = diskDo rc.1 3 temp emp 0 [] := ⟨_, rfl⟩
 rw [← hrd] at hX hDF ⊢
 have HRd := hid hrd
 clear hrd
 have X6d := hid hX
 have DFd := hid hDF
 have SMd := hid (show Small rd.1 by rw [HRd.out]; exact small_do SMc.out (by simp))
 have HXd := hid (bx_tchN HXc.out hT (by have := SZ6.out; simp; omega))
 have HZd := hid (bx_tchN HZc.out hT (by have := SZ6.out; simp; omega))
 have OEd := hid (OEc.out.tch hT (fun b hb hm => by have := LBE.out b hb; simp at hm; omega))
 have OLd := hid (OLc.out.tch hT (fun b hb hm => by have := LBL.out b hb; simp at hm; omega))
 have OBd := hid (OBc.out.tch hT (fun b hb hm => by have := LBB.out b hb; simp at hm; omega))
 have SWd := hid (show w7.heap.size ≤ Wd.heap.size from Nat.le_trans SWc.out hT.size)
 have HBd := hid (HBc.out.trans (hT.below HBc.out.size (fun x hx => by have := SZ6.out; simp at hx; omega)))
 have LWd := hid (show B6 < Wc.heap.size from X6c.out.f.lt)
 obtain ⟨cd, hcd⟩ : ∃ c, c = rd.2 := ⟨_, rfl⟩
 rw [← hcd]
 have HCd := hid hcd
 clear hX hDF hT hcd
 by_cases h0 : cd = 0
 rotate_left
 ·have ED := hid (show tidyS s = (withD s rd.1, cd) by
   rw [ED1.out]; unfold tidyR; simp only
   rw [← HRa.out, if_pos H0a.out, ← HRb.out, if_pos H0b.out, ← HFB.out, ← HRc.out, if_neg N5.out, if_pos H0c.out, ← HRd.out, ← HCd.out, if_neg h0])
  have SFz := hid (show StoreF 104 127 106 5 53 (w.heap.size + 2) Wd (withD s rd.1) u3d u4d u5d vE C3d C4d C5d BE from
   ⟨DFd.out.mono (by have := SZ6.out; have := LWd.out; omega), OEd.out, J6.out, J7.out, J9.out, fun b hb h2 => by have h3 := (DFd.out.lts b hb).1; have := LBE.out b h2; have := LWd.out; omega⟩)
  obtain ⟨R, hR⟩ : ∃ R : List Value, R = dskC rd.1 u3d u4d u5d ++ stoT s vE := ⟨_, rfl⟩
  have X6R := hid (show Bx Wd B6 R.toArray by rw [hR]; exact X6d.out)
  have HL := hid (show R.length = 10 by rw [hR]; rfl)
  have HC1 := hid (show R.toArray.all (·.oneCell') = true by rw [hR]; exact SFz.out.one)
  have HR := hid hR
  have I1 := hid (show (Tryz.prog.info? 38).map (·.size) = some R.length by rw [HL.out]; exact I10.out)
  have I2 := hid (show (Tryz.prog.info? 38).map (·.size) = some R.toArray.size by rw [List.size_toArray, HL.out]; exact I10.out)
  have TH := hid (show Wd.there (w.heap.size + 1) 0 R.toArray.size by rw [show R.toArray.size = 10 by rw [List.size_toArray]; exact HL.out]; exact HZd.out.there 0 10 (by simp))
  clear hR
  as_aux_lemma =>
   go_wp2_with (first | (refine wpList_load_mid rfl 38 _ rfl B6 0 rfl R _ X6R.out.all Tryz.underlying38 rfl I1.out ?_) | (refine wpList_store_mid rfl 38 _ _ rfl (w.heap.size + 1) 0 R.toArray rfl rfl TH.out I2.out HC1.out ?_))
   have X13 := hid (show Bx (Wd.setCells (w.heap.size + 1) 0 R) (w.heap.size + 1) R.toArray from HZd.out.setAll R (by rw [HL.out]; simp))
   refine bodyPost_ret (results_mid_tmp Tryz.results12 rfl R X13.out.all Tryz.underlying38 rfl I1.out) rfl ?_
   rw [ED.out]
   refine ⟨_, _, _, _, C3d, C4d, C5d, BE, by rw [HR.out]; rfl, (SFz.out.mono (Nat.le_add_right _ _)).keep (fun b hb => setCells_heap _ _ _ _ _ ?_), Below.setCells _ (Nat.le_add_right _ _) _ _ HBd.out⟩
   have := SFz.out.lts b hb
   omega
 have H0d := hid (show rd.2 = 0 by rw [← HCd.out]; exact h0)
 subst h0
 go_wp2_with fail
 obtain ⟨bPe, hPe, _⟩ := DFd.out.own
 have PPe := hid (show Rep.pt Wd bPe (dskC rd.1 u3d u4d u5d) rd.1 from hPe.1)
 clear hPe
 refine (s_l06DoR (nm := temp) X6d.out PPe.out SMd.out ⟨by simp, by decide, by decide, fun _ => by decide, fun h => absurd h (by decide), fun h => absurd rfl h, fun _ => by decide, fun _ => rfl, fun _ => rfl⟩).mono ?_
 rintro e We ⟨u3e, u4e, u5e, C3e, C4e, C5e, rfl, hX, hDF, hT⟩
 obtain ⟨re, hre⟩ : ∃ r, r = diskDo rd.1 5 temp hist 0 [] := ⟨_, rfl⟩
 rw [← hre] at hX hDF ⊢
 have HRe := hid hre
 clear hre
 have X6e := hid hX
 have DFe := hid hDF
 have SMe := hid (show Small re.1 by rw [HRe.out]; exact small_do SMd.out (by simp))
 have HXe := hid (bx_tchN HXd.out hT (by have := SZ6.out; simp; omega))
 have HZe := hid (bx_tchN HZd.out hT (by have := SZ6.out; simp; omega))
 have OEe := hid (OEd.out.tch hT (fun b hb hm => by have := LBE.out b hb; simp at hm; omega))
 have OLe := hid (OLd.out.tch hT (fun b hb hm => by have := LBL.out b hb; simp at hm; omega))
 have OBe := hid (OBd.out.tch hT (fun b hb hm => by have := LBB.out b hb; simp at hm; omega))
 have SWe := hid (show w7.heap.size ≤ We.heap.size from Nat.le_trans SWd.out hT.size)
 have HBe := hid (HBd.out.trans (hT.below HBd.out.size (fun x hx => by have := SZ6.out; simp at hx; omega)))
 have LWe := hid (show B6 < Wd.heap.size from X6d.out.f.lt)
 obtain ⟨ce, hce⟩ : ∃ c, c = re.2 := ⟨_, rfl⟩
 rw [← hce]
 have HCe := hid hce
 clear hX hDF hT hce
 by_cases h0 : ce = 0
 rotate_left
 ·have ED := hid (show tidyS s = (withD s re.1, ce) by
   rw [ED1.out]; unfold tidyR; simp only
   rw [← HRa.out, if_pos H0a.out, ← HRb.out, if_pos H0b.out, ← HFB.out, ← HRc.out, if_neg N5.out, if_pos H0c.out, ← HRd.out, if_pos H0d.out, ← HRe.out, ← HCe.out, if_neg h0])
  have SFz := hid (show StoreF 104 127 106 5 53 (w.heap.size + 2) We (withD s re.1) u3e u4e u5e vE C3e C4e C5e BE from
   ⟨DFe.out.mono (by have := SZ6.out; have := LWe.out; omega), OEe.out, J6.out, J7.out, J9.out, fun b hb h2 => by have h3 := (DFe.out.lts b hb).1; have := LBE.out b h2; have := LWe.out; omega⟩)
  obtain ⟨R, hR⟩ : ∃ R : List Value, R = dskC re.1 u3e u4e u5e ++ stoT s vE := ⟨_, rfl⟩
  have X6R := hid (show Bx We B6 R.toArray by rw [hR]; exact X6e.out)
  have HL := hid (show R.length = 10 by rw [hR]; rfl)
  have HC1 := hid (show R.toArray.all (·.oneCell') = true by rw [hR]; exact SFz.out.one)
  have HR := hid hR
  have I1 := hid (show (Tryz.prog.info? 38).map (·.size) = some R.length by rw [HL.out]; exact I10.out)
  have I2 := hid (show (Tryz.prog.info? 38).map (·.size) = some R.toArray.size by rw [List.size_toArray, HL.out]; exact I10.out)
  have TH := hid (show We.there (w.heap.size + 1) 0 R.toArray.size by rw [show R.toArray.size = 10 by rw [List.size_toArray]; exact HL.out]; exact HZe.out.there 0 10 (by simp))
  clear hR
  as_aux_lemma =>
   go_wp2_with (first | (refine wpList_load_mid rfl 38 _ rfl B6 0 rfl R _ X6R.out.all Tryz.underlying38 rfl I1.out ?_) | (refine wpList_store_mid rfl 38 _ _ rfl (w.heap.size + 1) 0 R.toArray rfl rfl TH.out I2.out HC1.out ?_))
   have X13 := hid (show Bx (We.setCells (w.heap.size + 1) 0 R) (w.heap.size + 1) R.toArray from HZe.out.setAll R (by rw [HL.out]; simp))
   refine bodyPost_ret (results_mid_tmp Tryz.results12 rfl R X13.out.all Tryz.underlying38 rfl I1.out) rfl ?_
   rw [ED.out]
   refine ⟨_, _, _, _, C3e, C4e, C5e, BE, by rw [HR.out]; rfl, (SFz.out.mono (Nat.le_add_right _ _)).keep (fun b hb => setCells_heap _ _ _ _ _ ?_), Below.setCells _ (Nat.le_add_right _ _) _ _ HBe.out⟩
   have := SFz.out.lts b hb
   omega
 have H0e := hid (show re.2 = 0 by rw [← HCe.out]; exact h0)
 subst h0
 go_wp2_with fail
 obtain ⟨bPf, hPf, _⟩ := DFe.out.own
 have PPf := hid (show Rep.pt We bPf (dskC re.1 u3e u4e u5e) re.1 from hPf.1)
 clear hPf
 refine (s_l06DoE (kd := 7) (nm := emp) X6e.out PPf.out SMe.out (by decide) ⟨by simp, by decide, by decide, fun h => absurd rfl h, fun _ => emp_nil, fun _ => emp_nil, fun h => absurd h (by decide), fun _ => rfl, fun _ => rfl⟩).mono ?_
 rintro e Wf ⟨u3f, u4f, u5f, C3f, C4f, C5f, rfl, hX, hDF, hT⟩
 obtain ⟨rf, hrf⟩ : ∃ r, r = diskDo re.1 7 emp emp 0 [] := ⟨_, rfl⟩
 rw [← hrf] at hX hDF ⊢
 have HRf := hid hrf
 clear hrf
 have X6f := hid hX
 have DFf := hid hDF
 have SMf := hid (show Small rf.1 by rw [HRf.out]; exact small_do SMe.out (by simp))
 have HXf := hid (bx_tchN HXe.out hT (by have := SZ6.out; simp; omega))
 have HZf := hid (bx_tchN HZe.out hT (by have := SZ6.out; simp; omega))
 have OEf := hid (OEe.out.tch hT (fun b hb hm => by have := LBE.out b hb; simp at hm; omega))
 have OLf := hid (OLe.out.tch hT (fun b hb hm => by have := LBL.out b hb; simp at hm; omega))
 have OBf := hid (OBe.out.tch hT (fun b hb hm => by have := LBB.out b hb; simp at hm; omega))
 have SWf := hid (show w7.heap.size ≤ Wf.heap.size from Nat.le_trans SWe.out hT.size)
 have HBf := hid (HBe.out.trans (hT.below HBe.out.size (fun x hx => by have := SZ6.out; simp at hx; omega)))
 have LWf := hid (show B6 < We.heap.size from X6e.out.f.lt)
 obtain ⟨cf, hcf⟩ : ∃ c, c = rf.2 := ⟨_, rfl⟩
 rw [← hcf]
 have HCf := hid hcf
 clear hX hDF hT hcf
 by_cases h0 : cf = 0
 rotate_left
 ·have ED := hid (show tidyS s = (withD s rf.1, cf) by
   rw [ED1.out]; unfold tidyR; simp only
   rw [← HRa.out, if_pos H0a.out, ← HRb.out, if_pos H0b.out, ← HFB.out, ← HRc.out, if_neg N5.out, if_pos H0c.out, ← HRd.out, if_pos H0d.out, ← HRe.out, if_pos H0e.out, ← HRf.out, ← HCf.out, if_neg h0])
  have SFz := hid (show StoreF 104 127 106 5 53 (w.heap.size + 2) Wf (withD s rf.1) u3f u4f u5f vE C3f C4f C5f BE from
   ⟨DFf.out.mono (by have := SZ6.out; have := LWf.out; omega), OEf.out, J6.out, J7.out, J9.out, fun b hb h2 => by have h3 := (DFf.out.lts b hb).1; have := LBE.out b h2; have := LWf.out; omega⟩)
  obtain ⟨R, hR⟩ : ∃ R : List Value, R = dskC rf.1 u3f u4f u5f ++ stoT s vE := ⟨_, rfl⟩
  have X6R := hid (show Bx Wf B6 R.toArray by rw [hR]; exact X6f.out)
  have HL := hid (show R.length = 10 by rw [hR]; rfl)
  have HC1 := hid (show R.toArray.all (·.oneCell') = true by rw [hR]; exact SFz.out.one)
  have HR := hid hR
  have I1 := hid (show (Tryz.prog.info? 38).map (·.size) = some R.length by rw [HL.out]; exact I10.out)
  have I2 := hid (show (Tryz.prog.info? 38).map (·.size) = some R.toArray.size by rw [List.size_toArray, HL.out]; exact I10.out)
  have TH := hid (show Wf.there (w.heap.size + 1) 0 R.toArray.size by rw [show R.toArray.size = 10 by rw [List.size_toArray]; exact HL.out]; exact HZf.out.there 0 10 (by simp))
  clear hR
  as_aux_lemma =>
   go_wp2_with (first | (refine wpList_load_mid rfl 38 _ rfl B6 0 rfl R _ X6R.out.all Tryz.underlying38 rfl I1.out ?_) | (refine wpList_store_mid rfl 38 _ _ rfl (w.heap.size + 1) 0 R.toArray rfl rfl TH.out I2.out HC1.out ?_))
   have X13 := hid (show Bx (Wf.setCells (w.heap.size + 1) 0 R) (w.heap.size + 1) R.toArray from HZf.out.setAll R (by rw [HL.out]; simp))
   refine bodyPost_ret (results_mid_tmp Tryz.results12 rfl R X13.out.all Tryz.underlying38 rfl I1.out) rfl ?_
   rw [ED.out]
   refine ⟨_, _, _, _, C3f, C4f, C5f, BE, by rw [HR.out]; rfl, (SFz.out.mono (Nat.le_add_right _ _)).keep (fun b hb => setCells_heap _ _ _ _ _ ?_), Below.setCells _ (Nat.le_add_right _ _) _ _ HBf.out⟩
   have := SFz.out.lts b hb
   omega
 have ED := hid (show tidyS s = ({ s with Disk := rf.1, Ents := l, Len := (fb.length : Int) }, 0) by
  rw [ED1.out]; unfold tidyR; simp only
  rw [← HRa.out, if_pos H0a.out, ← HRb.out, if_pos H0b.out, ← HFB.out, ← HRc.out, if_neg N5.out, if_pos H0c.out, ← HRd.out, if_pos H0d.out, ← HRe.out, if_pos H0e.out, ← HRf.out, ← HCf.out, if_pos h0])
 subst h0
 have x6 := X6f.out.out; have f6 := X6f.out.fr
 have n60 : w.heap.size ≠ B6 := by have := SZ6.out; omega
 go_upto_region 29 with fail
 refine late_genw (fun wD hwD => ?_)
 have kD : ∀ k, k ≠ B6 → wD.heap[k]? = Wf.heap[k]? := fun k hk => by rw [hwD]; exact (Below.heap_setCell _ _ _ _ hk).trans (Below.heap_setCell _ _ _ _ hk)
 have X6D := hid (show Bx wD B6 (dskC rf.1 u3f u4f u5f ++ stoT { s with Disk := rf.1, Ents := l, Len := (fb.length : Int) } (.slice aL l.length kL)).toArray by rw [hwD]; exact (X6f.out.setSame 8 _).setSame 9 _)
 have HZD := hid (HZf.out.keep (kD _ (by have := SZ6.out; omega)))
 have BDD := hid (show Below w.heap.size w wD by rw [hwD]; exact (HBf.out.setCell (show w.heap.size ≤ B6 by have := SZ6.out; omega) _).setCell (show w.heap.size ≤ B6 by have := SZ6.out; omega) _)
 have SFz := hid (show StoreF 104 127 106 5 53 (w.heap.size + 2) wD { s with Disk := rf.1, Ents := l, Len := (fb.length : Int) } u3f u4f u5f (.slice aL l.length kL) C3f C4f C5f BL from
  ⟨(DFf.out.mono (by have := SZ6.out; have := LWf.out; omega)).keep (fun b hb => kD b (by have := (DFf.out.lts b hb).1; have := LWf.out; omega)),
   (OLf.out.mono (by have := SZ6.out; have := L64.out; omega)).keep (fun b hb => kD b (by have := LBL.out b hb; omega)), J6.out, J7.out, (by have := FLE.out; unfold I64; show _ ≤ (fb.length : Int) ∧ (fb.length : Int) ≤ _; omega),
   fun b hb h2 => by
    have h8 := DFf.out.lts b hb
    have h7 := LBL.out b h2
    have h6 := SWe.out
    omega⟩)
 clear hwD kD x6 f6 n60
 obtain ⟨R, hR⟩ : ∃ R : List Value, R = dskC rf.1 u3f u4f u5f ++ stoT { s with Disk := rf.1, Ents := l, Len := (fb.length : Int) } (.slice aL l.length kL) := ⟨_, rfl⟩
 have X6R := hid (show Bx wD B6 R.toArray by rw [hR]; exact X6D.out)
 have HL := hid (show R.length = 10 by rw [hR]; rfl)
 have HC1 := hid (show R.toArray.all (·.oneCell') = true by rw [hR]; exact SFz.out.one)
 have HR := hid hR
 have I1 := hid (show (Tryz.prog.info? 38).map (·.size) = some R.length by rw [HL.out]; exact I10.out)
 have I2 := hid (show (Tryz.prog.info? 38).map (·.size) = some R.toArray.size by rw [List.size_toArray, HL.out]; exact I10.out)
 have TH := hid (show wD.there (w.heap.size + 1) 0 R.toArray.size by rw [show R.toArray.size = 10 by rw [List.size_toArray]; exact HL.out]; exact HZD.out.there 0 10 (by simp))
 clear hR
 as_aux_lemma =>
  go_wp2_with (first | (refine wpList_load_mid rfl 38 _ rfl B6 0 rfl R _ X6R.out.all Tryz.underlying38 rfl I1.out ?_) | (refine wpList_store_mid rfl 38 _ _ rfl (w.heap.size + 1) 0 R.toArray rfl rfl TH.out I2.out HC1.out ?_))
  have X13 := hid (show Bx (wD.setCells (w.heap.size + 1) 0 R) (w.heap.size + 1) R.toArray from HZD.out.setAll R (by rw [HL.out]; simp))
  refine bodyPost_ret (results_mid_tmp Tryz.results12 rfl R X13.out.all Tryz.underlying38 rfl I1.out) rfl ?_
  rw [ED.out]
  refine ⟨_, _, _, _, C3f, C4f, C5f, BL, by rw [HR.out]; rfl, (SFz.out.mono (Nat.le_add_right _ _)).keep (fun b hb => setCells_heap _ _ _ _ _ ?_), Below.setCells _ (Nat.le_add_right _ _) _ _ BDD.out⟩
  have := SFz.out.lts b hb
  omega
end Go.Proofs.YtdjcjilipgpnmaaGreat
