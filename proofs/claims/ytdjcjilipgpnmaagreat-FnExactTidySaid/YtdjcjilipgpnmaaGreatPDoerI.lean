/- An operation of a doer, whether one has failed or not. -/
import Derived.Test.YtdjcjilipgpnmaaGreatPDoI
section
set_option linter.unusedSimpArgs false
set_option linter.unusedVariables false
namespace Go.G6
open Go Go.RowKit Rep
theorem rng_in (a b : Int) : rngKS a b = (inB a 1 100 && inB b 0 60000) := by
 unfold rngKS inB; rw [Bool.eq_iff_iff]; simp; omega
/-- A doer's box behind an operation. -/
def DoAct (eN eL eT eB : TypeId) (w : World) (Bs : Nat) (r : DiskD × Int) (e : Ending) (w' : World) : Prop :=
 ∃ v3 v4 v5 B3 B4 B5, e = .returned (.tuple #[]) ∧ Bx w' Bs (dskC r.1 v3 v4 v5 ++ [Value.int .i64 r.2]).toArray ∧ DiskF eN eL eT eB w.heap.size w' r.1 v3 v4 v5 B3 B4 B5 ∧ Tch [Bs] w w'
theorem step_load_mid {P : Program} {ops : Array Oper} {op : Oper} {a : Act} {w : World} {K : Act → World → Prop} {Q : Exit → Act → World → Prop} {E : Prop} (hgd : op.guard = none) (ty : TypeId) (x : Operand) (ho : op.op = .load ty x)
  (b o : Nat) (hx : a.eval x = .pointer (some ⟨b, o, none⟩)) (cs : List Value) (d : TypeDesc) (hc : w.rangeAt b o cs) (hu : P.underlying ty = some d) (hd : d.isRow = true) (hi : (P.info? ty).map (·.size) = some cs.length)
  (h : K (a.put op.dst (.agg cs.toArray)) w) : if Region.wanted op (yielded ops a.tmps) = true then Oper.wp P op a w K Q else E := by
 have hw : Region.wanted op (yielded ops a.tmps) = true := by simp [Region.wanted, hgd]
 rw [if_pos hw]
 exact wp_load_mid ty x ho b o hx cs d hc hu hd hi h
theorem rangeAt_setc {w : World} {b o : Nat} {cs : List Value} (h : w.rangeAt b o cs) {p : Addr} (hn : b ≠ p.block) (v : Value) : (w.setCell p v).rangeAt b o cs := fun j u hj => (World.cell?_setCell_far _ _ _ _ (fun e => hn e.symm)).trans (h j u hj)
end Go.G6
namespace Go.Proofs.YtdjcjilipgpnmaaGreat
open Go Go.RowKit Go.G6
set_option maxHeartbeats 6000000
set_option maxRecDepth 10000
theorem i_StoreOk {w : World} {bs : List Nat} {cs : List Value} {s : StoreD} (h : Rep.pt w bs cs s) (hs : Small s.Disk) :
  Calls Tryz.prog 25 #[.agg cs.toArray] w fun e w' => e = .returned (.bool (storeOk s)) ∧ Below w.heap.size w w' := by
 obtain ⟨bD, bE, R, aE, lE, kE, rfl, hD, i6, i7, hE, i9, _⟩ := store_split h
 obtain rfl := hE.len_eq
 have hcl := Rep.len hD
 have HD := hid hD; have HS := hid hs; have HE := hid hE
 have HL := hid (show R.length = 6 from hcl)
 have I0 := hid (show (Tryz.prog.info? 35).map (·.size) = some R.length by rw [HL.out]; kernel_rfl)
 obtain ⟨C, hC⟩ : ∃ C : List Value, C = R ++ [.int .i64 s.Keep, .int .i64 s.Size, .slice aE s.Ents.length kE, .int .i64 s.Len] := ⟨_, rfl⟩
 rw [← hC]
 have HX := hid (Bx.new w C.toArray 38 rfl)
 have hl6 : ∀ (j : Nat) v, [Value.int .i64 s.Keep, .int .i64 s.Size, .slice aE s.Ents.length kE, .int .i64 s.Len][j]? = some v → C[6 + j]? = some v := fun j v hv => by
  rw [hC, List.getElem?_append_right (by rw [HL.out]; omega), HL.out, show 6 + j - 6 = j by omega]; exact hv
 have x6 := bx_at HX.out 6 (hl6 0 _ rfl)
 have x7 := bx_at HX.out 7 (hl6 1 _ rfl)
 have x8 := bx_at HX.out 8 (hl6 2 _ rfl)
 have x9 := bx_at HX.out 9 (hl6 3 _ rfl)
 have hcsD : R[1]? = some (.int .i64 s.Disk.Fuse) := by
  obtain ⟨_, _, _, _, _, _, _, _, _, _, _, _, _, hcs, _⟩ := open_Disk hD
  rw [hcs]; rfl
 have x1 := bx_at HX.out 1 (v := .int .i64 s.Disk.Fuse) (by rw [hC, List.getElem?_append_left (by rw [HL.out]; omega)]; exact hcsD)
 have HR := hid (show (w.alloc (.cells C.toArray 38)).rangeAt w.heap.size 0 R from by have := HX.out.all; rw [hC] at this ⊢; exact range_left this)
 have hb0 := hid ((Below.refl w.heap.size w).alloc (Nat.le_refl _) (.cells C.toArray 38))
 obtain ⟨wA, hwA⟩ : ∃ wA, wA = w.alloc (.cells C.toArray 38) := ⟨_, rfl⟩
 rw [← hwA] at hb0 x1 x6 x7 x8 x9 HR HX
 have X1 := hid x1; have X6 := hid x6; have X7 := hid x7; have X8 := hid x8; have X9 := hid x9
 have L0 := hid HX.out.f.lt
 clear h hD hs hE hC hl6 hcsD x1 x6 x7 x8 x9 hcl HX
 go_enter Tryz.func25, Tryz.ntmps25
 go_upto_region 1 with fail
 rw [← hwA]
 clear hwA
 go_wp2_with (first | (refine wpList_load_mid rfl 35 _ rfl w.heap.size 0 rfl R _ HR.out Tryz.underlying35 rfl I0.out ?_))
 refine (i_DiskOk (grow HD.out hb0.out) HS.out).mono ?_
 rintro e w1 ⟨rfl, hb1⟩
 have HB1 := hid (hb0.out.trans (hb1.mono hb0.out.size))
 have x6 := ((bcell hb1).1 _ 6 L0.out).trans X6.out
 have x7 := ((bcell hb1).1 _ 7 L0.out).trans X7.out
 have x8 := ((bcell hb1).1 _ 8 L0.out).trans X8.out
 have AB1 := hid hb1
 clear hb1
 cases hdk : diskOk s.Disk
 ·have E := hid (show storeOk s = false by unfold storeOk; rw [hdk]; rfl)
  clear hdk
  go_wp2
  go_ret
  exact ⟨ret_bool (by rw [E.out]), HB1.out⟩
 have HDK := hid hdk
 clear hdk
 cases hk1 : inB s.Keep 1 100
 ·have E := hid (show storeOk s = false by unfold storeOk; rw [HDK.out, rng_in, hk1]; rfl)
  have HK1 := hid hk1
  clear hk1
  go_wp2_with (go_at_call 26; refine (i_in _ _ _ _).mono ?_; rintro e w9 ⟨rfl, rfl⟩; rw [HK1.out])
  go_ret
  exact ⟨ret_bool (by rw [E.out]), HB1.out⟩
 have HK1 := hid hk1
 clear hk1
 cases hk2 : inB s.Size 0 60000
 ·have E := hid (show storeOk s = false by unfold storeOk; rw [HDK.out, rng_in, HK1.out, hk2]; rfl)
  have HK2 := hid hk2
  clear hk2
  go_wp2_with (go_at_call 26; refine (i_in _ _ _ _).mono ?_; rintro e w9 ⟨rfl, rfl⟩; first | rw [HK1.out] | rw [HK2.out])
  go_ret
  exact ⟨ret_bool (by rw [E.out]), HB1.out⟩
 have HK2 := hid hk2
 have HRG := hid (show rngKS s.Keep s.Size = true by rw [rng_in, HK1.out, hk2]; rfl)
 clear hk2
 go_wp2_with (go_at_call 26; refine (i_in _ _ _ _).mono ?_; rintro e w9 ⟨rfl, rfl⟩; first | rw [HK1.out] | rw [HK2.out])
 refine (i_EntriesOk (HE.out.grow HB1.out)).mono ?_
 rintro e w2 ⟨rfl, hb2⟩
 have AB2 := hid (AB1.out.trans (hb2.mono AB1.out.size))
 have HB2 := hid (HB1.out.trans (hb2.mono HB1.out.size))
 clear hb2 x6 x7 x8
 cases hen : entriesOk s.Ents
 ·have E := hid (show storeOk s = false by unfold storeOk; rw [HDK.out, HRG.out, hen]; rfl)
  clear hen
  go_wp2
  go_ret
  exact ⟨ret_bool (by rw [E.out]), HB2.out⟩
 have HEN := hid hen
 clear hen
 have x1 := ((bcell AB2.out).1 _ 1 L0.out).trans X1.out
 by_cases hfu : s.Disk.Fuse = 0
 ·have E := hid (show storeOk s = true by unfold storeOk; rw [HDK.out, HRG.out, HEN.out, if_pos hfu]; rfl)
  obtain ⟨fu, hfe⟩ : ∃ fu, fu = s.Disk.Fuse := ⟨_, rfl⟩
  rw [← hfe] at x1 hfu
  clear hfe
  subst hfu
  go_wp2
  go_ret
  exact ⟨ret_bool (by rw [E.out]), HB2.out⟩
 have E0 := hid (show storeOk s = (thereB s.Disk hist && (logOk s.Ents && (decide (readL s.Disk hist = logL s.Ents) && (decide (s.Len = ((readL s.Disk hist).length : Int)) && !thereB s.Disk temp)))) by unfold storeOk; rw [HDK.out, HRG.out, HEN.out, if_neg hfu]; rfl)
 have R2 := hid (range_below HR.out AB2.out)
 go_wp2_with (first | (refine wpList_load_mid rfl 35 _ rfl w.heap.size 0 rfl R _ R2.out Tryz.underlying35 rfl I0.out ?_))
 refine (i_DiskRead (grow HD.out HB2.out) HDK.out (s := hist) (by decide)).mono ?_
 rintro e w3 ⟨v3, b3, rfl, hO3, hb3⟩
 have AB3 := hid (AB2.out.trans (hb3.mono AB2.out.size)); have HB3 := hid (HB2.out.trans (hb3.mono HB2.out.size))
 have O3 := hid hO3
 obtain ⟨p3, c3, rfl⟩ := hO3.slice
 have x8 := ((bcell AB3.out).1 _ 8 L0.out).trans X8.out
 clear hO3 hb3 x1
 go_wp2_with fail
 refine (i_LogBytes (HE.out.grow HB3.out)).mono ?_
 rintro e w4 ⟨v4, b4, rfl, hO4, hb4⟩
 have AB4 := hid (AB3.out.trans (hb4.mono AB3.out.size)); have HB4 := hid (HB3.out.trans (hb4.mono HB3.out.size))
 have O34 := hid (O3.out.grow hb4)
 have O4 := hid hO4
 obtain ⟨p4, c4, rfl⟩ := hO4.slice
 have R4 := hid (range_below HR.out AB4.out)
 clear hO4 hb4 x8
 go_wp2_with (first | (refine wpList_load_mid rfl 35 _ rfl w.heap.size 0 rfl R _ R4.out Tryz.underlying35 rfl I0.out ?_))
 refine (i_DiskRead (grow HD.out HB4.out) HDK.out (s := temp) (by decide)).mono ?_
 rintro e w5 ⟨v5, b5, rfl, hO5, hb5⟩
 have AB5 := hid (AB4.out.trans (hb5.mono AB4.out.size)); have HB5 := hid (HB4.out.trans (hb5.mono HB4.out.size))
 have O35 := hid (O34.out.grow hb5); have O45 := hid (O4.out.grow hb5)
 obtain ⟨p5, c5, rfl⟩ := hO5.slice
 have x9 := ((bcell AB5.out).1 _ 9 L0.out).trans X9.out
 clear hO5 hb5
 obtain ⟨_, _, s3⟩ := O35.out.slcL
 obtain ⟨_, _, s4⟩ := O45.out.slcL
 have cv3 := s3.text (P := Tryz.prog) 54 9 5 Tryz.underlying54 Tryz.underlying5 Tryz.underlying9
 have cv4 := s4.text (P := Tryz.prog) 54 9 5 Tryz.underlying54 Tryz.underlying5 Tryz.underlying9
 obtain ⟨rb, hrb⟩ : ∃ rb, rb = readL s.Disk hist := ⟨_, rfl⟩
 obtain ⟨lb, hlb⟩ : ∃ lb, lb = logL s.Ents := ⟨_, rfl⟩
 rw [← hrb] at cv3 ⊢ E0
 rw [← hlb] at cv4 ⊢ E0
 clear s3 s4 hrb hlb
 obtain ⟨X, hX⟩ : ∃ X, X = tstr rb := ⟨_, rfl⟩
 obtain ⟨Y, hY⟩ : ∃ Y, Y = tstr lb := ⟨_, rfl⟩
 have hXY : (X.toList == Y.toList) = decide (rb = lb) := by rw [hX, hY]; exact tstr_eq rb lb
 rw [show (⟨rb.toArray⟩ : ByteArray) = X from hX.symm] at cv3
 rw [show (⟨lb.toArray⟩ : ByteArray) = Y from hY.symm] at cv4
 clear hX hY hfu
 have XY := hid hXY
 clear hXY
 cases h1 : thereB s.Disk hist
 ·have E := hid (show storeOk s = false by rw [E0.out, h1]; rfl)
  clear h1
  go_wp2
  go_ret
  exact ⟨ret_bool (by rw [E.out]), HB5.out⟩
 cases h2 : logOk s.Ents
 ·have E := hid (show storeOk s = false by rw [E0.out, h1, h2]; rfl)
  clear h1 h2
  go_wp2
  go_ret
  exact ⟨ret_bool (by rw [E.out]), HB5.out⟩
 by_cases h3 : rb = lb
 rotate_left
 ·have E := hid (show storeOk s = false by rw [E0.out, h1, h2, decide_eq_false h3]; rfl)
  have hq := XY.out
  rw [decide_eq_false h3] at hq
  clear h1 h2 h3
  go_wp2
  go_ret
  exact ⟨ret_bool (by rw [E.out]), HB5.out⟩
 have hq := XY.out
 rw [decide_eq_true h3] at hq
 by_cases h4 : s.Len = (rb.length : Int)
 rotate_left
 ·have E := hid (show storeOk s = false by rw [E0.out, h1, h2, decide_eq_true h3, decide_eq_false h4]; rfl)
  have hl4 : (s.Len == (lb.length : Int)) = false := by rw [beq_eq_false_iff_ne, ← h3]; exact h4
  clear h1 h2 h3 h4
  go_wp2
  go_ret
  exact ⟨ret_bool (by rw [E.out]), HB5.out⟩
 have hl4 : (s.Len == (lb.length : Int)) = true := by rw [beq_iff_eq, ← h3]; exact h4
 cases h5 : thereB s.Disk temp
 ·have E := hid (show storeOk s = true by rw [E0.out, h1, h2, decide_eq_true h3, decide_eq_true h4, h5]; rfl)
  clear h1 h2 h3 h4 h5
  go_wp2
  go_ret
  exact ⟨ret_bool (by rw [E.out]), HB5.out⟩
 ·have E := hid (show storeOk s = false by rw [E0.out, h1, h2, decide_eq_true h3, decide_eq_true h4, h5]; rfl)
  clear h1 h2 h3 h4 h5
  go_wp2
  go_ret
  exact ⟨ret_bool (by rw [E.out]), HB5.out⟩
theorem i_copyStore {w : World} {bs : List Nat} {cs : List Value} {s : StoreD} (h : Rep.pt w bs cs s) (hs : Small s.Disk) (hn : s.Ents.length ≤ 1048576) :
  Calls Tryz.prog 27 #[.agg cs.toArray] w (RetSF 104 127 106 5 53 w s) := by
 obtain ⟨bD, bE, R, aE, lE, kE, rfl, hD, i6, i7, hE, i9, _⟩ := store_split h
 obtain rfl := hE.len_eq
 obtain ⟨i0, hi, hz0, hz1, hz2⟩ := info_parts info_EntryF
 have hcl := Rep.len hD
 have HD := hid hD; have HS := hid hs; have HE := hid hE; have HN := hid hn
 have J6 := hid i6; have J7 := hid i7; have J9 := hid i9
 have HL := hid (show R.length = 6 from hcl)
 have I6 := hid (show (Tryz.prog.info? 35).map (·.size) = some 6 by kernel_rfl)
 have I10 := hid (show (Tryz.prog.info? 38).map (·.size) = some 10 by kernel_rfl)
 have I0 := hid (show (Tryz.prog.info? 35).map (·.size) = some R.length by rw [HL.out]; exact I6.out)
 obtain ⟨T, hT⟩ : ∃ T : List Value, T = [.int .i64 s.Keep, .int .i64 s.Size, .slice aE s.Ents.length kE, .int .i64 s.Len] := ⟨_, rfl⟩
 rw [← hT]
 have HX := hid (Bx.alloc (Bx.new w (R ++ T).toArray 38 rfl) (by simp) (.cells #[.int .i64 0, .int .i64 0, .int .i64 0, .slice none 0 0, .slice none 0 0, .slice none 0 0, .int .i64 0, .int .i64 0, .slice none 0 0, .int .i64 0] 38))
 have HZ := hid (Bx.new (w.alloc (.cells (R ++ T).toArray 38)) #[.int .i64 0, .int .i64 0, .int .i64 0, .slice none 0 0, .slice none 0 0, .slice none 0 0, .int .i64 0, .int .i64 0, .slice none 0 0, .int .i64 0] 38 (b := w.heap.size + 1) (by simp))
 have hb0 := hid (((Below.refl w.heap.size w).alloc (Nat.le_refl _) (.cells (R ++ T).toArray 38)).alloc (by simp) (.cells #[.int .i64 0, .int .i64 0, .int .i64 0, .slice none 0 0, .slice none 0 0, .slice none 0 0, .int .i64 0, .int .i64 0, .slice none 0 0, .int .i64 0] 38))
 obtain ⟨wA, hwA⟩ : ∃ wA, wA = (w.alloc (.cells (R ++ T).toArray 38)).alloc (.cells #[.int .i64 0, .int .i64 0, .int .i64 0, .slice none 0 0, .slice none 0 0, .slice none 0 0, .int .i64 0, .int .i64 0, .slice none 0 0, .int .i64 0] 38) := ⟨_, rfl⟩
 have SA := hid (show wA.heap.size = w.heap.size + 2 by rw [hwA]; simp)
 rw [← hwA] at hb0 HX HZ
 have HT := hid hT
 clear h hD hs hE hcl hT hn i6 i7 i9
 go_enter Tryz.func27, Tryz.ntmps27
 go_upto_region 1 with fail
 rw [← hwA]
 clear hwA
 have XR := hid (range_left HX.out.all)
 go_wp2_with (first | (refine wpList_load_mid rfl 35 _ rfl w.heap.size 0 rfl R _ XR.out Tryz.underlying35 rfl I0.out ?_))
 refine (i_copyDisk (grow HD.out hb0.out) HS.out).mono ?_
 rintro e w3 ⟨v3, v4, v5, B3, B4, B5, rfl, hDF, hb3⟩
 have DF := hid hDF
 have X3 := hid (Bx.below hb3 HX.out.f.lt HX.out)
 have Z3 := hid (Bx.below hb3 HZ.out.f.lt HZ.out)
 have HB3 := hid (hb0.out.trans (hb3.mono hb0.out.size))
 have LA := hid (fun b hb => show w.heap.size + 2 ≤ b ∧ b < w3.heap.size by have := SA.out; have := DF.out.lts b hb; omega)
 have S3 := hid (show w.heap.size + 2 ≤ w3.heap.size by have := SA.out; have := hb3.size; omega)
 clear hDF hb3
 obtain ⟨R', hR'⟩ : ∃ R', R' = dskC s.Disk v3 v4 v5 := ⟨_, rfl⟩
 rw [show (#[Value.int .i64 s.Disk.Room, .int .i64 s.Disk.Fuse, .int .i64 s.Disk.Next, v3, v4, v5] : Array Value) = R'.toArray by rw [hR']; rfl]
 have HL' := hid (show R'.length = 6 by rw [hR']; rfl)
 have HC1 := hid (show R'.toArray.all (·.oneCell') = true by rw [hR']; exact DF.out.one)
 have HR' := hid hR'
 clear hR'
 have HZ3 := hid (show R'.toArray.size = 6 by rw [List.size_toArray]; exact HL'.out)
 have I2 := hid (show (Tryz.prog.info? 35).map (·.size) = some R'.toArray.size by rw [HZ3.out]; exact I6.out)
 have TH := hid (show w3.there w.heap.size 0 R'.toArray.size by rw [HZ3.out]; exact there_head X3.out HL.out)
 go_upto_region 2 with (refine wpList_store_mid rfl 35 _ _ rfl w.heap.size 0 R'.toArray rfl rfl TH.out I2.out HC1.out ?_)
 refine late_genw (fun w4 hw4 => ?_)
 have hk4 : ∀ k, k ≠ w.heap.size → w4.heap[k]? = w3.heap[k]? := fun k hk => by rw [hw4]; exact setCells_heap _ _ _ _ _ hk
 have X4 := hid (show Bx w4 w.heap.size (R' ++ T).toArray by rw [hw4]; exact bx_head X3.out HL.out HL'.out)
 have Z4 := hid (Z3.out.keep (hk4 _ (by omega)))
 have DF4 := hid (DF.out.keep (fun b hb => hk4 b (by have := LA.out b hb; omega)))
 have HB4 := hid (show Below w.heap.size w w4 by rw [hw4]; exact Below.setCells _ (Nat.le_refl _) _ _ HB3.out)
 have S4 := hid (show w4.heap.size = w3.heap.size by rw [hw4, setCells_size])
 clear hw4 hk4 HX HZ X3 Z3 TH XR
 have x8 : w4.cell? ⟨w.heap.size, 8, none⟩ = some (.slice aE s.Ents.length kE) := bx_at X4.out 8 (by rw [List.getElem?_append_right (by rw [HL'.out]; omega), HL'.out, HT.out]; rfl)
 have f8 := X4.out.fr 8
 have lt4 := X4.out.f.lt
 have SE := hid (HE.out.grow HB4.out)
 go_wp2_with (at_builtin; refine wp_append rfl _ _ 36 rfl 53 i0 (.agg #[.int .i64 0, .string ByteArray.empty]) 24 Tryz.underlying36 hi hz0 hz1 hz2 rfl (lo := w.heap.size + 2) (xs := ([] : List EntryD)) rfl (OwnL.nil _ _ _) (b2 := []) (ys := s.Ents) rfl SE.out.srcF List.nodup_nil (fun b hb => by cases hb) ?ra ?rb ?rc ?_)
 try (case ra => have := HN.out; simp; omega)
 try (case rb => have := HN.out; simp; omega)
 try (case rc => have := S4.out; have := S3.out; simp; omega)
 intro p5 c5 w5 b5 hO5 hT5 hm5
 try rw [List.nil_append, show ([] : List EntryD).length + s.Ents.length = s.Ents.length by simp] at hO5
 (try rw [show ([] : List EntryD).length + s.Ents.length = s.Ents.length by simp])
 have O5 := hid hO5
 have hk5 : ∀ k, k < w4.heap.size → w5.heap[k]? = w4.heap[k]? := fun k hk => hT5.block k hk (by simp)
 have X5 := hid (X4.out.keep (hk5 _ X4.out.f.lt))
 have Z5 := hid (Z4.out.keep (hk5 _ Z4.out.f.lt))
 have DF5 := hid (DF4.out.keep (fun b hb => hk5 b (by have := LA.out b hb; have := S4.out; omega)))
 have HB5 := hid (below_tch HB4.out hT5 (fun x hx => by cases hx))
 have D5 := hid (fun b (hb : b ∈ b5) => show w4.heap.size ≤ b by have h3 := hm5 b hb; (try simp at h3); omega)
 clear hO5 hT5 hm5 hk5 X4 Z4 DF4 HB4 SE x8 f8
 have x8 : w5.cell? ⟨w.heap.size, 8, none⟩ = some (.slice aE s.Ents.length kE) := bx_at X5.out 8 (by rw [List.getElem?_append_right (by rw [HL'.out]; omega), HL'.out, HT.out]; rfl)
 have f8 := X5.out.fr 8
 go_upto_region 3 with fail
 refine late_genw (fun w6 hw6 => ?_)
 obtain ⟨S6, hS6⟩ : ∃ S6, S6 = R' ++ stoT s (.slice p5 s.Ents.length c5) := ⟨_, rfl⟩
 have X6 := hid (show Bx w6 w.heap.size S6.toArray by
  rw [hw6, hS6]
  have h9 := X5.out.setSame 8 (.slice p5 s.Ents.length c5)
  have e9 : (R' ++ T).toArray.setIfInBounds 8 (.slice p5 s.Ents.length c5) = (R' ++ stoT s (.slice p5 s.Ents.length c5)).toArray := by
   rw [HT.out, List.setIfInBounds_toArray, List.set_append_right _ _ (by rw [HL'.out]; omega), HL'.out]; rfl
  rw [e9] at h9
  exact h9)
 have hk6 : ∀ k, k ≠ w.heap.size → w6.heap[k]? = w5.heap[k]? := fun k hk => by rw [hw6]; exact Below.heap_setCell _ _ _ _ hk
 have Z6 := hid (Z5.out.keep (hk6 _ (by omega)))
 have SF := hid (show StoreF 104 127 106 5 53 (w.heap.size + 2) w6 s v3 v4 v5 (.slice p5 s.Ents.length c5) B3 B4 B5 b5 from
  ⟨(DF5.out.mono (by have := SA.out; omega)).keep (fun b hb => hk6 b (by have := LA.out b hb; omega)), O5.out.keep (fun b hb => hk6 b (by have := (O5.out.lts b hb).1; omega)), J6.out, J7.out, J9.out,
   fun b hb h2 => by have := (LA.out b hb).2; have := D5.out b h2; have := S4.out; omega⟩)
 have HB6 := hid (show Below w.heap.size w w6 by rw [hw6]; exact HB5.out.setCell (Nat.le_refl _) _)
 have HS6 := hid hS6
 have HL6 := hid (show S6.length = 10 by rw [hS6, List.length_append, HL'.out]; rfl)
 have HC6 := hid (show S6.toArray.all (·.oneCell') = true by
  rw [hS6, Array.all_eq_true_iff_forall_mem]
  intro v hv
  rw [List.mem_toArray] at hv
  rcases List.mem_append.1 hv with hv | hv
  ·exact Array.all_eq_true_iff_forall_mem.1 HC1.out v (by simpa using hv)
  ·simp [stoT] at hv; rcases hv with rfl | rfl | rfl | rfl <;> rfl)
 have I7 := hid (show (Tryz.prog.info? 38).map (·.size) = some S6.length by rw [HL6.out]; exact I10.out)
 have I8 := hid (show (Tryz.prog.info? 38).map (·.size) = some S6.toArray.size by rw [List.size_toArray, HL6.out]; exact I10.out)
 have TH := hid (show w6.there (w.heap.size + 1) 0 S6.toArray.size by rw [show S6.toArray.size = 10 by rw [List.size_toArray]; exact HL6.out]; exact Z6.out.there 0 10 (by simp))
 clear hw6 hk6 hS6 x8 f8 X5 Z5 DF5 HB5 O5 DF
 go_wp2_with (first | (refine wpList_load_mid rfl 38 _ rfl w.heap.size 0 rfl S6 _ X6.out.all Tryz.underlying38 rfl I7.out ?_) | (refine wpList_store_mid rfl 38 _ _ rfl (w.heap.size + 1) 0 S6.toArray rfl rfl TH.out I8.out HC6.out ?_))
 have X9 := hid (show Bx (w6.setCells (w.heap.size + 1) 0 S6.toArray.toList) (w.heap.size + 1) S6.toArray from Z6.out.setAll S6 (by rw [HL6.out]; simp))
 refine bodyPost_ret (v := .agg S6.toArray) (results_mid rfl rfl S6 X9.out.all Tryz.underlying38 rfl I7.out) rfl ?_
 refine ⟨v3, v4, v5, _, B3, B4, B5, b5, by rw [HS6.out, HR'.out], (SF.out.mono (Nat.le_add_right _ _)).keep (fun b hb => setCells_heap _ _ _ _ _ ?_), Below.setCells _ (Nat.le_add_right _ _) _ _ HB6.out⟩
 have := SF.out.lts b hb
 omega
theorem i_NextNum {w : World} {bs : List Nat} {cs : List Value} {s : StoreD} (h : Rep.pt w bs cs s) :
  Calls Tryz.prog 28 #[.agg cs.toArray] w fun e w' => e = .returned (.int .i64 (nextNum s.Ents)) ∧ Below w.heap.size w w' := by
 obtain ⟨bD, bE, R, aE, lE, kE, rfl, hD, i6, i7, hE, i9, _⟩ := store_split h
 obtain rfl := hE.len_eq
 have hcl := Rep.len hD
 have HE := hid hE
 have HL := hid (show R.length = 6 from hcl)
 have hm := hE.max
 obtain ⟨C, hC⟩ : ∃ C : List Value, C = R ++ [.int .i64 s.Keep, .int .i64 s.Size, .slice aE s.Ents.length kE, .int .i64 s.Len] := ⟨_, rfl⟩
 rw [← hC]
 have HX := hid (Bx.new w C.toArray 38 rfl)
 have x8 := bx_at HX.out 8 (v := .slice aE s.Ents.length kE) (by rw [hC, List.getElem?_append_right (by rw [HL.out]; omega), HL.out]; rfl)
 have hb0 := hid ((Below.refl w.heap.size w).alloc (Nat.le_refl _) (.cells C.toArray 38))
 obtain ⟨wA, hwA⟩ : ∃ wA, wA = w.alloc (.cells C.toArray 38) := ⟨_, rfl⟩
 rw [← hwA] at hb0 x8
 clear h hD hE hC hcl HX
 go_enter Tryz.func28, Tryz.ntmps28
 go_upto_region 1 with fail
 rw [← hwA]
 clear hwA
 by_cases h0 : s.Ents.length = 0
 ·have E := hid (show nextNum s.Ents = 1 by rw [List.eq_nil_of_length_eq_zero h0]; rfl)
  have hl : ((s.Ents.length : Int) == 0) = true := by rw [beq_iff_eq]; omega
  clear h0
  go_wp2
  go_ret
  exact ⟨ret_int (by rw [E.out]), hb0.out⟩
 have hl : ((s.Ents.length : Int) == 0) = false := by rw [beq_eq_false_iff_ne]; omega
 obtain ⟨n, hn⟩ : ∃ n, s.Ents.length = n + 1 := ⟨s.Ents.length - 1, by omega⟩
 have hlast := lastI s.Ents (by omega)
 obtain ⟨g1, o1, cs1, _, rfl, _, hp1, _, hA1⟩ := (HE.out.grow hb0.out).elem n (by omega)
 obtain ⟨_, rfl, q1, q2⟩ := open_Entry hp1
 have c0 : wA.cell? ⟨g1, o1 + n * 2, none⟩ = some _ := hA1 0 _ rfl
 have E0 := hid (show nextNum s.Ents = if (s.Ents[n]'(by omega)).Num < 1 ∨ 1000000000 < (s.Ents[n]'(by omega)).Num then 0 else (s.Ents[n]'(by omega)).Num + 1 by
  unfold nextNum
  rw [hlast]
  simp only [hn, Nat.add_sub_cancel])
 obtain ⟨x, hx⟩ : ∃ x, x = (s.Ents[n]'(by omega)).Num := ⟨_, rfl⟩
 rw [← hx] at c0 E0
 obtain ⟨N, hN⟩ : ∃ N, N = s.Ents.length := ⟨_, rfl⟩
 rw [← hN] at x8 hl hn hm
 rw [show n = N - 1 by omega] at c0
 have hNp : 0 < N := by omega
 clear hA1 hp1 q1 q2 hx hlast h0 hN hn
 have hw1 : wrap64 ((N : Int) - 1) = ((N - 1 : Nat) : Int) := by rw [IntWalk.wrap64_in _ (by omega)]; omega
 have HW1 := hid hw1
 cases g1 : inB x 1 1000000000
 ·have hx := inB_no g1
  have E := hid (show nextNum s.Ents = 0 by rw [E0.out, if_pos (by omega)])
  have G1 := hid g1
  clear g1 hx
  go_wp2_with (go_at_call 26; refine (i_in _ _ _ _).mono ?_; rintro e w9 ⟨rfl, rfl⟩; rw [G1.out])
  go_ret
  exact ⟨ret_int (by rw [E.out]), hb0.out⟩
 have hx := (inB_iff _ _ _).1 g1
 have E := hid (show nextNum s.Ents = x + 1 by rw [E0.out, if_neg (by omega)])
 have V1 := hid (show wrap64 (x + 1) = x + 1 from IntWalk.wrap64_in _ (by omega))
 have G1 := hid g1
 clear g1 hx
 go_upto_region 6 with (go_at_call 26; refine (i_in _ _ _ _).mono ?_; rintro e w9 ⟨rfl, rfl⟩; rw [G1.out])
 clear hw1
 go_wp2
 go_ret
 exact ⟨ret_int (by rw [E.out]; try exact V1.out), hb0.out⟩
theorem i_doN {w : World} {Bs : Nat} {R : List Value} {code : Int} (hX : Bx w Bs (R ++ [Value.int .i64 code]).toArray) (hL : R.length = 6) (h0 : code ≠ 0) {oc : Array Value} :
  Calls Tryz.prog 31 #[.pointer (some ⟨Bs, 0, none⟩), .agg oc] w fun e w' => e = .returned (.tuple #[]) ∧ Below w.heap.size w w' := by
 have hb0 := hid ((Below.refl w.heap.size w).alloc (Nat.le_refl _) (.cells oc 67))
 have X := hid (Bx.alloc hX hX.f.lt (.cells oc 67))
 obtain ⟨wA, hwA⟩ : ∃ wA, wA = w.alloc (.cells oc 67) := ⟨_, rfl⟩
 rw [← hwA] at hb0 X
 have x6 := bx_at X.out 6 (v := .int .i64 code) (by rw [List.getElem?_append_right (by omega), hL]; rfl)
 have hc : (code == 0) = false := by rw [beq_eq_false_iff_ne]; exact h0
 go_enter Tryz.func31, Tryz.ntmps31
 go_upto_region 1 with fail
 rw [← hwA]
 clear hwA hX
 go_wp2
 go_end0
 exact ⟨rfl, hb0.out⟩
theorem i_do0 {w : World} {Bs : Nat} {d : DiskD} {R : List Value} {bs : List Nat} (hX : Bx w Bs (R ++ [Value.int .i64 0]).toArray) (hD : Rep.pt w bs R d) (hs : Small d) {kd : Int} {nm tt : ByteArray} {sz : Int} {data : List UInt8} {bo : List Nat} {ao : Option Addr} {lo co : Nat} (hv : OpV kd nm tt sz data) (ho : Slc w bo ao lo co data) (hdl : data.length ≤ 1048576) :
  Calls Tryz.prog 31 #[.pointer (some ⟨Bs, 0, none⟩), .agg #[.int .i64 kd, .string nm, .string tt, .int .i64 sz, .slice ao lo co]] w (DoAct 104 127 106 5 w Bs (diskDo d kd nm tt sz data)) := by
 have HL := hid (show R.length = 6 from Rep.len hD)
 have HD := hid hD; have HS := hid hs; have HV := hid hv; have HO := hid ho; have HDL := hid hdl
 have I6 := hid (show (Tryz.prog.info? 35).map (·.size) = some 6 by kernel_rfl)
 have I0 := hid (show (Tryz.prog.info? 35).map (·.size) = some R.length by rw [HL.out]; exact I6.out)
 obtain ⟨OC, hOC⟩ : ∃ OC : List Value, OC = [.int .i64 kd, .string nm, .string tt, .int .i64 sz, .slice ao lo co] := ⟨_, rfl⟩
 rw [show (#[.int .i64 kd, .string nm, .string tt, .int .i64 sz, .slice ao lo co] : Array Value) = OC.toArray by rw [hOC]]
 have I5 := hid (show (Tryz.prog.info? 67).map (·.size) = some OC.length by rw [hOC]; kernel_rfl)
 have HOC := hid hOC
 have hb0 := hid ((Below.refl w.heap.size w).alloc (Nat.le_refl _) (.cells OC.toArray 67))
 have X := hid (Bx.alloc hX hX.f.lt (.cells OC.toArray 67))
 have Y := hid (Bx.new w OC.toArray 67 rfl)
 have LB := hid hX.f.lt
 obtain ⟨wA, hwA⟩ : ∃ wA, wA = w.alloc (.cells OC.toArray 67) := ⟨_, rfl⟩
 have SA := hid (show wA.heap.size = w.heap.size + 1 by rw [hwA]; simp)
 rw [← hwA] at hb0 X Y
 have x6 := bx_at X.out 6 (v := .int .i64 0) (by rw [List.getElem?_append_right (by rw [HL.out]; omega), HL.out]; rfl)
 have XR := hid (range_left X.out.all)
 clear hX hD hs hv ho hdl hOC
 go_enter Tryz.func31, Tryz.ntmps31
 go_upto_region 1 with fail
 rw [← hwA]
 clear hwA
 go_upto_region 2 with fail
 refine late_start (fun W => W.rangeAt w.heap.size 0 OC ∧ Below wA.heap.size wA wA) 99 (by kernel_rfl) ?_ (fun hS => ?_)
 ·exact ⟨(World.rangeAt_drew _ _ _ _).2 Y.out.all, Below.refl _ _⟩
 clear x6
 refine late_genw (fun wD hwD => ?_)
 have hbD : Below wA.heap.size wA wD := by rw [hwD]; exact (Below.refl _ _).drew
 rw [← hwD] at hS
 have XD := hid (Bx.below hbD X.out.f.lt X.out)
 have BD := hid (hb0.out.trans (hbD.mono hb0.out.size))
 have SD := hid (show wD.heap.size = w.heap.size + 1 by rw [hwD]; exact SA.out)
 clear hwD hbD
 refine ltk 0 rfl ?_
 try simp only [Act.put, putZ, List.getElem_toArray, List.getElem_cons_zero, List.getElem_cons_succ]
 refine ltk 1 rfl ?_
 try simp only [Act.put, putZ, List.getElem_toArray, List.getElem_cons_zero, List.getElem_cons_succ]
 refine ltk 2 rfl ?_
 try simp only [Act.put, putZ, List.getElem_toArray, List.getElem_cons_zero, List.getElem_cons_succ]
 refine late_take (i := 6) (v := .agg (OC).toArray) rfl (by kernel_rfl) (fun _ _ _ h => h) (by rfl) (fun W hW => exec_load_mid 67 _ rfl (w.heap.size) 0 rfl (OC) _ (hW.1) Tryz.underlying67 rfl I5.out) hS ?_
 try simp only [Act.put, putZ, List.getElem_toArray, List.getElem_cons_zero, List.getElem_cons_succ]
 refine late_one (i := 3) rfl (by kernel_rfl) (fun K9 hK9 => ?_)
 go_simp
 refine hK9.out _ _ (fun _ => ?_) (fun hS9 => ?_)
 ·(try dsimp only); exact hS
 replace hS := hS9 (by decide)
 clear hK9 K9 hS9
 try simp only [Act.put, putZ, List.getElem_toArray, List.getElem_cons_zero, List.getElem_cons_succ]
 refine late_one (i := 4) rfl (by kernel_rfl) (fun K9 hK9 => ?_)
 go_simp
 refine hK9.out _ _ (fun _ => ?_) (fun hS9 => ?_)
 ·(try dsimp only); exact hS
 replace hS := hS9 (by decide)
 clear hK9 K9 hS9
 try simp only [Act.put, putZ, List.getElem_toArray, List.getElem_cons_zero, List.getElem_cons_succ]
 refine late_one (i := 5) rfl (by kernel_rfl) (fun K9 hK9 => ?_)
 have XRD := range_left XD.out.all
 refine step_load_mid rfl 35 _ rfl Bs 0 rfl R _ XRD Tryz.underlying35 rfl I0.out ?_
 refine hK9.out _ _ (fun _ => ?_) (fun hS9 => ?_)
 ·(try dsimp only); exact hS
 replace hS := hS9 (by decide)
 clear hK9 K9 hS9
 try simp only [Act.put, putZ, List.getElem_toArray, List.getElem_cons_zero, List.getElem_cons_succ]
 clear XRD
 refine late_one (i := 7) rfl (by kernel_rfl) (fun K9 hK9 => ?_)
 go_simp
 rw [HOC.out]
 refine (i_DiskDo (grow HD.out BD.out) HS.out HV.out (HO.out.grow BD.out) HDL.out).mono ?_
 rintro e w3 ⟨v3, v4, v5, B3, B4, B5, rfl, hDF, hb3⟩
 obtain ⟨r, hr⟩ : ∃ r, r = diskDo d kd nm tt sz data := ⟨_, rfl⟩
 rw [← hr] at hDF ⊢
 have DF := hid hDF
 have X3 := hid (Bx.below hb3 XD.out.f.lt XD.out)
 have Y3 := hid (range_below hS.1 hb3)
 have B3w := hid (BD.out.trans (hb3.mono BD.out.size))
 obtain ⟨R', hR'⟩ : ∃ R', R' = dskC r.1 v3 v4 v5 := ⟨_, rfl⟩
 rw [show (#[Value.int .i64 r.1.Room, .int .i64 r.1.Fuse, .int .i64 r.1.Next, v3, v4, v5] : Array Value) = R'.toArray by rw [hR']; rfl]
 have HL' := hid (show R'.length = 6 by rw [hR']; rfl)
 have HC1 := hid (show R'.toArray.all (·.oneCell') = true by rw [hR']; exact DF.out.one)
 have HR' := hid hR'
 have HR := hid hr
 clear hDF hR' hr
 go_wp2_with fail
 rw [← HOC.out]
 refine hK9.out _ _ (fun _ => ?_) (fun hS9 => ?_)
 ·(try dsimp only); exact ⟨range_below hS.1 hb3, Below.refl _ _⟩
 replace hS := hS9 (by decide)
 clear hK9 K9 hS9
 try simp only [Act.put, putZ, List.getElem_toArray, List.getElem_cons_zero, List.getElem_cons_succ]
 clear hb3
 refine ltk 8 rfl ?_
 try simp only [Act.put, putZ, List.getElem_toArray, List.getElem_cons_zero, List.getElem_cons_succ]
 refine ltk 9 rfl ?_
 try simp only [Act.put, putZ, List.getElem_toArray, List.getElem_cons_zero, List.getElem_cons_succ]
 refine ltk 10 rfl ?_
 try simp only [Act.put, putZ, List.getElem_toArray, List.getElem_cons_zero, List.getElem_cons_succ]
 refine ltk 11 rfl ?_
 try simp only [Act.put, putZ, List.getElem_toArray, List.getElem_cons_zero, List.getElem_cons_succ]
 refine ltk 12 rfl ?_
 try simp only [Act.put, putZ, List.getElem_toArray, List.getElem_cons_zero, List.getElem_cons_succ]
 have HZ3 := hid (show R'.toArray.size = 6 by rw [List.size_toArray]; exact HL'.out)
 have I2 := hid (show (Tryz.prog.info? 35).map (·.size) = some R'.toArray.size by rw [HZ3.out]; exact I6.out)
 have TH := hid (show w3.there Bs 0 R'.toArray.size by rw [HZ3.out]; exact there_head X3.out HL.out)
 have NB := hid (show w.heap.size ≠ Bs by have := LB.out; omega)
 refine late_one (i := 13) rfl (by kernel_rfl) (fun K9 hK9 => ?_)
 refine step_store_mid rfl 35 _ _ rfl Bs 0 R'.toArray rfl rfl TH.out I2.out HC1.out ?_
 refine hK9.out _ _ (fun _ => ?_) (fun hS9 => ?_)
 ·(try dsimp only); exact ⟨range_set hS.1 NB.out, Below.refl _ _⟩
 replace hS := hS9 (by decide)
 clear hK9 K9 hS9
 try simp only [Act.put, putZ, List.getElem_toArray, List.getElem_cons_zero, List.getElem_cons_succ]
 refine late_genw (fun wE hwE => ?_)
 rw [← hwE] at hS
 have kE : ∀ k, k ≠ Bs → wE.heap[k]? = w3.heap[k]? := fun k hk => by rw [hwE]; exact setCells_heap _ _ _ _ _ hk
 have XE := hid (show Bx wE Bs (R' ++ [Value.int .i64 0]).toArray by rw [hwE]; exact bx_head X3.out HL.out HL'.out)
 have DE := hid (show DiskF 104 127 106 5 w.heap.size wE r.1 v3 v4 v5 B3 B4 B5 from
  (DF.out.keep fun b hb => kE b (by have := (DF.out.lts b hb).1; have := SD.out; have := LB.out; omega)).mono (by have := SD.out; omega))
 have TE := hid (show Tch [Bs] w wE by rw [hwE]; exact (show Tch [Bs] w w3 from Tch.of_below B3w.out).setCells Bs (by simp) _ _)
 clear hwE kE DF X3 TH
 refine ltk 14 rfl ?_
 try simp only [Act.put, putZ, List.getElem_toArray, List.getElem_cons_zero, List.getElem_cons_succ]
 refine ltk 15 rfl ?_
 try simp only [Act.put, putZ, List.getElem_toArray, List.getElem_cons_zero, List.getElem_cons_succ]
 have x6 := bx_at XE.out 6 (v := .int .i64 0) (by rw [List.getElem?_append_right (by rw [HL'.out]; omega), HL'.out]; rfl)
 have f6 := XE.out.fr; have l6 := XE.out.f.lt
 obtain ⟨cd, hcd⟩ : ∃ cd, cd = r.2 := ⟨_, rfl⟩
 rw [← hcd]
 refine late_one (i := 16) rfl (by kernel_rfl) (fun K9 hK9 => ?_)
 go_simp
 refine hK9.out _ _ (fun _ => ?_) (fun hS9 => ?_)
 ·(try dsimp only); exact ⟨rangeAt_setc hS.1 NB.out _, Below.refl _ _⟩
 replace hS := hS9 (by decide)
 clear hK9 K9 hS9
 try simp only [Act.put, putZ, List.getElem_toArray, List.getElem_cons_zero, List.getElem_cons_succ]
 refine late_done (by kernel_rfl) ?_ _
 clear hS x6 f6 l6
 go_end0
 refine ⟨v3, v4, v5, B3, B4, B5, rfl, ?_, ?_, ?_⟩
 ·rw [← HR.out, ← hcd, ← HR'.out]
  have h9 := XE.out.setSame 6 (.int .i64 cd)
  have e9 : (R' ++ [Value.int .i64 0]).toArray.setIfInBounds 6 (.int .i64 cd) = (R' ++ [Value.int .i64 cd]).toArray := by
   rw [List.setIfInBounds_toArray, List.set_append_right _ _ (by rw [HL'.out]; omega), HL'.out]; rfl
  rw [e9] at h9
  exact h9
 ·rw [← HR.out]
  exact DE.out.keep fun b hb => Below.heap_setCell _ _ _ _ (by have := (DE.out.lts b hb).1; have := LB.out; simp; omega)
 ·exact TE.out.setCell (by simp) _
end Go.Proofs.YtdjcjilipgpnmaaGreat
end
section
set_option linter.unusedSimpArgs false
set_option linter.unusedVariables false
namespace Go.G6
open Go Go.RowKit Rep
def doI (r : DiskD × Int) (kd : Int) (nm tt : ByteArray) (sz : Int) (data : List UInt8) : DiskD × Int := if r.2 = 0 then diskDo r.1 kd nm tt sz data else r
def DoerAct (eN eL eT eB : TypeId) (w : World) (Bs lo : Nat) (B3 B4 B5 : List Nat) (r : DiskD × Int) (e : Ending) (w' : World) : Prop :=
 ∃ v3 v4 v5 C3 C4 C5, e = .returned (.tuple #[]) ∧ Bx w' Bs (dskC r.1 v3 v4 v5 ++ [Value.int .i64 r.2]).toArray ∧ DiskF eN eL eT eB lo w' r.1 v3 v4 v5 C3 C4 C5 ∧ (∀ b, b ∈ C3 ∨ b ∈ C4 ∨ b ∈ C5 → (b ∈ B3 ∨ b ∈ B4 ∨ b ∈ B5) ∨ w.heap.size ≤ b) ∧ Tch [Bs] w w'
theorem small_doI {r : DiskD × Int} (h : Small r.1) {kd : Int} {nm tt : ByteArray} {sz : Int} {data : List UInt8} (hd : data.length ≤ 1048576) : Small (doI r kd nm tt sz data).1 := by
 unfold doI
 split
 ·exact small_do h hd
 ·exact h
theorem code_range (d : DiskD) (kd : Int) (nm tt : ByteArray) (sz : Int) : opCode d kd nm tt sz ≠ 5 := by
 unfold opCode
 split
 ·decide
 ·split
  ·decide
  ·split
   ·decide
   ·split <;> decide
/-- Only what is appended has no room. -/
theorem do_five {d : DiskD} {kd : Int} {nm tt : ByteArray} {sz : Int} {data : List UInt8} (hk : kd ≠ 2) : (diskDo d kd nm tt sz data).2 ≠ 5 := by
 unfold diskDo
 split
 ·split
  ·unfold doD
   simp only [if_neg hk]
   repeat' split
   all_goals (intro h; simp at h)
  ·exact code_range _ _ _ _ _
 ·simp
end Go.G6
namespace Go.Proofs.YtdjcjilipgpnmaaGreat
open Go Go.RowKit Go.G6
set_option maxHeartbeats 6000000
set_option maxRecDepth 10000
theorem i_do {w : World} {Bs lo : Nat} {r : DiskD × Int} {v3 v4 v5 : Value} {B3 B4 B5 : List Nat} (hX : Bx w Bs (dskC r.1 v3 v4 v5 ++ [Value.int .i64 r.2]).toArray) (hF : DiskF 104 127 106 5 lo w r.1 v3 v4 v5 B3 B4 B5) (hlo : lo ≤ w.heap.size) (hs : Small r.1)
  {kd : Int} {nm tt : ByteArray} {sz : Int} {data : List UInt8} {bo : List Nat} {ao : Option Addr} {ln co : Nat} (hv : OpV kd nm tt sz data) (ho : Slc w bo ao ln co data) (hdl : data.length ≤ 1048576) :
  Calls Tryz.prog 31 #[.pointer (some ⟨Bs, 0, none⟩), .agg #[.int .i64 kd, .string nm, .string tt, .int .i64 sz, .slice ao ln co]] w (DoerAct 104 127 106 5 w Bs lo B3 B4 B5 (doI r kd nm tt sz data)) := by
 by_cases h0 : r.2 = 0
 ·have e : doI r kd nm tt sz data = diskDo r.1 kd nm tt sz data := by unfold doI; rw [if_pos h0]
  rw [e]
  rw [h0] at hX
  obtain ⟨bP, hP, _⟩ := hF.own
  refine (i_do0 hX (show Rep.pt w bP (dskC r.1 v3 v4 v5) r.1 from hP.1) hs hv ho hdl).mono ?_
  rintro e w' ⟨u3, u4, u5, C3, C4, C5, he, h1, h2, h3⟩
  exact ⟨u3, u4, u5, C3, C4, C5, he, h1, h2.mono hlo, fun b hb => .inr (h2.lts b hb).1, h3⟩
 ·have e : doI r kd nm tt sz data = r := by unfold doI; rw [if_neg h0]
  rw [e]
  refine (i_doN hX rfl h0).mono ?_
  rintro e w' ⟨he, hb⟩
  exact ⟨v3, v4, v5, B3, B4, B5, he, Bx.below hb hX.f.lt hX, hF.keep (fun b hb' => hb.block b (hF.lts b hb').2), fun b hb' => .inl hb', Tch.of_below hb⟩
end Go.Proofs.YtdjcjilipgpnmaaGreat
end
