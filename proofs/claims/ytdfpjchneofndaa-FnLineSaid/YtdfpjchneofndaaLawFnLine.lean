/- FnLine: what is put into a line can be cut again. -/
import Derived.Test.YtdfpjchneofndaaLineL
import Derived.Test.YtdfpjchneofndaaSameI
set_option linter.unusedSimpArgs false
set_option linter.unusedVariables false
namespace Go.Proofs.Ytdfpjchneofndaa
open Go.RowKit Go.G6
set_option maxHeartbeats 8000000
set_option maxRecDepth 10000
theorem lawFnLine {w : World} {bs_0 : List Nat} {a0_0 : Option Addr} {l0_0 k0_0 : Nat} {d_0 : List UInt8} (g_0 : Slc w bs_0 a0_0 l0_0 k0_0 d_0) :
    Calls Try.prog 11 #[.slice a0_0 l0_0 k0_0] w fun e w' => e = .returned (.bool true) ∧ Below w.heap.size w w' := by
  obtain rfl := g_0.len_eq
  have hm_0 := g_0.max
  have G_0 := hid g_0; clear g_0
  go_enter Try.func11, Try.ntmps11
  by_cases hn_0 : (d_0.length : Int) ≤ 1048576
  rotate_left
  · go_wp2
    go_ret
    exact ⟨rfl, Below.refl _ _⟩
  go_wp2_with fail
  refine (s_MakeLine G_0.out).mono ?_
  rintro e w1 ⟨v, b1, t, a, v2, b2, ts, x, y, rfl, hO, hty, hl, hat, hO2, hty2, hl2, hxy, hy, hd, hb⟩
  obtain ⟨pa, pc, bx, rfl, hbx, hS⟩ := hO.slc
  obtain ⟨pa2, pc2, bx2, rfl, hbx2, hS2⟩ := hO2.slc
  have HB := hid hb
  have S0 := hid hS
  have S2 := hid hS2
  clear hbx hbx2 hO hO2 hd hb hS hS2
  have hok : lineOk ⟨t, (a : Int)⟩ = true := lineOk_mk hty (by omega) hat
  have hP := put_law hty hty2 (by omega) hat
  have hC := cut_law hty hty2 (by omega) hat
  have hU := case_law hok hxy hy
  have hT := text_law hok
  have hk1 := caseOk_mk hok hxy hy (.inr rfl)
  have hk0 := caseOk_mk hok hxy hy (.inl rfl)
  have hSw : lineSwapOk ⟨t, (a : Int)⟩ = (decide (2 ≤ (t.length : Int)) && decide (0 < (a : Int))) := by
    unfold lineSwapOk; rw [hok, Bool.eq_iff_iff]; simp; omega
  clear hty hty2
  obtain ⟨P, hPe⟩ : ∃ P, P = linePut ⟨t, (a : Int)⟩ ts := ⟨_, rfl⟩
  rw [← hPe] at hC
  obtain ⟨hp1, hp2⟩ := hP
  rw [← hPe] at hp2
  obtain ⟨hc1, hc2, hc3⟩ := hC
  have hPA : P.At = ((a + ts.length : Nat) : Int) := by rw [hp2]
  have hPL : P.Text.length = t.length + ts.length := by rw [hp2]; simp; omega
  rw [← hPA] at hc1 hc2 hc3
  have HP := hid (And.intro hp1 (And.intro hPe.symm (And.intro hPA hPL)))
  have HC := hid (And.intro hc1 (And.intro hc2 hc3))
  clear hp1 hp2 hPe hPA hPL hc1 hc2 hc3
  obtain ⟨U, hUe⟩ : ∃ U, U = lineCase ⟨t, (a : Int)⟩ x y 1 := ⟨_, rfl⟩
  rw [← hUe] at hU
  obtain ⟨hu1, hu2, hu3, hu4, hu5⟩ := hU
  have hu6 := caseOk_mk (d := U) hu1 hxy (by omega) (.inr rfl)
  have hu7 := caseOk_mk (d := U) hu1 hxy (by omega) (.inl rfl)
  have HU := hid (And.intro hUe.symm (And.intro hu2 (And.intro hu4 hu5)))
  have HK := hid (And.intro hk1 (And.intro hk0 (And.intro hu6 hu7)))
  clear hu1 hu2 hu3 hu4 hu5 hu6 hu7 hUe hk1 hk0
  have HT := hid hT; have HSw := hid hSw; clear hT hSw hok
  have ia : I64 (a : Int) := by unfold I64; omega
  have ix : I64 (x : Int) := by unfold I64; omega
  have iy : I64 (y : Int) := by unfold I64; omega
  go_upto_region 4 with fail
  refine late_genw (fun w2 hw2 => ?_)
  have hb : Below w1.heap.size w1 w2 := by rw [hw2]; exact (Below.refl _ _).alloc (Nat.le_refl _) _
  have B3 := hid (show Bx w2 w1.heap.size #[.slice pa t.length pc, .int .i64 (a : Int)] by rw [hw2]; exact Bx.new _ _ _ rfl)
  replace S0 := hid (S0.out.grow hb)
  replace S2 := hid (S2.out.grow hb)
  replace HB := hid (HB.out.trans (hb.mono HB.out.size))
  clear hw2 hb
  have xB3 := B3.out.out
  go_wp2_with fail
  clear xB3
  refine (i_LinePut (mk_Line (d := ⟨t, (a : Int)⟩) S0.out ia) S2.out (by omega)).mono ?_
  rintro e w3 ⟨cs1, q1, rfl, hO, hb⟩
  replace S0 := hid (S0.out.grow hb)
  replace S2 := hid (S2.out.grow hb)
  replace B3 := hid (Bx.below hb B3.out.f.lt B3.out)
  replace HB := hid (HB.out.trans (hb.mono HB.out.size))
  clear hb
  rw [HP.out.1]
  rw [HP.out.2.1] at hO
  obtain ⟨a1, l1, k1, rfl, s1, i1⟩ := open_Line hO.1
  obtain rfl := s1.len_eq
  have S3 := hid s1; clear s1 hO
  go_upto_region 5 with fail
  refine late_genw (fun w4 hw4 => ?_)
  have hb : Below w3.heap.size w3 w4 := by rw [hw4]; exact (Below.refl _ _).alloc (Nat.le_refl _) _
  have B7 := hid (show Bx w4 w3.heap.size #[.slice a1 P.Text.length k1, .int .i64 P.At] by rw [hw4]; exact Bx.new _ _ _ rfl)
  replace S0 := hid (S0.out.grow hb)
  replace S2 := hid (S2.out.grow hb)
  replace B3 := hid (Bx.below hb B3.out.f.lt B3.out)
  replace S3 := hid (S3.out.grow hb)
  replace HB := hid (HB.out.trans (hb.mono HB.out.size))
  clear hw4 hb
  have e1 : (P.At != (a : Int) + (ts.length : Int)) = false := by rw [HP.out.2.2.1, bne_eq_false_iff_eq]; omega
  have e2 : ((P.Text.length : Int) != (t.length : Int) + (ts.length : Int)) = false := by have := HP.out.2.2.2; rw [bne_eq_false_iff_eq]; omega
  have xB3 := B3.out.out
  have xB7 := B7.out.out
  go_wp2_with fail
  clear xB3 xB7
  refine (i_LineCut (mk_Line (d := P) S3.out i1) (a : Int) ia P.At i1).mono ?_
  rintro e w5 ⟨cs2, q2, a2, l2, k2, b4, rfl, hO, hO2, hd, hb⟩
  replace S0 := hid (S0.out.grow hb)
  replace S2 := hid (S2.out.grow hb)
  replace B3 := hid (Bx.below hb B3.out.f.lt B3.out)
  replace S3 := hid (S3.out.grow hb)
  replace B7 := hid (Bx.below hb B7.out.f.lt B7.out)
  replace HB := hid (HB.out.trans (hb.mono HB.out.size))
  clear hb
  clear e1 e2
  rw [HC.out.1]
  rw [HC.out.2.1] at hO
  rw [HC.out.2.2] at hO2
  obtain ⟨a3, l3, k3, rfl, s3, i3⟩ := open_Line hO.1
  obtain rfl := s3.len_eq
  have s4 := hO2.slc
  obtain rfl := s4.len_eq
  have S4 := hid s3; have S5 := hid s4; clear s3 s4 hO hO2 hd
  go_upto_region 8 with fail
  refine late_genw (fun w6 hw6 => ?_)
  have hb : Below w5.heap.size w5 w6 := by rw [hw6]; exact (Below.refl _ _).alloc (Nat.le_refl _) _
  have B9 := hid (show Bx w6 w5.heap.size #[.slice a3 t.length k3, .int .i64 (a : Int)] by rw [hw6]; exact Bx.new _ _ _ rfl)
  replace S0 := hid (S0.out.grow hb)
  replace S2 := hid (S2.out.grow hb)
  replace B3 := hid (Bx.below hb B3.out.f.lt B3.out)
  replace S3 := hid (S3.out.grow hb)
  replace B7 := hid (Bx.below hb B7.out.f.lt B7.out)
  replace S4 := hid (S4.out.grow hb)
  replace S5 := hid (S5.out.grow hb)
  replace HB := hid (HB.out.trans (hb.mono HB.out.size))
  clear hw6 hb
  have xB3 := B3.out.out
  have xB9 := B9.out.out
  go_wp2_with fail
  clear xB3 xB9
  refine (l_sameInts S4.out S0.out).mono ?_
  rintro e w7 ⟨rfl, hb⟩
  replace S0 := hid (S0.out.grow hb)
  replace S2 := hid (S2.out.grow hb)
  replace B3 := hid (Bx.below hb B3.out.f.lt B3.out)
  replace S3 := hid (S3.out.grow hb)
  replace B7 := hid (Bx.below hb B7.out.f.lt B7.out)
  replace S4 := hid (S4.out.grow hb)
  replace S5 := hid (S5.out.grow hb)
  replace B9 := hid (Bx.below hb B9.out.f.lt B9.out)
  replace HB := hid (HB.out.trans (hb.mono HB.out.size))
  clear hb
  have xB3 := B3.out.out
  have xB9 := B9.out.out
  go_wp2_with fail
  clear xB3 xB9
  refine (l_sameInts S5.out S2.out).mono ?_
  rintro e w8 ⟨rfl, hb⟩
  replace S0 := hid (S0.out.grow hb)
  replace S2 := hid (S2.out.grow hb)
  replace B3 := hid (Bx.below hb B3.out.f.lt B3.out)
  replace S3 := hid (S3.out.grow hb)
  replace B7 := hid (Bx.below hb B7.out.f.lt B7.out)
  replace S4 := hid (S4.out.grow hb)
  replace S5 := hid (S5.out.grow hb)
  replace B9 := hid (Bx.below hb B9.out.f.lt B9.out)
  replace HB := hid (HB.out.trans (hb.mono HB.out.size))
  clear hb
  have xB3 := B3.out.out
  have xB9 := B9.out.out
  go_wp2_with fail
  clear xB3 xB9
  refine (i_LineCase (mk_Line (d := ⟨t, (a : Int)⟩) S0.out ia) (x : Int) ix (y : Int) iy 1 (by simp [I64])).mono ?_
  rintro e w9 ⟨csB12, qB12, rfl, hO, hb⟩
  replace S0 := hid (S0.out.grow hb)
  replace S2 := hid (S2.out.grow hb)
  replace B3 := hid (Bx.below hb B3.out.f.lt B3.out)
  replace S3 := hid (S3.out.grow hb)
  replace B7 := hid (Bx.below hb B7.out.f.lt B7.out)
  replace S4 := hid (S4.out.grow hb)
  replace S5 := hid (S5.out.grow hb)
  replace B9 := hid (Bx.below hb B9.out.f.lt B9.out)
  replace HB := hid (HB.out.trans (hb.mono HB.out.size))
  clear hb
  rw [HK.out.1]
  rw [HU.out.1] at hO
  obtain ⟨aS12, lS12, kS12, rfl, s1, iS12⟩ := open_Line hO.1
  obtain rfl := s1.len_eq
  have S12 := hid s1; clear s1 hO
  go_upto_region 11 with fail
  refine late_genw (fun w10 hw10 => ?_)
  have hb : Below w9.heap.size w9 w10 := by rw [hw10]; exact (Below.refl _ _).alloc (Nat.le_refl _) _
  have B12 := hid (show Bx w10 w9.heap.size #[.slice aS12 U.Text.length kS12, .int .i64 U.At] by rw [hw10]; exact Bx.new _ _ _ rfl)
  replace S0 := hid (S0.out.grow hb)
  replace S2 := hid (S2.out.grow hb)
  replace B3 := hid (Bx.below hb B3.out.f.lt B3.out)
  replace S3 := hid (S3.out.grow hb)
  replace B7 := hid (Bx.below hb B7.out.f.lt B7.out)
  replace S4 := hid (S4.out.grow hb)
  replace S5 := hid (S5.out.grow hb)
  replace B9 := hid (Bx.below hb B9.out.f.lt B9.out)
  replace S12 := hid (S12.out.grow hb)
  replace HB := hid (HB.out.trans (hb.mono HB.out.size))
  clear hw10 hb
  have xB12 := B12.out.out
  go_wp2_with fail
  clear xB12
  refine (i_LineCase (mk_Line (d := U) S12.out iS12) (x : Int) ix (y : Int) iy 1 (by simp [I64])).mono ?_
  rintro e w11 ⟨csB13, qB13, rfl, hO, hb⟩
  replace S0 := hid (S0.out.grow hb)
  replace S2 := hid (S2.out.grow hb)
  replace B3 := hid (Bx.below hb B3.out.f.lt B3.out)
  replace S3 := hid (S3.out.grow hb)
  replace B7 := hid (Bx.below hb B7.out.f.lt B7.out)
  replace S4 := hid (S4.out.grow hb)
  replace S5 := hid (S5.out.grow hb)
  replace B9 := hid (Bx.below hb B9.out.f.lt B9.out)
  replace S12 := hid (S12.out.grow hb)
  replace B12 := hid (Bx.below hb B12.out.f.lt B12.out)
  replace HB := hid (HB.out.trans (hb.mono HB.out.size))
  clear hb
  rw [HK.out.2.2.1]
  obtain ⟨aS13, lS13, kS13, rfl, s1, iS13⟩ := open_Line hO.1
  obtain rfl := s1.len_eq
  have S13 := hid s1; clear s1 hO
  go_upto_region 12 with fail
  refine late_genw (fun w12 hw12 => ?_)
  have hb : Below w11.heap.size w11 w12 := by rw [hw12]; exact (Below.refl _ _).alloc (Nat.le_refl _) _
  have B13 := hid (show Bx w12 w11.heap.size #[.slice aS13 (lineCase U x y 1).Text.length kS13, .int .i64 (lineCase U x y 1).At] by rw [hw12]; exact Bx.new _ _ _ rfl)
  replace S0 := hid (S0.out.grow hb)
  replace S2 := hid (S2.out.grow hb)
  replace B3 := hid (Bx.below hb B3.out.f.lt B3.out)
  replace S3 := hid (S3.out.grow hb)
  replace B7 := hid (Bx.below hb B7.out.f.lt B7.out)
  replace S4 := hid (S4.out.grow hb)
  replace S5 := hid (S5.out.grow hb)
  replace B9 := hid (Bx.below hb B9.out.f.lt B9.out)
  replace S12 := hid (S12.out.grow hb)
  replace B12 := hid (Bx.below hb B12.out.f.lt B12.out)
  replace S13 := hid (S13.out.grow hb)
  replace HB := hid (HB.out.trans (hb.mono HB.out.size))
  clear hw12 hb
  have xB12 := B12.out.out
  go_wp2_with fail
  clear xB12
  refine (i_LineCase (mk_Line (d := U) S12.out iS12) (x : Int) ix (y : Int) iy 0 (by simp [I64])).mono ?_
  rintro e w13 ⟨csB14, qB14, rfl, hO, hb⟩
  replace S0 := hid (S0.out.grow hb)
  replace S2 := hid (S2.out.grow hb)
  replace B3 := hid (Bx.below hb B3.out.f.lt B3.out)
  replace S3 := hid (S3.out.grow hb)
  replace B7 := hid (Bx.below hb B7.out.f.lt B7.out)
  replace S4 := hid (S4.out.grow hb)
  replace S5 := hid (S5.out.grow hb)
  replace B9 := hid (Bx.below hb B9.out.f.lt B9.out)
  replace S12 := hid (S12.out.grow hb)
  replace B12 := hid (Bx.below hb B12.out.f.lt B12.out)
  replace S13 := hid (S13.out.grow hb)
  replace B13 := hid (Bx.below hb B13.out.f.lt B13.out)
  replace HB := hid (HB.out.trans (hb.mono HB.out.size))
  clear hb
  rw [HK.out.2.2.2]
  obtain ⟨aS14, lS14, kS14, rfl, s1, iS14⟩ := open_Line hO.1
  obtain rfl := s1.len_eq
  have S14 := hid s1; clear s1 hO
  go_upto_region 13 with fail
  refine late_genw (fun w14 hw14 => ?_)
  have hb : Below w13.heap.size w13 w14 := by rw [hw14]; exact (Below.refl _ _).alloc (Nat.le_refl _) _
  have B14 := hid (show Bx w14 w13.heap.size #[.slice aS14 (lineCase U x y 0).Text.length kS14, .int .i64 (lineCase U x y 0).At] by rw [hw14]; exact Bx.new _ _ _ rfl)
  replace S0 := hid (S0.out.grow hb)
  replace S2 := hid (S2.out.grow hb)
  replace B3 := hid (Bx.below hb B3.out.f.lt B3.out)
  replace S3 := hid (S3.out.grow hb)
  replace B7 := hid (Bx.below hb B7.out.f.lt B7.out)
  replace S4 := hid (S4.out.grow hb)
  replace S5 := hid (S5.out.grow hb)
  replace B9 := hid (Bx.below hb B9.out.f.lt B9.out)
  replace S12 := hid (S12.out.grow hb)
  replace B12 := hid (Bx.below hb B12.out.f.lt B12.out)
  replace S13 := hid (S13.out.grow hb)
  replace B13 := hid (Bx.below hb B13.out.f.lt B13.out)
  replace S14 := hid (S14.out.grow hb)
  replace HB := hid (HB.out.trans (hb.mono HB.out.size))
  clear hw14 hb
  have xB3 := B3.out.out
  go_wp2_with fail
  clear xB3
  refine (i_LineCase (mk_Line (d := ⟨t, (a : Int)⟩) S0.out ia) (x : Int) ix (y : Int) iy 0 (by simp [I64])).mono ?_
  rintro e w15 ⟨csB16, qB16, rfl, hO, hb⟩
  replace S0 := hid (S0.out.grow hb)
  replace S2 := hid (S2.out.grow hb)
  replace B3 := hid (Bx.below hb B3.out.f.lt B3.out)
  replace S3 := hid (S3.out.grow hb)
  replace B7 := hid (Bx.below hb B7.out.f.lt B7.out)
  replace S4 := hid (S4.out.grow hb)
  replace S5 := hid (S5.out.grow hb)
  replace B9 := hid (Bx.below hb B9.out.f.lt B9.out)
  replace S12 := hid (S12.out.grow hb)
  replace B12 := hid (Bx.below hb B12.out.f.lt B12.out)
  replace S13 := hid (S13.out.grow hb)
  replace B13 := hid (Bx.below hb B13.out.f.lt B13.out)
  replace S14 := hid (S14.out.grow hb)
  replace B14 := hid (Bx.below hb B14.out.f.lt B14.out)
  replace HB := hid (HB.out.trans (hb.mono HB.out.size))
  clear hb
  rw [HK.out.2.1]
  obtain ⟨aS16, lS16, kS16, rfl, s1, iS16⟩ := open_Line hO.1
  obtain rfl := s1.len_eq
  have S16 := hid s1; clear s1 hO
  go_upto_region 14 with fail
  refine late_genw (fun w16 hw16 => ?_)
  have hb : Below w15.heap.size w15 w16 := by rw [hw16]; exact (Below.refl _ _).alloc (Nat.le_refl _) _
  have B16 := hid (show Bx w16 w15.heap.size #[.slice aS16 (lineCase ⟨t, (a : Int)⟩ x y 0).Text.length kS16, .int .i64 (lineCase ⟨t, (a : Int)⟩ x y 0).At] by rw [hw16]; exact Bx.new _ _ _ rfl)
  replace S0 := hid (S0.out.grow hb)
  replace S2 := hid (S2.out.grow hb)
  replace B3 := hid (Bx.below hb B3.out.f.lt B3.out)
  replace S3 := hid (S3.out.grow hb)
  replace B7 := hid (Bx.below hb B7.out.f.lt B7.out)
  replace S4 := hid (S4.out.grow hb)
  replace S5 := hid (S5.out.grow hb)
  replace B9 := hid (Bx.below hb B9.out.f.lt B9.out)
  replace S12 := hid (S12.out.grow hb)
  replace B12 := hid (Bx.below hb B12.out.f.lt B12.out)
  replace S13 := hid (S13.out.grow hb)
  replace B13 := hid (Bx.below hb B13.out.f.lt B13.out)
  replace S14 := hid (S14.out.grow hb)
  replace B14 := hid (Bx.below hb B14.out.f.lt B14.out)
  replace S16 := hid (S16.out.grow hb)
  replace HB := hid (HB.out.trans (hb.mono HB.out.size))
  clear hw16 hb
  have xB12 := B12.out.out
  have xB13 := B13.out.out
  have xB14 := B14.out.out
  have xB16 := B16.out.out
  go_wp2_with fail
  clear xB12 xB13 xB14 xB16
  refine (l_sameInts S12.out (show Slc _ _ aS13 (lineCase U x y 1).Text.length kS13 U.Text by rw [HU.out.2.2.1]; exact S13.out)).mono ?_
  rintro e w17 ⟨rfl, hb⟩
  replace S0 := hid (S0.out.grow hb)
  replace S2 := hid (S2.out.grow hb)
  replace B3 := hid (Bx.below hb B3.out.f.lt B3.out)
  replace S3 := hid (S3.out.grow hb)
  replace B7 := hid (Bx.below hb B7.out.f.lt B7.out)
  replace S4 := hid (S4.out.grow hb)
  replace S5 := hid (S5.out.grow hb)
  replace B9 := hid (Bx.below hb B9.out.f.lt B9.out)
  replace S12 := hid (S12.out.grow hb)
  replace B12 := hid (Bx.below hb B12.out.f.lt B12.out)
  replace S13 := hid (S13.out.grow hb)
  replace B13 := hid (Bx.below hb B13.out.f.lt B13.out)
  replace S14 := hid (S14.out.grow hb)
  replace B14 := hid (Bx.below hb B14.out.f.lt B14.out)
  replace S16 := hid (S16.out.grow hb)
  replace B16 := hid (Bx.below hb B16.out.f.lt B16.out)
  replace HB := hid (HB.out.trans (hb.mono HB.out.size))
  clear hb
  have xB12 := B12.out.out
  have xB13 := B13.out.out
  have xB14 := B14.out.out
  have xB16 := B16.out.out
  go_wp2_with fail
  clear xB12 xB13 xB14 xB16
  refine (l_sameInts S14.out (show Slc _ _ aS16 (lineCase ⟨t, (a : Int)⟩ x y 0).Text.length kS16 (lineCase U x y 0).Text by rw [HU.out.2.2.2]; exact S16.out)).mono ?_
  rintro e w18 ⟨rfl, hb⟩
  replace S0 := hid (S0.out.grow hb)
  replace S2 := hid (S2.out.grow hb)
  replace B3 := hid (Bx.below hb B3.out.f.lt B3.out)
  replace S3 := hid (S3.out.grow hb)
  replace B7 := hid (Bx.below hb B7.out.f.lt B7.out)
  replace S4 := hid (S4.out.grow hb)
  replace S5 := hid (S5.out.grow hb)
  replace B9 := hid (Bx.below hb B9.out.f.lt B9.out)
  replace S12 := hid (S12.out.grow hb)
  replace B12 := hid (Bx.below hb B12.out.f.lt B12.out)
  replace S13 := hid (S13.out.grow hb)
  replace B13 := hid (Bx.below hb B13.out.f.lt B13.out)
  replace S14 := hid (S14.out.grow hb)
  replace B14 := hid (Bx.below hb B14.out.f.lt B14.out)
  replace S16 := hid (S16.out.grow hb)
  replace B16 := hid (Bx.below hb B16.out.f.lt B16.out)
  replace HB := hid (HB.out.trans (hb.mono HB.out.size))
  clear hb
  have e3 : (U.At != (y : Int)) = false := by rw [HU.out.2.1, bne_eq_false_iff_eq]
  have xB12 := B12.out.out
  have xB3 := B3.out.out
  go_wp2_with fail
  clear xB12 xB3
  refine (i_LineSwap (mk_Line (d := ⟨t, (a : Int)⟩) S0.out ia)).mono ?_
  rintro e w19 ⟨cs18, q18, rfl, hO, hb⟩
  replace S0 := hid (S0.out.grow hb)
  replace S2 := hid (S2.out.grow hb)
  replace B3 := hid (Bx.below hb B3.out.f.lt B3.out)
  replace S3 := hid (S3.out.grow hb)
  replace B7 := hid (Bx.below hb B7.out.f.lt B7.out)
  replace S4 := hid (S4.out.grow hb)
  replace S5 := hid (S5.out.grow hb)
  replace B9 := hid (Bx.below hb B9.out.f.lt B9.out)
  replace S12 := hid (S12.out.grow hb)
  replace B12 := hid (Bx.below hb B12.out.f.lt B12.out)
  replace S13 := hid (S13.out.grow hb)
  replace B13 := hid (Bx.below hb B13.out.f.lt B13.out)
  replace S14 := hid (S14.out.grow hb)
  replace B14 := hid (Bx.below hb B14.out.f.lt B14.out)
  replace S16 := hid (S16.out.grow hb)
  replace B16 := hid (Bx.below hb B16.out.f.lt B16.out)
  replace HB := hid (HB.out.trans (hb.mono HB.out.size))
  clear hb
  clear e3
  obtain ⟨a18, l18, k18, rfl, _, _⟩ := open_Line hO.1
  clear hO
  go_upto_region 17 with fail
  refine late_genw (fun w20 hw20 => ?_)
  have hb : Below w19.heap.size w19 w20 := by rw [hw20]; exact (Below.refl _ _).alloc (Nat.le_refl _) _
  have B18 := hid (show Bx w20 w19.heap.size #[.slice a18 l18 k18, .int .i64 (lineSwap ⟨t, (a : Int)⟩).At] by rw [hw20]; exact Bx.new _ _ _ rfl)
  replace S0 := hid (S0.out.grow hb)
  replace S2 := hid (S2.out.grow hb)
  replace B3 := hid (Bx.below hb B3.out.f.lt B3.out)
  replace S3 := hid (S3.out.grow hb)
  replace B7 := hid (Bx.below hb B7.out.f.lt B7.out)
  replace S4 := hid (S4.out.grow hb)
  replace S5 := hid (S5.out.grow hb)
  replace B9 := hid (Bx.below hb B9.out.f.lt B9.out)
  replace S12 := hid (S12.out.grow hb)
  replace B12 := hid (Bx.below hb B12.out.f.lt B12.out)
  replace S13 := hid (S13.out.grow hb)
  replace B13 := hid (Bx.below hb B13.out.f.lt B13.out)
  replace S14 := hid (S14.out.grow hb)
  replace B14 := hid (Bx.below hb B14.out.f.lt B14.out)
  replace S16 := hid (S16.out.grow hb)
  replace B16 := hid (Bx.below hb B16.out.f.lt B16.out)
  replace HB := hid (HB.out.trans (hb.mono HB.out.size))
  clear hw20 hb
  have xB3 := B3.out.out
  go_wp2_with fail
  clear xB3
  refine (i_LineText (mk_Line (d := ⟨t, (a : Int)⟩) S0.out ia)).mono ?_
  rintro e w21 ⟨rfl, hb⟩
  replace S0 := hid (S0.out.grow hb)
  replace S2 := hid (S2.out.grow hb)
  replace B3 := hid (Bx.below hb B3.out.f.lt B3.out)
  replace S3 := hid (S3.out.grow hb)
  replace B7 := hid (Bx.below hb B7.out.f.lt B7.out)
  replace S4 := hid (S4.out.grow hb)
  replace S5 := hid (S5.out.grow hb)
  replace B9 := hid (Bx.below hb B9.out.f.lt B9.out)
  replace S12 := hid (S12.out.grow hb)
  replace B12 := hid (Bx.below hb B12.out.f.lt B12.out)
  replace S13 := hid (S13.out.grow hb)
  replace B13 := hid (Bx.below hb B13.out.f.lt B13.out)
  replace S14 := hid (S14.out.grow hb)
  replace B14 := hid (Bx.below hb B14.out.f.lt B14.out)
  replace S16 := hid (S16.out.grow hb)
  replace B16 := hid (Bx.below hb B16.out.f.lt B16.out)
  replace B18 := hid (Bx.below hb B18.out.f.lt B18.out)
  replace HB := hid (HB.out.trans (hb.mono HB.out.size))
  clear hb
  go_wp2_with fail
  refine (i_LineOf _ (lineText_max _)).mono ?_
  rintro e w22 ⟨cs20, q20, rfl, hO, hb⟩
  replace S0 := hid (S0.out.grow hb)
  replace S2 := hid (S2.out.grow hb)
  replace B3 := hid (Bx.below hb B3.out.f.lt B3.out)
  replace S3 := hid (S3.out.grow hb)
  replace B7 := hid (Bx.below hb B7.out.f.lt B7.out)
  replace S4 := hid (S4.out.grow hb)
  replace S5 := hid (S5.out.grow hb)
  replace B9 := hid (Bx.below hb B9.out.f.lt B9.out)
  replace S12 := hid (S12.out.grow hb)
  replace B12 := hid (Bx.below hb B12.out.f.lt B12.out)
  replace S13 := hid (S13.out.grow hb)
  replace B13 := hid (Bx.below hb B13.out.f.lt B13.out)
  replace S14 := hid (S14.out.grow hb)
  replace B14 := hid (Bx.below hb B14.out.f.lt B14.out)
  replace S16 := hid (S16.out.grow hb)
  replace B16 := hid (Bx.below hb B16.out.f.lt B16.out)
  replace B18 := hid (Bx.below hb B18.out.f.lt B18.out)
  replace HB := hid (HB.out.trans (hb.mono HB.out.size))
  clear hb
  rw [HT.out.1]
  obtain ⟨a20, l20, k20, rfl, s1, i20⟩ := open_Line hO.1
  rw [HT.out.2] at s1
  obtain rfl := s1.len_eq
  have S20 := hid s1; clear s1 hO
  go_upto_region 18 with fail
  refine late_genw (fun w23 hw23 => ?_)
  have hb : Below w22.heap.size w22 w23 := by rw [hw23]; exact (Below.refl _ _).alloc (Nat.le_refl _) _
  have B20 := hid (show Bx w23 w22.heap.size #[.slice a20 t.length k20, .int .i64 (lineOf (lineText ⟨t, (a : Int)⟩)).At] by rw [hw23]; exact Bx.new _ _ _ rfl)
  replace S0 := hid (S0.out.grow hb)
  replace S2 := hid (S2.out.grow hb)
  replace B3 := hid (Bx.below hb B3.out.f.lt B3.out)
  replace S3 := hid (S3.out.grow hb)
  replace B7 := hid (Bx.below hb B7.out.f.lt B7.out)
  replace S4 := hid (S4.out.grow hb)
  replace S5 := hid (S5.out.grow hb)
  replace B9 := hid (Bx.below hb B9.out.f.lt B9.out)
  replace S12 := hid (S12.out.grow hb)
  replace B12 := hid (Bx.below hb B12.out.f.lt B12.out)
  replace S13 := hid (S13.out.grow hb)
  replace B13 := hid (Bx.below hb B13.out.f.lt B13.out)
  replace S14 := hid (S14.out.grow hb)
  replace B14 := hid (Bx.below hb B14.out.f.lt B14.out)
  replace S16 := hid (S16.out.grow hb)
  replace B16 := hid (Bx.below hb B16.out.f.lt B16.out)
  replace B18 := hid (Bx.below hb B18.out.f.lt B18.out)
  replace S20 := hid (S20.out.grow hb)
  replace HB := hid (HB.out.trans (hb.mono HB.out.size))
  clear hw23 hb
  rw [HSw.out]
  have xB3 := B3.out.out
  have xB20 := B20.out.out
  by_cases p1 : (2 : Int) ≤ (t.length : Int)
  rotate_left
  · have p2 : ¬ (2 : Int) ≤ (t.length : Int) := p1
    rw [show (decide (2 ≤ (t.length : Int)) && decide (0 < (a : Int))) = false by simp; omega]
    go_wp2_with (go_at_call 56; refine (l_sameInts S20.out S0.out).mono ?_; rintro e w24 ⟨rfl, hb⟩)
    go_ret
    exact ⟨rfl, HB.out.trans (hb.mono HB.out.size)⟩
  by_cases p2 : (0 : Int) < (a : Int)
  rotate_left
  · have p3 : ¬ (0 : Int) < (a : Int) := p2
    rw [show (decide (2 ≤ (t.length : Int)) && decide (0 < (a : Int))) = false by simp; omega]
    go_wp2_with (go_at_call 56; refine (l_sameInts S20.out S0.out).mono ?_; rintro e w24 ⟨rfl, hb⟩)
    go_ret
    exact ⟨rfl, HB.out.trans (hb.mono HB.out.size)⟩
  · skip
    rw [show (decide (2 ≤ (t.length : Int)) && decide (0 < (a : Int))) = true by simp; omega]
    go_wp2_with (go_at_call 56; refine (l_sameInts S20.out S0.out).mono ?_; rintro e w24 ⟨rfl, hb⟩)
    go_ret
    exact ⟨rfl, HB.out.trans (hb.mono HB.out.size)⟩
end Go.Proofs.Ytdfpjchneofndaa
