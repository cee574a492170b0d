/- FnHist: an added line has the last number. -/
import Derived.Test.YtdfpjchneofndaaHistL
set_option linter.unusedSimpArgs false
set_option linter.unusedVariables false
namespace Go.Proofs.Ytdfpjchneofndaa
open Go.RowKit Go.G6
set_option maxHeartbeats 8000000
set_option maxRecDepth 10000
theorem ml_keep {w W : World} {g : Nat} (h : ∃ m, w.cell? ⟨g, 0, none⟩ = some (.int .i64 m)) (hb : Below w.heap.size w W) : ∃ m, W.cell? ⟨g, 0, none⟩ = some (.int .i64 m) := by
  obtain ⟨m, hm⟩ := h
  exact ⟨m, (hb.cell (World.block_lt_of_cell? w _ hm)).trans hm⟩
theorem lawFnHist {w : World} {bs_0 : List Nat} {a0_0 : Option Addr} {l0_0 k0_0 : Nat} {d_0 : List UInt8} (g_0 : Slc w bs_0 a0_0 l0_0 k0_0 d_0) (hm0 : ∃ m, w.cell? ⟨laysC_ren.g 1, 0, none⟩ = some (.int .i64 m)) :
    Calls Try.prog 8 #[.slice a0_0 l0_0 k0_0] w fun e w' => e = .returned (.bool true) ∧ Below w.heap.size w w' := by
  obtain rfl := g_0.len_eq
  have hm_0 := g_0.max
  have G_0 := hid g_0; clear g_0
  have HM0 := hid hm0; clear hm0
  go_enter Try.func8, Try.ntmps8
  by_cases hn_0 : (d_0.length : Int) ≤ 1048576
  rotate_left
  · go_wp2
    go_ret
    exact ⟨rfl, Below.refl _ _⟩
  go_wp2_with fail
  refine (s_MakeHist G_0.out).mono ?_
  rintro e w1 ⟨b1, F, a1, l1, k1, ys, s, rfl, hS, hG, hs, hb⟩
  obtain rfl := hS.len_eq
  have HB := hid hb
  have S0 := hid hS
  clear hb hS
  have hA := hG.add hs
  have hN := hist_last hG hs
  have hQ := hist_at hG hs
  have hF := hist_find hG hs
  have hok := (hG.put hs).ok
  have hFb : 1 ≤ F ∧ F ≤ 99 := by have h1 : 1 ≤ F := hG.1; have h2 : F + ((1 : Nat) : Int) ≤ 100 := hG.2.1; omega
  have hyl : ys.length ≤ 60 := hG.2.2.1
  have hE3 : (histPut ⟨F, ys⟩ s).Lines.length ≤ 60 := (hG.put hs).2.2.1
  have hFI : I64 F := by unfold I64; omega
  have hsz : s.size ≤ 16 := hs.2
  obtain ⟨E, hE⟩ : ∃ E, E = histPut ⟨F, ys⟩ s := ⟨_, rfl⟩
  rw [← hE] at hA hN hQ hF hok hE3
  obtain ⟨N, hNe⟩ : ∃ N : Int, N = F + (ys.length : Int) := ⟨_, rfl⟩
  replace hN : histLast E = N ∧ E.First + (E.Lines.length : Int) = N + 1 ∧ F ≤ E.First ∧ 0 < E.Lines.length := by rw [hNe]; exact hN
  replace hQ : (∀ i : Int, E.First ≤ i → i < N → histGetOk E i = true ∧ histGetOk ⟨F, ys⟩ i = true ∧ histGet E i = histGet ⟨F, ys⟩ i) ∧ histGetOk E N = true ∧ histGet E N = s := by rw [hNe]; exact hQ
  replace hF : histFind E s.data.toList N (-1) true = N := by rw [hNe]; exact hF
  have hNI : I64 N := by unfold I64; omega
  have hNb : N ≤ 200 := by omega
  have hEF : 1 ≤ E.First ∧ E.First ≤ N := by omega
  have HA := hid hA; have HN := hid hN; have HQ := hid hQ; have HF := hid hF; have HOK := hid hok; have HNE := hid hNe; have HG := hid hG; have HSS := hid hs; have HE := hid hE
  clear hA hN hQ hF hok hG hs hNe hE
  go_upto_region 4 with fail
  refine late_genw (fun w2 hw2 => ?_)
  have hb : Below w1.heap.size w1 w2 := by rw [hw2]; exact (Below.refl _ _).alloc (Nat.le_refl _) _
  have B3 := hid (show Bx w2 w1.heap.size #[.int .i64 F, .slice a1 ys.length k1] by rw [hw2]; exact Bx.new _ _ _ rfl)
  replace S0 := hid (S0.out.grow hb)
  replace HB := hid (HB.out.trans (hb.mono HB.out.size))
  clear hw2 hb
  have xB3 := B3.out.out
  go_wp2_with fail
  clear xB3
  refine (i_HistAdd (mk_Hist (d := ⟨F, ys⟩) hFI S0.out) s (by unfold maxLen; omega)).mono ?_
  rintro e w3 ⟨cs1, q1, rfl, hO, hb⟩
  replace S0 := hid (S0.out.grow hb)
  replace B3 := hid (Bx.below hb B3.out.f.lt B3.out)
  replace HB := hid (HB.out.trans (hb.mono HB.out.size))
  clear hb
  rw [HA.out.1]
  rw [HA.out.2] at hO
  obtain ⟨a2, l2, k2, rfl, i2, s2⟩ := open_Hist hO.1
  obtain rfl := s2.len_eq
  have S1 := hid s2; clear s2 hO
  go_upto_region 5 with fail
  refine late_genw (fun w4 hw4 => ?_)
  have hb : Below w3.heap.size w3 w4 := by rw [hw4]; exact (Below.refl _ _).alloc (Nat.le_refl _) _
  have B5 := hid (show Bx w4 w3.heap.size #[.int .i64 E.First, .slice a2 E.Lines.length k2] by rw [hw4]; exact Bx.new _ _ _ rfl)
  replace S0 := hid (S0.out.grow hb)
  replace B3 := hid (Bx.below hb B3.out.f.lt B3.out)
  replace S1 := hid (S1.out.grow hb)
  replace HB := hid (HB.out.trans (hb.mono HB.out.size))
  clear hw4 hb
  have xB5 := B5.out.out
  go_wp2_with fail
  clear xB5
  refine (i_HistLast (mk_Hist (d := E) i2 S1.out)).mono ?_
  rintro e w5 ⟨rfl, hb⟩
  replace S0 := hid (S0.out.grow hb)
  replace B3 := hid (Bx.below hb B3.out.f.lt B3.out)
  replace S1 := hid (S1.out.grow hb)
  replace B5 := hid (Bx.below hb B5.out.f.lt B5.out)
  replace HB := hid (HB.out.trans (hb.mono HB.out.size))
  clear hb
  rw [HN.out.1]
  have xB5 := B5.out.out
  go_wp2_with fail
  clear xB5
  refine (i_HistGet (mk_Hist (d := E) i2 S1.out) N hNI).mono ?_
  rintro e w6 ⟨rfl, hb⟩
  replace S0 := hid (S0.out.grow hb)
  replace B3 := hid (Bx.below hb B3.out.f.lt B3.out)
  replace S1 := hid (S1.out.grow hb)
  replace B5 := hid (Bx.below hb B5.out.f.lt B5.out)
  replace HB := hid (HB.out.trans (hb.mono HB.out.size))
  clear hb
  rw [HQ.out.2.1, HQ.out.2.2]
  have e1 : (N != F + (ys.length : Int)) = false := by rw [HNE.out, bne_eq_false_iff_eq]
  have e2 : ¬ (60 : Int) < (E.Lines.length : Int) := by omega
  have xB3 := B3.out.out
  have xB5 := B5.out.out
  go_upto_region 9 with fail
  clear xB3 xB5
  clear e1 e2
  have xB5 := B5.out.out
  go_wp2_with fail
  clear xB5
  go_loopw [10] (fun v wr => ∃ i : Int, v = .int .i64 i ∧ E.First ≤ i ∧ i ≤ N ∧ Slc wr b1 a1 ys.length k1 ys ∧ Slc wr q1 a2 E.Lines.length k2 E.Lines ∧ Bx wr w1.heap.size #[.int .i64 F, .slice a1 ys.length k1] ∧ Bx wr w3.heap.size #[.int .i64 E.First, .slice a2 E.Lines.length k2] ∧ Below w.heap.size w wr) (fun v _ => (N - intOf v).toNat)
  case atStart => exact ⟨_, rfl, Int.le_refl _, hEF.2, S0.out, S1.out, B3.out, B5.out, HB.out⟩
  case round =>
    obtain ⟨i, rfl, hi1, hi2, z0, z1, z2, z3, z4⟩ := hrel
    clear S0 S1 B3 B5 HB
    have S0 := hid z0; have S1 := hid z1; have B3 := hid z2; have B5 := hid z3; have HB := hid z4
    clear z0 z1 z2 z3 z4
    have hiI : I64 i := by unfold I64 at *; omega
    by_cases hlt : i < N
    · skip
      have hq := HQ.out.1 i hi1 hlt
      have HQi := hid hq; clear hq
      have xB5 := B5.out.out
      go_wp2_with fail
      clear xB5
      refine (i_HistGet (mk_Hist (d := E) i2 S1.out) i hiI).mono ?_
      rintro e w31 ⟨rfl, hb⟩
      replace S0 := hid (S0.out.grow hb)
      replace B3 := hid (Bx.below hb B3.out.f.lt B3.out)
      replace S1 := hid (S1.out.grow hb)
      replace B5 := hid (Bx.below hb B5.out.f.lt B5.out)
      replace HB := hid (HB.out.trans (hb.mono HB.out.size))
      clear hb
      rw [HQi.out.1, HQi.out.2.2]
      have xB3 := B3.out.out
      go_wp2_with fail
      clear xB3
      refine (i_HistGet (mk_Hist (d := ⟨F, ys⟩) hFI S0.out) i hiI).mono ?_
      rintro e w32 ⟨rfl, hb⟩
      replace S0 := hid (S0.out.grow hb)
      replace B3 := hid (Bx.below hb B3.out.f.lt B3.out)
      replace S1 := hid (S1.out.grow hb)
      replace B5 := hid (Bx.below hb B5.out.f.lt B5.out)
      replace HB := hid (HB.out.trans (hb.mono HB.out.size))
      clear hb
      rw [HQi.out.2.1]
      go_wp2
      exact ⟨⟨i + 1, by first | rfl | (congr 1; simp; omega), by omega, by omega, S0.out, S1.out, B3.out, B5.out, HB.out⟩, by simp [intOf]; omega⟩
    · skip
      have xB5 := B5.out.out
      go_wp2_with fail
      clear xB5
      refine (i_HistFind (mk_Hist (d := E) i2 S1.out) s (by omega) N hNI (-1) (by simp [I64]) true (ml_keep HM0.out HB.out)).mono ?_
      rintro e w41 ⟨rfl, hb⟩
      replace S0 := hid (S0.out.grow hb)
      replace B3 := hid (Bx.below hb B3.out.f.lt B3.out)
      replace S1 := hid (S1.out.grow hb)
      replace B5 := hid (Bx.below hb B5.out.f.lt B5.out)
      replace HB := hid (HB.out.trans (hb.mono HB.out.size))
      clear hb
      rw [HF.out]
      have xB5 := B5.out.out
      go_wp2_with fail
      clear xB5
      refine (i_HistOk (mk_Hist (d := E) i2 S1.out)).mono ?_
      rintro e w42 ⟨rfl, hb⟩
      replace S0 := hid (S0.out.grow hb)
      replace B3 := hid (Bx.below hb B3.out.f.lt B3.out)
      replace S1 := hid (S1.out.grow hb)
      replace B5 := hid (Bx.below hb B5.out.f.lt B5.out)
      replace HB := hid (HB.out.trans (hb.mono HB.out.size))
      clear hb
      rw [HOK.out]
      go_wp2
      go_ret
      exact ⟨rfl, HB.out⟩
end Go.Proofs.Ytdfpjchneofndaa
