/- Clearing: the program's (printed by genclear.py). -/
import Derived.Test.YtffinfpnmohnaaaGridClL
import Derived.Test.YtffinfpnmohnaaaLate
import Derived.BigRegion
import Derived.Deep.DeepCutAuto
import Derived.Lib.MinMax
set_option linter.unusedSimpArgs false
set_option linter.unusedVariables false
namespace Go.Proofs.Ytffinfpnmohnaaa
open Go.RowKit Go.G6
set_option maxHeartbeats 3000000
set_option maxRecDepth 10000
theorem i_erase {w : World} {b lo : Nat} {bx : List Nat} {d : GridD} {p : Option Addr} {k : Nat} (hB : Bx w b #[.int .i64 d.W, .int .i64 d.H, .slice p d.Cells.length k, .int .i64 d.X, .int .i64 d.Y, .bool d.Wrap]) (hg : gridOk d = true) (f : Int) (hf : I64 f) (t : Int) (ht : I64 t)
    (hO : Own lo w bx [.slice p d.Cells.length k] d.Cells) (hn : b ∉ bx) :
    Calls Try.prog 100 #[.pointer (some ⟨b, 0, none⟩), .int .i64 f, .int .i64 t] w fun e w' => e = .returned (.tuple #[]) ∧ Bx w' b #[.int .i64 d.W, .int .i64 d.H, .slice p d.Cells.length k, .int .i64 d.X, .int .i64 d.Y, .bool d.Wrap] ∧ Own lo w' bx [.slice p d.Cells.length k] (gcCells d.Cells f t) ∧ Tch bx w w' := by
  have HB := hid hB
  have HG := hid hg
  have HO := hid hO
  have hs := gridOk_shape hg
  have hn8 : d.Cells.length ≤ 8000 := by omega
  clear hs
  obtain ⟨F, hF⟩ : ∃ F : Nat, (F : Int) = max f 0 := ⟨(max f 0).toNat, by omega⟩
  obtain ⟨T, hT⟩ : ∃ T : Int, T = min t (d.Cells.length : Int) := ⟨_, rfl⟩
  have hT8 : T ≤ 8000 := by omega
  by_cases hFT : T ≤ (F : Int)
  · have E := hid (gc_none hg (f := f) (t := t) (by omega))
    have hFT2 : (F : Int) ≥ T := hFT
    have hc := hB.out
    have hfz := hB.fr
    have HFI := hid hF; have HTI := hid hT
    clear hg hO hB hFT hF hT
    go_enter Try.func100, Try.ntmps100
    go_wp2_with fail
    generalize hW : w = W at *
    go_region
    rw [← HFI.out, ← HTI.out]
    refine late_genw (fun w1 hw1 => ?_)
    have HB1 := hid (show Bx w1 b #[.int .i64 d.W, .int .i64 d.H, .slice p d.Cells.length k, .int .i64 d.X, .int .i64 d.Y, .bool d.Wrap] by rw [hw1]; exact HB.out.drew)
    have HO1 := hid (show Own lo w1 bx [.slice p d.Cells.length k] d.Cells by rw [hw1]; exact HO.out.keep (fun _ _ => rfl))
    subst hW
    have HT1 := hid (show Tch bx w w1 by rw [hw1]; exact (Tch.refl _ _).drewN 1)
    clear hw1 hc hfz
    go_wp2
    refine bodyPost_ret (v := .tuple #[]) (by simp [results, Try.results100, go_sem]) rfl ?_
    exact ⟨rfl, HB1.out, by rw [E.out]; exact HO1.out, HT1.out⟩
  have hgc := fun (N : Nat) (hN : (N : Int) = min t (d.Cells.length : Int)) (h : F < N) => gc_eq hg hF hN h
  have hhp := fun q => half_prev (k := F) hg (by omega) q
  have hFT2 : ¬ (F : Int) ≥ T := hFT
  have hc := hB.out
  have hfz := hB.fr
  have HFI := hid hF; have HTI := hid hT
  obtain ⟨N, rfl⟩ : ∃ N : Nat, T = (N : Int) := ⟨T.toNat, by omega⟩
  have hFN : F < N := by omega
  have hNn : N ≤ d.Cells.length := by omega
  have HE := hid (hgc N hT hFN)
  have HHP := hid hhp
  have hFn : F < d.Cells.length := by omega
  clear hgc hhp hg hO hB hFT hF hT
  go_enter Try.func100, Try.ntmps100
  go_wp2_with fail
  generalize hW : w = W at *
  go_region
  rw [← HFI.out, ← HTI.out]
  refine late_genw (fun w1 hw1 => ?_)
  have HB1 := hid (show Bx w1 b #[.int .i64 d.W, .int .i64 d.H, .slice p d.Cells.length k, .int .i64 d.X, .int .i64 d.Y, .bool d.Wrap] by rw [hw1]; exact HB.out.drew)
  have HO1 := hid (show Own lo w1 bx [.slice p d.Cells.length k] d.Cells by rw [hw1]; exact HO.out.keep (fun _ _ => rfl))
  subst hW
  have HT1 := hid (show Tch bx w w1 by rw [hw1]; exact (Tch.refl _ _).drewN 1)
  clear hw1 hc hfz
  obtain ⟨g, off, rfl, hgw, hcF, _⟩ := (pt_slice.1 HO1.out.1).at F hFn
  have hcF1 : w1.cell? ⟨g, off + F, none⟩ = some (.int .i64 d.Cells[F]) := hcF
  have hgF : d.Cells.getD F 0 = d.Cells[F] := by simp [hFn]
  clear hcF
  have HBw := hid hgw; clear hgw
  have HGF := hid hgF; clear hgF
  have hbo := HB1.out.out; have hbf := HB1.out.fr
  have hFi : (F : Int) < (d.Cells.length : Int) := by omega
  by_cases e1 : d.Cells[F] = -1
  rotate_left
  · have HY := hid (show gcHalf d.Cells F = d.Cells by unfold gcHalf; rw [if_neg (by rw [HGF.out]; exact e1)])
    have hb1 : (d.Cells[F] == -1) = false := by rw [beq_eq_false_iff_ne]; exact e1
    have HOW := HO1; have HBW := HB1; have HTW := HT1
    clear e1
    obtain ⟨xF, hxF⟩ : ∃ xF, xF = d.Cells[F] := ⟨_, rfl⟩
    rw [← hxF] at hb1 hcF1
    clear hxF
    by_cases hNl : N < d.Cells.length
    rotate_left
    · obtain rfl : N = d.Cells.length := by omega
      have HZ := hid (show gcNext d.Cells d.Cells.length = d.Cells by unfold gcNext; rw [if_neg]; rw [List.getD_eq_getElem?_getD, List.getElem?_eq_none (by (try simp only [List.length_set]); exact Nat.le_refl _)]; decide)
      have hbo := HBW.out.out; have hbf := HBW.out.fr
      have HEE := hid (show gcRow (d.Cells) F d.Cells.length = gcCells d.Cells f t by rw [← HE.out, HY.out, HZ.out])
      go_wp2_with fail
      go_loopw [6] (fun i wr => ∃ j : Nat, F ≤ j ∧ j ≤ d.Cells.length ∧ i = .int .i64 (j : Int) ∧ Own lo wr bx [.slice (some ⟨g, off, none⟩) d.Cells.length k] (gcRow (d.Cells) F j) ∧ Bx wr b #[.int .i64 d.W, .int .i64 d.H, .slice (some ⟨g, off, none⟩) d.Cells.length k, .int .i64 d.X, .int .i64 d.Y, .bool d.Wrap] ∧ Tch bx w wr) (fun i _ => d.Cells.length - (intOf i).toNat)
      case atStart => exact ⟨F, Nat.le_refl _, by omega, rfl, by rw [gcRow_zero]; exact HOW.out, HBW.out, HTW.out⟩
      case round =>
        clear hbo hbf
        obtain ⟨j, hj1, hj2, rfl, hO, hX, hT⟩ := hrel
        have HOj := hid hO; have HXj := hid hX; have HTj := hid hT
        have xo := hX.out; have xf := hX.fr
        clear hO hX hT
        by_cases hjl : j < d.Cells.length
        rotate_left
        · obtain rfl : j = d.Cells.length := by omega
          go_wp2
          go_end0
          exact ⟨rfl, HXj.out, by rw [← HEE.out]; exact HOj.out, HTj.out⟩
        have hjn : j < (gcRow (d.Cells) F j).length := by rw [gcRow_len hj1 (by (try simp only [List.length_set]); omega)]; (try simp only [List.length_set]); omega
        obtain ⟨g2, off2, hpe, hgb, hck, hfr, hO2⟩ := HOj.out.setScal j hjn (32 : Int) (by show I64 32; simp [I64])
        simp only [Option.some.injEq, Addr.mk.injEq, and_true] at hpe
        obtain ⟨rfl, rfl⟩ := hpe
        rw [gcRow_succ hj1 (by (try simp only [List.length_set]); omega)] at hO2
        have HOs := hid hO2; have hng : ¬ b = g := fun q => hn (by rw [q]; exact hgb)
        have HGB := hid hgb
        have hck1 : wr.cell? ⟨g, off + j, none⟩ = some _ := hck
        have hji : (j : Int) < (d.Cells.length : Int) := by omega
        have hjd : (j : Int) < (d.Cells.length : Int) := by omega
        clear hck hO2 hgb
        go_wp2
        exact ⟨⟨j + 1, by omega, by omega, rfl, HOs.out, HXj.out.setOther (by simpa using hng) _, HTj.out.setCell (by simpa using HGB.out) _⟩, by simp [intOf]; omega⟩
    have hNi : (N : Int) < (d.Cells.length : Int) := by omega
    have hNy : N < (d.Cells).length := by (try simp only [List.length_set]); exact hNl
    obtain ⟨g2, off2, hpe, _, hcN, _⟩ := (pt_slice.1 HOW.out.1).at N hNy
    simp only [Option.some.injEq, Addr.mk.injEq, and_true] at hpe
    obtain ⟨rfl, rfl⟩ := hpe
    obtain ⟨x2, hx2⟩ : ∃ x2, x2 = (d.Cells)[N] := ⟨_, rfl⟩
    have hcN1 : w1.cell? ⟨g, off + N, none⟩ = some (.int .i64 x2) := by rw [hx2]; exact hcN
    have hgN : (d.Cells).getD N 0 = x2 := by rw [hx2, List.getD_eq_getElem?_getD, List.getElem?_eq_getElem hNy]; rfl
    clear hcN hx2
    have hbo := HBW.out.out; have hbf := HBW.out.fr
    by_cases e2 : x2 = -1
    rotate_left
    · have HZ := hid (show gcNext d.Cells N = d.Cells by unfold gcNext; rw [if_neg (by rw [hgN]; exact e2)])
      have hb2 : (x2 == -1) = false := by rw [beq_eq_false_iff_ne]; exact e2
      clear e2 hgN
      have HEE := hid (show gcRow (d.Cells) F N = gcCells d.Cells f t by rw [← HE.out, HY.out, HZ.out])
      go_wp2_with fail
      go_loopw [6] (fun i wr => ∃ j : Nat, F ≤ j ∧ j ≤ N ∧ i = .int .i64 (j : Int) ∧ Own lo wr bx [.slice (some ⟨g, off, none⟩) d.Cells.length k] (gcRow (d.Cells) F j) ∧ Bx wr b #[.int .i64 d.W, .int .i64 d.H, .slice (some ⟨g, off, none⟩) d.Cells.length k, .int .i64 d.X, .int .i64 d.Y, .bool d.Wrap] ∧ Tch bx w wr) (fun i _ => N - (intOf i).toNat)
      case atStart => exact ⟨F, Nat.le_refl _, by omega, rfl, by rw [gcRow_zero]; exact HOW.out, HBW.out, HTW.out⟩
      case round =>
        clear hbo hbf
        obtain ⟨j, hj1, hj2, rfl, hO, hX, hT⟩ := hrel
        have HOj := hid hO; have HXj := hid hX; have HTj := hid hT
        have xo := hX.out; have xf := hX.fr
        clear hO hX hT
        by_cases hjl : j < N
        rotate_left
        · obtain rfl : j = N := by omega
          go_wp2
          go_end0
          exact ⟨rfl, HXj.out, by rw [← HEE.out]; exact HOj.out, HTj.out⟩
        have hjn : j < (gcRow (d.Cells) F j).length := by rw [gcRow_len hj1 (by (try simp only [List.length_set]); omega)]; (try simp only [List.length_set]); omega
        obtain ⟨g2, off2, hpe, hgb, hck, hfr, hO2⟩ := HOj.out.setScal j hjn (32 : Int) (by show I64 32; simp [I64])
        simp only [Option.some.injEq, Addr.mk.injEq, and_true] at hpe
        obtain ⟨rfl, rfl⟩ := hpe
        rw [gcRow_succ hj1 (by (try simp only [List.length_set]); omega)] at hO2
        have HOs := hid hO2; have hng : ¬ b = g := fun q => hn (by rw [q]; exact hgb)
        have HGB := hid hgb
        have hck1 : wr.cell? ⟨g, off + j, none⟩ = some _ := hck
        have hji : (j : Int) < (N : Int) := by omega
        have hjd : (j : Int) < (d.Cells.length : Int) := by omega
        clear hck hO2 hgb
        go_wp2
        exact ⟨⟨j + 1, by omega, by omega, rfl, HOs.out, HXj.out.setOther (by simpa using hng) _, HTj.out.setCell (by simpa using HGB.out) _⟩, by simp [intOf]; omega⟩
    have HZ := hid (show gcNext d.Cells N = (d.Cells).set N 32 by unfold gcNext; rw [if_pos (by rw [hgN]; exact e2)])
    have hb2 : (x2 == -1) = true := by rw [beq_iff_eq]; exact e2
    clear e2 hgN
    obtain ⟨g2, off2, hpe, hgb, hck, hfr, hO2⟩ := HOW.out.setScal N hNy (32 : Int) (by show I64 32; simp [I64])
    simp only [Option.some.injEq, Addr.mk.injEq, and_true] at hpe
    obtain ⟨rfl, rfl⟩ := hpe
    have HOs := hid hO2; have hng : ¬ b = g := fun q => hn (by rw [q]; exact hgb)
    have HGB := hid hgb
    clear hck hO2 hgb
    go_upto_region 6 with fail
    refine late_genw (fun w3 hw3 => ?_)
    have HOW3 := hid (show Own lo w3 bx [.slice (some ⟨g, off, none⟩) d.Cells.length k] ((d.Cells).set N 32) by rw [hw3]; exact HOs.out)
    have HBW3 := hid (show Bx w3 b _ by rw [hw3]; exact HBW.out.setOther (by simpa using hng) _)
    have HTW3 := hid (show Tch bx w w3 by rw [hw3]; exact HTW.out.setCell (by simpa using HGB.out) _)
    clear hw3 hcN1 hfr HOs hbo hbf
    have hbo := HBW3.out.out; have hbf := HBW3.out.fr
    have HEE := hid (show gcRow (((d.Cells).set N 32)) F N = gcCells d.Cells f t by rw [← HE.out, HY.out, HZ.out])
    go_wp2_with fail
    go_loopw [6] (fun i wr => ∃ j : Nat, F ≤ j ∧ j ≤ N ∧ i = .int .i64 (j : Int) ∧ Own lo wr bx [.slice (some ⟨g, off, none⟩) d.Cells.length k] (gcRow (((d.Cells).set N 32)) F j) ∧ Bx wr b #[.int .i64 d.W, .int .i64 d.H, .slice (some ⟨g, off, none⟩) d.Cells.length k, .int .i64 d.X, .int .i64 d.Y, .bool d.Wrap] ∧ Tch bx w wr) (fun i _ => N - (intOf i).toNat)
    case atStart => exact ⟨F, Nat.le_refl _, by omega, rfl, by rw [gcRow_zero]; exact HOW3.out, HBW3.out, HTW3.out⟩
    case round =>
      clear hbo hbf
      obtain ⟨j, hj1, hj2, rfl, hO, hX, hT⟩ := hrel
      have HOj := hid hO; have HXj := hid hX; have HTj := hid hT
      have xo := hX.out; have xf := hX.fr
      clear hO hX hT
      by_cases hjl : j < N
      rotate_left
      · obtain rfl : j = N := by omega
        go_wp2
        go_end0
        exact ⟨rfl, HXj.out, by rw [← HEE.out]; exact HOj.out, HTj.out⟩
      have hjn : j < (gcRow (((d.Cells).set N 32)) F j).length := by rw [gcRow_len hj1 (by (try simp only [List.length_set]); omega)]; (try simp only [List.length_set]); omega
      obtain ⟨g2, off2, hpe, hgb, hck, hfr, hO2⟩ := HOj.out.setScal j hjn (32 : Int) (by show I64 32; simp [I64])
      simp only [Option.some.injEq, Addr.mk.injEq, and_true] at hpe
      obtain ⟨rfl, rfl⟩ := hpe
      rw [gcRow_succ hj1 (by (try simp only [List.length_set]); omega)] at hO2
      have HOs := hid hO2; have hng : ¬ b = g := fun q => hn (by rw [q]; exact hgb)
      have HGB := hid hgb
      have hck1 : wr.cell? ⟨g, off + j, none⟩ = some _ := hck
      have hji : (j : Int) < (N : Int) := by omega
      have hjd : (j : Int) < (d.Cells.length : Int) := by omega
      clear hck hO2 hgb
      go_wp2
      exact ⟨⟨j + 1, by omega, by omega, rfl, HOs.out, HXj.out.setOther (by simpa using hng) _, HTj.out.setCell (by simpa using HGB.out) _⟩, by simp [intOf]; omega⟩
  have hp := HHP.out (by rw [HGF.out]; exact e1)
  have hF0 : 0 < F := hp.1
  have HY := hid (show gcHalf d.Cells F = d.Cells.set (F - 1) 32 by unfold gcHalf; rw [if_pos (by rw [HGF.out]; exact e1)])
  have hb1 : (d.Cells[F] == -1) = true := by rw [beq_iff_eq]; exact e1
  obtain ⟨xF, hxF⟩ : ∃ xF, xF = d.Cells[F] := ⟨_, rfl⟩
  rw [← hxF] at hb1 hcF1
  clear hxF e1 hp
  have hGl : F - 1 < d.Cells.length := by omega
  have hwG : wrap64 ((F : Int) - 1) = (F : Int) - 1 := IntWalk.wrap64_in _ (by omega)
  have hwG3 : (0 : Int) ≤ (F : Int) - 1 := by omega
  have hwG4 : (F : Int) - 1 < (d.Cells.length : Int) := by omega
  obtain ⟨g2, off2, hpe, hgb, hck, hfr, hO2⟩ := HO1.out.setScal (F - 1) hGl (32 : Int) (by show I64 32; simp [I64])
  simp only [Option.some.injEq, Addr.mk.injEq, and_true] at hpe
  obtain ⟨rfl, rfl⟩ := hpe
  have HOs := hid hO2; have hng : ¬ b = g := fun q => hn (by rw [q]; exact hgb)
  have HGB := hid hgb
  have hck1 : w1.cell? ⟨g, off + (F - 1), none⟩ = some _ := hck
  clear hck hO2 hgb
  go_upto_region 4 with fail
  refine late_genw (fun w2 hw2 => ?_)
  have HOW := hid (show Own lo w2 bx [.slice (some ⟨g, off, none⟩) d.Cells.length k] (d.Cells.set (F - 1) 32) by rw [hw2]; exact HOs.out)
  have HBW := hid (show Bx w2 b _ by rw [hw2]; exact HB1.out.setOther (by simpa using hng) _)
  have HTW := hid (show Tch bx w w2 by rw [hw2]; exact HT1.out.setCell (by simpa using HGB.out) _)
  clear hw2 hcF1 hck1 hfr HOs hbo hbf hwG hwG3 hwG4 hb1
  by_cases hNl : N < d.Cells.length
  rotate_left
  · obtain rfl : N = d.Cells.length := by omega
    have HZ := hid (show gcNext (d.Cells.set (F - 1) 32) d.Cells.length = (d.Cells.set (F - 1) 32) by unfold gcNext; rw [if_neg]; rw [List.getD_eq_getElem?_getD, List.getElem?_eq_none (by (try simp only [List.length_set]); exact Nat.le_refl _)]; decide)
    have hbo := HBW.out.out; have hbf := HBW.out.fr
    have HEE := hid (show gcRow ((d.Cells.set (F - 1) 32)) F d.Cells.length = gcCells d.Cells f t by rw [← HE.out, HY.out, HZ.out])
    go_wp2_with fail
    go_loopw [6] (fun i wr => ∃ j : Nat, F ≤ j ∧ j ≤ d.Cells.length ∧ i = .int .i64 (j : Int) ∧ Own lo wr bx [.slice (some ⟨g, off, none⟩) d.Cells.length k] (gcRow ((d.Cells.set (F - 1) 32)) F j) ∧ Bx wr b #[.int .i64 d.W, .int .i64 d.H, .slice (some ⟨g, off, none⟩) d.Cells.length k, .int .i64 d.X, .int .i64 d.Y, .bool d.Wrap] ∧ Tch bx w wr) (fun i _ => d.Cells.length - (intOf i).toNat)
    case atStart => exact ⟨F, Nat.le_refl _, by omega, rfl, by rw [gcRow_zero]; exact HOW.out, HBW.out, HTW.out⟩
    case round =>
      clear hbo hbf
      obtain ⟨j, hj1, hj2, rfl, hO, hX, hT⟩ := hrel
      have HOj := hid hO; have HXj := hid hX; have HTj := hid hT
      have xo := hX.out; have xf := hX.fr
      clear hO hX hT
      by_cases hjl : j < d.Cells.length
      rotate_left
      · obtain rfl : j = d.Cells.length := by omega
        go_wp2
        go_end0
        exact ⟨rfl, HXj.out, by rw [← HEE.out]; exact HOj.out, HTj.out⟩
      have hjn : j < (gcRow ((d.Cells.set (F - 1) 32)) F j).length := by rw [gcRow_len hj1 (by (try simp only [List.length_set]); omega)]; (try simp only [List.length_set]); omega
      obtain ⟨g2, off2, hpe, hgb, hck, hfr, hO2⟩ := HOj.out.setScal j hjn (32 : Int) (by show I64 32; simp [I64])
      simp only [Option.some.injEq, Addr.mk.injEq, and_true] at hpe
      obtain ⟨rfl, rfl⟩ := hpe
      rw [gcRow_succ hj1 (by (try simp only [List.length_set]); omega)] at hO2
      have HOs := hid hO2; have hng : ¬ b = g := fun q => hn (by rw [q]; exact hgb)
      have HGB := hid hgb
      have hck1 : wr.cell? ⟨g, off + j, none⟩ = some _ := hck
      have hji : (j : Int) < (d.Cells.length : Int) := by omega
      have hjd : (j : Int) < (d.Cells.length : Int) := by omega
      clear hck hO2 hgb
      go_wp2
      exact ⟨⟨j + 1, by omega, by omega, rfl, HOs.out, HXj.out.setOther (by simpa using hng) _, HTj.out.setCell (by simpa using HGB.out) _⟩, by simp [intOf]; omega⟩
  have hNi : (N : Int) < (d.Cells.length : Int) := by omega
  have hNy : N < ((d.Cells.set (F - 1) 32)).length := by (try simp only [List.length_set]); exact hNl
  obtain ⟨g2, off2, hpe, _, hcN, _⟩ := (pt_slice.1 HOW.out.1).at N hNy
  simp only [Option.some.injEq, Addr.mk.injEq, and_true] at hpe
  obtain ⟨rfl, rfl⟩ := hpe
  obtain ⟨x2, hx2⟩ : ∃ x2, x2 = ((d.Cells.set (F - 1) 32))[N] := ⟨_, rfl⟩
  have hcN1 : w2.cell? ⟨g, off + N, none⟩ = some (.int .i64 x2) := by rw [hx2]; exact hcN
  have hgN : ((d.Cells.set (F - 1) 32)).getD N 0 = x2 := by rw [hx2, List.getD_eq_getElem?_getD, List.getElem?_eq_getElem hNy]; rfl
  clear hcN hx2
  have hbo := HBW.out.out; have hbf := HBW.out.fr
  by_cases e2 : x2 = -1
  rotate_left
  · have HZ := hid (show gcNext (d.Cells.set (F - 1) 32) N = (d.Cells.set (F - 1) 32) by unfold gcNext; rw [if_neg (by rw [hgN]; exact e2)])
    have hb2 : (x2 == -1) = false := by rw [beq_eq_false_iff_ne]; exact e2
    clear e2 hgN
    have HEE := hid (show gcRow ((d.Cells.set (F - 1) 32)) F N = gcCells d.Cells f t by rw [← HE.out, HY.out, HZ.out])
    go_wp2_with fail
    go_loopw [6] (fun i wr => ∃ j : Nat, F ≤ j ∧ j ≤ N ∧ i = .int .i64 (j : Int) ∧ Own lo wr bx [.slice (some ⟨g, off, none⟩) d.Cells.length k] (gcRow ((d.Cells.set (F - 1) 32)) F j) ∧ Bx wr b #[.int .i64 d.W, .int .i64 d.H, .slice (some ⟨g, off, none⟩) d.Cells.length k, .int .i64 d.X, .int .i64 d.Y, .bool d.Wrap] ∧ Tch bx w wr) (fun i _ => N - (intOf i).toNat)
    case atStart => exact ⟨F, Nat.le_refl _, by omega, rfl, by rw [gcRow_zero]; exact HOW.out, HBW.out, HTW.out⟩
    case round =>
      clear hbo hbf
      obtain ⟨j, hj1, hj2, rfl, hO, hX, hT⟩ := hrel
      have HOj := hid hO; have HXj := hid hX; have HTj := hid hT
      have xo := hX.out; have xf := hX.fr
      clear hO hX hT
      by_cases hjl : j < N
      rotate_left
      · obtain rfl : j = N := by omega
        go_wp2
        go_end0
        exact ⟨rfl, HXj.out, by rw [← HEE.out]; exact HOj.out, HTj.out⟩
      have hjn : j < (gcRow ((d.Cells.set (F - 1) 32)) F j).length := by rw [gcRow_len hj1 (by (try simp only [List.length_set]); omega)]; (try simp only [List.length_set]); omega
      obtain ⟨g2, off2, hpe, hgb, hck, hfr, hO2⟩ := HOj.out.setScal j hjn (32 : Int) (by show I64 32; simp [I64])
      simp only [Option.some.injEq, Addr.mk.injEq, and_true] at hpe
      obtain ⟨rfl, rfl⟩ := hpe
      rw [gcRow_succ hj1 (by (try simp only [List.length_set]); omega)] at hO2
      have HOs := hid hO2; have hng : ¬ b = g := fun q => hn (by rw [q]; exact hgb)
      have HGB := hid hgb
      have hck1 : wr.cell? ⟨g, off + j, none⟩ = some _ := hck
      have hji : (j : Int) < (N : Int) := by omega
      have hjd : (j : Int) < (d.Cells.length : Int) := by omega
      clear hck hO2 hgb
      go_wp2
      exact ⟨⟨j + 1, by omega, by omega, rfl, HOs.out, HXj.out.setOther (by simpa using hng) _, HTj.out.setCell (by simpa using HGB.out) _⟩, by simp [intOf]; omega⟩
  have HZ := hid (show gcNext (d.Cells.set (F - 1) 32) N = ((d.Cells.set (F - 1) 32)).set N 32 by unfold gcNext; rw [if_pos (by rw [hgN]; exact e2)])
  have hb2 : (x2 == -1) = true := by rw [beq_iff_eq]; exact e2
  clear e2 hgN
  obtain ⟨g2, off2, hpe, hgb, hck, hfr, hO2⟩ := HOW.out.setScal N hNy (32 : Int) (by show I64 32; simp [I64])
  simp only [Option.some.injEq, Addr.mk.injEq, and_true] at hpe
  obtain ⟨rfl, rfl⟩ := hpe
  have HOs := hid hO2; have hng : ¬ b = g := fun q => hn (by rw [q]; exact hgb)
  have HGB := hid hgb
  clear hck hO2 hgb
  go_upto_region 6 with fail
  refine late_genw (fun w3 hw3 => ?_)
  have HOW3 := hid (show Own lo w3 bx [.slice (some ⟨g, off, none⟩) d.Cells.length k] (((d.Cells.set (F - 1) 32)).set N 32) by rw [hw3]; exact HOs.out)
  have HBW3 := hid (show Bx w3 b _ by rw [hw3]; exact HBW.out.setOther (by simpa using hng) _)
  have HTW3 := hid (show Tch bx w w3 by rw [hw3]; exact HTW.out.setCell (by simpa using HGB.out) _)
  clear hw3 hcN1 hfr HOs hbo hbf
  have hbo := HBW3.out.out; have hbf := HBW3.out.fr
  have HEE := hid (show gcRow ((((d.Cells.set (F - 1) 32)).set N 32)) F N = gcCells d.Cells f t by rw [← HE.out, HY.out, HZ.out])
  go_wp2_with fail
  go_loopw [6] (fun i wr => ∃ j : Nat, F ≤ j ∧ j ≤ N ∧ i = .int .i64 (j : Int) ∧ Own lo wr bx [.slice (some ⟨g, off, none⟩) d.Cells.length k] (gcRow ((((d.Cells.set (F - 1) 32)).set N 32)) F j) ∧ Bx wr b #[.int .i64 d.W, .int .i64 d.H, .slice (some ⟨g, off, none⟩) d.Cells.length k, .int .i64 d.X, .int .i64 d.Y, .bool d.Wrap] ∧ Tch bx w wr) (fun i _ => N - (intOf i).toNat)
  case atStart => exact ⟨F, Nat.le_refl _, by omega, rfl, by rw [gcRow_zero]; exact HOW3.out, HBW3.out, HTW3.out⟩
  case round =>
    clear hbo hbf
    obtain ⟨j, hj1, hj2, rfl, hO, hX, hT⟩ := hrel
    have HOj := hid hO; have HXj := hid hX; have HTj := hid hT
    have xo := hX.out; have xf := hX.fr
    clear hO hX hT
    by_cases hjl : j < N
    rotate_left
    · obtain rfl : j = N := by omega
      go_wp2
      go_end0
      exact ⟨rfl, HXj.out, by rw [← HEE.out]; exact HOj.out, HTj.out⟩
    have hjn : j < (gcRow ((((d.Cells.set (F - 1) 32)).set N 32)) F j).length := by rw [gcRow_len hj1 (by (try simp only [List.length_set]); omega)]; (try simp only [List.length_set]); omega
    obtain ⟨g2, off2, hpe, hgb, hck, hfr, hO2⟩ := HOj.out.setScal j hjn (32 : Int) (by show I64 32; simp [I64])
    simp only [Option.some.injEq, Addr.mk.injEq, and_true] at hpe
    obtain ⟨rfl, rfl⟩ := hpe
    rw [gcRow_succ hj1 (by (try simp only [List.length_set]); omega)] at hO2
    have HOs := hid hO2; have hng : ¬ b = g := fun q => hn (by rw [q]; exact hgb)
    have HGB := hid hgb
    have hck1 : wr.cell? ⟨g, off + j, none⟩ = some _ := hck
    have hji : (j : Int) < (N : Int) := by omega
    have hjd : (j : Int) < (d.Cells.length : Int) := by omega
    clear hck hO2 hgb
    go_wp2
    exact ⟨⟨j + 1, by omega, by omega, rfl, HOs.out, HXj.out.setOther (by simpa using hng) _, HTj.out.setCell (by simpa using HGB.out) _⟩, by simp [intOf]; omega⟩
theorem i_GridClear {w : World} {bs : List Nat} {cs : List Value} {d : GridD} (h : Rep.pt w bs cs d) (f : Int) (hf : I64 f) (t : Int) (ht : I64 t) :
    Calls Try.prog 36 #[.agg cs.toArray, .int .i64 f, .int .i64 t] w (RetA w (gridClear d f t)) := by
  have H := hid h
  obtain ⟨a2, l2, k2, rfl, h0, h1, h2, h3, h4⟩ := open_Grid h
  obtain rfl := h2.len_eq
  have H2 := hid h2
  clear h h2
  have INI : ∀ o1 o2, Below w.heap.size w ((w.alloc o1).alloc o2) := fun o1 o2 => ((Below.refl _ _).alloc (Nat.le_refl _) _).alloc (by simp) _
  have HI := hid INI; clear INI
  cases hg : gridOk d
  · have E : Hid (gridClear d f t = grid0) := hid (by simp [gridClear, hg])
    have HG := hid hg; clear hg
    go_enter Try.func36, Try.ntmps36
    go_wp2_with fail
    refine (i_GridOk (grow H.out (HI.out _ _))).mono ?_
    rintro e w1 ⟨rfl, hb⟩
    have B1 : Bx w1 (w.heap.size + 1) _ := Bx.below (b := w.heap.size + 1) hb (by first | omega | (simp; done) | (simp; omega)) (by repeat (first  | (apply Bx.new; (focus (first | (simp; done) | (simp; omega) | omega))) | (apply Bx.alloc; rotate_left; (focus (first | (simp; done) | (simp; omega) | omega))) | (apply Bx.setOther; rotate_left; (focus (first | (simp; done) | (simp; omega) | omega))) | apply Bx.setSame))
    have B1o := B1.out
    have B1f := B1.fr
    have HB := hid (below_call (HI.out _ _) hb)
    clear hb
    rw [HG.out]
    go_wp2
    refine bodyPost_ret (v := .agg #[.int .i64 0, .int .i64 0, .slice none 0 0, .int .i64 0, .int .i64 0, .bool false]) (by simp [results, Try.results36, go_sem, B1o]) rfl ?_
    refine ⟨_, [], rfl, ?_, ?_⟩
    · rw [E.out]
      exact own_Grid (d := grid0) (by simp [I64, grid0]) (by simp [I64, grid0]) (own_nil _ _) (by simp [I64, grid0]) (by simp [I64, grid0])
    · (repeat (first | with_reducible exact HB.out | ((with_reducible apply Below.setCell); rotate_left; (first | exact Nat.le_refl _ | exact Nat.le_succ _ | (simp; done)))))
  have hs := gridOk_shape hg
  have E : Hid (gridClear d f t = clearD d f t) := hid (by simp [gridClear, hg])
  have HS := hid hs
  have HG := hid hg; clear hg hs
  go_enter Try.func36, Try.ntmps36
  go_wp2_with fail
  refine (i_GridOk (grow H.out (HI.out _ _))).mono ?_
  rintro e w1 ⟨rfl, hb⟩
  have B0 : Bx w1 (w.heap.size) _ := Bx.below (b := w.heap.size) hb (by first | omega | (simp; done) | (simp; omega)) (by repeat (first  | (apply Bx.new; (focus (first | (simp; done) | (simp; omega) | omega))) | (apply Bx.alloc; rotate_left; (focus (first | (simp; done) | (simp; omega) | omega))) | (apply Bx.setOther; rotate_left; (focus (first | (simp; done) | (simp; omega) | omega))) | apply Bx.setSame))
  have B0o := B0.out
  have B0f := B0.fr
  have B1 : Bx w1 (w.heap.size + 1) _ := Bx.below (b := w.heap.size + 1) hb (by first | omega | (simp; done) | (simp; omega)) (by repeat (first  | (apply Bx.new; (focus (first | (simp; done) | (simp; omega) | omega))) | (apply Bx.alloc; rotate_left; (focus (first | (simp; done) | (simp; omega) | omega))) | (apply Bx.setOther; rotate_left; (focus (first | (simp; done) | (simp; omega) | omega))) | apply Bx.setSame))
  have B1o := B1.out
  have B1f := B1.fr
  have hs1 : w.heap.size + 2 ≤ w1.heap.size := by have := hb.size; simpa using this
  have HB1 := hid (below_call (HI.out _ _) hb)
  clear hb
  rw [HG.out]
  go_wp2_with fail
  refine (i_copyGrid (grow H.out HB1.out) (by have := HS.out; omega)).mono ?_
  rintro e w2 ⟨v2, b2, rfl, hO, hb⟩
  obtain ⟨p2, k2', rfl⟩ := hO.slice
  obtain ⟨bx, hbx, hOw⟩ := hO.own
  have hL := hO.lts
  replace B0 : Bx w2 (w.heap.size) _ := Bx.below (b := w.heap.size) hb (by first | omega | (simp; done) | (simp; omega)) (by repeat (first  | exact B0 | exact B1 | (apply Bx.new; (focus (first | (simp; done) | (simp; omega) | omega))) | (apply Bx.alloc; rotate_left; (focus (first | (simp; done) | (simp; omega) | omega))) | (apply Bx.setOther; rotate_left; (focus (first | (simp; done) | (simp; omega) | omega))) | apply Bx.setSame))
  replace B0o := B0.out
  replace B0f := B0.fr
  replace B1 : Bx w2 (w.heap.size + 1) _ := Bx.below (b := w.heap.size + 1) hb (by first | omega | (simp; done) | (simp; omega)) (by repeat (first  | exact B0 | exact B1 | (apply Bx.new; (focus (first | (simp; done) | (simp; omega) | omega))) | (apply Bx.alloc; rotate_left; (focus (first | (simp; done) | (simp; omega) | omega))) | (apply Bx.setOther; rotate_left; (focus (first | (simp; done) | (simp; omega) | omega))) | apply Bx.setSame))
  replace B1o := B1.out
  replace B1f := B1.fr
  have hs2 : w1.heap.size ≤ w2.heap.size := hb.size
  have HB2 := hid (below_call HB1.out hb)
  have HOw := hid hOw; have HL := hid (fun b hb => hL b (hbx b hb))
  clear hb hO hOw hL
  have hss : w.heap.size + 2 ≤ w2.heap.size := by omega
  have hlt0 : w.heap.size < w2.heap.size := by omega
  have hlt1 : w.heap.size + 1 < w2.heap.size := by omega
  have hn8 : d.Cells.length ≤ 8000 := by have := HS.out; omega
  go_wp2_with fail
  have HSl := hid (show Own w1.heap.size (w2.alloc (.cells #[.int .i64 d.W, .int .i64 d.H, .slice p2 d.Cells.length k2', .int .i64 d.X, .int .i64 d.Y, .bool d.Wrap] 41)) bx [.slice p2 d.Cells.length k2'] d.Cells from HOw.out.alloc _)
  have hnb : w2.heap.size ∉ bx := fun q => by have := Rep.lt HOw.out.1 _ q; omega
  refine (i_erase (Bx.new _ _ _ rfl) HG.out f hf t ht HSl.out hnb).mono ?_
  rintro e w3 ⟨rfl, BM, hO3, hT⟩
  have hR : ∀ z ∈ bx, w1.heap.size ≤ z := fun z hz => (HOw.out.2.2 z hz).1
  replace B1 : Bx w3 (w.heap.size + 1) _ := Bx.tch (b := w.heap.size + 1) hT (by first | omega | (simp; done) | (simp; omega)) (fun hm => by have := hR _ hm; first | omega | (simp at this; done) | (simp at this; omega)) (by repeat (first  | exact B0 | exact B1 | (apply Bx.new; (focus (first | (simp; done) | (simp; omega) | omega))) | (apply Bx.alloc; rotate_left; (focus (first | (simp; done) | (simp; omega) | omega))) | (apply Bx.setOther; rotate_left; (focus (first | (simp; done) | (simp; omega) | omega))) | apply Bx.setSame))
  replace B1o := B1.out
  replace B1f := B1.fr
  have BMo := BM.out
  have hs3 : w2.heap.size + 1 ≤ w3.heap.size := by have := hT.size; simpa using this
  have hne : ¬ w2.heap.size = w.heap.size + 1 := by omega
  have HB3 := hid (below_tch (HB2.out.alloc (by omega) _) hT (fun z hz => by have := hR z hz; have q := Rep.lt HOw.out.1 z hz; simp; omega))
  have HO3 := hid hO3
  clear hT hO3 hR
  go_wp2
  refine bodyPost_ret (v := .agg #[.int .i64 d.W, .int .i64 d.H, .slice p2 d.Cells.length k2', .int .i64 d.X, .int .i64 d.Y, .bool d.Wrap]) (by simp [results, Try.results36, go_sem, B1o]) rfl ?_
  refine ⟨#[.int .i64 d.W, .int .i64 d.H, .slice p2 d.Cells.length k2', .int .i64 d.X, .int .i64 d.Y, .bool d.Wrap].toList, bx, rfl, ?_, ?_⟩
  · rw [E.out]
    refine own_Grid (d := clearD d f t) h0 h1 ?_ h3 h4
    rw [show (clearD d f t).Cells = gcCells d.Cells f t from rfl]
    refine Own.mono (lo := w1.heap.size) ?_ (by omega)
    (repeat ((with_reducible apply Own.setCell); rotate_left; (show w.heap.size + 1 < w1.heap.size; omega)))
    exact HO3.out
  · (repeat (first | with_reducible exact HB3.out | ((with_reducible apply Below.setCell); rotate_left; (first | exact Nat.le_refl _ | exact Nat.le_succ _ | (simp; done)))))
end Go.Proofs.Ytffinfpnmohnaaa
