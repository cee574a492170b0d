/- The second GridOk. -/
import Derived.Test.YtgcdgkiefbbhkaaDoorGridM
set_option linter.unusedSimpArgs false
set_option linter.unusedVariables false
namespace Go.Proofs.YtgcdgkiefbbhkaaDoor
open Go.RowKit Go.G6
set_option maxHeartbeats 1600000
set_option maxRecDepth 10000
theorem s_GridOk {w : World} {bs : List Nat} {cs : List Value} {d : GridD} (h : Rep.pt w bs cs d) :
    Calls Tryd.prog 37 #[.agg cs.toArray] w fun e w' => e = .returned (.bool (gridOk d)) ∧ Below w.heap.size w w' := by
  obtain ⟨a2, l2, k2, rfl, h0, h1, h2, h3, h4⟩ := open_Grid h
  obtain rfl := h2.len_eq
  have hm := h2.max
  have Bel : ∀ o, Below w.heap.size w (w.alloc o) := fun o => (Below.refl _ _).alloc (Nat.le_refl _) _
  have HBel := hid Bel; clear Bel
  clear h
  have fin : gridOk d = false → ∀ w', Below w.heap.size w w' → Ending.returned (.bool false) = Ending.returned (.bool (gridOk d)) ∧ Below w.heap.size w w' := fun hf w' h => ⟨by rw [hf], h⟩
  by_cases q1 : d.W < 2
  · have hf := hid (fin (by simp [gridOk, gridShape]; omega))
    clear fin h2
    go_enter Tryd.func37, Tryd.ntmps37
    go_wp2_with fail
    go_ret
    exact hf.out _ (HBel.out _)
  by_cases q2 : 200 < d.W
  · have hf := hid (fin (by simp [gridOk, gridShape]; omega))
    clear fin h2
    go_enter Tryd.func37, Tryd.ntmps37
    go_wp2_with fail
    go_ret
    exact hf.out _ (HBel.out _)
  by_cases q1' : d.H < 1
  · have hf := hid (fin (by simp [gridOk, gridShape]; omega))
    clear fin h2
    go_enter Tryd.func37, Tryd.ntmps37
    go_wp2_with fail
    go_ret
    exact hf.out _ (HBel.out _)
  by_cases q2' : 200 < d.H
  · have hf := hid (fin (by simp [gridOk, gridShape]; omega))
    clear fin h2
    go_enter Tryd.func37, Tryd.ntmps37
    go_wp2_with fail
    go_ret
    exact hf.out _ (HBel.out _)
  have hw := wrap_area d.W d.H (by omega) (by omega) (by omega) (by omega)
  by_cases q3 : 8000 < d.W * d.H
  · have hf := hid (fin (by simp [gridOk, gridShape]; omega))
    clear fin h2
    go_enter Tryd.func37, Tryd.ntmps37
    go_wp2_with fail
    go_ret
    exact hf.out _ (HBel.out _)
  by_cases q4 : (d.Cells.length : Int) = d.W * d.H
  rotate_left
  · have hf := hid (fin (by simp [gridOk, gridShape]; omega))
    have q5 : ((d.Cells.length : Int) != d.W * d.H) = true := by rw [bne_iff_ne]; exact q4
    clear fin h2
    go_enter Tryd.func37, Tryd.ntmps37
    go_wp2_with fail
    go_ret
    exact hf.out _ (HBel.out _)
  have q5 : ((d.Cells.length : Int) != d.W * d.H) = false := by rw [bne_eq_false_iff_eq]; exact q4
  have hsh : gridShape d = true := by simp [gridShape]; omega
  have hA : d.W * d.H ≤ 8000 := by omega
  have HW := hid (show (2 ≤ d.W ∧ d.W ≤ 200) ∧ (1 ≤ d.H ∧ d.H ≤ 200) ∧ d.W * d.H ≤ 8000 ∧ (d.Cells.length : Int) = d.W * d.H from ⟨⟨by omega, by omega⟩, ⟨by omega, by omega⟩, hA, q4⟩)
  have HSH := hid hsh
  have HF := hid fin
  have H2 := hid h2
  clear hsh hA q4 fin h2
  have q3' : decide (8000 < d.W * d.H) = false := by simp; omega
  go_enter Tryd.func37, Tryd.ntmps37
  go_wp2_with fail
  go_loopw [47] (fun i wr => ∃ k : Nat, k ≤ d.Cells.length ∧ i = .int .i64 k ∧ (∀ j, j < k → cellOk d.W d.Cells j = true) ∧ (∀ o, wr.cell? ⟨w.heap.size, o, none⟩ = #[.int .i64 d.W, .int .i64 d.H, .slice a2 d.Cells.length k2, .int .i64 d.X, .int .i64 d.Y, .bool d.Wrap][o]?) ∧ w.heap.size < wr.heap.size ∧ Below w.heap.size w wr) (fun i _ => d.Cells.length - (intOf i).toNat)
  case atStart => exact ⟨0, Nat.zero_le _, rfl, fun j hj => absurd hj (by omega), fun o => World.cell?_alloc_new w _ _ o, by simp, HBel.out _⟩
  case round =>
    obtain ⟨k, hk, rfl, hall, hc, hs, hb⟩ := hrel
    have HB := hid hb; have HA := hid hall; have HS := hid hs; have HC := hid hc
    clear hb hall q3 q3' q5 hw q1 q2 q1' q2'
    by_cases hlt : k < d.Cells.length
    · have hlt' : (k : Int) < (d.Cells.length : Int) := by omega
      obtain ⟨b, off, rfl, hbw, hck, hzz⟩ := H2.out.at k hlt
      have HCK : ∀ W, Below w.heap.size w W → W.cell? ⟨b, off + k, none⟩ = some (.int .i64 d.Cells[k]) := fun W hW => by rw [hW.cell (p := ⟨b, off + k, none⟩) hbw]; exact hck
      have hc1 := HCK _ HB.out
      have hce := cellOk_eq d.W d.Cells k hlt
      have hng := HF.out
      have hnot := fun (h : cellOk d.W d.Cells k = false) => hng (by simp only [gridOk, cellsOk_not hlt h, Bool.and_false])
      have HNot := hid hnot
      have hnext : ∀ w', cellOk d.W d.Cells k = true → (∀ o, w'.cell? ⟨w.heap.size, o, none⟩ = #[.int .i64 d.W, .int .i64 d.H, .slice (some ⟨b, off, none⟩) d.Cells.length k2, .int .i64 d.X, .int .i64 d.Y, .bool d.Wrap][o]?) → w.heap.size < w'.heap.size → Below w.heap.size w w' → ∃ k_1 : Nat, k_1 ≤ d.Cells.length ∧ Value.int .i64 ((k : Int) + 1) = .int .i64 k_1 ∧ (∀ j, j < k_1 → cellOk d.W d.Cells j = true) ∧ (∀ o, w'.cell? ⟨w.heap.size, o, none⟩ = #[.int .i64 d.W, .int .i64 d.H, .slice (some ⟨b, off, none⟩) d.Cells.length k2, .int .i64 d.X, .int .i64 d.Y, .bool d.Wrap][o]?) ∧ w.heap.size < w'.heap.size ∧ Below w.heap.size w w' := by
        intro w' ho h1 h2 h3
        refine ⟨k + 1, by omega, rfl, ?_, h1, h2, h3⟩
        intro j hj
        by_cases hjk : j < k
        · exact HA.out j hjk
        · obtain rfl : j = k := by omega
          exact ho
      have HNext := hid hnext
      clear hng hnot hnext hzz hck
      have hq := HW.out
      have hm1 := emod_nat (k := k) (W := d.W) (by omega)
      have hm2 := emod_le (k := k) (W := d.W) (by omega)
      have hnx : (k : Int) % d.W + 1 < d.W → (k : Int) + 1 < d.W * d.H := fun h => next_lt (k := k) (W := d.W) (H := d.H) (by omega) (by omega) h
      have hW0 : (d.W == 0) = false := by simp; omega
      have hW0' : ¬ d.W = 0 := by omega
      have hw6 : wrap64 (d.W - 1) = d.W - 1 := IntWalk.wrap64_in _ (by omega)
      obtain ⟨r, hre⟩ : ∃ r, r = d.Cells[k] := ⟨_, rfl⟩
      rw [← hre] at hc1 hce
      clear hre
      by_cases hr : r = -1
      · have hr1 : (r == -1) = true := by simp [hr]
        by_cases hz : (k : Int) % d.W = 0
        · have hz1 : ((k : Int) % d.W == 0) = true := by simp [hz]
          have E := hid (HNot.out (by rw [hce, if_pos hr]; simp [hz]))
          clear hce hnx hq
          go_wp2_with fail
          go_quiet (fail)
          go_wp2
          go_ret
          exact E.out _ (HB.out.drewN _)
        have hz1 : ((k : Int) % d.W == 0) = false := by simp [hz]
        have hk1 : k - 1 < d.Cells.length := by omega
        obtain ⟨b', off', e', hbw', hck', hzz⟩ := H2.out.at (k - 1) hk1
        cases e'
        have hg : d.Cells.getD (k - 1) 0 = d.Cells[k - 1] := by simp [hk1]
        have hc2 : wr.cell? ⟨b, off + (k - 1), none⟩ = some (.int .i64 d.Cells[k - 1]) := by rw [HB.out.cell (p := ⟨b, off + (k - 1), none⟩) hbw]; exact hck'
        have E : Hid (cellOk d.W d.Cells k = decide (width d.Cells[k - 1] = 2)) := hid (by rw [hce, if_pos hr, hg]; simp; omega)
        obtain ⟨q, hq'⟩ : ∃ q, q = k - 1 := ⟨_, rfl⟩
        have hw2 : wrap64 ((k : Int) - 1) = (q : Int) := by rw [IntWalk.wrap64_in _ (by omega), hq']; omega
        simp only [← hq'] at hc2 E
        obtain ⟨v, hv⟩ : ∃ v, v = d.Cells[q]'(by omega) := ⟨_, rfl⟩
        rw [← hv] at hc2 E
        have hc2k : wr.cell? ⟨b, off + (k - 1), none⟩ = some (.int .i64 v) := by rw [← hq']; exact hc2
        have hlt2 : (q : Int) < (d.Cells.length : Int) := by omega
        clear hv hzz hck' hg hnx hce hk1 hq hq'
        go_wp2_with fail
        go_quiet (fail)
        go_wp2_with fail
        refine (s_Width _ _).mono ?_
        rintro e w1 ⟨rfl, hb⟩
        have hcc := fun o => hb.cell (p := ⟨w.heap.size, o, none⟩) HS.out
        have hs1 := hb.size
        have HB1 := hid (Below.trans (HB.out.drewN _) (hb.mono (by have := HS.out; show w.heap.size ≤ wr.heap.size; omega)))
        have HC1 := hid (fun o => (hcc o).trans (HC.out o))
        have HS1 := hid (show w.heap.size < w1.heap.size from Nat.lt_of_lt_of_le HS.out hs1)
        have hcD := HC1.out
        clear hb hcc hs1
        by_cases hv2 : width v = 2
        · have hv3 : (width v != 2) = false := by simp [hv2]
          go_wp2
          exact ⟨HNext.out _ (by rw [E.out]; simp [hv2]) HC1.out HS1.out HB1.out, by simp [intOf]; omega⟩
        · have hv3 : (width v != 2) = true := by simp [hv2]
          go_wp2
          go_ret
          exact HNot.out (by rw [E.out]; simp [hv2]) _ HB1.out
      have hr1 : (r == -1) = false := by simp [hr]
      rw [if_neg hr] at hce
      rcases width_cases r with hu | hu | hu
      · have E := hid (HNot.out (by rw [hce, hu]; simp))
        clear hce hnx hq
        go_wp2_with fail
        go_quiet (fail)
        go_wp2_with fail

        refine (s_Width _ _).mono ?_
        rintro e w1 ⟨rfl, hb⟩
        have hcc := fun o => hb.cell (p := ⟨w.heap.size, o, none⟩) HS.out
        have hs1 := hb.size
        have HB1 := hid (Below.trans (HB.out.drewN _) (hb.mono (by have := HS.out; show w.heap.size ≤ wr.heap.size; omega)))
        have HC1 := hid (fun o => (hcc o).trans (HC.out o))
        have HS1 := hid (show w.heap.size < w1.heap.size from Nat.lt_of_lt_of_le HS.out hs1)
        have hcD := HC1.out
        clear hb hcc hs1
        rw [hu]
        go_wp2
        go_ret
        exact E.out _ HB1.out
      · have E := hid (show cellOk d.W d.Cells k = true by rw [hce, hu]; simp)
        clear hce hnx hq
        go_wp2_with fail
        go_quiet (fail)
        go_wp2_with fail

        refine (s_Width _ _).mono ?_
        rintro e w1 ⟨rfl, hb⟩
        have hcc := fun o => hb.cell (p := ⟨w.heap.size, o, none⟩) HS.out
        have hs1 := hb.size
        have HB1 := hid (Below.trans (HB.out.drewN _) (hb.mono (by have := HS.out; show w.heap.size ≤ wr.heap.size; omega)))
        have HC1 := hid (fun o => (hcc o).trans (HC.out o))
        have HS1 := hid (show w.heap.size < w1.heap.size from Nat.lt_of_lt_of_le HS.out hs1)
        have hcD := HC1.out
        clear hb hcc hs1
        rw [hu]
        go_wp2
        exact ⟨HNext.out _ E.out HC1.out HS1.out HB1.out, by simp [intOf]; omega⟩
      by_cases hl : (k : Int) % d.W = d.W - 1
      · have hl1 : ((k : Int) % d.W == d.W - 1) = true := by simp [hl]
        have E := hid (HNot.out (by rw [hce, hu]; simp; omega))
        clear hce hnx hq
        go_wp2_with fail
        go_quiet (fail)
        go_wp2_with fail

        refine (s_Width _ _).mono ?_
        rintro e w1 ⟨rfl, hb⟩
        have hcc := fun o => hb.cell (p := ⟨w.heap.size, o, none⟩) HS.out
        have hs1 := hb.size
        have HB1 := hid (Below.trans (HB.out.drewN _) (hb.mono (by have := HS.out; show w.heap.size ≤ wr.heap.size; omega)))
        have HC1 := hid (fun o => (hcc o).trans (HC.out o))
        have HS1 := hid (show w.heap.size < w1.heap.size from Nat.lt_of_lt_of_le HS.out hs1)
        have hcD := HC1.out
        clear hb hcc hs1
        rw [hu]
        go_wp2
        go_ret
        exact E.out _ HB1.out
      · have hl1 : ((k : Int) % d.W == d.W - 1) = false := by simp [hl]
        have hk1 : k + 1 < d.Cells.length := by have := hnx (by omega); omega
        obtain ⟨b', off', e', hbw', hck', hzz⟩ := H2.out.at (k + 1) hk1
        cases e'
        have hg : d.Cells.getD (k + 1) 0 = d.Cells[k + 1] := by simp [hk1]
        have HC2 := hid (show ∀ W, Below w.heap.size w W → W.cell? ⟨b, off + (k + 1), none⟩ = some (.int .i64 d.Cells[k + 1]) from fun W hW => by rw [hW.cell (p := ⟨b, off + (k + 1), none⟩) hbw]; exact hck')
        have E : Hid (cellOk d.W d.Cells k = decide (d.Cells[k + 1] = -1)) := hid (by rw [hce, hu, hg]; simp; omega)
        obtain ⟨v, hv⟩ : ∃ v, v = d.Cells[k + 1] := ⟨_, rfl⟩
        rw [← hv] at HC2 E
        have hlt2 : (k : Int) + 1 < (d.Cells.length : Int) := by omega
        have hmx : (k : Int) ≤ 8000 := by omega
        have hw2 : wrap64 ((k : Int) + 1) = (k : Int) + 1 := IntWalk.wrap64_in _ (by omega)
        have hw3 : ((k : Int) + 1).toNat = k + 1 := Int.toNat_natCast_add_one
        clear hv hzz hck' hg hnx hce hk1 hq
        go_wp2_with fail
        go_quiet (fail)
        go_wp2_with fail

        refine (s_Width _ _).mono ?_
        rintro e w1 ⟨rfl, hb⟩
        have hcc := fun o => hb.cell (p := ⟨w.heap.size, o, none⟩) HS.out
        have hs1 := hb.size
        have HB1 := hid (Below.trans (HB.out.drewN _) (hb.mono (by have := HS.out; show w.heap.size ≤ wr.heap.size; omega)))
        have HC1 := hid (fun o => (hcc o).trans (HC.out o))
        have HS1 := hid (show w.heap.size < w1.heap.size from Nat.lt_of_lt_of_le HS.out hs1)
        have hcD := HC1.out
        clear hb hcc hs1
        rw [hu]
        have hcB := HC2.out _ HB1.out
        by_cases hv2 : v = -1
        · have hv3 : (v != -1) = false := by simp [hv2]
          go_wp2
          exact ⟨HNext.out _ (by rw [E.out]; simp [hv2]) HC1.out HS1.out HB1.out, by simp [intOf]; omega⟩
        · have hv3 : (v != -1) = true := by simp [hv2]
          go_wp2
          go_ret
          exact HNot.out (by rw [E.out]; simp [hv2]) _ HB1.out
    · have hc := HC.out
      have hw := HW.out
      have HE : Hid (gridOk d = gridPos d) := hid (by simp only [gridOk, HSH.out, cellsOk_of fun j hj => HA.out j (by omega), Bool.true_and, Bool.and_true])
      go_wp2
      all_goals
        go_ret
        refine ⟨ret_bool (by rw [HE.out]; simp [gridPos]; first | omega | (simp_all; done) | (simp_all; omega) | (simp_all; rw [Bool.eq_iff_iff]; simp; omega)), HB.out⟩
end Go.Proofs.YtgcdgkiefbbhkaaDoor
