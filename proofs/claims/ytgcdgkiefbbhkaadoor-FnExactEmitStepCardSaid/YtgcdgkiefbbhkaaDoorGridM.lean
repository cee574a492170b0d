/- The grid's checks and moves. -/
import Derived.Test.YtgcdgkiefbbhkaaDoorProg
import Derived.Test.YtgcdgkiefbbhkaaDoorRune
import Derived.Test.YtgcdgkiefbbhkaaDoorApp
import Derived.Test.YtgcdgkiefbbhkaaDoorWidth
import Derived.Test.YtgcdgkiefbbhkaaDoorGrid
import Derived.BigQuiet
set_option linter.unusedSimpArgs false
set_option linter.unusedVariables false
namespace Go.G6
open Go.RowKit
def gridShape (d : GridD) : Bool := decide ((2 ≤ d.W ∧ d.W ≤ 200 ∧ 1 ≤ d.H ∧ d.H ≤ 200) ∧ d.W * d.H ≤ 8000 ∧ (d.Cells.length : Int) = d.W * d.H)
def gridPos (d : GridD) : Bool := decide ((0 ≤ d.X ∧ d.X ≤ d.W - 1) ∧ (0 ≤ d.Y ∧ d.Y ≤ d.H - 1) ∧ (d.Wrap = true → d.X = d.W - 1))
def cellOk (W : Int) (xs : List Int) (k : Nat) : Bool :=
  if xs.getD k 0 = -1 then decide (0 < (k : Int) % W) && decide (width (xs.getD (k - 1) 0) = 2)
  else if width (xs.getD k 0) = 2 then decide ((k : Int) % W + 1 < W) && decide (xs.getD (k + 1) 0 = -1)
  else decide (width (xs.getD k 0) = 1)
def cellsOk (d : GridD) : Bool := (List.range d.Cells.length).all fun k => cellOk d.W d.Cells k
def gridOk (d : GridD) : Bool := gridShape d && gridPos d && cellsOk d
theorem cellsOk_of {d : GridD} (h : ∀ k, k < d.Cells.length → cellOk d.W d.Cells k = true) : cellsOk d = true := by
  simp [cellsOk]; exact h
theorem cellsOk_not {d : GridD} {k : Nat} (hk : k < d.Cells.length) (h : cellOk d.W d.Cells k = false) : cellsOk d = false := by
  cases hc : cellsOk d
  · rfl
  · simp [cellsOk] at hc; rw [hc k hk] at h; cases h
theorem emod_nat {k : Nat} {W : Int} (h : 0 < W) : 0 ≤ (k : Int) % W ∧ (k : Int) % W < W := ⟨Int.emod_nonneg _ (by omega), Int.emod_lt_of_pos _ h⟩
theorem emod_le {k : Nat} {W : Int} (h : 0 < W) : (k : Int) % W ≤ k := by
  have e := Int.mul_ediv_add_emod (k : Int) W
  have hq : 0 ≤ (k : Int) / W := Int.ediv_nonneg (by omega) (by omega)
  have := Int.mul_nonneg (show 0 ≤ W by omega) hq
  omega
theorem next_lt {k : Nat} {W H : Int} (hW : 0 < W) (hk : (k : Int) < W * H) (h : (k : Int) % W + 1 < W) : (k : Int) + 1 < W * H := by
  have e := Int.mul_ediv_add_emod (k : Int) W
  have hq : (k : Int) / W < H := Int.ediv_lt_of_lt_mul hW (by rw [Int.mul_comm]; exact hk)
  have hm : W * ((k : Int) / W + 1) ≤ W * H := Int.mul_le_mul_of_nonneg_left (by omega) (by omega)
  rw [Int.mul_add] at hm
  omega
theorem cellOk_eq (W : Int) (xs : List Int) (k : Nat) (hk : k < xs.length) : cellOk W xs k = if xs[k] = -1 then decide (0 < (k : Int) % W) && decide (width (xs.getD (k - 1) 0) = 2)
    else if width xs[k] = 2 then decide ((k : Int) % W + 1 < W) && decide (xs.getD (k + 1) 0 = -1)
    else decide (width xs[k] = 1) := by
  have hg : xs.getD k 0 = xs[k] := by simp [hk]
  unfold cellOk; rw [hg]
end Go.G6
namespace Go.Proofs.YtgcdgkiefbbhkaaDoor
open Go.RowKit Go.G6
set_option maxHeartbeats 1600000
set_option maxRecDepth 10000
theorem i_cellOk {w : World} {bs : List Nat} {cs : List Value} {d : GridD} (h : Rep.pt w bs cs d) (k : Nat) (hsh : gridShape d = true) (hk : k < d.Cells.length) :
    Calls Tryd.prog 56 #[.agg cs.toArray, .int .i64 k] w fun e w' => e = .returned (.bool (cellOk d.W d.Cells k)) ∧ Below w.heap.size w w' := by
  obtain ⟨a2, l2, k2, rfl, h0, h1, h2, h3, h4⟩ := open_Grid h
  obtain rfl := h2.len_eq
  obtain ⟨b, off, rfl, hbw, hck, _⟩ := h2.at k hk
  have hsz : ∀ o, Below w.heap.size w (w.alloc o) := fun o => (Below.refl _ _).alloc (Nat.le_refl _) _
  have hc1 : ∀ o, (w.alloc o).cell? ⟨b, off + k, none⟩ = some (.int .i64 d.Cells[k]) := fun o => by rw [(hsz o).cell (p := ⟨b, off + k, none⟩) hbw]; exact hck
  clear hck
  simp only [gridShape, decide_eq_true_eq] at hsh
  obtain ⟨⟨hW1, hW2, hH1, hH2⟩, hA, hL⟩ := hsh
  have HS := hid hsz
  have hm1 := (emod_nat (k := k) (W := d.W) (by omega))
  have hm2 := (emod_le (k := k) (W := d.W) (by omega))
  have hnx := fun h => next_lt (k := k) (W := d.W) (H := d.H) (by omega) (by omega) h
  have hW0 : (d.W == 0) = false := by simp; omega
  have hW0' : ¬ d.W = 0 := by omega
  have hg : d.Cells.getD k 0 = d.Cells[k] := by simp [hk]
  have hlt : (k : Int) < (d.Cells.length : Int) := by omega
  have hE : Hid (cellOk d.W d.Cells k = if d.Cells[k] = -1 then decide (0 < (k : Int) % d.W) && decide (width (d.Cells.getD (k - 1) 0) = 2)
    else if width d.Cells[k] = 2 then decide ((k : Int) % d.W + 1 < d.W) && decide (d.Cells.getD (k + 1) 0 = -1)
    else decide (width d.Cells[k] = 1)) := hid (by unfold cellOk; rw [hg])
  obtain ⟨r, hre⟩ : ∃ r, r = d.Cells[k] := ⟨_, rfl⟩
  rw [← hre] at hc1 hE
  have HL := hid hL
  clear hg hre h
  have H2 := hid h2
  have HC1 := hid hc1
  have Bel : ∀ o n, Below w.heap.size w ((w.alloc o).drewN n) := fun o n => (hsz o).drewN n
  have HBel := hid Bel; clear Bel
  by_cases hr : r = -1
  · have hr1 : (r == -1) = true := by simp [hr]
    by_cases hmp : 0 < (k : Int) % d.W
    · have hk1 : k - 1 < d.Cells.length := by omega
      obtain ⟨b', off', e', hbw', hck', hzz⟩ := h2.at (k - 1) hk1
      cases e'
      have hc2 : ∀ o, (w.alloc o).cell? ⟨b, off + (k - 1), none⟩ = some (.int .i64 d.Cells[k - 1]) := fun o => by rw [(hsz o).cell (p := ⟨b, off + (k - 1), none⟩) hbw]; exact hck'
      have hg : d.Cells.getD (k - 1) 0 = d.Cells[k - 1] := by simp [hk1]
      have E : Hid (cellOk d.W d.Cells k = decide (width d.Cells[k - 1] = 2)) := hid (by rw [hE.out, if_pos hr, hg]; simp [hmp])
      have ek : (k : Int) - 1 = ((k - 1 : Nat) : Int) := by omega
      obtain ⟨q, hq⟩ : ∃ q, q = k - 1 := ⟨_, rfl⟩
      have hw2 : wrap64 ((k : Int) - 1) = (q : Int) := by rw [IntWalk.wrap64_in _ (by omega), hq]; omega
      simp only [← hq] at hc2 E
      obtain ⟨v, hv⟩ : ∃ v, v = d.Cells[q]'(by omega) := ⟨_, rfl⟩
      rw [← hv] at hc2 E
      have hlt2 : (q : Int) < (d.Cells.length : Int) := by omega
      clear hv hzz hck' hg hnx hE ek hL hA hk1 hq hsz h2
      go_enter Tryd.func56, Tryd.ntmps56
      go_wp2
      go_quiet (fail)
      go_wp2_with (go_at_call 65; refine (i_Width _ _).mono ?_; rintro e w1 ⟨rfl, hb⟩; have HB := hid (below_call (HBel.out _ _) hb); clear hb)
      go_ret
      exact ⟨ret_bool (by rw [E.out]; by_cases hv2 : width v = 2 <;> simp [hv2]), HB.out⟩
    · have E : Hid (cellOk d.W d.Cells k = false) := hid (by rw [hE.out, if_pos hr]; simp [hmp])
      clear hnx hE hL hA hsz h2
      go_enter Tryd.func56, Tryd.ntmps56
      go_wp2
      go_quiet (fail)
      go_wp2
      go_ret
      exact ⟨ret_bool (by rw [E.out]), HBel.out _ _⟩
  · have hr1 : (r == -1) = false := by simp [hr]
    by_cases hwd : width r = 2
    · by_cases hmp : (k : Int) % d.W + 1 < d.W
      · have hk1 : k + 1 < d.Cells.length := by have := hnx hmp; omega
        obtain ⟨b', off', e', hbw', hck', hzz⟩ := h2.at (k + 1) hk1
        cases e'
        have hc2 : ∀ W, Below w.heap.size w W → W.cell? ⟨b, off + (k + 1), none⟩ = some (.int .i64 d.Cells[k + 1]) := fun W hW => by rw [hW.cell (p := ⟨b, off + (k + 1), none⟩) hbw]; exact hck'
        have hg : d.Cells.getD (k + 1) 0 = d.Cells[k + 1] := by simp [hk1]
        have E : Hid (cellOk d.W d.Cells k = decide (d.Cells[k + 1] = -1)) := hid (by rw [hE.out, if_neg hr, if_pos hwd, hg]; simp [hmp])
        obtain ⟨v, hv⟩ : ∃ v, v = d.Cells[k + 1] := ⟨_, rfl⟩
        rw [← hv] at hc2 E
        have hlt2 : (k : Int) + 1 < (d.Cells.length : Int) := by omega
        have HC2 := hid hc2
        have hmx : (k : Int) ≤ 8000 := by omega
        have hw2 : wrap64 ((k : Int) + 1) = (k : Int) + 1 := IntWalk.wrap64_in _ (by omega)
        have hw3 : ((k : Int) + 1).toNat = k + 1 := Int.toNat_natCast_add_one
        clear hv hzz hck' hg hnx hE hL hA hk1 hsz h2 hc2
        go_enter Tryd.func56, Tryd.ntmps56
        go_wp2
        go_quiet (fail)
        go_wp2_with fail
        refine (i_Width _ _).mono ?_
        rintro e w1 ⟨rfl, hb⟩
        obtain ⟨hcc, hff⟩ := bcell hb
        have hcA := fun o => hcc w.heap.size o (by simp)
        have HB := hid (below_call (HBel.out _ _) hb); clear hb
        have hcB := HC2.out _ HB.out
        clear hcc hff
        rw [hwd]
        go_wp2
        go_ret
        exact ⟨ret_bool (by rw [E.out]; by_cases hv2 : v = -1 <;> simp [hv2]), HB.out⟩
      · have E : Hid (cellOk d.W d.Cells k = false) := hid (by rw [hE.out, if_neg hr, if_pos hwd]; simp [hmp])
        clear hnx hE hL hA hsz h2
        go_enter Tryd.func56, Tryd.ntmps56
        go_wp2
        go_quiet (fail)
        go_wp2_with fail
        refine (i_Width _ _).mono ?_
        rintro e w1 ⟨rfl, hb⟩
        obtain ⟨hcc, hff⟩ := bcell hb
        have hcA := fun o => hcc w.heap.size o (by simp)
        have HB := hid (below_call (HBel.out _ _) hb); clear hb
        rw [hwd]
        go_wp2
        go_ret
        exact ⟨ret_bool (by rw [E.out]), HB.out⟩
    · have E : Hid (cellOk d.W d.Cells k = decide (width r = 1)) := hid (by rw [hE.out, if_neg hr, if_neg hwd])
      have hwd2 : (width r == 2) = false := by simp [hwd]
      have HR := hid hr1
      obtain ⟨u, hu⟩ : ∃ u, u = width r := ⟨_, rfl⟩
      rw [← hu] at hwd hwd2 E
      have Hu := hid hu; clear hu
      clear hnx hE hL hA hsz h2
      go_enter Tryd.func56, Tryd.ntmps56
      go_wp2
      go_quiet (fail)
      go_wp2_with fail
      refine (i_Width _ _).mono ?_
      rintro e w1 ⟨rfl, hb⟩
      have HB := hid (below_call (HBel.out _ _) hb); clear hb
      rw [← Hu.out]
      go_wp2_with fail
      refine (i_Width _ _).mono ?_
      rintro e w2 ⟨rfl, hb⟩
      have HB2 := hid (below_call HB.out hb); clear hb
      rw [← Hu.out]
      go_wp2
      go_ret
      exact ⟨ret_bool (by rw [E.out]; by_cases hv2 : u = 1 <;> simp [hv2]), HB2.out⟩
theorem i_GridOk {w : World} {bs : List Nat} {cs : List Value} {d : GridD} (h : Rep.pt w bs cs d) :
    Calls Tryd.prog 40 #[.agg cs.toArray] w fun e w' => e = .returned (.bool (gridOk d)) ∧ Below w.heap.size w w' := by
  have H := hid h
  obtain ⟨a2, l2, k2, rfl, h0, h1, h2, h3, h4⟩ := open_Grid h
  obtain rfl := h2.len_eq
  have hm := h2.max
  have Bel : ∀ o, Below w.heap.size w (w.alloc o) := fun o => (Below.refl _ _).alloc (Nat.le_refl _) _
  have HBel := hid Bel; clear Bel
  clear h
  have fin : gridOk d = false → ∀ w', Below w.heap.size w w' → Ending.returned (.bool false) = Ending.returned (.bool (gridOk d)) ∧ Below w.heap.size w w' := fun hf w' h => ⟨by rw [hf], h⟩
  cases q1 : inB d.W 2 200
  · have hf := hid (fin (by simp [inB] at q1; simp [gridOk, gridShape]; omega))
    have Q1 := hid q1
    clear fin q1 h2
    go_enter Tryd.func40, Tryd.ntmps40
    go_wp2_with (go_at_call 33; refine (i_in _ _ _ _).mono ?_; rintro e w' ⟨rfl, rfl⟩; rw [Q1.out])
    go_ret
    exact hf.out _ (HBel.out _)
  cases q2 : inB d.H 1 200
  · have hf := hid (fin (by simp [inB] at q2; simp [gridOk, gridShape]; omega))
    have Q1 := hid q1; have Q2 := hid q2
    clear fin q1 q2 h2
    go_enter Tryd.func40, Tryd.ntmps40
    go_wp2_with (go_at_call 33; refine (i_in _ _ _ _).mono ?_; rintro e w' ⟨rfl, rfl⟩; first | rw [Q1.out] | rw [Q2.out])
    go_ret
    exact hf.out _ (HBel.out _)
  have q1' := q1; have q2' := q2
  simp only [inB, decide_eq_true_eq] at q1' q2'
  have hw := wrap_area d.W d.H (by omega) (by omega) (by omega) (by omega)
  have Q1 := hid q1; have Q2 := hid q2
  have Q1' := hid q1'; have Q2' := hid q2'
  clear q1 q2
  by_cases q3 : 8000 < d.W * d.H
  · have hf := hid (fin (by simp [gridOk, gridShape]; omega))
    clear fin h2
    go_enter Tryd.func40, Tryd.ntmps40
    go_wp2_with (go_at_call 33; refine (i_in _ _ _ _).mono ?_; rintro e w' ⟨rfl, rfl⟩; first | rw [Q1.out] | rw [Q2.out])
    go_ret
    exact hf.out _ (HBel.out _)
  by_cases q4 : (d.Cells.length : Int) = d.W * d.H
  rotate_left
  · have hf := hid (fin (by simp [gridOk, gridShape]; omega))
    have q5 : ((d.Cells.length : Int) != d.W * d.H) = true := by rw [bne_iff_ne]; exact q4
    clear fin h2
    go_enter Tryd.func40, Tryd.ntmps40
    go_wp2_with (go_at_call 33; refine (i_in _ _ _ _).mono ?_; rintro e w' ⟨rfl, rfl⟩; first | rw [Q1.out] | rw [Q2.out])
    go_ret
    exact hf.out _ (HBel.out _)
  have q5 : ((d.Cells.length : Int) != d.W * d.H) = false := by rw [bne_eq_false_iff_eq]; exact q4
  have hsh : gridShape d = true := by simp [gridShape]; omega
  have q3' : decide (8000 < d.W * d.H) = false := by simp; omega
  clear q4
  have hw6 : wrap64 (d.W - 1) = d.W - 1 := IntWalk.wrap64_in _ (by omega)
  have hw7 : wrap64 (d.H - 1) = d.H - 1 := IntWalk.wrap64_in _ (by omega)
  have HSH := hid hsh; clear hsh
  cases q6 : inB d.X 0 (d.W - 1)
  · have hf := hid (fin (by simp [inB] at q6; simp [gridOk, gridPos]; omega))
    have Q6 := hid q6
    clear fin q6 h2
    go_enter Tryd.func40, Tryd.ntmps40
    go_wp2_with (go_at_call 33; refine (i_in _ _ _ _).mono ?_; rintro e w' ⟨rfl, rfl⟩; first | rw [Q1.out] | rw [Q2.out] | rw [Q6.out])
    go_ret
    exact hf.out _ (HBel.out _)
  cases q7 : inB d.Y 0 (d.H - 1)
  · have hf := hid (fin (by simp [inB] at q7; simp [gridOk, gridPos]; omega))
    have Q6 := hid q6; have Q7 := hid q7
    clear fin q6 q7 h2
    go_enter Tryd.func40, Tryd.ntmps40
    go_wp2_with (go_at_call 33; refine (i_in _ _ _ _).mono ?_; rintro e w' ⟨rfl, rfl⟩; first | rw [Q1.out] | rw [Q2.out] | rw [Q6.out] | rw [Q7.out])
    go_ret
    exact hf.out _ (HBel.out _)
  have Q6 := hid q6; have Q7 := hid q7
  clear q6 q7
  by_cases q8 : d.Wrap = true ∧ ¬ d.X = d.W - 1
  · obtain ⟨q8, q9⟩ := q8
    have hf := hid (fin (by simp [gridOk, gridPos, q8, q9]))
    have q10 : (d.X != d.W - 1) = true := by rw [bne_iff_ne]; exact q9
    clear fin h2
    go_enter Tryd.func40, Tryd.ntmps40
    go_wp2_with (go_at_call 33; refine (i_in _ _ _ _).mono ?_; rintro e w' ⟨rfl, rfl⟩; first | rw [Q1.out] | rw [Q2.out] | rw [Q6.out] | rw [Q7.out])
    go_ret
    exact hf.out _ (HBel.out _)
  have hpos : gridPos d = true := by
    have q6 := Q6.out; have q7 := Q7.out
    simp only [inB, decide_eq_true_eq] at q6 q7
    simp only [gridPos, decide_eq_true_eq]
    exact ⟨q6, q7, fun h => Classical.byContradiction fun hn => q8 ⟨h, hn⟩⟩
  have q9 : d.Wrap = false ∨ (d.Wrap = true ∧ (d.X != d.W - 1) = false) := by
    cases hw : d.Wrap
    · exact .inl rfl
    · refine .inr ⟨rfl, ?_⟩; rw [bne_eq_false_iff_eq]; exact Classical.byContradiction fun hn => q8 ⟨hw, hn⟩
  have HE : Hid (gridOk d = cellsOk d) := hid (by simp [gridOk, HSH.out, hpos])
  clear q8 hpos fin
  have H2 := hid h2; clear h2
  have hsz : w.heap.size < (w.alloc (.cells #[.int .i64 d.W, .int .i64 d.H, .slice a2 d.Cells.length k2, .int .i64 d.X, .int .i64 d.Y, .bool d.Wrap] 43)).heap.size := by simp
  have HSZ := hid hsz; clear hsz
  have go : ∀ (fin2 : True), Calls Tryd.prog 40 #[.agg #[.int .i64 d.W, .int .i64 d.H, .slice a2 d.Cells.length k2, .int .i64 d.X, .int .i64 d.Y, .bool d.Wrap]] w fun e w' => e = .returned (.bool (gridOk d)) ∧ Below w.heap.size w w' := by
    intro _
    rcases q9 with q9 | ⟨q9, q10⟩
    all_goals
      go_enter Tryd.func40, Tryd.ntmps40
      go_wp2_with (go_at_call 33; refine (i_in _ _ _ _).mono ?_; rintro e w' ⟨rfl, rfl⟩; first | rw [Q1.out] | rw [Q2.out] | rw [Q6.out] | rw [Q7.out])
      go_loopw [64] (fun i wr => ∃ k : Nat, k ≤ d.Cells.length ∧ i = .int .i64 k ∧ (∀ j, j < k → cellOk d.W d.Cells j = true) ∧ (∀ o, wr.cell? ⟨w.heap.size, o, none⟩ = #[.int .i64 d.W, .int .i64 d.H, .slice a2 d.Cells.length k2, .int .i64 d.X, .int .i64 d.Y, .bool d.Wrap][o]?) ∧ w.heap.size < wr.heap.size ∧ Below w.heap.size w wr) (fun i _ => d.Cells.length - (intOf i).toNat)
      case atStart => exact ⟨0, Nat.zero_le _, rfl, fun j hj => absurd hj (by omega), fun o => (World.cell?_alloc_new w _ _ o).trans (by first | rfl | rw [q9]), by simp, HBel.out _⟩
      case round =>
        obtain ⟨k, hk, rfl, hall, hc, hs, hb⟩ := hrel
        have HB := hid hb; have HA := hid hall; have HS := hid hs; have HC := hid hc
        clear hb hall q3 q3' q5 hw hw6 hw7 q9 q1' q2'
        try clear q10
        by_cases hlt : k < d.Cells.length
        · have hlt' : (k : Int) < (d.Cells.length : Int) := by omega
          go_wp2_with fail
          refine (i_cellOk (grow H.out HB.out) k HSH.out hlt).mono ?_
          rintro e w1 ⟨rfl, hb⟩
          have hb1 := Below.trans HB.out (hb.mono (by have := HS.out; omega))
          have hs1 := hb.size
          have hcc := fun o => hb.cell (p := ⟨w.heap.size, o, none⟩) HS.out
          have HB1 := hid hb1
          have HCC := hid hcc
          clear hb hb1 hcc
          cases ho : cellOk d.W d.Cells k
          · have hf : Hid (gridOk d = false) := hid (by rw [HE.out]; exact cellsOk_not hlt ho)
            clear ho
            go_wp2
            go_ret
            exact ⟨ret_bool (by rw [hf.out]), HB1.out⟩
          · have HO := hid ho
            clear ho
            go_wp2
            refine ⟨⟨k + 1, by omega, rfl, ?_, fun o => (HCC.out o).trans (HC.out o), by have := HS.out; omega, HB1.out⟩, by simp [intOf]; omega⟩
            intro j hj
            by_cases hjk : j < k
            · exact HA.out j hjk
            · obtain rfl : j = k := by omega
              exact HO.out
        · have hf : Hid (gridOk d = true) := hid (by rw [HE.out]; exact cellsOk_of fun j hj => HA.out j (by omega))
          go_wp2
          go_ret
          exact ⟨ret_bool (by rw [hf.out]), HB.out⟩
  exact go trivial
end Go.Proofs.YtgcdgkiefbbhkaaDoor
