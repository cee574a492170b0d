/- One cell. -/
import Derived.Test.YtmcfkmlbifhhjaaGridS
set_option linter.unusedSimpArgs false
set_option linter.unusedVariables false
namespace Go.G6
open Go.RowKit
def gridIn (d : GridD) (x y : Int) : Bool := decide (0 ≤ x ∧ x ≤ d.W - 1) && decide (0 ≤ y ∧ y ≤ d.H - 1)
def gridAt (d : GridD) (x y : Int) : Int := if gridOk d && gridIn d x y then d.Cells.getD (y * d.W + x).toNat 0 else 0
theorem gridOk_shape {d : GridD} (h : gridOk d = true) : (2 ≤ d.W ∧ d.W ≤ 200) ∧ (1 ≤ d.H ∧ d.H ≤ 200) ∧ d.W * d.H ≤ 8000 ∧ (d.Cells.length : Int) = d.W * d.H := by
  simp only [gridOk, gridShape, Bool.and_eq_true, decide_eq_true_eq] at h; omega
theorem gridOk_pos {d : GridD} (h : gridOk d = true) : (0 ≤ d.X ∧ d.X ≤ d.W - 1) ∧ (0 ≤ d.Y ∧ d.Y ≤ d.H - 1) ∧ (d.Wrap = true → d.X = d.W - 1) := by
  simp only [gridOk, gridPos, Bool.and_eq_true, decide_eq_true_eq] at h; exact h.1.2
theorem cell_in {x y W H : Int} (hW : 0 < W) (h1 : 0 ≤ x) (h2 : x ≤ W - 1) (h3 : 0 ≤ y) (h4 : y ≤ H - 1) : 0 ≤ y * W ∧ y * W + x < W * H := by
  have a := Int.mul_nonneg h3 (show 0 ≤ W by omega)
  have b : (y + 1) * W ≤ H * W := Int.mul_le_mul_of_nonneg_right (by omega) (by omega)
  rw [Int.add_mul, Int.mul_comm H W] at b
  omega
end Go.G6
namespace Go.Proofs.Ytmcfkmlbifhhjaa
open Go.RowKit Go.G6
set_option maxHeartbeats 1600000
set_option maxRecDepth 10000
theorem i_GridAt {w : World} {bs : List Nat} {cs : List Value} {d : GridD} (h : Rep.pt w bs cs d) (x : Int) (hx : I64 x) (y : Int) (hy : I64 y) :
    Calls Try.prog 59 #[.agg cs.toArray, .int .i64 x, .int .i64 y] w fun e w' => e = .returned (.int .i64 (gridAt d x y)) ∧ Below w.heap.size w w' := by
  have H := hid h
  obtain ⟨a2, l2, k2, rfl, h0, h1, h2, h3, h4⟩ := open_Grid h
  obtain rfl := h2.len_eq
  have hm := h2.max
  have Bel : ∀ o, Below w.heap.size w (w.alloc o) := fun o => (Below.refl _ _).alloc (Nat.le_refl _) _
  have HBel := hid Bel; clear Bel
  have H2 := hid h2
  clear h h2
  cases hg : gridOk d
  · have E : Hid (gridAt d x y = 0) := hid (by simp [gridAt, hg])
    have HG := hid hg; clear hg
    have HCK : Hid (∀ W, Below w.heap.size w W → True) := hid (fun _ _ => trivial)
    go_enter Try.func59, Try.ntmps59
    go_wp2_with (first | (go_at_call 56; refine (i_GridOk (grow H.out (HBel.out _))).mono ?_; rintro e w1 ⟨rfl, hb⟩; have hcA := fun o => hb.cell (p := ⟨w.heap.size, o, none⟩) (by simp); have HB := hid (below_call (HBel.out _) hb); have hcB := HCK.out _ HB.out; clear hb; rw [HG.out]))
    go_ret
    exact ⟨ret_int (by rw [E.out]), HB.out⟩
  have HG := hid hg
  have hs := gridOk_shape hg
  have hw6 : wrap64 (d.W - 1) = d.W - 1 := IntWalk.wrap64_in _ (by omega)
  have hw7 : wrap64 (d.H - 1) = d.H - 1 := IntWalk.wrap64_in _ (by omega)
  have HSH := hid hs
  clear hs
  cases qx : inB x 0 (d.W - 1)
  · have E : Hid (gridAt d x y = 0) := hid (by simp [inB] at qx; simp [gridAt, gridIn]; omega)
    have X1 := hid qx; clear qx hg
    have HCK : Hid (∀ W, Below w.heap.size w W → True) := hid (fun _ _ => trivial)
    go_enter Try.func59, Try.ntmps59
    go_wp2_with (first | (go_at_call 56; refine (i_GridOk (grow H.out (HBel.out _))).mono ?_; rintro e w1 ⟨rfl, hb⟩; have hcA := fun o => hb.cell (p := ⟨w.heap.size, o, none⟩) (by simp); have HB := hid (below_call (HBel.out _) hb); have hcB := HCK.out _ HB.out; clear hb; rw [HG.out]) | (go_at_call 81; refine (i_in _ _ _ _).mono ?_; rintro e w' ⟨rfl, rfl⟩; rw [X1.out]))
    go_ret
    exact ⟨ret_int (by rw [E.out]), HB.out⟩
  have X1 := hid qx
  have Qx : 0 ≤ x ∧ x ≤ d.W - 1 := by simpa [inB] using qx
  clear qx
  cases qy : inB y 0 (d.H - 1)
  · have E : Hid (gridAt d x y = 0) := hid (by simp [inB] at qy; simp [gridAt, gridIn]; omega)
    have X2 := hid qy; clear qy hg
    have HCK : Hid (∀ W, Below w.heap.size w W → True) := hid (fun _ _ => trivial)
    go_enter Try.func59, Try.ntmps59
    go_wp2_with (first | (go_at_call 56; refine (i_GridOk (grow H.out (HBel.out _))).mono ?_; rintro e w1 ⟨rfl, hb⟩; have hcA := fun o => hb.cell (p := ⟨w.heap.size, o, none⟩) (by simp); have HB := hid (below_call (HBel.out _) hb); have hcB := HCK.out _ HB.out; clear hb; rw [HG.out]) | (go_at_call 81; refine (i_in _ _ _ _).mono ?_; rintro e w' ⟨rfl, rfl⟩; first | rw [X1.out] | rw [X2.out]))
    go_ret
    exact ⟨ret_int (by rw [E.out]), HB.out⟩
  have X2 := hid qy
  have Qy : 0 ≤ y ∧ y ≤ d.H - 1 := by simpa [inB] using qy
  clear qy
  have hs := HSH.out
  have hci := cell_in (x := x) (y := y) (W := d.W) (H := d.H) (by omega) Qx.1 Qx.2 Qy.1 Qy.2
  obtain ⟨k, hk⟩ : ∃ k : Nat, y * d.W + x = (k : Int) := ⟨(y * d.W + x).toNat, by omega⟩
  have hlt : k < d.Cells.length := by omega
  obtain ⟨b, off, rfl, hbw, hck, hzz⟩ := H2.out.at k hlt
  have HCK : Hid (∀ W, Below w.heap.size w W → W.cell? ⟨b, off + k, none⟩ = some (.int .i64 d.Cells[k])) := hid fun W hW => by rw [hW.cell (p := ⟨b, off + k, none⟩) hbw]; exact hck
  have E : Hid (gridAt d x y = d.Cells[k]) := hid (by
    have hi : gridIn d x y = true := by simp [gridIn]; omega
    simp only [gridAt, hg, hi, Bool.and_self, if_true]
    rw [hk, Int.toNat_natCast]; simp [hlt])
  have hw1 : wrap64 (y * d.W) = y * d.W := IntWalk.wrap64_in _ (by omega)
  have hw2 : wrap64 (y * d.W + x) = (k : Int) := by rw [hk]; exact IntWalk.wrap64_in _ (by omega)
  have hlt' : (k : Int) < (d.Cells.length : Int) := by omega
  obtain ⟨v, hv⟩ : ∃ v, v = d.Cells[k] := ⟨_, rfl⟩
  rw [← hv] at HCK E
  clear hv hzz hck hs hg hk hci HSH
  go_enter Try.func59, Try.ntmps59
  go_wp2_with (first | (go_at_call 56; refine (i_GridOk (grow H.out (HBel.out _))).mono ?_; rintro e w1 ⟨rfl, hb⟩; have hcA := fun o => hb.cell (p := ⟨w.heap.size, o, none⟩) (by simp); have HB := hid (below_call (HBel.out _) hb); have hcB := HCK.out _ HB.out; clear hb; rw [HG.out]) | (go_at_call 81; refine (i_in _ _ _ _).mono ?_; rintro e w' ⟨rfl, rfl⟩; first | rw [X1.out] | rw [X2.out]))
  go_ret
  exact ⟨ret_int (by rw [E.out]), HB.out⟩
theorem s_GridAt {w : World} {bs : List Nat} {cs : List Value} {d : GridD} (h : Rep.pt w bs cs d) (x : Int) (hx : I64 x) (y : Int) (hy : I64 y) :
    Calls Try.prog 58 #[.agg cs.toArray, .int .i64 x, .int .i64 y] w fun e w' => e = .returned (.int .i64 (gridAt d x y)) ∧ Below w.heap.size w w' := by
  have H := hid h
  obtain ⟨a2, l2, k2, rfl, h0, h1, h2, h3, h4⟩ := open_Grid h
  obtain rfl := h2.len_eq
  have hm := h2.max
  have Bel : ∀ o, Below w.heap.size w (w.alloc o) := fun o => (Below.refl _ _).alloc (Nat.le_refl _) _
  have HBel := hid Bel; clear Bel
  have H2 := hid h2
  clear h h2
  cases hg : gridOk d
  · have E : Hid (gridAt d x y = 0) := hid (by simp [gridAt, hg])
    have HG := hid hg; clear hg
    have HCK : Hid (∀ W, Below w.heap.size w W → True) := hid (fun _ _ => trivial)
    go_enter Try.func58, Try.ntmps58
    go_wp2_with (first | (go_at_call 54; refine (s_GridOk (grow H.out (HBel.out _))).mono ?_; rintro e w1 ⟨rfl, hb⟩; have hcA := fun o => hb.cell (p := ⟨w.heap.size, o, none⟩) (by simp); have HB := hid (below_call (HBel.out _) hb); have hcB := HCK.out _ HB.out; clear hb; rw [HG.out]))
    go_ret
    exact ⟨ret_int (by rw [E.out]), HB.out⟩
  have HG := hid hg
  have hs := gridOk_shape hg
  have hw6 : wrap64 (d.W - 1) = d.W - 1 := IntWalk.wrap64_in _ (by omega)
  have hw7 : wrap64 (d.H - 1) = d.H - 1 := IntWalk.wrap64_in _ (by omega)
  have HSH := hid hs
  clear hs
  by_cases qlx : x < 0
  · have E : Hid (gridAt d x y = 0) := hid (by simp [gridAt, gridIn]; omega)
    clear hg
    have HCK : Hid (∀ W, Below w.heap.size w W → True) := hid (fun _ _ => trivial)
    go_enter Try.func58, Try.ntmps58
    go_wp2_with (first | (go_at_call 54; refine (s_GridOk (grow H.out (HBel.out _))).mono ?_; rintro e w1 ⟨rfl, hb⟩; have hcA := fun o => hb.cell (p := ⟨w.heap.size, o, none⟩) (by simp); have HB := hid (below_call (HBel.out _) hb); have hcB := HCK.out _ HB.out; clear hb; rw [HG.out]))
    go_ret
    exact ⟨ret_int (by rw [E.out]), HB.out⟩
  by_cases qhx : d.W ≤ x
  · have E : Hid (gridAt d x y = 0) := hid (by simp [gridAt, gridIn]; omega)
    clear hg
    have HCK : Hid (∀ W, Below w.heap.size w W → True) := hid (fun _ _ => trivial)
    go_enter Try.func58, Try.ntmps58
    go_wp2_with (first | (go_at_call 54; refine (s_GridOk (grow H.out (HBel.out _))).mono ?_; rintro e w1 ⟨rfl, hb⟩; have hcA := fun o => hb.cell (p := ⟨w.heap.size, o, none⟩) (by simp); have HB := hid (below_call (HBel.out _) hb); have hcB := HCK.out _ HB.out; clear hb; rw [HG.out]))
    go_ret
    exact ⟨ret_int (by rw [E.out]), HB.out⟩
  have Qx : 0 ≤ x ∧ x ≤ d.W - 1 := by omega
  by_cases qly : y < 0
  · have E : Hid (gridAt d x y = 0) := hid (by simp [gridAt, gridIn]; omega)
    clear hg
    have HCK : Hid (∀ W, Below w.heap.size w W → True) := hid (fun _ _ => trivial)
    go_enter Try.func58, Try.ntmps58
    go_wp2_with (first | (go_at_call 54; refine (s_GridOk (grow H.out (HBel.out _))).mono ?_; rintro e w1 ⟨rfl, hb⟩; have hcA := fun o => hb.cell (p := ⟨w.heap.size, o, none⟩) (by simp); have HB := hid (below_call (HBel.out _) hb); have hcB := HCK.out _ HB.out; clear hb; rw [HG.out]))
    go_ret
    exact ⟨ret_int (by rw [E.out]), HB.out⟩
  by_cases qhy : d.H ≤ y
  · have E : Hid (gridAt d x y = 0) := hid (by simp [gridAt, gridIn]; omega)
    clear hg
    have HCK : Hid (∀ W, Below w.heap.size w W → True) := hid (fun _ _ => trivial)
    go_enter Try.func58, Try.ntmps58
    go_wp2_with (first | (go_at_call 54; refine (s_GridOk (grow H.out (HBel.out _))).mono ?_; rintro e w1 ⟨rfl, hb⟩; have hcA := fun o => hb.cell (p := ⟨w.heap.size, o, none⟩) (by simp); have HB := hid (below_call (HBel.out _) hb); have hcB := HCK.out _ HB.out; clear hb; rw [HG.out]))
    go_ret
    exact ⟨ret_int (by rw [E.out]), HB.out⟩
  have Qy : 0 ≤ y ∧ y ≤ d.H - 1 := by omega
  have hs := HSH.out
  have hci := cell_in (x := x) (y := y) (W := d.W) (H := d.H) (by omega) Qx.1 Qx.2 Qy.1 Qy.2
  obtain ⟨k, hk⟩ : ∃ k : Nat, y * d.W + x = (k : Int) := ⟨(y * d.W + x).toNat, by omega⟩
  have hlt : k < d.Cells.length := by omega
  obtain ⟨b, off, rfl, hbw, hck, hzz⟩ := H2.out.at k hlt
  have HCK : Hid (∀ W, Below w.heap.size w W → W.cell? ⟨b, off + k, none⟩ = some (.int .i64 d.Cells[k])) := hid fun W hW => by rw [hW.cell (p := ⟨b, off + k, none⟩) hbw]; exact hck
  have E : Hid (gridAt d x y = d.Cells[k]) := hid (by
    have hi : gridIn d x y = true := by simp [gridIn]; omega
    simp only [gridAt, hg, hi, Bool.and_self, if_true]
    rw [hk, Int.toNat_natCast]; simp [hlt])
  have hw1 : wrap64 (y * d.W) = y * d.W := IntWalk.wrap64_in _ (by omega)
  have hw2 : wrap64 (y * d.W + x) = (k : Int) := by rw [hk]; exact IntWalk.wrap64_in _ (by omega)
  have hlt' : (k : Int) < (d.Cells.length : Int) := by omega
  obtain ⟨v, hv⟩ : ∃ v, v = d.Cells[k] := ⟨_, rfl⟩
  rw [← hv] at HCK E
  clear hv hzz hck hs hg hk hci HSH
  go_enter Try.func58, Try.ntmps58
  go_wp2_with (first | (go_at_call 54; refine (s_GridOk (grow H.out (HBel.out _))).mono ?_; rintro e w1 ⟨rfl, hb⟩; have hcA := fun o => hb.cell (p := ⟨w.heap.size, o, none⟩) (by simp); have HB := hid (below_call (HBel.out _) hb); have hcB := HCK.out _ HB.out; clear hb; rw [HG.out]))
  go_ret
  exact ⟨ret_int (by rw [E.out]), HB.out⟩
end Go.Proofs.Ytmcfkmlbifhhjaa
