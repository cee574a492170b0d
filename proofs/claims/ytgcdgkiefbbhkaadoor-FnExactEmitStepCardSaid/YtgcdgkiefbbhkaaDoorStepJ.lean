/- Moving the cursor by as few bytes as possible: the program, whole. -/
import Derived.Test.YtgcdgkiefbbhkaaDoorStepI
set_option linter.unusedSimpArgs false
set_option linter.unusedVariables false
namespace Go.Proofs.YtgcdgkiefbbhkaaDoor
open Go.RowKit Go.G6
set_option maxHeartbeats 3000000
set_option maxRecDepth 10000
theorem i_EmitStep {w : World} {bs : List Nat} {cs : List Value} {d : GridD} (h : Rep.pt w bs cs d) (x : Int) (hx : I64 x) (y : Int) (hy : I64 y) (ht : Lib.TabIs Tryd.prog w "internal/strconv.uint64pow10" .u64 Lib.pow10Tab) :
    Calls Tryd.prog 21 #[.agg cs.toArray, .int .i64 x, .int .i64 y] w (RetSB w (emitStep d x y) (.bool (stepOk d x y))) := by
  have H := hid h
  obtain ⟨a2, l2, k2, rfl, h0, h1, h2, h3, h4⟩ := open_Grid h
  obtain rfl := h2.len_eq
  have hm := h2.max
  have HT := hid ht
  clear h h2 ht
  cases hg : gridOk d
  · have E : Hid (emitStep d x y = [] ∧ stepOk d x y = false) := hid (by simp [emitStep, stepOk, hg])
    have HG := hid hg; clear hg
    go_enter Tryd.func21, Tryd.ntmps21
    go_wp2_with fail
    refine (i_GridOk (grow H.out ((Below.refl _ _).alloc (Nat.le_refl _) _))).mono ?_
    rintro e w1 ⟨rfl, hb⟩
    have HB := hid (below_call ((Below.refl _ _).alloc (Nat.le_refl _) _) hb)
    clear hb
    rw [HG.out]
    go_wp2
    go_ret2
    exact ⟨none, 0, 0, [], by rw [E.out.2]; rfl, by rw [E.out.1]; exact own_nil _ _, HB.out⟩
  have HG := hid hg
  have hs := gridOk_shape hg
  have hw6 : wrap64 (d.W - 1) = d.W - 1 := IntWalk.wrap64_in _ (by omega)
  have hw7 : wrap64 (d.H - 1) = d.H - 1 := IntWalk.wrap64_in _ (by omega)
  have HSH := hid hs
  clear hs
  cases qx : inB x 0 (d.W - 1)
  · have E : Hid (emitStep d x y = [] ∧ stepOk d x y = false) := hid (by simp [inB] at qx; simp [emitStep, stepOk, gridIn]; omega)
    have X1 := hid qx; clear qx hg
    go_enter Tryd.func21, Tryd.ntmps21
    go_wp2_with fail
    refine (i_GridOk (grow H.out ((Below.refl _ _).alloc (Nat.le_refl _) _))).mono ?_
    rintro e w1 ⟨rfl, hb⟩
    have B0o := ((Bx.new w #[.int .i64 d.W, .int .i64 d.H, .slice a2 d.Cells.length k2, .int .i64 d.X, .int .i64 d.Y, .bool d.Wrap] 43 rfl).below hb (by simp)).out
    have HB := hid (below_call ((Below.refl _ _).alloc (Nat.le_refl _) _) hb)
    clear hb
    rw [HG.out]
    go_wp2_with (go_at_call 33; refine (i_in _ _ _ _).mono ?_; rintro e w' ⟨rfl, rfl⟩; rw [X1.out])
    go_ret2
    exact ⟨none, 0, 0, [], by rw [E.out.2]; rfl, by rw [E.out.1]; exact own_nil _ _, HB.out⟩
  have X1 := hid qx
  have Qx := hid (show 0 ≤ x ∧ x ≤ d.W - 1 by simpa [inB] using qx)
  cases qy : inB y 0 (d.H - 1)
  · have E : Hid (emitStep d x y = [] ∧ stepOk d x y = false) := hid (by simp [inB] at qy; simp [emitStep, stepOk, gridIn]; omega)
    have X2 := hid qy; clear qx qy hg
    go_enter Tryd.func21, Tryd.ntmps21
    go_wp2_with fail
    refine (i_GridOk (grow H.out ((Below.refl _ _).alloc (Nat.le_refl _) _))).mono ?_
    rintro e w1 ⟨rfl, hb⟩
    have B0o := ((Bx.new w #[.int .i64 d.W, .int .i64 d.H, .slice a2 d.Cells.length k2, .int .i64 d.X, .int .i64 d.Y, .bool d.Wrap] 43 rfl).below hb (by simp)).out
    have HB := hid (below_call ((Below.refl _ _).alloc (Nat.le_refl _) _) hb)
    clear hb
    rw [HG.out]
    go_wp2_with (go_at_call 33; refine (i_in _ _ _ _).mono ?_; rintro e w' ⟨rfl, rfl⟩; first | rw [X1.out] | rw [X2.out])
    go_ret2
    exact ⟨none, 0, 0, [], by rw [E.out.2]; rfl, by rw [E.out.1]; exact own_nil _ _, HB.out⟩
  have X2 := hid qy
  have Qy := hid (show 0 ≤ y ∧ y ≤ d.H - 1 by simpa [inB] using qy)
  have hok : stepOk d x y = true := by have h1 := Qx.out; have h2 := Qy.out; simp [stepOk, gridIn, hg]; omega
  have E : Hid (emitStep d x y = stepB d x y ∧ stepOk d x y = true) := hid ⟨by unfold emitStep; rw [if_pos hok], hok⟩
  clear hok
  clear qx qy hg
  go_enter Tryd.func21, Tryd.ntmps21
  go_wp2_with fail
  refine (i_GridOk (grow H.out ((Below.refl _ _).alloc (Nat.le_refl _) _))).mono ?_
  rintro e w1 ⟨rfl, hb⟩
  have B0o := ((Bx.new w #[.int .i64 d.W, .int .i64 d.H, .slice a2 d.Cells.length k2, .int .i64 d.X, .int .i64 d.Y, .bool d.Wrap] 43 rfl).below hb (by simp)).out
  have HB := hid (below_call ((Below.refl _ _).alloc (Nat.le_refl _) _) hb)
  clear hb
  rw [HG.out]
  go_wp2_with (go_at_call 33; refine (i_in _ _ _ _).mono ?_; rintro e w' ⟨rfl, rfl⟩; first | rw [X1.out] | rw [X2.out])
  refine (i_emitStep (grow H.out HB.out) x y HG.out Qx.out.1 Qx.out.2 Qy.out.1 Qy.out.2 (tab_below HT.out HB.out)).mono ?_
  rintro e w2 ⟨p, l, c, b2, rfl, hO, hb⟩
  have HO := hid (hO.mono HB.out.size)
  have HB2 := hid (HB.out.trans (hb.mono HB.out.size))
  clear hO hb B0o
  go_wp2
  go_ret2
  exact ⟨p, l, c, b2, by rw [E.out.2]; rfl, by rw [E.out.1]; exact HO.out, HB2.out⟩
end Go.Proofs.YtgcdgkiefbbhkaaDoor
