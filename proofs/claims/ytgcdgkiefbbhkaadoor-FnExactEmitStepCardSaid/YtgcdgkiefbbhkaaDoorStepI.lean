/- Moving the cursor by as few bytes as possible: the program. -/
import Derived.Test.YtgcdgkiefbbhkaaDoorStepD
set_option linter.unusedSimpArgs false
set_option linter.unusedVariables false
namespace Go.Proofs.YtgcdgkiefbbhkaaDoor
open Go.RowKit Go.G6
set_option maxHeartbeats 3000000
set_option maxRecDepth 10000
theorem i_try {w w0 : World} {lo b0 g : Nat} {c0 : Array Value} {ys xs : List UInt8} (hs : StepSt lo b0 c0 g w0 w ys) {a : Option Addr} {l c : Nat} {bs : List Nat} (h : Own lo w bs [.slice a l c] xs) (hg : ∀ b ∈ bs, b ≠ g) (h0 : b0 ≠ g) (hw : w0.heap.size ≤ g) :
    Calls Tryd.prog 57 #[.slice a l c, .pointer (some ⟨g, 0, none⟩)] w fun e w' => e = .returned (.tuple #[]) ∧ StepSt lo b0 c0 g w0 w' (shorter xs true ys) := by
  have hsl := pt_slice.1 h.1
  obtain ⟨a2, l2, c2, b2, h1, h2, h3, h4, h5, h6, h7⟩ := hs
  have hsl2 := pt_slice.1 h5.1
  obtain rfl := hsl.len_eq
  obtain rfl := hsl2.len_eq
  have m1 := hsl.max
  have m2 := hsl2.max
  have g0 := h3.out; have gf := h3.fr
  by_cases hle : xs.length ≤ ys.length
  · have HE := hid (show StepSt lo b0 c0 g w0 (w.setCell ⟨g, 0, none⟩ (.slice a xs.length c)) (shorter xs true ys) by
      rw [shorter_yes hle]
      exact ⟨a, _, c, bs, h1.setOther h0 _, by simpa using h2, h3.setSame 0 _, by simpa using h4, h.setCell' _ (fun b hb => hg b hb), hg, h7.setCell hw _⟩)
    have hle' : (xs.length : Int) ≤ (ys.length : Int) := by omega
    clear h1 h2 h3 h4 h5 h6 h7 h hg hsl hsl2 hle
    go_enter Tryd.func57, Tryd.ntmps57
    go_wp2
    go_end0
    exact ⟨rfl, HE.out⟩
  · have HE := hid (show StepSt lo b0 c0 g w0 w (shorter xs true ys) by
      rw [shorter_not true hle]
      exact ⟨a2, _, c2, b2, h1, h2, h3, h4, h5, h6, h7⟩)
    have hle' : ¬ (xs.length : Int) ≤ (ys.length : Int) := by omega
    clear h1 h2 h3 h4 h5 h6 h7 h hg hsl hsl2 hle
    go_enter Tryd.func57, Tryd.ntmps57
    go_wp2
    go_end0
    exact ⟨rfl, HE.out⟩
theorem i_emitStep {w : World} {bs : List Nat} {cs : List Value} {d : GridD} (h : Rep.pt w bs cs d) (x : Int) (y : Int) (hg : gridOk d = true) (hx0 : 0 ≤ x) (hx1 : x ≤ d.W - 1) (hy0 : 0 ≤ y) (hy1 : y ≤ d.H - 1) (ht : Lib.TabIs Tryd.prog w "internal/strconv.uint64pow10" .u64 Lib.pow10Tab) :
    Calls Tryd.prog 41 #[.agg cs.toArray, .int .i64 x, .int .i64 y] w (RetS w (stepB d x y)) := by
  have hmf : ∀ (fn : Fn) (first cap : Array Value) (w : World), (Instr.makeFunc fn first cap).run Tryd.prog w = .ok (.func fn first cap) w := fun _ _ _ _ => rfl
  obtain ⟨a2, l2, k2, rfl, h0, h1, h2, h3, h4⟩ := open_Grid h
  obtain rfl := h2.len_eq
  have hsh := gridOk_shape hg
  have hps := gridOk_pos hg
  have HT := hid ht
  have HSL := hid h2
  clear h h2 ht hg h0 h1 h3 h4
  have hX0 : 0 ≤ d.X := by omega
  have hX1 : d.X ≤ 199 := by omega
  have hx9 : x ≤ 199 := by omega
  have hy9 : y ≤ 199 := by omega
  have hWr := hid hps.2.2
  clear hsh hps hx1 hy1
  obtain ⟨iB, hiB, _, hsB, _⟩ := info_parts info_byte
  by_cases hy : y = d.Y
  rotate_left
  · have HE := hid (step_off (x := x) hy)
    have hyb : (y == d.Y) = false := by rw [beq_eq_false_iff_ne]; exact hy
    cases hxx : (x == d.X)
    · cases hx00 : (x == 0)
      · clear hy
        go_enter Tryd.func41, Tryd.ntmps41
        go_wp2_with fail
        refine (i_EmitGoto x (by unfold I64; omega) y (by unfold I64; omega) _ (tab_below HT.out ((Below.refl _ _).alloc (Nat.le_refl _) _))).mono ?_
        rintro e w1 ⟨v, b1, rfl, hO, hb⟩
        obtain ⟨p1, c1, rfl⟩ := hO.slice
        obtain ⟨b1x, hb1x, hOw⟩ := hO.own
        have hz1 : w.heap.size < w1.heap.size := by have := hb.size; simp at this; omega
        have hz1n : ¬ w.heap.size = w1.heap.size := by omega
        have HST0 := hid (show StepSt (w.heap.size + 1) w.heap.size #[.int .i64 d.W, .int .i64 d.H, .slice a2 d.Cells.length k2, .int .i64 d.X, .int .i64 d.Y, .bool d.Wrap] w1.heap.size w (w1.alloc (.cells #[.slice p1 (gotoB x y).length c1] 32)) (gotoB x y) from ⟨p1, _, c1, b1x, ((Bx.new w _ _ rfl).below hb (by simp)).alloc hz1 _, by simp; omega, Bx.new _ _ _ rfl, by simp, (hOw.alloc _).mono (by simp), fun b hb9 => by have := (hO.lts b (hb1x b hb9)).2; omega, ((((Below.refl w.heap.size w).alloc (Nat.le_refl _) _).trans (hb.mono (by simp))).alloc (by omega) _)⟩)
        have B0o := HST0.out.base.1.out
        clear hO hOw hb1x hb
        obtain ⟨pz, lz, cz, bz, _, _, hBg, _, hOz, _, hbz⟩ := HST0.out
        have Bgo := hBg.out
        have HOz := hid (show Own w.heap.size _ bz [.slice pz lz cz] (stepB d x y) by rw [HE.out]; exact hOz.mono (show w.heap.size ≤ w.heap.size + 1 by omega)); have HBz := hid hbz
        clear hOz hbz hBg
        go_wp2
        go_ret
        exact ⟨pz, lz, cz, bz, rfl, HOz.out, HBz.out⟩
      · clear hy
        go_enter Tryd.func41, Tryd.ntmps41
        go_wp2_with fail
        refine (i_EmitGoto x (by unfold I64; omega) y (by unfold I64; omega) _ (tab_below HT.out ((Below.refl _ _).alloc (Nat.le_refl _) _))).mono ?_
        rintro e w1 ⟨v, b1, rfl, hO, hb⟩
        obtain ⟨p1, c1, rfl⟩ := hO.slice
        obtain ⟨b1x, hb1x, hOw⟩ := hO.own
        have hz1 : w.heap.size < w1.heap.size := by have := hb.size; simp at this; omega
        have hz1n : ¬ w.heap.size = w1.heap.size := by omega
        have HST0 := hid (show StepSt (w.heap.size + 1) w.heap.size #[.int .i64 d.W, .int .i64 d.H, .slice a2 d.Cells.length k2, .int .i64 d.X, .int .i64 d.Y, .bool d.Wrap] w1.heap.size w (w1.alloc (.cells #[.slice p1 (gotoB x y).length c1] 32)) (gotoB x y) from ⟨p1, _, c1, b1x, ((Bx.new w _ _ rfl).below hb (by simp)).alloc hz1 _, by simp; omega, Bx.new _ _ _ rfl, by simp, (hOw.alloc _).mono (by simp), fun b hb9 => by have := (hO.lts b (hb1x b hb9)).2; omega, ((((Below.refl w.heap.size w).alloc (Nat.le_refl _) _).trans (hb.mono (by simp))).alloc (by omega) _)⟩)
        have B0o := HST0.out.base.1.out
        clear hO hOw hb1x hb
        obtain ⟨pz, lz, cz, bz, _, _, hBg, _, hOz, _, hbz⟩ := HST0.out
        have Bgo := hBg.out
        have HOz := hid (show Own w.heap.size _ bz [.slice pz lz cz] (stepB d x y) by rw [HE.out]; exact hOz.mono (show w.heap.size ≤ w.heap.size + 1 by omega)); have HBz := hid hbz
        clear hOz hbz hBg
        go_wp2
        go_ret
        exact ⟨pz, lz, cz, bz, rfl, HOz.out, HBz.out⟩
    · cases hx00 : (x == 0)
      · clear hy
        go_enter Tryd.func41, Tryd.ntmps41
        go_wp2_with fail
        refine (i_EmitGoto x (by unfold I64; omega) y (by unfold I64; omega) _ (tab_below HT.out ((Below.refl _ _).alloc (Nat.le_refl _) _))).mono ?_
        rintro e w1 ⟨v, b1, rfl, hO, hb⟩
        obtain ⟨p1, c1, rfl⟩ := hO.slice
        obtain ⟨b1x, hb1x, hOw⟩ := hO.own
        have hz1 : w.heap.size < w1.heap.size := by have := hb.size; simp at this; omega
        have hz1n : ¬ w.heap.size = w1.heap.size := by omega
        have HST0 := hid (show StepSt (w.heap.size + 1) w.heap.size #[.int .i64 d.W, .int .i64 d.H, .slice a2 d.Cells.length k2, .int .i64 d.X, .int .i64 d.Y, .bool d.Wrap] w1.heap.size w (w1.alloc (.cells #[.slice p1 (gotoB x y).length c1] 32)) (gotoB x y) from ⟨p1, _, c1, b1x, ((Bx.new w _ _ rfl).below hb (by simp)).alloc hz1 _, by simp; omega, Bx.new _ _ _ rfl, by simp, (hOw.alloc _).mono (by simp), fun b hb9 => by have := (hO.lts b (hb1x b hb9)).2; omega, ((((Below.refl w.heap.size w).alloc (Nat.le_refl _) _).trans (hb.mono (by simp))).alloc (by omega) _)⟩)
        have B0o := HST0.out.base.1.out
        clear hO hOw hb1x hb
        obtain ⟨pz, lz, cz, bz, _, _, hBg, _, hOz, _, hbz⟩ := HST0.out
        have Bgo := hBg.out
        have HOz := hid (show Own w.heap.size _ bz [.slice pz lz cz] (stepB d x y) by rw [HE.out]; exact hOz.mono (show w.heap.size ≤ w.heap.size + 1 by omega)); have HBz := hid hbz
        clear hOz hbz hBg
        go_wp2
        go_ret
        exact ⟨pz, lz, cz, bz, rfl, HOz.out, HBz.out⟩
      · clear hy
        go_enter Tryd.func41, Tryd.ntmps41
        go_wp2_with fail
        refine (i_EmitGoto x (by unfold I64; omega) y (by unfold I64; omega) _ (tab_below HT.out ((Below.refl _ _).alloc (Nat.le_refl _) _))).mono ?_
        rintro e w1 ⟨v, b1, rfl, hO, hb⟩
        obtain ⟨p1, c1, rfl⟩ := hO.slice
        obtain ⟨b1x, hb1x, hOw⟩ := hO.own
        have hz1 : w.heap.size < w1.heap.size := by have := hb.size; simp at this; omega
        have hz1n : ¬ w.heap.size = w1.heap.size := by omega
        have HST0 := hid (show StepSt (w.heap.size + 1) w.heap.size #[.int .i64 d.W, .int .i64 d.H, .slice a2 d.Cells.length k2, .int .i64 d.X, .int .i64 d.Y, .bool d.Wrap] w1.heap.size w (w1.alloc (.cells #[.slice p1 (gotoB x y).length c1] 32)) (gotoB x y) from ⟨p1, _, c1, b1x, ((Bx.new w _ _ rfl).below hb (by simp)).alloc hz1 _, by simp; omega, Bx.new _ _ _ rfl, by simp, (hOw.alloc _).mono (by simp), fun b hb9 => by have := (hO.lts b (hb1x b hb9)).2; omega, ((((Below.refl w.heap.size w).alloc (Nat.le_refl _) _).trans (hb.mono (by simp))).alloc (by omega) _)⟩)
        have B0o := HST0.out.base.1.out
        clear hO hOw hb1x hb
        obtain ⟨pz, lz, cz, bz, _, _, hBg, _, hOz, _, hbz⟩ := HST0.out
        have Bgo := hBg.out
        have HOz := hid (show Own w.heap.size _ bz [.slice pz lz cz] (stepB d x y) by rw [HE.out]; exact hOz.mono (show w.heap.size ≤ w.heap.size + 1 by omega)); have HBz := hid hbz
        clear hOz hbz hBg
        go_wp2
        go_ret
        exact ⟨pz, lz, cz, bz, rfl, HOz.out, HBz.out⟩
  subst hy
  cases hw : d.Wrap
  rotate_left
  · have HE := hid (step_wrap (x := x) hw)
    cases hxx : (x == d.X)
    · cases hx00 : (x == 0)
      · have hf : decide (x = 0) = false := by simpa using hx00
        rw [hf, shorter_no] at HE
        clear hf
        go_enter Tryd.func41, Tryd.ntmps41
        go_wp2_with fail
        refine (i_EmitGoto x (by unfold I64; omega) d.Y (by unfold I64; omega) _ (tab_below HT.out ((Below.refl _ _).alloc (Nat.le_refl _) _))).mono ?_
        rintro e w1 ⟨v, b1, rfl, hO, hb⟩
        obtain ⟨p1, c1, rfl⟩ := hO.slice
        obtain ⟨b1x, hb1x, hOw⟩ := hO.own
        have hz1 : w.heap.size < w1.heap.size := by have := hb.size; simp at this; omega
        have hz1n : ¬ w.heap.size = w1.heap.size := by omega
        have HST0 := hid (show StepSt (w.heap.size + 1) w.heap.size #[.int .i64 d.W, .int .i64 d.H, .slice a2 d.Cells.length k2, .int .i64 d.X, .int .i64 d.Y, .bool true] w1.heap.size w (w1.alloc (.cells #[.slice p1 (gotoB x d.Y).length c1] 32)) (gotoB x d.Y) from ⟨p1, _, c1, b1x, ((Bx.new w _ _ rfl).below hb (by simp)).alloc hz1 _, by simp; omega, Bx.new _ _ _ rfl, by simp, (hOw.alloc _).mono (by simp), fun b hb9 => by have := (hO.lts b (hb1x b hb9)).2; omega, ((((Below.refl w.heap.size w).alloc (Nat.le_refl _) _).trans (hb.mono (by simp))).alloc (by omega) _)⟩)
        have B0o := HST0.out.base.1.out
        clear hO hOw hb1x hb
        obtain ⟨pz, lz, cz, bz, _, _, hBg, _, hOz, _, hbz⟩ := HST0.out
        have Bgo := hBg.out
        have HOz := hid (show Own w.heap.size _ bz [.slice pz lz cz] (stepB d x d.Y) by rw [HE.out]; exact hOz.mono (show w.heap.size ≤ w.heap.size + 1 by omega)); have HBz := hid hbz
        clear hOz hbz hBg
        go_wp2
        go_ret
        exact ⟨pz, lz, cz, bz, rfl, HOz.out, HBz.out⟩
      · have hf : decide (x = 0) = true := by simpa using hx00
        rw [hf] at HE
        clear hf
        go_enter Tryd.func41, Tryd.ntmps41
        go_wp2_with fail
        refine (i_EmitGoto x (by unfold I64; omega) d.Y (by unfold I64; omega) _ (tab_below HT.out ((Below.refl _ _).alloc (Nat.le_refl _) _))).mono ?_
        rintro e w1 ⟨v, b1, rfl, hO, hb⟩
        obtain ⟨p1, c1, rfl⟩ := hO.slice
        obtain ⟨b1x, hb1x, hOw⟩ := hO.own
        have hz1 : w.heap.size < w1.heap.size := by have := hb.size; simp at this; omega
        have hz1n : ¬ w.heap.size = w1.heap.size := by omega
        have HST0 := hid (show StepSt (w.heap.size + 1) w.heap.size #[.int .i64 d.W, .int .i64 d.H, .slice a2 d.Cells.length k2, .int .i64 d.X, .int .i64 d.Y, .bool true] w1.heap.size w (w1.alloc (.cells #[.slice p1 (gotoB x d.Y).length c1] 32)) (gotoB x d.Y) from ⟨p1, _, c1, b1x, ((Bx.new w _ _ rfl).below hb (by simp)).alloc hz1 _, by simp; omega, Bx.new _ _ _ rfl, by simp, (hOw.alloc _).mono (by simp), fun b hb9 => by have := (hO.lts b (hb1x b hb9)).2; omega, ((((Below.refl w.heap.size w).alloc (Nat.le_refl _) _).trans (hb.mono (by simp))).alloc (by omega) _)⟩)
        have B0o := HST0.out.base.1.out
        clear hO hOw hb1x hb
        have HO13 := hid (own_cr (lo := w.heap.size + 1) (e := 5) (w1.alloc (.cells #[.slice p1 (gotoB x d.Y).length c1] 32)) (by obtain ⟨_, _, _, _, _, h9, _⟩ := HST0.out; omega) (N := w1.heap.size + 1) (by simp))
        have HSTc := hid (HST0.out.below ((Below.refl _ _).alloc (Nat.le_refl _) (.cells #[.int .u8 13] 5)))
        have HGc : Hid (w1.heap.size < ((w1.alloc (.cells #[.slice p1 (gotoB x d.Y).length c1] 32))).heap.size) := hid (by obtain ⟨_, _, _, _, _, _, _, h9, _⟩ := HST0.out; exact h9)
        go_wp2_with fail
        refine (i_try HSTc.out HO13.out (fun b hb9 => by have := HGc.out; simp at hb9; omega) hz1n (by omega)).mono ?_
        rintro e w6 ⟨rfl, hst⟩
        have HST9 := hid hst
        clear hst B0o
        have B0o := HST9.out.base.1.out
        obtain ⟨pz, lz, cz, bz, _, _, hBg, _, hOz, _, hbz⟩ := HST9.out
        have Bgo := hBg.out
        have HOz := hid (show Own w.heap.size _ bz [.slice pz lz cz] (stepB d x d.Y) by rw [HE.out]; exact hOz.mono (show w.heap.size ≤ w.heap.size + 1 by omega)); have HBz := hid hbz
        clear hOz hbz hBg
        go_wp2
        go_ret
        exact ⟨pz, lz, cz, bz, rfl, HOz.out, HBz.out⟩
    · cases hx00 : (x == 0)
      · have hf : decide (x = 0) = false := by simpa using hx00
        rw [hf, shorter_no] at HE
        clear hf
        go_enter Tryd.func41, Tryd.ntmps41
        go_wp2_with fail
        refine (i_EmitGoto x (by unfold I64; omega) d.Y (by unfold I64; omega) _ (tab_below HT.out ((Below.refl _ _).alloc (Nat.le_refl _) _))).mono ?_
        rintro e w1 ⟨v, b1, rfl, hO, hb⟩
        obtain ⟨p1, c1, rfl⟩ := hO.slice
        obtain ⟨b1x, hb1x, hOw⟩ := hO.own
        have hz1 : w.heap.size < w1.heap.size := by have := hb.size; simp at this; omega
        have hz1n : ¬ w.heap.size = w1.heap.size := by omega
        have HST0 := hid (show StepSt (w.heap.size + 1) w.heap.size #[.int .i64 d.W, .int .i64 d.H, .slice a2 d.Cells.length k2, .int .i64 d.X, .int .i64 d.Y, .bool true] w1.heap.size w (w1.alloc (.cells #[.slice p1 (gotoB x d.Y).length c1] 32)) (gotoB x d.Y) from ⟨p1, _, c1, b1x, ((Bx.new w _ _ rfl).below hb (by simp)).alloc hz1 _, by simp; omega, Bx.new _ _ _ rfl, by simp, (hOw.alloc _).mono (by simp), fun b hb9 => by have := (hO.lts b (hb1x b hb9)).2; omega, ((((Below.refl w.heap.size w).alloc (Nat.le_refl _) _).trans (hb.mono (by simp))).alloc (by omega) _)⟩)
        have B0o := HST0.out.base.1.out
        clear hO hOw hb1x hb
        obtain ⟨pz, lz, cz, bz, _, _, hBg, _, hOz, _, hbz⟩ := HST0.out
        have Bgo := hBg.out
        have HOz := hid (show Own w.heap.size _ bz [.slice pz lz cz] (stepB d x d.Y) by rw [HE.out]; exact hOz.mono (show w.heap.size ≤ w.heap.size + 1 by omega)); have HBz := hid hbz
        clear hOz hbz hBg
        go_wp2
        go_ret
        exact ⟨pz, lz, cz, bz, rfl, HOz.out, HBz.out⟩
      · have hf : decide (x = 0) = true := by simpa using hx00
        rw [hf] at HE
        clear hf
        go_enter Tryd.func41, Tryd.ntmps41
        go_wp2_with fail
        refine (i_EmitGoto x (by unfold I64; omega) d.Y (by unfold I64; omega) _ (tab_below HT.out ((Below.refl _ _).alloc (Nat.le_refl _) _))).mono ?_
        rintro e w1 ⟨v, b1, rfl, hO, hb⟩
        obtain ⟨p1, c1, rfl⟩ := hO.slice
        obtain ⟨b1x, hb1x, hOw⟩ := hO.own
        have hz1 : w.heap.size < w1.heap.size := by have := hb.size; simp at this; omega
        have hz1n : ¬ w.heap.size = w1.heap.size := by omega
        have HST0 := hid (show StepSt (w.heap.size + 1) w.heap.size #[.int .i64 d.W, .int .i64 d.H, .slice a2 d.Cells.length k2, .int .i64 d.X, .int .i64 d.Y, .bool true] w1.heap.size w (w1.alloc (.cells #[.slice p1 (gotoB x d.Y).length c1] 32)) (gotoB x d.Y) from ⟨p1, _, c1, b1x, ((Bx.new w _ _ rfl).below hb (by simp)).alloc hz1 _, by simp; omega, Bx.new _ _ _ rfl, by simp, (hOw.alloc _).mono (by simp), fun b hb9 => by have := (hO.lts b (hb1x b hb9)).2; omega, ((((Below.refl w.heap.size w).alloc (Nat.le_refl _) _).trans (hb.mono (by simp))).alloc (by omega) _)⟩)
        have B0o := HST0.out.base.1.out
        clear hO hOw hb1x hb
        have HO13 := hid (own_cr (lo := w.heap.size + 1) (e := 5) (w1.alloc (.cells #[.slice p1 (gotoB x d.Y).length c1] 32)) (by obtain ⟨_, _, _, _, _, h9, _⟩ := HST0.out; omega) (N := w1.heap.size + 1) (by simp))
        have HSTc := hid (HST0.out.below ((Below.refl _ _).alloc (Nat.le_refl _) (.cells #[.int .u8 13] 5)))
        have HGc : Hid (w1.heap.size < ((w1.alloc (.cells #[.slice p1 (gotoB x d.Y).length c1] 32))).heap.size) := hid (by obtain ⟨_, _, _, _, _, _, _, h9, _⟩ := HST0.out; exact h9)
        go_wp2_with fail
        refine (i_try HSTc.out HO13.out (fun b hb9 => by have := HGc.out; simp at hb9; omega) hz1n (by omega)).mono ?_
        rintro e w6 ⟨rfl, hst⟩
        have HST9 := hid hst
        clear hst B0o
        have B0o := HST9.out.base.1.out
        obtain ⟨pz, lz, cz, bz, _, _, hBg, _, hOz, _, hbz⟩ := HST9.out
        have Bgo := hBg.out
        have HOz := hid (show Own w.heap.size _ bz [.slice pz lz cz] (stepB d x d.Y) by rw [HE.out]; exact hOz.mono (show w.heap.size ≤ w.heap.size + 1 by omega)); have HBz := hid hbz
        clear hOz hbz hBg
        go_wp2
        go_ret
        exact ⟨pz, lz, cz, bz, rfl, HOz.out, HBz.out⟩
  rcases (by omega : x < d.X ∨ x = d.X ∨ d.X < x) with hlt | heq | hgt
  rotate_left
  · subst heq
    have HE := hid (step_here hw)
    go_enter Tryd.func41, Tryd.ntmps41
    go_wp2
    go_ret
    exact ⟨none, 0, 0, [], rfl, by rw [HE.out]; exact own_nil _ _, (Below.refl _ _).alloc (Nat.le_refl _) _⟩
  · have HE := hid (step_right hw hgt hX0)
    have hxx : (x == d.X) = false := by rw [beq_eq_false_iff_ne]; omega
    have hx00 : (x == 0) = false := by rw [beq_eq_false_iff_ne]; omega
    have hn1 : ¬ 0 < d.X - x := by omega
    have hn2 : 0 < x - d.X := by omega
    have hn3 : inB (d.X - x) 1 3 = false := by unfold inB; simp; omega
    have hwa : wrap64 (d.X - x) = d.X - x := IntWalk.wrap64_in _ (by omega)
    have hwb : wrap64 (x - d.X) = x - d.X := IntWalk.wrap64_in _ (by omega)
    go_enter Tryd.func41, Tryd.ntmps41
    go_wp2_with fail
    refine (i_EmitGoto x (by unfold I64; omega) d.Y (by unfold I64; omega) _ (tab_below HT.out ((Below.refl _ _).alloc (Nat.le_refl _) _))).mono ?_
    rintro e w1 ⟨v, b1, rfl, hO, hb⟩
    obtain ⟨p1, c1, rfl⟩ := hO.slice
    obtain ⟨b1x, hb1x, hOw⟩ := hO.own
    have hz1 : w.heap.size < w1.heap.size := by have := hb.size; simp at this; omega
    have hz1n : ¬ w.heap.size = w1.heap.size := by omega
    have HST0 := hid (show StepSt (w.heap.size + 1) w.heap.size #[.int .i64 d.W, .int .i64 d.H, .slice a2 d.Cells.length k2, .int .i64 d.X, .int .i64 d.Y, .bool false] w1.heap.size w (w1.alloc (.cells #[.slice p1 (gotoB x d.Y).length c1] 32)) (gotoB x d.Y) from ⟨p1, _, c1, b1x, ((Bx.new w _ _ rfl).below hb (by simp)).alloc hz1 _, by simp; omega, Bx.new _ _ _ rfl, by simp, (hOw.alloc _).mono (by simp), fun b hb9 => by have := (hO.lts b (hb1x b hb9)).2; omega, ((((Below.refl w.heap.size w).alloc (Nat.le_refl _) _).trans (hb.mono (by simp))).alloc (by omega) _)⟩)
    have B0o := HST0.out.base.1.out
    clear hO hOw hb1x hb
    go_wp2_with fail
    refine (i_NumText (x - d.X) (by unfold I64; omega) _ (tab_below HT.out HST0.out.base.2)).mono ?_
    rintro e w2 ⟨rfl, hb⟩
    have HST1 := hid (HST0.out.below hb)
    obtain ⟨X, hX⟩ : ∃ X, X = numText (x - d.X) := ⟨_, rfl⟩
    have sX : X.size ≤ 21 := by rw [hX]; exact numText_size _
    rw [← hX]
    have HXX := hid hX
    clear hb B0o hX
    have B0o := HST1.out.base.1.out
    go_wp2_with fail
    refine (i_escape _ ?_ _).mono ?_
    · have q1 : (⟨#[67]⟩ : ByteArray).size = 1 := rfl
      simp; omega
    rintro e w3 ⟨v, b3, rfl, hO, hb⟩
    obtain ⟨p3, c3, rfl⟩ := hO.slice
    obtain ⟨b3x, hb3x, hOw⟩ := hO.own
    have HST2 := hid (HST1.out.below hb)
    have HOW := hid (hOw.mono (show w.heap.size + 1 ≤ w2.heap.size by have := HST1.out.base.2.size; obtain ⟨_, _, _, _, _, h9, _⟩ := HST1.out; omega))
    have HLT := hid (fun b (hb9 : b ∈ b3x) => (hO.lts b (hb3x b hb9)).1)
    have HG2 : Hid (w1.heap.size < w2.heap.size) := hid (by obtain ⟨_, _, _, _, _, _, _, h9, _⟩ := HST1.out; exact h9)
    clear hb B0o hO hOw hb3x
    have B0o := HST2.out.base.1.out
    go_wp2_with fail
    refine (i_try HST2.out HOW.out (fun b hb9 => by have := HLT.out b hb9; have := HG2.out; omega) hz1n (by omega)).mono ?_
    rintro e w4 ⟨rfl, hst⟩
    have HST9 := hid hst
    rw [show escB (X ++ ⟨#[67]⟩) = wayC d x by rw [HXX.out]; rfl] at HST9
    clear hst B0o HXX sX
    have B0o := HST9.out.base.1.out
    obtain ⟨pz, lz, cz, bz, _, _, hBg, _, hOz, _, hbz⟩ := HST9.out
    have Bgo := hBg.out
    have HOz := hid (show Own w.heap.size _ bz [.slice pz lz cz] (stepB d x d.Y) by rw [HE.out]; exact hOz.mono (show w.heap.size ≤ w.heap.size + 1 by omega)); have HBz := hid hbz
    clear hOz hbz hBg
    go_wp2_with (go_at_call 33; refine (i_in _ _ _ _).mono ?_; rintro e w' ⟨rfl, rfl⟩; rw [hn3])
    go_ret
    exact ⟨pz, lz, cz, bz, rfl, HOz.out, HBz.out⟩
  have hxx : (x == d.X) = false := by rw [beq_eq_false_iff_ne]; omega
  have hn1 : 0 < d.X - x := by omega
  have hn2 : ¬ 0 < x - d.X := by omega
  have hwa : wrap64 (d.X - x) = d.X - x := IntWalk.wrap64_in _ (by omega)
  have hwb : wrap64 (x - d.X) = x - d.X := IntWalk.wrap64_in _ (by omega)
  have HE := hid (step_left hw hlt)
  cases hn3 : inB (d.X - x) 1 3
  · have hf : decide (d.X - x ≤ 3) = false := by unfold inB at hn3; simp at hn3 ⊢; omega
    rw [hf, shorter_no] at HE
    clear hf
    cases hx00 : (x == 0)
    · have hf : decide (x = 0) = false := by simpa using hx00
      rw [hf, shorter_no] at HE
      clear hf
      go_enter Tryd.func41, Tryd.ntmps41
      go_wp2_with fail
      refine (i_EmitGoto x (by unfold I64; omega) d.Y (by unfold I64; omega) _ (tab_below HT.out ((Below.refl _ _).alloc (Nat.le_refl _) _))).mono ?_
      rintro e w1 ⟨v, b1, rfl, hO, hb⟩
      obtain ⟨p1, c1, rfl⟩ := hO.slice
      obtain ⟨b1x, hb1x, hOw⟩ := hO.own
      have hz1 : w.heap.size < w1.heap.size := by have := hb.size; simp at this; omega
      have hz1n : ¬ w.heap.size = w1.heap.size := by omega
      have HST0 := hid (show StepSt (w.heap.size + 1) w.heap.size #[.int .i64 d.W, .int .i64 d.H, .slice a2 d.Cells.length k2, .int .i64 d.X, .int .i64 d.Y, .bool false] w1.heap.size w (w1.alloc (.cells #[.slice p1 (gotoB x d.Y).length c1] 32)) (gotoB x d.Y) from ⟨p1, _, c1, b1x, ((Bx.new w _ _ rfl).below hb (by simp)).alloc hz1 _, by simp; omega, Bx.new _ _ _ rfl, by simp, (hOw.alloc _).mono (by simp), fun b hb9 => by have := (hO.lts b (hb1x b hb9)).2; omega, ((((Below.refl w.heap.size w).alloc (Nat.le_refl _) _).trans (hb.mono (by simp))).alloc (by omega) _)⟩)
      have B0o := HST0.out.base.1.out
      clear hO hOw hb1x hb
      go_wp2_with fail
      refine (i_NumText (d.X - x) (by unfold I64; omega) _ (tab_below HT.out HST0.out.base.2)).mono ?_
      rintro e w2 ⟨rfl, hb⟩
      have HST1 := hid (HST0.out.below hb)
      obtain ⟨X, hX⟩ : ∃ X, X = numText (d.X - x) := ⟨_, rfl⟩
      have sX : X.size ≤ 21 := by rw [hX]; exact numText_size _
      rw [← hX]
      have HXX := hid hX
      clear hb B0o hX
      have B0o := HST1.out.base.1.out
      go_wp2_with fail
      refine (i_escape _ ?_ _).mono ?_
      · have q1 : (⟨#[68]⟩ : ByteArray).size = 1 := rfl
        simp; omega
      rintro e w3 ⟨v, b3, rfl, hO, hb⟩
      obtain ⟨p3, c3, rfl⟩ := hO.slice
      obtain ⟨b3x, hb3x, hOw⟩ := hO.own
      have HST2 := hid (HST1.out.below hb)
      have HOW := hid (hOw.mono (show w.heap.size + 1 ≤ w2.heap.size by have := HST1.out.base.2.size; obtain ⟨_, _, _, _, _, h9, _⟩ := HST1.out; omega))
      have HLT := hid (fun b (hb9 : b ∈ b3x) => (hO.lts b (hb3x b hb9)).1)
      have HG2 : Hid (w1.heap.size < w2.heap.size) := hid (by obtain ⟨_, _, _, _, _, _, _, h9, _⟩ := HST1.out; exact h9)
      clear hb B0o hO hOw hb3x
      have B0o := HST2.out.base.1.out
      go_wp2_with fail
      refine (i_try HST2.out HOW.out (fun b hb9 => by have := HLT.out b hb9; have := HG2.out; omega) hz1n (by omega)).mono ?_
      rintro e w4 ⟨rfl, hst⟩
      have HST4 := hid hst
      rw [show escB (X ++ ⟨#[68]⟩) = wayD d x by rw [HXX.out]; rfl] at HST4
      clear hst B0o HXX sX
      have B0o := HST4.out.base.1.out
      obtain ⟨pz, lz, cz, bz, _, _, hBg, _, hOz, _, hbz⟩ := HST4.out
      have Bgo := hBg.out
      have HOz := hid (show Own w.heap.size _ bz [.slice pz lz cz] (stepB d x d.Y) by rw [HE.out]; exact hOz.mono (show w.heap.size ≤ w.heap.size + 1 by omega)); have HBz := hid hbz
      clear hOz hbz hBg
      go_wp2_with (go_at_call 33; refine (i_in _ _ _ _).mono ?_; rintro e w' ⟨rfl, rfl⟩; rw [hn3])
      go_ret
      exact ⟨pz, lz, cz, bz, rfl, HOz.out, HBz.out⟩
    · have hf : decide (x = 0) = true := by simpa using hx00
      rw [hf] at HE
      clear hf
      go_enter Tryd.func41, Tryd.ntmps41
      go_wp2_with fail
      refine (i_EmitGoto x (by unfold I64; omega) d.Y (by unfold I64; omega) _ (tab_below HT.out ((Below.refl _ _).alloc (Nat.le_refl _) _))).mono ?_
      rintro e w1 ⟨v, b1, rfl, hO, hb⟩
      obtain ⟨p1, c1, rfl⟩ := hO.slice
      obtain ⟨b1x, hb1x, hOw⟩ := hO.own
      have hz1 : w.heap.size < w1.heap.size := by have := hb.size; simp at this; omega
      have hz1n : ¬ w.heap.size = w1.heap.size := by omega
      have HST0 := hid (show StepSt (w.heap.size + 1) w.heap.size #[.int .i64 d.W, .int .i64 d.H, .slice a2 d.Cells.length k2, .int .i64 d.X, .int .i64 d.Y, .bool false] w1.heap.size w (w1.alloc (.cells #[.slice p1 (gotoB x d.Y).length c1] 32)) (gotoB x d.Y) from ⟨p1, _, c1, b1x, ((Bx.new w _ _ rfl).below hb (by simp)).alloc hz1 _, by simp; omega, Bx.new _ _ _ rfl, by simp, (hOw.alloc _).mono (by simp), fun b hb9 => by have := (hO.lts b (hb1x b hb9)).2; omega, ((((Below.refl w.heap.size w).alloc (Nat.le_refl _) _).trans (hb.mono (by simp))).alloc (by omega) _)⟩)
      have B0o := HST0.out.base.1.out
      clear hO hOw hb1x hb
      go_wp2_with fail
      refine (i_NumText (d.X - x) (by unfold I64; omega) _ (tab_below HT.out HST0.out.base.2)).mono ?_
      rintro e w2 ⟨rfl, hb⟩
      have HST1 := hid (HST0.out.below hb)
      obtain ⟨X, hX⟩ : ∃ X, X = numText (d.X - x) := ⟨_, rfl⟩
      have sX : X.size ≤ 21 := by rw [hX]; exact numText_size _
      rw [← hX]
      have HXX := hid hX
      clear hb B0o hX
      have B0o := HST1.out.base.1.out
      go_wp2_with fail
      refine (i_escape _ ?_ _).mono ?_
      · have q1 : (⟨#[68]⟩ : ByteArray).size = 1 := rfl
        simp; omega
      rintro e w3 ⟨v, b3, rfl, hO, hb⟩
      obtain ⟨p3, c3, rfl⟩ := hO.slice
      obtain ⟨b3x, hb3x, hOw⟩ := hO.own
      have HST2 := hid (HST1.out.below hb)
      have HOW := hid (hOw.mono (show w.heap.size + 1 ≤ w2.heap.size by have := HST1.out.base.2.size; obtain ⟨_, _, _, _, _, h9, _⟩ := HST1.out; omega))
      have HLT := hid (fun b (hb9 : b ∈ b3x) => (hO.lts b (hb3x b hb9)).1)
      have HG2 : Hid (w1.heap.size < w2.heap.size) := hid (by obtain ⟨_, _, _, _, _, _, _, h9, _⟩ := HST1.out; exact h9)
      clear hb B0o hO hOw hb3x
      have B0o := HST2.out.base.1.out
      go_wp2_with fail
      refine (i_try HST2.out HOW.out (fun b hb9 => by have := HLT.out b hb9; have := HG2.out; omega) hz1n (by omega)).mono ?_
      rintro e w4 ⟨rfl, hst⟩
      have HST4 := hid hst
      rw [show escB (X ++ ⟨#[68]⟩) = wayD d x by rw [HXX.out]; rfl] at HST4
      clear hst B0o HXX sX
      have B0o := HST4.out.base.1.out
      have HO13 := hid (own_cr (lo := w.heap.size + 1) (e := 5) w4 (by obtain ⟨_, _, _, _, _, h9, _⟩ := HST4.out; omega) rfl)
      have HSTc := hid (HST4.out.below ((Below.refl _ _).alloc (Nat.le_refl _) (.cells #[.int .u8 13] 5)))
      have HGc : Hid (w1.heap.size < (w4).heap.size) := hid (by obtain ⟨_, _, _, _, _, _, _, h9, _⟩ := HST4.out; exact h9)
      go_wp2_with (go_at_call 33; refine (i_in _ _ _ _).mono ?_; rintro e w' ⟨rfl, rfl⟩; rw [hn3])
      refine (i_try HSTc.out HO13.out (fun b hb9 => by have := HGc.out; simp at hb9; omega) hz1n (by omega)).mono ?_
      rintro e w6 ⟨rfl, hst⟩
      have HST9 := hid hst
      clear hst B0o
      have B0o := HST9.out.base.1.out
      obtain ⟨pz, lz, cz, bz, _, _, hBg, _, hOz, _, hbz⟩ := HST9.out
      have Bgo := hBg.out
      have HOz := hid (show Own w.heap.size _ bz [.slice pz lz cz] (stepB d x d.Y) by rw [HE.out]; exact hOz.mono (show w.heap.size ≤ w.heap.size + 1 by omega)); have HBz := hid hbz
      clear hOz hbz hBg
      go_wp2
      go_ret
      exact ⟨pz, lz, cz, bz, rfl, HOz.out, HBz.out⟩
  · have hf : decide (d.X - x ≤ 3) = true := by unfold inB at hn3; simp at hn3 ⊢; omega
    rw [hf] at HE
    clear hf
    cases hx00 : (x == 0)
    · have hf : decide (x = 0) = false := by simpa using hx00
      rw [hf, shorter_no] at HE
      clear hf
      go_enter Tryd.func41, Tryd.ntmps41
      go_wp2_with fail
      refine (i_EmitGoto x (by unfold I64; omega) d.Y (by unfold I64; omega) _ (tab_below HT.out ((Below.refl _ _).alloc (Nat.le_refl _) _))).mono ?_
      rintro e w1 ⟨v, b1, rfl, hO, hb⟩
      obtain ⟨p1, c1, rfl⟩ := hO.slice
      obtain ⟨b1x, hb1x, hOw⟩ := hO.own
      have hz1 : w.heap.size < w1.heap.size := by have := hb.size; simp at this; omega
      have hz1n : ¬ w.heap.size = w1.heap.size := by omega
      have HST0 := hid (show StepSt (w.heap.size + 1) w.heap.size #[.int .i64 d.W, .int .i64 d.H, .slice a2 d.Cells.length k2, .int .i64 d.X, .int .i64 d.Y, .bool false] w1.heap.size w (w1.alloc (.cells #[.slice p1 (gotoB x d.Y).length c1] 32)) (gotoB x d.Y) from ⟨p1, _, c1, b1x, ((Bx.new w _ _ rfl).below hb (by simp)).alloc hz1 _, by simp; omega, Bx.new _ _ _ rfl, by simp, (hOw.alloc _).mono (by simp), fun b hb9 => by have := (hO.lts b (hb1x b hb9)).2; omega, ((((Below.refl w.heap.size w).alloc (Nat.le_refl _) _).trans (hb.mono (by simp))).alloc (by omega) _)⟩)
      have B0o := HST0.out.base.1.out
      clear hO hOw hb1x hb
      go_wp2_with fail
      refine (i_NumText (d.X - x) (by unfold I64; omega) _ (tab_below HT.out HST0.out.base.2)).mono ?_
      rintro e w2 ⟨rfl, hb⟩
      have HST1 := hid (HST0.out.below hb)
      obtain ⟨X, hX⟩ : ∃ X, X = numText (d.X - x) := ⟨_, rfl⟩
      have sX : X.size ≤ 21 := by rw [hX]; exact numText_size _
      rw [← hX]
      have HXX := hid hX
      clear hb B0o hX
      have B0o := HST1.out.base.1.out
      go_wp2_with fail
      refine (i_escape _ ?_ _).mono ?_
      · have q1 : (⟨#[68]⟩ : ByteArray).size = 1 := rfl
        simp; omega
      rintro e w3 ⟨v, b3, rfl, hO, hb⟩
      obtain ⟨p3, c3, rfl⟩ := hO.slice
      obtain ⟨b3x, hb3x, hOw⟩ := hO.own
      have HST2 := hid (HST1.out.below hb)
      have HOW := hid (hOw.mono (show w.heap.size + 1 ≤ w2.heap.size by have := HST1.out.base.2.size; obtain ⟨_, _, _, _, _, h9, _⟩ := HST1.out; omega))
      have HLT := hid (fun b (hb9 : b ∈ b3x) => (hO.lts b (hb3x b hb9)).1)
      have HG2 : Hid (w1.heap.size < w2.heap.size) := hid (by obtain ⟨_, _, _, _, _, _, _, h9, _⟩ := HST1.out; exact h9)
      clear hb B0o hO hOw hb3x
      have B0o := HST2.out.base.1.out
      go_wp2_with fail
      refine (i_try HST2.out HOW.out (fun b hb9 => by have := HLT.out b hb9; have := HG2.out; omega) hz1n (by omega)).mono ?_
      rintro e w4 ⟨rfl, hst⟩
      have HST4 := hid hst
      rw [show escB (X ++ ⟨#[68]⟩) = wayD d x by rw [HXX.out]; rfl] at HST4
      clear hst B0o HXX sX
      have B0o := HST4.out.base.1.out
      have hS8 := slc_888 (e := 5) w4
      obtain ⟨a8, b8x, hrun8, hb8, hn8, hS8c⟩ := hS8.cut_h (P := Tryd.prog) 32 (i := iB) Tryd.underlying32 hiB hsB (d.X - x) (by omega) (by unfold inB at hn3; simp at hn3 ⊢; omega)
      have HO8 := hid (own_888 (lo := w.heap.size + 1) (e := 5) w4 (by obtain ⟨_, _, _, _, _, h9, _⟩ := HST4.out; omega) hb8 hn8 hS8c)
      have HST5 := hid (HST4.out.below ((Below.refl _ _).alloc (Nat.le_refl _) (.cells #[.int .u8 8, .int .u8 8, .int .u8 8] 5)))
      have HG5 : Hid (w1.heap.size < w4.heap.size) := hid (by obtain ⟨_, _, _, _, _, _, _, h9, _⟩ := HST4.out; exact h9)
      have HB8 := hid hb8
      have HTK := hid (show ([8, 8, 8] : List UInt8).take (d.X - x).toNat = wayB d x from take_888 (by unfold inB at hn3; simp at hn3; omega))
      clear hS8 hb8 hn8 hS8c
      go_wp2_with (go_at_call 33; refine (i_in _ _ _ _).mono ?_; rintro e w' ⟨rfl, rfl⟩; rw [hn3])
      refine (i_try HST5.out HO8.out (fun b hb9 => by have := HG5.out; have := HB8.out b hb9; simp at this; omega) hz1n (by omega)).mono ?_
      rintro e w5 ⟨rfl, hst⟩
      have HST6 := hid hst
      rw [HTK.out] at HST6
      clear hst B0o hrun8
      have B0o := HST6.out.base.1.out
      obtain ⟨pz, lz, cz, bz, _, _, hBg, _, hOz, _, hbz⟩ := HST6.out
      have Bgo := hBg.out
      have HOz := hid (show Own w.heap.size _ bz [.slice pz lz cz] (stepB d x d.Y) by rw [HE.out]; exact hOz.mono (show w.heap.size ≤ w.heap.size + 1 by omega)); have HBz := hid hbz
      clear hOz hbz hBg
      go_wp2
      go_ret
      exact ⟨pz, lz, cz, bz, rfl, HOz.out, HBz.out⟩
    · have hf : decide (x = 0) = true := by simpa using hx00
      rw [hf] at HE
      clear hf
      go_enter Tryd.func41, Tryd.ntmps41
      go_wp2_with fail
      refine (i_EmitGoto x (by unfold I64; omega) d.Y (by unfold I64; omega) _ (tab_below HT.out ((Below.refl _ _).alloc (Nat.le_refl _) _))).mono ?_
      rintro e w1 ⟨v, b1, rfl, hO, hb⟩
      obtain ⟨p1, c1, rfl⟩ := hO.slice
      obtain ⟨b1x, hb1x, hOw⟩ := hO.own
      have hz1 : w.heap.size < w1.heap.size := by have := hb.size; simp at this; omega
      have hz1n : ¬ w.heap.size = w1.heap.size := by omega
      have HST0 := hid (show StepSt (w.heap.size + 1) w.heap.size #[.int .i64 d.W, .int .i64 d.H, .slice a2 d.Cells.length k2, .int .i64 d.X, .int .i64 d.Y, .bool false] w1.heap.size w (w1.alloc (.cells #[.slice p1 (gotoB x d.Y).length c1] 32)) (gotoB x d.Y) from ⟨p1, _, c1, b1x, ((Bx.new w _ _ rfl).below hb (by simp)).alloc hz1 _, by simp; omega, Bx.new _ _ _ rfl, by simp, (hOw.alloc _).mono (by simp), fun b hb9 => by have := (hO.lts b (hb1x b hb9)).2; omega, ((((Below.refl w.heap.size w).alloc (Nat.le_refl _) _).trans (hb.mono (by simp))).alloc (by omega) _)⟩)
      have B0o := HST0.out.base.1.out
      clear hO hOw hb1x hb
      go_wp2_with fail
      refine (i_NumText (d.X - x) (by unfold I64; omega) _ (tab_below HT.out HST0.out.base.2)).mono ?_
      rintro e w2 ⟨rfl, hb⟩
      have HST1 := hid (HST0.out.below hb)
      obtain ⟨X, hX⟩ : ∃ X, X = numText (d.X - x) := ⟨_, rfl⟩
      have sX : X.size ≤ 21 := by rw [hX]; exact numText_size _
      rw [← hX]
      have HXX := hid hX
      clear hb B0o hX
      have B0o := HST1.out.base.1.out
      go_wp2_with fail
      refine (i_escape _ ?_ _).mono ?_
      · have q1 : (⟨#[68]⟩ : ByteArray).size = 1 := rfl
        simp; omega
      rintro e w3 ⟨v, b3, rfl, hO, hb⟩
      obtain ⟨p3, c3, rfl⟩ := hO.slice
      obtain ⟨b3x, hb3x, hOw⟩ := hO.own
      have HST2 := hid (HST1.out.below hb)
      have HOW := hid (hOw.mono (show w.heap.size + 1 ≤ w2.heap.size by have := HST1.out.base.2.size; obtain ⟨_, _, _, _, _, h9, _⟩ := HST1.out; omega))
      have HLT := hid (fun b (hb9 : b ∈ b3x) => (hO.lts b (hb3x b hb9)).1)
      have HG2 : Hid (w1.heap.size < w2.heap.size) := hid (by obtain ⟨_, _, _, _, _, _, _, h9, _⟩ := HST1.out; exact h9)
      clear hb B0o hO hOw hb3x
      have B0o := HST2.out.base.1.out
      go_wp2_with fail
      refine (i_try HST2.out HOW.out (fun b hb9 => by have := HLT.out b hb9; have := HG2.out; omega) hz1n (by omega)).mono ?_
      rintro e w4 ⟨rfl, hst⟩
      have HST4 := hid hst
      rw [show escB (X ++ ⟨#[68]⟩) = wayD d x by rw [HXX.out]; rfl] at HST4
      clear hst B0o HXX sX
      have B0o := HST4.out.base.1.out
      have hS8 := slc_888 (e := 5) w4
      obtain ⟨a8, b8x, hrun8, hb8, hn8, hS8c⟩ := hS8.cut_h (P := Tryd.prog) 32 (i := iB) Tryd.underlying32 hiB hsB (d.X - x) (by omega) (by unfold inB at hn3; simp at hn3 ⊢; omega)
      have HO8 := hid (own_888 (lo := w.heap.size + 1) (e := 5) w4 (by obtain ⟨_, _, _, _, _, h9, _⟩ := HST4.out; omega) hb8 hn8 hS8c)
      have HST5 := hid (HST4.out.below ((Below.refl _ _).alloc (Nat.le_refl _) (.cells #[.int .u8 8, .int .u8 8, .int .u8 8] 5)))
      have HG5 : Hid (w1.heap.size < w4.heap.size) := hid (by obtain ⟨_, _, _, _, _, _, _, h9, _⟩ := HST4.out; exact h9)
      have HB8 := hid hb8
      have HTK := hid (show ([8, 8, 8] : List UInt8).take (d.X - x).toNat = wayB d x from take_888 (by unfold inB at hn3; simp at hn3; omega))
      clear hS8 hb8 hn8 hS8c
      go_wp2_with (go_at_call 33; refine (i_in _ _ _ _).mono ?_; rintro e w' ⟨rfl, rfl⟩; rw [hn3])
      refine (i_try HST5.out HO8.out (fun b hb9 => by have := HG5.out; have := HB8.out b hb9; simp at this; omega) hz1n (by omega)).mono ?_
      rintro e w5 ⟨rfl, hst⟩
      have HST6 := hid hst
      rw [HTK.out] at HST6
      clear hst B0o hrun8
      have B0o := HST6.out.base.1.out
      have HO13 := hid (own_cr (lo := w.heap.size + 1) (e := 5) w5 (by obtain ⟨_, _, _, _, _, h9, _⟩ := HST6.out; omega) rfl)
      have HSTc := hid (HST6.out.below ((Below.refl _ _).alloc (Nat.le_refl _) (.cells #[.int .u8 13] 5)))
      have HGc : Hid (w1.heap.size < (w5).heap.size) := hid (by obtain ⟨_, _, _, _, _, _, _, h9, _⟩ := HST6.out; exact h9)
      go_wp2_with fail
      refine (i_try HSTc.out HO13.out (fun b hb9 => by have := HGc.out; simp at hb9; omega) hz1n (by omega)).mono ?_
      rintro e w6 ⟨rfl, hst⟩
      have HST9 := hid hst
      clear hst B0o
      have B0o := HST9.out.base.1.out
      obtain ⟨pz, lz, cz, bz, _, _, hBg, _, hOz, _, hbz⟩ := HST9.out
      have Bgo := hBg.out
      have HOz := hid (show Own w.heap.size _ bz [.slice pz lz cz] (stepB d x d.Y) by rw [HE.out]; exact hOz.mono (show w.heap.size ≤ w.heap.size + 1 by omega)); have HBz := hid hbz
      clear hOz hbz hBg
      go_wp2
      go_ret
      exact ⟨pz, lz, cz, bz, rfl, HOz.out, HBz.out⟩
end Go.Proofs.YtgcdgkiefbbhkaaDoor
