/- Moves of the cursor. -/
import Derived.Test.YtcgpgdndnfoabaaGridAt
import Derived.Test.YtcgpgdndnfoabaaCopy
import Derived.BigRegion
import Derived.Lib.MinMax
set_option linter.unusedSimpArgs false
set_option linter.unusedVariables false
namespace Go.G6
open Go.RowKit
def clampI (x m : Int) : Int := max 0 (min x m)
def moveD (d : GridD) (x y : Int) : GridD := { d with X := clampI x (d.W - 1), Y := clampI y (d.H - 1), Wrap := false }
def gridGo (d : GridD) (x y : Int) : GridD := if gridOk d then moveD d x y else grid0
end Go.G6
namespace Go.Proofs.Ytcgpgdndnfoabaa
open Go.RowKit Go.G6
set_option maxHeartbeats 1600000
set_option maxRecDepth 10000
theorem i_moveTo {w : World} {b : Nat} {d : GridD} {v2 : Value} (hB : Bx w b #[.int .i64 d.W, .int .i64 d.H, v2, .int .i64 d.X, .int .i64 d.Y, .bool d.Wrap]) (h1 : 1 ≤ d.W ∧ d.W ≤ 200) (h2 : 1 ≤ d.H ∧ d.H ≤ 200) (x y : Int) (hx : I64 x) (hy : I64 y) :
    Calls Try.prog 43 #[.pointer (some ⟨b, 0, none⟩), .int .i64 x, .int .i64 y] w fun e w' => e = .returned (.tuple #[]) ∧ Bx w' b #[.int .i64 d.W, .int .i64 d.H, v2, .int .i64 (clampI x (d.W - 1)), .int .i64 (clampI y (d.H - 1)), .bool false] ∧ Tch [b] w w' := by
  have HB := hid hB
  have hc := hB.out
  have hf := hB.fr
  have hw6 : wrap64 (d.W - 1) = d.W - 1 := IntWalk.wrap64_in _ (by omega)
  have hw7 : wrap64 (d.H - 1) = d.H - 1 := IntWalk.wrap64_in _ (by omega)
  clear hB
  go_enter Try.func43, Try.ntmps43
  go_wp2_with fail
  generalize hW : w = W at *
  go_region
  all_goals
    go_wp2
    go_end0
    subst hW
    refine ⟨rfl, ?_, ?_⟩
    · exact (((HB.out.setSame 3 _).setSame 4 _).setSame 5 _).drew
    · exact ((((Tch.refl _ _).setCell (by simp) _).setCell (by simp) _).setCell (by simp) _).drewN 1
theorem i_copyGrid {w : World} {bs : List Nat} {cs : List Value} {d : GridD} (h : Rep.pt w bs cs d) (hn : d.Cells.length ≤ 16777216) :
    Calls Try.prog 42 #[.agg cs.toArray] w fun e w' => ∃ v bs', e = .returned (.agg #[.int .i64 d.W, .int .i64 d.H, v, .int .i64 d.X, .int .i64 d.Y, .bool d.Wrap]) ∧ OwnL w.heap.size w' 3 v bs' d.Cells ∧ Below w.heap.size w w' := by
  obtain ⟨a2, l2, k2, rfl, h0, h1, h2, h3, h4⟩ := open_Grid h
  obtain rfl := h2.len_eq
  have H2 := hid h2
  clear h h2
  have INI : ∀ o1 o2, Below w.heap.size w ((w.alloc o1).alloc o2) := fun o1 o2 => ((Below.refl _ _).alloc (Nat.le_refl _) _).alloc (by simp) _
  have HI := hid INI; clear INI
  go_enter Try.func42, Try.ntmps42
  go_wp2_with fail
  refine (i_copyInts (H2.out.grow (HI.out _ _)) hn).mono ?_
  rintro e w1 ⟨v, b1, rfl, hO, hb⟩
  obtain ⟨p, c, rfl⟩ := hO.slice
  have B0 : Bx w1 (w.heap.size) _ := Bx.below (b := w.heap.size) hb (by first | omega | (simp; done) | (simp; omega)) (by repeat (first  | (apply Bx.new; (focus (first | (simp; done) | (simp; omega) | omega))) | (apply Bx.alloc; rotate_left; (focus (first | (simp; done) | (simp; omega) | omega))) | (apply Bx.setOther; rotate_left; (focus (first | (simp; done) | (simp; omega) | omega))) | apply Bx.setSame))
  have B0o := B0.out
  have B0f := B0.fr
  have B1 : Bx w1 (w.heap.size + 1) _ := Bx.below (b := w.heap.size + 1) hb (by first | omega | (simp; done) | (simp; omega)) (by repeat (first  | (apply Bx.new; (focus (first | (simp; done) | (simp; omega) | omega))) | (apply Bx.alloc; rotate_left; (focus (first | (simp; done) | (simp; omega) | omega))) | (apply Bx.setOther; rotate_left; (focus (first | (simp; done) | (simp; omega) | omega))) | apply Bx.setSame))
  have B1o := B1.out
  have B1f := B1.fr
  have hs1 : w.heap.size + 2 ≤ w1.heap.size := by have := hb.size; simpa using this
  have HO2 : Hid (OwnL (w.heap.size + 2) w1 3 (.slice p d.Cells.length c) b1 d.Cells) := hid (hO.mono (by simp))
  have HB := hid (below_call (HI.out _ _) hb)
  clear hb hO
  go_wp2
  refine bodyPost_ret (v := .agg #[.int .i64 d.W, .int .i64 d.H, .slice p d.Cells.length c, .int .i64 d.X, .int .i64 d.Y, .bool d.Wrap]) (by simp [results, Try.results42, go_sem, B1o, B0o]) rfl ?_
  refine ⟨_, b1, rfl, ?_, ?_⟩
  · refine OwnL.mono (lo := w.heap.size + 2) ?_ (by omega)
    repeat (first | with_reducible exact HO2.out | ((with_reducible apply OwnL.setLow); rotate_left; (first | exact Nat.lt_succ_self _ | exact Nat.lt_add_of_pos_right (by decide) | (simp; done) | (simp; omega))))
  · (repeat (first | with_reducible exact HB.out | ((with_reducible apply Below.setCell); rotate_left; (first | exact Nat.le_refl _ | exact Nat.le_succ _ | (simp; done)))))
theorem i_GridGo {w : World} {bs : List Nat} {cs : List Value} {d : GridD} (h : Rep.pt w bs cs d) (x : Int) (hx : I64 x) (y : Int) (hy : I64 y) :
    Calls Try.prog 12 #[.agg cs.toArray, .int .i64 x, .int .i64 y] w (RetA w (gridGo d x y)) := by
  have H := hid h
  obtain ⟨a2, l2, k2, rfl, h0, h1, h2, h3, h4⟩ := open_Grid h
  obtain rfl := h2.len_eq
  clear h h2
  have INI : ∀ o1 o2, Below w.heap.size w ((w.alloc o1).alloc o2) := fun o1 o2 => ((Below.refl _ _).alloc (Nat.le_refl _) _).alloc (by simp) _
  have HI := hid INI; clear INI
  cases hg : gridOk d
  · have E : Hid (gridGo d x y = grid0) := hid (by simp [gridGo, hg])
    have HG := hid hg; clear hg
    go_enter Try.func12, Try.ntmps12
    go_wp2_with fail
    refine (i_GridOk (grow H.out (HI.out _ _))).mono ?_
    rintro e w1 ⟨rfl, hb⟩
    have B1 : Bx w1 (w.heap.size + 1) _ := Bx.below (b := w.heap.size + 1) hb (by first | omega | (simp; done) | (simp; omega)) (by repeat (first  | (apply Bx.new; (focus (first | (simp; done) | (simp; omega) | omega))) | (apply Bx.alloc; rotate_left; (focus (first | (simp; done) | (simp; omega) | omega))) | (apply Bx.setOther; rotate_left; (focus (first | (simp; done) | (simp; omega) | omega))) | apply Bx.setSame))
    have B1o := B1.out
    have B1f := B1.fr
    have HB := hid (below_call (HI.out _ _) hb)
    clear hb
    rw [HG.out]
    go_wp2
    refine bodyPost_ret (v := .agg #[.int .i64 0, .int .i64 0, .slice none 0 0, .int .i64 0, .int .i64 0, .bool false]) (by simp [results, Try.results12, go_sem, B1o]) rfl ?_
    refine ⟨_, [], rfl, ?_, ?_⟩
    · rw [E.out]
      exact own_Grid (d := grid0) (by simp [I64, grid0]) (by simp [I64, grid0]) (own_nil _ _) (by simp [I64, grid0]) (by simp [I64, grid0])
    · (repeat (first | with_reducible exact HB.out | ((with_reducible apply Below.setCell); rotate_left; (first | exact Nat.le_refl _ | exact Nat.le_succ _ | (simp; done)))))
  have hs := gridOk_shape hg
  have E : Hid (gridGo d x y = moveD d x y) := hid (by simp [gridGo, hg])
  have HS := hid hs
  have HG := hid hg; clear hg hs
  go_enter Try.func12, Try.ntmps12
  go_wp2_with fail
  refine (i_GridOk (grow H.out (HI.out _ _))).mono ?_
  rintro e w1 ⟨rfl, hb⟩
  have B0 : Bx w1 (w.heap.size) _ := Bx.below (b := w.heap.size) hb (by first | omega | (simp; done) | (simp; omega)) (by repeat (first  | (apply Bx.new; (focus (first | (simp; done) | (simp; omega) | omega))) | (apply Bx.alloc; rotate_left; (focus (first | (simp; done) | (simp; omega) | omega))) | (apply Bx.setOther; rotate_left; (focus (first | (simp; done) | (simp; omega) | omega))) | apply Bx.setSame))
  have B0o := B0.out
  have B0f := B0.fr
  have B1 : Bx w1 (w.heap.size + 1) _ := Bx.below (b := w.heap.size + 1) hb (by first | omega | (simp; done) | (simp; omega)) (by repeat (first  | (apply Bx.new; (focus (first | (simp; done) | (simp; omega) | omega))) | (apply Bx.alloc; rotate_left; (focus (first | (simp; done) | (simp; omega) | omega))) | (apply Bx.setOther; rotate_left; (focus (first | (simp; done) | (simp; omega) | omega))) | apply Bx.setSame))
  have B1o := B1.out
  have B1f := B1.fr
  have hs1 : w.heap.size + 2 ≤ w1.heap.size := by have := hb.size; simpa using this
  have HB1 := hid (below_call (HI.out _ _) hb)
  clear hb
  rw [HG.out]
  go_wp2_with fail
  refine (i_copyGrid (grow H.out HB1.out) (by have := HS.out; omega)).mono ?_
  rintro e w2 ⟨v2, b2, rfl, hO, hb⟩
  obtain ⟨p2, k2', rfl⟩ := hO.slice
  replace B0 : Bx w2 (w.heap.size) _ := Bx.below (b := w.heap.size) hb (by first | omega | (simp; done) | (simp; omega)) (by repeat (first  | exact B0 | exact B1 | (apply Bx.new; (focus (first | (simp; done) | (simp; omega) | omega))) | (apply Bx.alloc; rotate_left; (focus (first | (simp; done) | (simp; omega) | omega))) | (apply Bx.setOther; rotate_left; (focus (first | (simp; done) | (simp; omega) | omega))) | apply Bx.setSame))
  replace B0o := B0.out
  replace B0f := B0.fr
  replace B1 : Bx w2 (w.heap.size + 1) _ := Bx.below (b := w.heap.size + 1) hb (by first | omega | (simp; done) | (simp; omega)) (by repeat (first  | exact B0 | exact B1 | (apply Bx.new; (focus (first | (simp; done) | (simp; omega) | omega))) | (apply Bx.alloc; rotate_left; (focus (first | (simp; done) | (simp; omega) | omega))) | (apply Bx.setOther; rotate_left; (focus (first | (simp; done) | (simp; omega) | omega))) | apply Bx.setSame))
  replace B1o := B1.out
  replace B1f := B1.fr
  have hs2 : w1.heap.size ≤ w2.heap.size := hb.size
  have HO2 := hid hO
  have HB2 := hid (below_call HB1.out hb)
  clear hb hO
  have hss : w.heap.size + 2 ≤ w2.heap.size := by omega
  go_wp2_with fail
  refine (i_moveTo (d := d) (v2 := .slice p2 d.Cells.length k2') (Bx.new _ _ _ rfl) ⟨by have := HS.out; omega, by have := HS.out; omega⟩ ⟨by have := HS.out; omega, by have := HS.out; omega⟩ x y hx hy).mono ?_
  rintro e w3 ⟨rfl, BM, hT⟩
  have hR : ∀ z ∈ [w2.heap.size], z = w2.heap.size := by simp
  replace B1 : Bx w3 (w.heap.size + 1) _ := Bx.tch (b := w.heap.size + 1) hT (by first | omega | (simp; done) | (simp; omega)) (fun hm => by have := hR _ hm; first | omega | (simp at this; done) | (simp at this; omega)) (by repeat (first  | exact B0 | exact B1 | (apply Bx.new; (focus (first | (simp; done) | (simp; omega) | omega))) | (apply Bx.alloc; rotate_left; (focus (first | (simp; done) | (simp; omega) | omega))) | (apply Bx.setOther; rotate_left; (focus (first | (simp; done) | (simp; omega) | omega))) | apply Bx.setSame))
  replace B1o := B1.out
  replace B1f := B1.fr
  have BMo := BM.out
  have hs3 : w2.heap.size + 1 ≤ w3.heap.size := by have := hT.size; simpa using this
  have hne : ¬ w2.heap.size = w.heap.size + 1 := by omega
  have HB3 := hid (below_tch (HB2.out.alloc (by omega) _) hT (by simp; omega))
  have HO3 := hid (OwnL.tch (OwnL.alloc HO2.out _) hT (fun z hz hm => by have := (HO2.out.lts z hz).2; have := hR z hm; omega))
  clear hT
  go_wp2
  refine bodyPost_ret (v := .agg #[.int .i64 d.W, .int .i64 d.H, .slice p2 d.Cells.length k2', .int .i64 (clampI x (d.W - 1)), .int .i64 (clampI y (d.H - 1)), .bool false]) (by simp [results, Try.results12, go_sem, B1o]) rfl ?_
  obtain ⟨b2x, hbx, hOw⟩ := HO3.out.own
  refine ⟨_, b2x, rfl, ?_, ?_⟩
  · rw [E.out]
    have hs := HS.out
    refine own_Grid (d := moveD d x y) h0 h1 ?_ (by show I64 (clampI _ _); unfold I64 clampI; omega) (by show I64 (clampI _ _); unfold I64 clampI; omega)
    refine Own.mono (lo := w1.heap.size) ?_ (by omega)
    (repeat ((with_reducible apply Own.setCell); rotate_left; (show w.heap.size + 1 < w1.heap.size; omega)))
    exact hOw
  · (repeat (first | with_reducible exact HB3.out | ((with_reducible apply Below.setCell); rotate_left; (first | exact Nat.le_refl _ | exact Nat.le_succ _ | (simp; done)))))
end Go.Proofs.Ytcgpgdndnfoabaa
