/- Moves of the cursor. -/
import Derived.Test.YtffinfpnmohnaaaGridAt
import Derived.Test.YtffinfpnmohnaaaCopy
import Derived.BigRegion
import Derived.Lib.MinMax
set_option linter.unusedSimpArgs false
set_option linter.unusedVariables false
namespace Go.G6
open Go.RowKit
def clampI (x m : Int) : Int := max 0 (min x m)
def moveD (d : GridD) (x y : Int) : GridD := { d with X := clampI x (d.W - 1), Y := clampI y (d.H - 1), Wrap := false }
def gridGo (d : GridD) (x y : Int) : GridD := if gridOk d then moveD d x y else grid0
end Go.G6
namespace Go.Proofs.Ytffinfpnmohnaaa
open Go.RowKit Go.G6
set_option maxHeartbeats 1600000
set_option maxRecDepth 10000
theorem i_copyGrid {w : World} {bs : List Nat} {cs : List Value} {d : GridD} (h : Rep.pt w bs cs d) (hn : d.Cells.length ≤ 16777216) :
    Calls Try.prog 99 #[.agg cs.toArray] w fun e w' => ∃ v bs', e = .returned (.agg #[.int .i64 d.W, .int .i64 d.H, v, .int .i64 d.X, .int .i64 d.Y, .bool d.Wrap]) ∧ OwnL w.heap.size w' 3 v bs' d.Cells ∧ Below w.heap.size w w' := by
  obtain ⟨a2, l2, k2, rfl, h0, h1, h2, h3, h4⟩ := open_Grid h
  obtain rfl := h2.len_eq
  have H2 := hid h2
  clear h h2
  have INI : ∀ o1 o2, Below w.heap.size w ((w.alloc o1).alloc o2) := fun o1 o2 => ((Below.refl _ _).alloc (Nat.le_refl _) _).alloc (by simp) _
  have HI := hid INI; clear INI
  go_enter Try.func99, Try.ntmps99
  go_wp2_with fail
  refine (i_copyInts (H2.out.grow (HI.out _ _)) hn).mono ?_
  rintro e w1 ⟨v, b1, rfl, hO, hb⟩
  obtain ⟨p, c, rfl⟩ := hO.slice
  have B0 : Bx w1 (w.heap.size) _ := Bx.below (b := w.heap.size) hb (by first | omega | (simp; done) | (simp; omega)) (by repeat (first  | (apply Bx.new; (focus (first | (simp; done) | (simp; omega) | omega))) | (apply Bx.alloc; rotate_left; (focus (first | (simp; done) | (simp; omega) | omega))) | (apply Bx.setOther; rotate_left; (focus (first | (simp; done) | (simp; omega) | omega))) | apply Bx.setSame))
  have B0o := B0.out
  have B0f := B0.fr
  have B1 : Bx w1 (w.heap.size + 1) _ := Bx.below (b := w.heap.size + 1) hb (by first | omega | (simp; done) | (simp; omega)) (by repeat (first  | (apply Bx.new; (focus (first | (simp; done) | (simp; omega) | omega))) | (apply Bx.alloc; rotate_left; (focus (first | (simp; done) | (simp; omega) | omega))) | (apply Bx.setOther; rotate_left; (focus (first | (simp; done) | (simp; omega) | omega))) | apply Bx.setSame))
  have B1o := B1.out
  have B1f := B1.fr
  have hs1 : w.heap.size + 2 ≤ w1.heap.size := by have := hb.size; simpa using this
  have HO2 : Hid (OwnL (w.heap.size + 2) w1 3 (.slice p d.Cells.length c) b1 d.Cells) := hid (hO.mono (by simp))
  have HB := hid (below_call (HI.out _ _) hb)
  clear hb hO
  go_wp2
  refine bodyPost_ret (v := .agg #[.int .i64 d.W, .int .i64 d.H, .slice p d.Cells.length c, .int .i64 d.X, .int .i64 d.Y, .bool d.Wrap]) (by simp [results, Try.results99, go_sem, B1o, B0o]) rfl ?_
  refine ⟨_, b1, rfl, ?_, ?_⟩
  · refine OwnL.mono (lo := w.heap.size + 2) ?_ (by omega)
    repeat (first | with_reducible exact HO2.out | ((with_reducible apply OwnL.setLow); rotate_left; (first | exact Nat.lt_succ_self _ | exact Nat.lt_add_of_pos_right (by decide) | (simp; done) | (simp; omega))))
  · (repeat (first | with_reducible exact HB.out | ((with_reducible apply Below.setCell); rotate_left; (first | exact Nat.le_refl _ | exact Nat.le_succ _ | (simp; done)))))
end Go.Proofs.Ytffinfpnmohnaaa
