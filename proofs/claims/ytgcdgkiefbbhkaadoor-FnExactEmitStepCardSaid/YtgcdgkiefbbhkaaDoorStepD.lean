/- Moving the cursor by as few bytes as possible: what is computed. -/
import Derived.Test.YtgcdgkiefbbhkaaDoorGridAt
import Derived.Test.YtgcdgkiefbbhkaaDoorGoto
set_option linter.unusedSimpArgs false
set_option linter.unusedVariables false
namespace Go.G6
open Go Go.RowKit Rep
def shorter (a : List UInt8) (ok : Bool) (b : List UInt8) : List UInt8 := if ok = true ∧ a.length ≤ b.length then a else b
theorem shorter_no (a b : List UInt8) : shorter a false b = b := by unfold shorter; rw [if_neg (by simp)]
theorem shorter_yes {a b : List UInt8} (h : a.length ≤ b.length) : shorter a true b = a := by unfold shorter; rw [if_pos ⟨rfl, h⟩]
theorem shorter_not {a b : List UInt8} (ok : Bool) (h : ¬ a.length ≤ b.length) : shorter a ok b = b := by unfold shorter; rw [if_neg (fun q => h q.2)]
theorem shorter_le (a b : List UInt8) (ok : Bool) : (shorter a ok b).length ≤ b.length := by
  unfold shorter; split
  · rename_i h; exact h.2
  · exact Nat.le_refl _
def wayD (d : GridD) (x : Int) : List UInt8 := escB (numText (d.X - x) ++ ⟨#[68]⟩)
def wayC (d : GridD) (x : Int) : List UInt8 := escB (numText (x - d.X) ++ ⟨#[67]⟩)
def wayB (d : GridD) (x : Int) : List UInt8 := List.replicate (d.X - x).toNat 8
/-- The ways, the one named last first; row: on the cursor's row, calm: and not about to wrap. -/
def stepW (row calm : Bool) (d : GridD) (x y : Int) : List UInt8 :=
  shorter [] (calm && decide (x = d.X)) (shorter [13] (row && decide (x = 0)) (shorter (wayB d x) (calm && decide (1 ≤ d.X - x ∧ d.X - x ≤ 3)) (shorter (wayC d x) (calm && decide (d.X < x)) (shorter (wayD d x) (calm && decide (x < d.X)) (gotoB x y)))))
def stepB (d : GridD) (x y : Int) : List UInt8 := stepW (decide (y = d.Y)) (decide (y = d.Y) && !d.Wrap) d x y
def stepOk (d : GridD) (x y : Int) : Bool := gridOk d && gridIn d x y
def emitStep (d : GridD) (x y : Int) : List UInt8 := if stepOk d x y then stepB d x y else []
theorem stepB_len (d : GridD) (x y : Int) : (stepB d x y).length ≤ 46 := by
  unfold stepB stepW
  exact Nat.le_trans (Nat.le_trans (shorter_le _ _ _) (Nat.le_trans (shorter_le _ _ _) (Nat.le_trans (shorter_le _ _ _) (Nat.le_trans (shorter_le _ _ _) (shorter_le _ _ _))))) (gotoB_len x y)
theorem emitStep_len (d : GridD) (x y : Int) : (emitStep d x y).length ≤ 46 := by
  unfold emitStep; split
  · exact stepB_len d x y
  · simp
/-- Off the row. -/
theorem step_off {d : GridD} {x y : Int} (h : y ≠ d.Y) : stepB d x y = gotoB x y := by
  unfold stepB stepW
  rw [show decide (y = d.Y) = false by simpa using h]
  simp [shorter]
/-- About to wrap. -/
theorem step_wrap {d : GridD} {x : Int} (h : d.Wrap = true) : stepB d x d.Y = shorter [13] (decide (x = 0)) (gotoB x d.Y) := by
  unfold stepB stepW
  rw [h, show decide (d.Y = d.Y) = true by simp]
  simp [shorter]
theorem step_left {d : GridD} {x : Int} (h : d.Wrap = false) (hx : x < d.X) : stepB d x d.Y = shorter [13] (decide (x = 0)) (shorter (wayB d x) (decide (d.X - x ≤ 3)) (shorter (wayD d x) true (gotoB x d.Y))) := by
  unfold stepB stepW
  rw [h, show decide (d.Y = d.Y) = true by simp, show decide (x = d.X) = false by simp; omega, show decide (d.X < x) = false by simp; omega, show decide (x < d.X) = true by simp; omega,
    show decide (1 ≤ d.X - x ∧ d.X - x ≤ 3) = decide (d.X - x ≤ 3) by rw [decide_eq_decide]; omega]
  simp only [Bool.true_and, Bool.not_false, shorter_no]
theorem step_right {d : GridD} {x : Int} (h : d.Wrap = false) (hx : d.X < x) (h0 : 0 ≤ d.X) : stepB d x d.Y = shorter (wayC d x) true (gotoB x d.Y) := by
  unfold stepB stepW
  rw [h, show decide (d.Y = d.Y) = true by simp, show decide (x = d.X) = false by simp; omega, show decide (d.X < x) = true by simp; omega, show decide (x < d.X) = false by simp; omega,
    show decide (1 ≤ d.X - x ∧ d.X - x ≤ 3) = false by simp; omega, show decide (x = 0) = false by simp; omega]
  simp only [Bool.true_and, Bool.not_false, shorter_no]
theorem step_here {d : GridD} (h : d.Wrap = false) : stepB d d.X d.Y = [] := by
  unfold stepB stepW
  rw [h, show decide (d.Y = d.Y) = true by simp, show decide (d.X = d.X) = true by simp]
  simp [shorter]
/-- The box of the best way so far, beside the grid's own box. -/
def StepSt (lo b0 : Nat) (c0 : Array Value) (g : Nat) (w W : World) (best : List UInt8) : Prop :=
  ∃ a l c bs, Bx W b0 c0 ∧ b0 < W.heap.size ∧ Bx W g #[.slice a l c] ∧ g < W.heap.size ∧ Own lo W bs [.slice a l c] best ∧ (∀ b ∈ bs, b ≠ g) ∧ Below w.heap.size w W
theorem StepSt.below {lo b0 g : Nat} {c0 : Array Value} {w W W' : World} {best : List UInt8} (h : StepSt lo b0 c0 g w W best) (hb : Below W.heap.size W W') : StepSt lo b0 c0 g w W' best := by
  obtain ⟨a, l, c, bs, h1, h2, h3, h4, h5, h6, h7⟩ := h
  exact ⟨a, l, c, bs, h1.below hb h2, Nat.lt_of_lt_of_le h2 hb.size, h3.below hb h4, Nat.lt_of_lt_of_le h4 hb.size, h5.grow hb, h6, h7.trans (hb.mono h7.size)⟩
theorem StepSt.base {lo b0 g : Nat} {c0 : Array Value} {w W : World} {best : List UInt8} (h : StepSt lo b0 c0 g w W best) : Bx W b0 c0 ∧ Below w.heap.size w W := by
  obtain ⟨a, l, c, bs, h1, h2, h3, h4, h5, h6, h7⟩ := h
  exact ⟨h1, h7⟩
end Go.G6
namespace Go.G6
open Go Go.RowKit Rep
theorem own_cr {lo : Nat} {e : TypeId} (W : World) (h : lo ≤ W.heap.size) {N : Nat} (hN : N = W.heap.size) : Own lo (W.alloc (.cells #[.int .u8 13] e)) [N] [.slice (some ⟨N, 0, none⟩) 1 1] ([13] : List UInt8) := by
  subst hN
  refine ⟨pt_slice.2 ⟨rfl, Nat.le_refl _, by decide, .inr ⟨by simp, W.heap.size, 0, [[]], [.int .u8 13], rfl, by simp, rfl, Elems.single ⟨rfl, rfl⟩, fun j v hv => ?_⟩⟩, by simp, fun b hb => ?_⟩
  · rw [Nat.zero_add, World.cell?_alloc_new]; simpa using hv
  · simp at hb; subst hb; exact ⟨h, _, _, heap_alloc_new W _⟩
theorem slc_888 {e : TypeId} (W : World) : Slc (W.alloc (.cells #[.int .u8 8, .int .u8 8, .int .u8 8] e)) [W.heap.size] (some ⟨W.heap.size, 0, none⟩) 3 3 ([8, 8, 8] : List UInt8) := by
  refine ⟨rfl, Nat.le_refl _, by decide, .inr ⟨by simp, W.heap.size, 0, [[], [], []], [.int .u8 8, .int .u8 8, .int .u8 8], rfl, by simp, rfl, (show Elems _ ([8, 8, 8].map fun (_ : UInt8) => ([] : List Nat)) (([8, 8, 8] : List UInt8).map Scal.val) [8, 8, 8] from elems_scal (fun _ _ => trivial)), fun j v hv => ?_⟩⟩
  rw [Nat.zero_add, World.cell?_alloc_new]; simpa using hv
theorem own_888 {lo : Nat} {e : TypeId} (W : World) (h : lo ≤ W.heap.size) {bs : List Nat} {a : Option Addr} {n c : Nat} {xs : List UInt8} (hb : ∀ b ∈ bs, b ∈ [W.heap.size]) (hn : [W.heap.size].Nodup → bs.Nodup) (hS : Slc (W.alloc (.cells #[.int .u8 8, .int .u8 8, .int .u8 8] e)) bs a n c xs) :
    Own lo (W.alloc (.cells #[.int .u8 8, .int .u8 8, .int .u8 8] e)) bs [.slice a n c] xs :=
  ⟨pt_slice.2 hS, hn (by simp), fun b hb9 => by have := hb b hb9; simp at this; subst this; exact ⟨h, _, _, heap_alloc_new W _⟩⟩
theorem take_888 {n : Int} (h : 1 ≤ n ∧ n ≤ 3) : ([8, 8, 8] : List UInt8).take n.toNat = List.replicate n.toNat 8 := by
  obtain rfl | rfl | rfl : n = 1 ∨ n = 2 ∨ n = 3 := by omega
  all_goals rfl
end Go.G6
namespace Go.G6
open Go Go.RowKit Rep
/-- A list and a flag handed back. -/
def RetSB {α : Type} [Rep α] (w : World) (x : List α) (y : Value) (e : Ending) (w' : World) : Prop := ∃ a len cap bs, e = .returned (.tuple #[.slice a len cap, y]) ∧ Own w.heap.size w' bs [.slice a len cap] x ∧ Below w.heap.size w w'
def RetSPB {α : Type} [Rep α] (w : World) (x : List α) (y : Value) (e : Ending) (w' : World) : Prop := ∃ a len cap bs, e = .returned (.tuple #[.slice a len cap, y]) ∧ pt w' bs [.slice a len cap] x ∧ Below w.heap.size w w'
end Go.G6
