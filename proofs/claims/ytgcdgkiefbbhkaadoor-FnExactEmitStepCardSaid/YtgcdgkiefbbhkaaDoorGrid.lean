/- The grid. -/
import Derived.Test.YtgcdgkiefbbhkaaDoorHelpT
import Derived.Test.YtgcdgkiefbbhkaaDoorRune
import Derived.Maps.AppendAt
set_option linter.unusedSimpArgs false
set_option linter.unusedVariables false
namespace Go.G6
open Go.RowKit
theorem area_le {x y : Int} (h1 : 0 ≤ x) (h2 : x ≤ 200) (h3 : 0 ≤ y) (h4 : y ≤ 200) : 0 ≤ x * y ∧ x * y ≤ 40000 :=
  ⟨Int.mul_nonneg h1 h3, Int.le_trans (Int.mul_le_mul h2 h4 h3 (by omega)) (by omega)⟩
theorem wrap_area (x y : Int) (h1 : 2 ≤ x) (h2 : x ≤ 200) (h3 : 1 ≤ y) (h4 : y ≤ 200) : wrap64 (x * y) = x * y := by
  have := area_le (x := x) (y := y) (by omega) h2 (by omega) h4
  exact IntWalk.wrap64_in _ (by omega)
theorem At.new (w : World) (c : Array Value) (t : TypeId) {b : Nat} {cells : List Value} (hb : b = w.heap.size) (hc : cells = c.toList) : At (w.alloc (.cells c t)) b 0 cells := by
  subst hb hc
  intro j u hj
  rw [Nat.zero_add]
  refine (World.cell?_alloc_new w c t j).trans ?_
  simpa using hj
theorem At.alloc {w : World} {b off : Nat} {cells : List Value} (h : At w b off cells) (hb : b < w.heap.size) (o : Obj) : At (w.alloc o) b off cells := h.keep (Below.heap_alloc w o b hb)
theorem Fr.new (w : World) (c : Array Value) (t : TypeId) {b : Nat} (hb : b = w.heap.size) : Fr (w.alloc (.cells c t)) b := ⟨c, t, by subst hb; simp only [World.alloc]; exact Array.getElem?_push_size⟩
theorem Fr.alloc {w : World} {b : Nat} (h : Fr w b) (hb : b < w.heap.size) (o : Obj) : Fr (w.alloc o) b := h.keep (Below.heap_alloc w o b hb)
theorem grown_old {w w' : World} {row : Option Nat} {o : Obj} (hg : (w.alloc o).grownBy w' row) (k : Nat) (hk : k < w.heap.size) (hr : ∀ g, row = some g → k < g) : w'.heap[k]? = w.heap[k]? :=
  (hg.block k (by simp; omega) (fun e => by have := hr k e.symm; omega)).trans (Below.heap_alloc w o k hk)
theorem grown_below {w w' : World} {row : Option Nat} {o : Obj} {B : Nat} (hg : (w.alloc o).grownBy w' row) (hB : B ≤ w.heap.size) (hr : ∀ g, row = some g → B ≤ g) : Below B w w' :=
  ⟨hg.os, hg.tape, hg.output, by have := hg.size; simp at this; omega, fun k hk => grown_old hg k (by omega) (fun g e => by have := hr g e; omega)⟩
theorem ownsRow_setCell {w : World} {base : Nat} {e : TypeId} {size : Nat} {v : Value} {n : Nat} {xs : List Value} (h : w.ownsRow base e size v n xs) {p : Addr} (hp : p.block < base) (u : Value) : (w.setCell p u).ownsRow base e size v n xs := by
  obtain ⟨h1, h2⟩ := h
  refine ⟨h1, ?_⟩
  rcases h2 with hn | ⟨g, cap, cur, hv, hb, hg, rest⟩
  · exact .inl hn
  · exact .inr ⟨g, cap, cur, hv, hb, (Below.heap_setCell _ _ _ _ (by omega)).trans hg, rest⟩
theorem ownsRow_slice {w : World} {base : Nat} {e : TypeId} {size : Nat} {v : Value} {n : Nat} {xs : List Value} (h : w.ownsRow base e size v n xs) : ∃ a cap, v = .slice a n cap := by
  rcases h.2 with ⟨rfl, rfl⟩ | ⟨g, cap, cur, rfl, _⟩
  · exact ⟨_, _, rfl⟩
  · exact ⟨_, _, rfl⟩
theorem own_grid0 (lo : Nat) (w : World) : ∃ bs, Own lo w bs [.int .i64 0, .int .i64 0, .slice none 0 0, .int .i64 0, .int .i64 0, .bool false] grid0 := by
  obtain ⟨bs, h⟩ := own_scal (xs := ([] : List Int)) (World.ownsRow_nil w lo 0 1) (by simp)
  exact ⟨bs, own_Grid (d := grid0) (by simp [I64, grid0]) (by simp [I64, grid0]) h (by simp [I64, grid0]) (by simp [I64, grid0])⟩
theorem gridNew_top (x y : Int) : 1 + (gridNew x y).nkv ≤ topK := by
  have h : (gridNew x y).nkv = (gridNew x y).Cells.length := nL_const _ _ fun _ => rfl
  rw [h]
  unfold gridNew
  split
  · rename_i hok
    simp only [gridNewOk, decide_eq_true_eq] at hok
    simp only [List.length_replicate]
    unfold topK
    omega
  · simp [grid0, topK]
end Go.G6
namespace Go.Proofs.YtgcdgkiefbbhkaaDoor
open Go.RowKit Go.G6
set_option maxHeartbeats 1600000
set_option maxRecDepth 10000
end Go.Proofs.YtgcdgkiefbbhkaaDoor
