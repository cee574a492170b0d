/- The grid. -/
import Derived.Test.YtffinfpnmohnaaaHelpT
import Derived.Test.YtffinfpnmohnaaaRune
import Derived.Maps.AppendAt
set_option linter.unusedSimpArgs false
set_option linter.unusedVariables false
namespace Go.G6
open Go.RowKit
theorem area_le {x y : Int} (h1 : 0 ≤ x) (h2 : x ≤ 200) (h3 : 0 ≤ y) (h4 : y ≤ 200) : 0 ≤ x * y ∧ x * y ≤ 40000 :=
  ⟨Int.mul_nonneg h1 h3, Int.le_trans (Int.mul_le_mul h2 h4 h3 (by omega)) (by omega)⟩
theorem wrap_area (x y : Int) (h1 : 2 ≤ x) (h2 : x ≤ 200) (h3 : 1 ≤ y) (h4 : y ≤ 200) : wrap64 (x * y) = x * y := by
  have := area_le (x := x) (y := y) (by omega) h2 (by omega) h4
  exact IntWalk.wrap64_in _ (by omega)
theorem At.new (w : World) (c : Array Value) (t : TypeId) {b : Nat} {cells : List Value} (hb : b = w.heap.size) (hc : cells = c.toList) : At (w.alloc (.cells c t)) b 0 cells := by
  subst hb hc
  intro j u hj
  rw [Nat.zero_add]
  refine (World.cell?_alloc_new w c t j).trans ?_
  simpa using hj
theorem At.alloc {w : World} {b off : Nat} {cells : List Value} (h : At w b off cells) (hb : b < w.heap.size) (o : Obj) : At (w.alloc o) b off cells := h.keep (Below.heap_alloc w o b hb)
theorem Fr.new (w : World) (c : Array Value) (t : TypeId) {b : Nat} (hb : b = w.heap.size) : Fr (w.alloc (.cells c t)) b := ⟨c, t, by subst hb; simp only [World.alloc]; exact Array.getElem?_push_size⟩
theorem Fr.alloc {w : World} {b : Nat} (h : Fr w b) (hb : b < w.heap.size) (o : Obj) : Fr (w.alloc o) b := h.keep (Below.heap_alloc w o b hb)
theorem grown_old {w w' : World} {row : Option Nat} {o : Obj} (hg : (w.alloc o).grownBy w' row) (k : Nat) (hk : k < w.heap.size) (hr : ∀ g, row = some g → k < g) : w'.heap[k]? = w.heap[k]? :=
  (hg.block k (by simp; omega) (fun e => by have := hr k e.symm; omega)).trans (Below.heap_alloc w o k hk)
theorem grown_below {w w' : World} {row : Option Nat} {o : Obj} {B : Nat} (hg : (w.alloc o).grownBy w' row) (hB : B ≤ w.heap.size) (hr : ∀ g, row = some g → B ≤ g) : Below B w w' :=
  ⟨hg.os, hg.tape, hg.output, by have := hg.size; simp at this; omega, fun k hk => grown_old hg k (by omega) (fun g e => by have := hr g e; omega)⟩
theorem ownsRow_setCell {w : World} {base : Nat} {e : TypeId} {size : Nat} {v : Value} {n : Nat} {xs : List Value} (h : w.ownsRow base e size v n xs) {p : Addr} (hp : p.block < base) (u : Value) : (w.setCell p u).ownsRow base e size v n xs := by
  obtain ⟨h1, h2⟩ := h
  refine ⟨h1, ?_⟩
  rcases h2 with hn | ⟨g, cap, cur, hv, hb, hg, rest⟩
  · exact .inl hn
  · exact .inr ⟨g, cap, cur, hv, hb, (Below.heap_setCell _ _ _ _ (by omega)).trans hg, rest⟩
theorem ownsRow_slice {w : World} {base : Nat} {e : TypeId} {size : Nat} {v : Value} {n : Nat} {xs : List Value} (h : w.ownsRow base e size v n xs) : ∃ a cap, v = .slice a n cap := by
  rcases h.2 with ⟨rfl, rfl⟩ | ⟨g, cap, cur, rfl, _⟩
  · exact ⟨_, _, rfl⟩
  · exact ⟨_, _, rfl⟩
theorem own_grid0 (lo : Nat) (w : World) : ∃ bs, Own lo w bs [.int .i64 0, .int .i64 0, .slice none 0 0, .int .i64 0, .int .i64 0, .bool false] grid0 := by
  obtain ⟨bs, h⟩ := own_scal (xs := ([] : List Int)) (World.ownsRow_nil w lo 0 1) (by simp)
  exact ⟨bs, own_Grid (d := grid0) (by simp [I64, grid0]) (by simp [I64, grid0]) h (by simp [I64, grid0]) (by simp [I64, grid0])⟩
theorem gridNew_top (x y : Int) : 1 + (gridNew x y).nkv ≤ topK := by
  have h : (gridNew x y).nkv = (gridNew x y).Cells.length := nL_const _ _ fun _ => rfl
  rw [h]
  unfold gridNew
  split
  · rename_i hok
    simp only [gridNewOk, decide_eq_true_eq] at hok
    simp only [List.length_replicate]
    unfold topK
    omega
  · simp [grid0, topK]
end Go.G6
namespace Go.Proofs.Ytffinfpnmohnaaa
open Go.RowKit Go.G6
set_option maxHeartbeats 1600000
set_option maxRecDepth 10000
theorem i_GridNew (x : Int) (hx : I64 x) (y : Int) (hy : I64 y) (w : World) :
    Calls Try.prog 162 #[.int .i64 x, .int .i64 y] w (RetAB w (gridNew x y) (.bool (gridNewOk x y))) := by
  obtain ⟨i0, hi, hz0, hz1, hz2⟩ := info_parts infoIntS
  by_cases hok : gridNewOk x y = true
  rotate_left
  · have hg : Hid (gridNewOk x y = false ∧ gridNew x y = grid0) := hid ⟨by simpa using hok, by simp [gridNew, hok]⟩
    have Hok := hid hok; clear hok
    have hmul : Hid (2 ≤ x → x ≤ 200 → 1 ≤ y → y ≤ 200 → wrap64 (x * y) = x * y) := hid (wrap_area x y)
    go_enter Try.func162, Try.ntmps162
    go_wp2_with (first | (go_at_call 85; refine (i_in _ _ _ _).mono ?_; rintro e w' ⟨rfl, rfl⟩))
    all_goals first
      | (obtain ⟨bs, ho⟩ := own_grid0 w.heap.size (w.alloc (.cells #[.int .i64 0, .int .i64 0, .slice none 0 0, .int .i64 0, .int .i64 0, .bool false] 41))
         refine bodyPost_ret (v := .tuple #[.agg #[.int .i64 0, .int .i64 0, .slice none 0 0, .int .i64 0, .int .i64 0, .bool false], .bool false]) (by simp [results, Try.results162, go_sem]) rfl ?_
         refine ⟨[.int .i64 0, .int .i64 0, .slice none 0 0, .int .i64 0, .int .i64 0, .bool false], bs, by rw [hg.out.1], ?_, ?_⟩
         · rw [hg.out.2]; exact ho
         · exact Below.alloc (Below.refl _ _) (Nat.le_refl _) _)
      | (exfalso; have := Hok.out; have := hmul.out; revert this; simp_all [gridNewOk, inB]; omega)
      | trace_state
  · have hx1 : inB x 2 200 = true ∧ inB y 1 200 = true ∧ x * y ≤ 8000 ∧ 2 ≤ x ∧ x ≤ 200 ∧ 1 ≤ y ∧ y ≤ 200 := by
      simp only [gridNewOk, decide_eq_true_eq] at hok; simp [inB]; omega
    obtain ⟨hx1, hy1, hxy, hx2, hx3, hy2, hy3⟩ := hx1
    have hmul := wrap_area x y hx2 hx3 hy2 hy3
    have har := area_le (x := x) (y := y) (by omega) hx3 (by omega) hy3
    obtain ⟨n, hn⟩ : ∃ n : Nat, x * y = n := ⟨(x * y).toNat, by omega⟩
    have hn8 : n ≤ 8000 := by omega
    have hg : Hid (gridNewOk x y = true ∧ gridNew x y = ⟨x, y, List.replicate n 32, 0, 0, false⟩) := hid ⟨hok, by simp [gridNew, hok, hn]⟩
    clear hok
    go_enter Try.func162, Try.ntmps162
    go_wp2_with (first | (go_at_call 85; refine (i_in _ _ _ _).mono ?_; rintro e w' ⟨rfl, rfl⟩))
    have hB2 : Hid (w.heap.size + 2 ≤ w.heap.size + 2) := hid (Nat.le_refl _)
    go_loopw [28] (fun i wr => ∃ (k : Nat) (v : Value), k ≤ n ∧ i = .int .i64 k ∧ wr.ownsRow (w.heap.size + 2) 3 1 v k (List.replicate k (.int .i64 32)) ∧
        At wr w.heap.size 0 [.int .i64 0, .int .i64 0, .slice none 0 0, .int .i64 0, .int .i64 0, .bool false] ∧ Fr wr w.heap.size ∧
        At wr (w.heap.size + 1) 0 [.int .i64 x, .int .i64 y, v, .int .i64 0, .int .i64 0, .bool false] ∧ Fr wr (w.heap.size + 1) ∧ Below w.heap.size w wr ∧ w.heap.size + 2 ≤ wr.heap.size)
      (fun i _ => n - (intOf i).toNat)
    case atStart =>
      refine ⟨0, _, Nat.zero_le _, rfl, World.ownsRow_nil _ _ _ _, (At.new _ _ _ rfl rfl).alloc (by simp) _, (Fr.new _ _ _ rfl).alloc (by simp) _, At.new _ _ _ (by simp) rfl, Fr.new _ _ _ (by simp), Below.alloc (Below.alloc (Below.refl _ _) (Nat.le_refl _) _) (by simp) _, by simp⟩
    case round =>
      obtain ⟨k, v, hk, rfl, hown, hA1, hF1, hA2, hF2, hnx, hsz⟩ := hrel
      obtain ⟨ao, ko, rfl⟩ := ownsRow_slice hown
      have c0 := hA2 0 _ rfl
      have c1 := hA2 1 _ rfl
      have c2 := hA2 2 _ rfl
      have c3 := hA2 3 _ rfl
      have c4 := hA2 4 _ rfl
      have c5 := hA2 5 _ rfl
      simp only [Nat.zero_add] at c0 c1 c2 c3 c4 c5
      by_cases hlt : k < n
      · go_wp2_with (first
          | (at_builtin; refine wpList_append_own _ rfl _ _ 34 rfl (w.heap.size + 2) 3 i0 (.int .i64 0) 1 8 Try.underlying34 hi hz0 hz1 hz2 rfl (by decide) _ _ _ rfl (hown.alloc _) ⟨wr.heap.size, 0, none⟩ 1 1 [.int .i64 32] rfl rfl (cell_one_new _ _ _) ?c2 ?c3 ?c4 ?c5 ?_))
        case c2 => intro u hu; simp at hu; subst hu; rfl
        case c3 => simp only [maxLen]; omega
        case c4 => omega
        case c5 => simp; omega
        · intro v' w1 hown' hgrow _
          obtain ⟨av, kv, rfl⟩ := ownsRow_slice hown'
          have hrow := fun g hg => (hown.lt g hg).1
          have hk1 := grown_old hgrow w.heap.size (by omega) (fun g hg => by have := hrow g hg; omega)
          have hk2 := grown_old hgrow (w.heap.size + 1) (by omega) (fun g hg => by have := hrow g hg; omega)
          have hb1 := grown_below hgrow (B := w.heap.size) (by omega) (fun g hg => by have := hrow g hg; omega)
          have hA1' := hA1.keep hk1
          have hF1' := hF1.keep hk1
          have hA2' := hA2.keep hk2
          have hF2' := hF2.keep hk2
          have hsz' : w.heap.size + 2 ≤ w1.heap.size := by have := hgrow.size; simp at this; omega
          have hf2 := hF2'.frozen 2
          have d2 := hA2' 2 _ rfl
          simp only [Nat.zero_add] at d2
          replace hnx := hnx.trans hb1
          clear hgrow hk1 hk2 hb1 hA1 hF1 hA2 hF2 c0 c1 c2 c3 c4 c5 hown hrow
          go_wp2
          refine ⟨⟨k + 1, .slice av (k + 1) kv, by omega, rfl, ?_, ?_, hF1'.setCell _ _, ?_, hF2'.setCell _ _, ?_, ?_⟩, by simp [intOf]; omega⟩
          · exact ownsRow_setCell (by rw [List.replicate_succ']; exact hown') (by simp) _
          · exact hA1'.keep (Below.heap_setCell _ _ _ _ (by simp))
          · have := hA2'.setCell 2 (.slice av (k + 1) kv) (by simp)
            simpa using this
          · exact hnx.setCell (by simp) _
          · simpa using hsz'
      · obtain rfl : k = n := by omega
        have f0 := hF1.frozen 0
        have f1 := hF1.frozen 1
        have f2 := hF1.frozen 2
        have f3 := hF1.frozen 3
        have f4 := hF1.frozen 4
        have f5 := hF1.frozen 5
        have d0 := hA1 0 _ rfl
        have d1 := hA1 1 _ rfl
        have d2 := hA1 2 _ rfl
        have d3 := hA1 3 _ rfl
        have d4 := hA1 4 _ rfl
        have d5 := hA1 5 _ rfl
        simp only [Nat.zero_add] at d0 d1 d2 d3 d4 d5
        go_wp2
        have hoz : (((((((wr.setCell ⟨w.heap.size, 0, none⟩ (.int .i64 x)).setCell ⟨w.heap.size, 1, none⟩ (.int .i64 y)).setCell ⟨w.heap.size, 2, none⟩ (.slice ao k ko)).setCell ⟨w.heap.size, 3, none⟩ (.int .i64 0)).setCell ⟨w.heap.size, 4, none⟩ (.int .i64 0)).setCell ⟨w.heap.size, 5, none⟩ (.bool false))).ownsRow (w.heap.size + 2) 3 1 (.slice ao k ko) k (List.replicate k (.int .i64 32)) := by
          iterate 6 refine ownsRow_setCell ?_ (by simp) _
          exact hown
        obtain ⟨bs, ho⟩ := own_scal (xs := List.replicate k (32 : Int)) (by rw [List.length_replicate, List.map_replicate]; exact hoz) (by intro u hu; rw [(List.mem_replicate.1 hu).2]; show I64 32; simp [I64])
        refine bodyPost_ret (v := .tuple #[.agg #[.int .i64 x, .int .i64 y, .slice ao k ko, .int .i64 0, .int .i64 0, .bool false], .bool true]) (by simp [results, Try.results162, go_sem, d0, d1, d2, d3, d4, d5]) rfl ?_
        refine ⟨[.int .i64 x, .int .i64 y, .slice ao k ko, .int .i64 0, .int .i64 0, .bool false], bs, by rw [hg.out.1], ?_, ?_⟩
        · rw [hg.out.2]
          exact own_Grid (d := ⟨x, y, List.replicate k 32, 0, 0, false⟩) hx hy (ho.mono (by omega)) (by simp [I64]) (by simp [I64])
        · iterate 6 refine Below.setCell ?_ (by simp) _
          exact hnx
theorem s_GridNew (x : Int) (hx : I64 x) (y : Int) (hy : I64 y) (w : World) :
    Calls Try.prog 161 #[.int .i64 x, .int .i64 y] w (RetAB w (gridNew x y) (.bool (gridNewOk x y))) := by
  obtain ⟨i0, hi, hz0, hz1, hz2⟩ := info_parts infoIntS
  by_cases hok : gridNewOk x y = true
  rotate_left
  · have hg : Hid (gridNewOk x y = false ∧ gridNew x y = grid0) := hid ⟨by simpa using hok, by simp [gridNew, hok]⟩
    have Hok := hid hok; clear hok
    have hmul : Hid (2 ≤ x → x ≤ 200 → 1 ≤ y → y ≤ 200 → wrap64 (x * y) = x * y) := hid (wrap_area x y)
    go_enter Try.func161, Try.ntmps161
    go_wp2
    all_goals first
      | (obtain ⟨bs, ho⟩ := own_grid0 w.heap.size (w.alloc (.cells #[.int .i64 0, .int .i64 0, .slice none 0 0, .int .i64 0, .int .i64 0, .bool false] 41))
         refine bodyPost_ret (v := .tuple #[.agg #[.int .i64 0, .int .i64 0, .slice none 0 0, .int .i64 0, .int .i64 0, .bool false], .bool false]) (by simp [results, Try.results161, go_sem]) rfl ?_
         refine ⟨[.int .i64 0, .int .i64 0, .slice none 0 0, .int .i64 0, .int .i64 0, .bool false], bs, by rw [hg.out.1], ?_, ?_⟩
         · rw [hg.out.2]; exact ho
         · exact Below.alloc (Below.refl _ _) (Nat.le_refl _) _)
      | (exfalso; have := Hok.out; have := hmul.out; revert this; simp_all [gridNewOk, inB]; omega)
      | trace_state
  · have hx1 : inB x 2 200 = true ∧ inB y 1 200 = true ∧ x * y ≤ 8000 ∧ 2 ≤ x ∧ x ≤ 200 ∧ 1 ≤ y ∧ y ≤ 200 := by
      simp only [gridNewOk, decide_eq_true_eq] at hok; simp [inB]; omega
    obtain ⟨hx1, hy1, hxy, hx2, hx3, hy2, hy3⟩ := hx1
    have hmul := wrap_area x y hx2 hx3 hy2 hy3
    have har := area_le (x := x) (y := y) (by omega) hx3 (by omega) hy3
    obtain ⟨n, hn⟩ : ∃ n : Nat, x * y = n := ⟨(x * y).toNat, by omega⟩
    have hn8 : n ≤ 8000 := by omega
    have hg : Hid (gridNewOk x y = true ∧ gridNew x y = ⟨x, y, List.replicate n 32, 0, 0, false⟩) := hid ⟨hok, by simp [gridNew, hok, hn]⟩
    clear hok
    go_enter Try.func161, Try.ntmps161
    go_wp2
    have hB2 : Hid (w.heap.size + 2 ≤ w.heap.size + 2) := hid (Nat.le_refl _)
    go_loopw [7] (fun i wr => ∃ (k : Nat) (v : Value), k ≤ n ∧ i = .int .i64 k ∧ wr.ownsRow (w.heap.size + 2) 3 1 v k (List.replicate k (.int .i64 32)) ∧
        At wr w.heap.size 0 [.int .i64 0, .int .i64 0, .slice none 0 0, .int .i64 0, .int .i64 0, .bool false] ∧ Fr wr w.heap.size ∧
        At wr (w.heap.size + 1) 0 [.int .i64 x, .int .i64 y, v, .int .i64 0, .int .i64 0, .bool false] ∧ Fr wr (w.heap.size + 1) ∧ Below w.heap.size w wr ∧ w.heap.size + 2 ≤ wr.heap.size)
      (fun i _ => n - (intOf i).toNat)
    case atStart =>
      refine ⟨0, _, Nat.zero_le _, rfl, World.ownsRow_nil _ _ _ _, (At.new _ _ _ rfl rfl).alloc (by simp) _, (Fr.new _ _ _ rfl).alloc (by simp) _, At.new _ _ _ (by simp) rfl, Fr.new _ _ _ (by simp), Below.alloc (Below.alloc (Below.refl _ _) (Nat.le_refl _) _) (by simp) _, by simp⟩
    case round =>
      obtain ⟨k, v, hk, rfl, hown, hA1, hF1, hA2, hF2, hnx, hsz⟩ := hrel
      obtain ⟨ao, ko, rfl⟩ := ownsRow_slice hown
      have c0 := hA2 0 _ rfl
      have c1 := hA2 1 _ rfl
      have c2 := hA2 2 _ rfl
      have c3 := hA2 3 _ rfl
      have c4 := hA2 4 _ rfl
      have c5 := hA2 5 _ rfl
      simp only [Nat.zero_add] at c0 c1 c2 c3 c4 c5
      by_cases hlt : k < n
      · go_wp2_with (first
          | (at_builtin; refine wpList_append_own _ rfl _ _ 34 rfl (w.heap.size + 2) 3 i0 (.int .i64 0) 1 8 Try.underlying34 hi hz0 hz1 hz2 rfl (by decide) _ _ _ rfl (hown.alloc _) ⟨wr.heap.size, 0, none⟩ 1 1 [.int .i64 32] rfl rfl (cell_one_new _ _ _) ?c2 ?c3 ?c4 ?c5 ?_))
        case c2 => intro u hu; simp at hu; subst hu; rfl
        case c3 => simp only [maxLen]; omega
        case c4 => omega
        case c5 => simp; omega
        · intro v' w1 hown' hgrow _
          obtain ⟨av, kv, rfl⟩ := ownsRow_slice hown'
          have hrow := fun g hg => (hown.lt g hg).1
          have hk1 := grown_old hgrow w.heap.size (by omega) (fun g hg => by have := hrow g hg; omega)
          have hk2 := grown_old hgrow (w.heap.size + 1) (by omega) (fun g hg => by have := hrow g hg; omega)
          have hb1 := grown_below hgrow (B := w.heap.size) (by omega) (fun g hg => by have := hrow g hg; omega)
          have hA1' := hA1.keep hk1
          have hF1' := hF1.keep hk1
          have hA2' := hA2.keep hk2
          have hF2' := hF2.keep hk2
          have hsz' : w.heap.size + 2 ≤ w1.heap.size := by have := hgrow.size; simp at this; omega
          have hf2 := hF2'.frozen 2
          have d2 := hA2' 2 _ rfl
          simp only [Nat.zero_add] at d2
          replace hnx := hnx.trans hb1
          clear hgrow hk1 hk2 hb1 hA1 hF1 hA2 hF2 c0 c1 c2 c3 c4 c5 hown hrow
          go_wp2
          refine ⟨⟨k + 1, .slice av (k + 1) kv, by omega, rfl, ?_, ?_, hF1'.setCell _ _, ?_, hF2'.setCell _ _, ?_, ?_⟩, by simp [intOf]; omega⟩
          · exact ownsRow_setCell (by rw [List.replicate_succ']; exact hown') (by simp) _
          · exact hA1'.keep (Below.heap_setCell _ _ _ _ (by simp))
          · have := hA2'.setCell 2 (.slice av (k + 1) kv) (by simp)
            simpa using this
          · exact hnx.setCell (by simp) _
          · simpa using hsz'
      · obtain rfl : k = n := by omega
        have f0 := hF1.frozen 0
        have f1 := hF1.frozen 1
        have f2 := hF1.frozen 2
        have f3 := hF1.frozen 3
        have f4 := hF1.frozen 4
        have f5 := hF1.frozen 5
        have d0 := hA1 0 _ rfl
        have d1 := hA1 1 _ rfl
        have d2 := hA1 2 _ rfl
        have d3 := hA1 3 _ rfl
        have d4 := hA1 4 _ rfl
        have d5 := hA1 5 _ rfl
        simp only [Nat.zero_add] at d0 d1 d2 d3 d4 d5
        go_wp2
        have hoz : (((((((wr.setCell ⟨w.heap.size, 0, none⟩ (.int .i64 x)).setCell ⟨w.heap.size, 1, none⟩ (.int .i64 y)).setCell ⟨w.heap.size, 2, none⟩ (.slice ao k ko)).setCell ⟨w.heap.size, 3, none⟩ (.int .i64 0)).setCell ⟨w.heap.size, 4, none⟩ (.int .i64 0)).setCell ⟨w.heap.size, 5, none⟩ (.bool false))).ownsRow (w.heap.size + 2) 3 1 (.slice ao k ko) k (List.replicate k (.int .i64 32)) := by
          iterate 6 refine ownsRow_setCell ?_ (by simp) _
          exact hown
        obtain ⟨bs, ho⟩ := own_scal (xs := List.replicate k (32 : Int)) (by rw [List.length_replicate, List.map_replicate]; exact hoz) (by intro u hu; rw [(List.mem_replicate.1 hu).2]; show I64 32; simp [I64])
        refine bodyPost_ret (v := .tuple #[.agg #[.int .i64 x, .int .i64 y, .slice ao k ko, .int .i64 0, .int .i64 0, .bool false], .bool true]) (by simp [results, Try.results161, go_sem, d0, d1, d2, d3, d4, d5]) rfl ?_
        refine ⟨[.int .i64 x, .int .i64 y, .slice ao k ko, .int .i64 0, .int .i64 0, .bool false], bs, by rw [hg.out.1], ?_, ?_⟩
        · rw [hg.out.2]
          exact own_Grid (d := ⟨x, y, List.replicate k 32, 0, 0, false⟩) hx hy (ho.mono (by omega)) (by simp [I64]) (by simp [I64])
        · iterate 6 refine Below.setCell ?_ (by simp) _
          exact hnx
end Go.Proofs.Ytffinfpnmohnaaa
