/- Scrolling: the program's. -/
import Derived.Test.YtladpkeaahimkaaGridSc
set_option linter.unusedSimpArgs false
set_option linter.unusedVariables false
namespace Go.G6
open Go.RowKit
theorem scroll_len {d : GridD} (h : (2 ≤ d.W ∧ d.W ≤ 200) ∧ (1 ≤ d.H ∧ d.H ≤ 200) ∧ d.W * d.H ≤ 8000 ∧ (d.Cells.length : Int) = d.W * d.H) : d.W.toNat ≤ d.Cells.length := by
  have : d.W * 1 ≤ d.W * d.H := Int.mul_le_mul_of_nonneg_left h.2.1.1 (by omega)
  omega
theorem gridScroll_top (d : GridD) : 1 + (gridScroll d).nkv ≤ topK := by
  have h : (gridScroll d).nkv = (gridScroll d).Cells.length := nL_const _ _ fun _ => rfl
  rw [h]
  unfold gridScroll
  split
  · rename_i hok
    have hs := gridOk_shape hok
    have hl := scroll_len hs
    show 1 + (d.Cells.drop d.W.toNat ++ List.replicate d.W.toNat 32).length ≤ topK
    rw [List.length_append, List.length_drop, List.length_replicate]
    unfold topK; omega
  · simp [grid0, topK]
/-- The cell behind scrolling. -/
theorem scroll_at {d : GridD} (k : Nat) (hk : k < d.Cells.length) (hl : d.W.toNat ≤ d.Cells.length) : (scrollD d).Cells[k]? = some (if h : k + d.W.toNat < d.Cells.length then d.Cells[k + d.W.toNat] else 32) := by
  show (d.Cells.drop d.W.toNat ++ List.replicate d.W.toNat 32)[k]? = _
  by_cases h : k + d.W.toNat < d.Cells.length
  · rw [dif_pos h, List.getElem?_append_left (by rw [List.length_drop]; omega), List.getElem?_drop, Nat.add_comm, List.getElem?_eq_getElem h]
  · rw [dif_neg h, List.getElem?_append_right (by rw [List.length_drop]; omega), List.getElem?_replicate, if_pos (by rw [List.length_drop]; omega)]
theorem scroll_full {d : GridD} (hl : d.W.toNat ≤ d.Cells.length) : (scrollD d).Cells.length = d.Cells.length := by
  show (d.Cells.drop d.W.toNat ++ List.replicate d.W.toNat 32).length = _
  rw [List.length_append, List.length_drop, List.length_replicate]; omega
end Go.G6
namespace Go.Proofs.Ytladpkeaahimkaa
open Go.RowKit Go.G6
set_option maxHeartbeats 1600000
set_option maxRecDepth 10000
theorem i_GridScroll {w : World} {bs : List Nat} {cs : List Value} {d : GridD} (h : Rep.pt w bs cs d) :
    Calls Try.prog 41 #[.agg cs.toArray] w (RetA w (gridScroll d)) := by
  have H := hid h
  obtain ⟨a2, l2, k2, rfl, h0, h1, h2, h3, h4⟩ := open_Grid h
  obtain rfl := h2.len_eq
  clear h h2
  have INI : ∀ o1 o2, Below w.heap.size w ((w.alloc o1).alloc o2) := fun o1 o2 => ((Below.refl _ _).alloc (Nat.le_refl _) _).alloc (by simp) _
  have HI := hid INI; clear INI
  cases hg : gridOk d
  · have E : Hid (gridScroll d = grid0) := hid (by simp [gridScroll, hg])
    have HG := hid hg; clear hg
    go_enter Try.func41, Try.ntmps41
    go_wp2_with fail
    refine (i_GridOk (grow H.out (HI.out _ _))).mono ?_
    rintro e w1 ⟨rfl, hb⟩
    have B1 : Bx w1 (w.heap.size + 1) _ := Bx.below (b := w.heap.size + 1) hb (by first | omega | (simp; done) | (simp; omega)) (by repeat (first  | (apply Bx.new; (focus (first | (simp; done) | (simp; omega) | omega))) | (apply Bx.alloc; rotate_left; (focus (first | (simp; done) | (simp; omega) | omega))) | (apply Bx.setOther; rotate_left; (focus (first | (simp; done) | (simp; omega) | omega))) | apply Bx.setSame))
    have B1o := B1.out
    have B1f := B1.fr
    have HB := hid (below_call (HI.out _ _) hb)
    clear hb
    rw [HG.out]
    go_wp2
    refine bodyPost_ret (v := .agg #[.int .i64 0, .int .i64 0, .slice none 0 0, .int .i64 0, .int .i64 0, .bool false]) (by simp [results, Try.results41, go_sem, B1o]) rfl ?_
    refine ⟨_, [], rfl, ?_, ?_⟩
    · rw [E.out]
      exact own_Grid (d := grid0) (by simp [I64, grid0]) (by simp [I64, grid0]) (own_nil _ _) (by simp [I64, grid0]) (by simp [I64, grid0])
    · (repeat (first | with_reducible exact HB.out | ((with_reducible apply Below.setCell); rotate_left; (first | exact Nat.le_refl _ | exact Nat.le_succ _ | (simp; done)))))
  have hs := gridOk_shape hg
  have E : Hid (gridScroll d = scrollD d) := hid (by simp [gridScroll, hg])
  have HS := hid hs
  have HG := hid hg; clear hg hs
  go_enter Try.func41, Try.ntmps41
  go_wp2_with fail
  refine (i_GridOk (grow H.out (HI.out _ _))).mono ?_
  rintro e w1 ⟨rfl, hb⟩
  have B0 : Bx w1 (w.heap.size) _ := Bx.below (b := w.heap.size) hb (by first | omega | (simp; done) | (simp; omega)) (by repeat (first  | (apply Bx.new; (focus (first | (simp; done) | (simp; omega) | omega))) | (apply Bx.alloc; rotate_left; (focus (first | (simp; done) | (simp; omega) | omega))) | (apply Bx.setOther; rotate_left; (focus (first | (simp; done) | (simp; omega) | omega))) | apply Bx.setSame))
  have B0o := B0.out
  have B0f := B0.fr
  have B1 : Bx w1 (w.heap.size + 1) _ := Bx.below (b := w.heap.size + 1) hb (by first | omega | (simp; done) | (simp; omega)) (by repeat (first  | (apply Bx.new; (focus (first | (simp; done) | (simp; omega) | omega))) | (apply Bx.alloc; rotate_left; (focus (first | (simp; done) | (simp; omega) | omega))) | (apply Bx.setOther; rotate_left; (focus (first | (simp; done) | (simp; omega) | omega))) | apply Bx.setSame))
  have B1o := B1.out
  have B1f := B1.fr
  have hs1 : w.heap.size + 2 ≤ w1.heap.size := by have := hb.size; simpa using this
  have HB1 := hid (below_call (HI.out _ _) hb)
  clear hb
  rw [HG.out]
  go_wp2_with fail
  refine (i_copyGrid (grow H.out HB1.out) (by have := HS.out; omega)).mono ?_
  rintro e w2 ⟨v2, b2, rfl, hO, hb⟩
  obtain ⟨p2, k2', bq, rfl, hbq, hO2s⟩ := hO.slc
  replace B0 : Bx w2 (w.heap.size) _ := Bx.below (b := w.heap.size) hb (by first | omega | (simp; done) | (simp; omega)) (by repeat (first  | exact B0 | exact B1 | (apply Bx.new; (focus (first | (simp; done) | (simp; omega) | omega))) | (apply Bx.alloc; rotate_left; (focus (first | (simp; done) | (simp; omega) | omega))) | (apply Bx.setOther; rotate_left; (focus (first | (simp; done) | (simp; omega) | omega))) | apply Bx.setSame))
  replace B0o := B0.out
  replace B0f := B0.fr
  replace B1 : Bx w2 (w.heap.size + 1) _ := Bx.below (b := w.heap.size + 1) hb (by first | omega | (simp; done) | (simp; omega)) (by repeat (first  | exact B0 | exact B1 | (apply Bx.new; (focus (first | (simp; done) | (simp; omega) | omega))) | (apply Bx.alloc; rotate_left; (focus (first | (simp; done) | (simp; omega) | omega))) | (apply Bx.setOther; rotate_left; (focus (first | (simp; done) | (simp; omega) | omega))) | apply Bx.setSame))
  replace B1o := B1.out
  replace B1f := B1.fr
  have hs2 : w1.heap.size ≤ w2.heap.size := hb.size
  have HO2 := hid hO
  have HB2 := hid (below_call HB1.out hb)
  clear hb hO
  have hss : w.heap.size + 2 ≤ w2.heap.size := by omega
  go_wp2_with fail
  have hsh := HS.out
  have HSl := hid (hO2s.grow ((Below.refl w2.heap.size w2).alloc (Nat.le_refl _) (.cells #[.int .i64 d.W, .int .i64 d.H, .slice p2 d.Cells.length k2', .int .i64 d.X, .int .i64 d.Y, .bool d.Wrap] 59)))
  refine (i_scroll (d := d) (W := d.W.toNat) (by omega) ⟨by omega, by omega⟩ ⟨scroll_len hsh, by omega⟩ (Bx.new _ _ _ rfl) (by simp) HSl.out).mono ?_
  rintro e w3 ⟨v3, b3, rfl, BM, hO3, hT⟩
  obtain ⟨p3, k3, rfl⟩ := hO3.slice
  have hR : ∀ z ∈ [w2.heap.size], z = w2.heap.size := by simp
  replace B1 : Bx w3 (w.heap.size + 1) _ := Bx.tch (b := w.heap.size + 1) hT (by first | omega | (simp; done) | (simp; omega)) (fun hm => by have := hR _ hm; first | omega | (simp at this; done) | (simp at this; omega)) (by repeat (first  | exact B0 | exact B1 | (apply Bx.new; (focus (first | (simp; done) | (simp; omega) | omega))) | (apply Bx.alloc; rotate_left; (focus (first | (simp; done) | (simp; omega) | omega))) | (apply Bx.setOther; rotate_left; (focus (first | (simp; done) | (simp; omega) | omega))) | apply Bx.setSame))
  replace B1o := B1.out
  replace B1f := B1.fr
  have BMo := BM.out
  have hs3 : w2.heap.size + 1 ≤ w3.heap.size := by have := hT.size; simpa using this
  have hne : ¬ w2.heap.size = w.heap.size + 1 := by omega
  have HB3 := hid (below_tch (HB2.out.alloc (by omega) _) hT (by simp; omega))
  have HO3 := hid hO3
  clear hT hO3 hsh
  go_wp2
  refine bodyPost_ret (v := .agg #[.int .i64 d.W, .int .i64 d.H, .slice p3 (scrollD d).Cells.length k3, .int .i64 d.X, .int .i64 d.Y, .bool d.Wrap]) (by simp [results, Try.results41, go_sem, B1o]) rfl ?_
  obtain ⟨b2x, hbx, hOw⟩ := HO3.out.own
  refine ⟨_, b2x, rfl, ?_, ?_⟩
  · rw [E.out]
    have hs := HS.out
    refine own_Grid (d := scrollD d) h0 h1 ?_ h3 h4
    refine Own.mono (lo := w2.heap.size) ?_ (by omega)
    (repeat ((with_reducible apply Own.setCell); rotate_left; (show w.heap.size + 1 < w2.heap.size; omega)))
    exact hOw.mono (by simp)
  · (repeat (first | with_reducible exact HB3.out | ((with_reducible apply Below.setCell); rotate_left; (first | exact Nat.le_refl _ | exact Nat.le_succ _ | (simp; done)))))
end Go.Proofs.Ytladpkeaahimkaa
