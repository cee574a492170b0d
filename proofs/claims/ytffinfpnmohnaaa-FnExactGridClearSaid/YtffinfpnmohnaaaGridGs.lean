/- Moves of the cursor, the reference's. -/
import Derived.Test.YtffinfpnmohnaaaGridGo
set_option linter.unusedSimpArgs false
set_option linter.unusedVariables false
namespace Go.G6
open Go.RowKit
theorem gridGo_top (d : GridD) (x y : Int) : 1 + (gridGo d x y).nkv ≤ topK := by
  have h : (gridGo d x y).nkv = (gridGo d x y).Cells.length := nL_const _ _ fun _ => rfl
  rw [h]
  unfold gridGo
  split
  · rename_i hok
    have := gridOk_shape hok
    show 1 + d.Cells.length ≤ topK
    unfold topK; omega
  · simp [grid0, topK]
theorem clamp_low {x m : Int} (h : x < 0) (hm : 0 ≤ m) : clampI x m = 0 := by unfold clampI; omega
theorem clamp_high {x m : Int} (h : m < x) (hm : 0 ≤ m) : clampI x m = m := by unfold clampI; omega
theorem clamp_mid {x m : Int} (h : ¬ x < 0) (h2 : ¬ m < x) : clampI x m = x := by unfold clampI; omega
end Go.G6
namespace Go.Proofs.Ytffinfpnmohnaaa
open Go.RowKit Go.G6
set_option maxHeartbeats 1600000
set_option maxRecDepth 10000
theorem s_l08Copy {w : World} {bs : List Nat} {cs : List Value} {d : GridD} (h : Rep.pt w bs cs d) (hn : d.Cells.length ≤ 16777216) :
    Calls Try.prog 97 #[.agg cs.toArray] w fun e w' => ∃ v bs', e = .returned (.agg #[.int .i64 d.W, .int .i64 d.H, v, .int .i64 d.X, .int .i64 d.Y, .bool d.Wrap]) ∧ OwnL w.heap.size w' 3 v bs' d.Cells ∧ Below w.heap.size w w' := by
  obtain ⟨a2, l2, k2, rfl, h0, h1, h2, h3, h4⟩ := open_Grid h
  obtain rfl := h2.len_eq
  have H2 := hid h2
  clear h h2
  have INI : ∀ o1 o2 o3, Below w.heap.size w (((w.alloc o1).alloc o2).alloc o3) := fun o1 o2 o3 => (((Below.refl _ _).alloc (Nat.le_refl _) _).alloc (by simp) _).alloc (by simp; omega) _
  have HI := hid INI; clear INI
  obtain ⟨i0, hi, hz0, hz1, hz2⟩ := info_parts info_int
  have hO0 : ∀ o1 o2, OwnL (w.heap.size + 1 + 1) (((w.alloc o1).alloc o2).alloc (.cells #[] 3)) 3 (.slice (some ⟨w.heap.size + 1 + 1, 0, none⟩) 0 0) [w.heap.size + 1 + 1] ([] : List Int) := fun o1 o2 => by
    have h := OwnL.lit (lo := w.heap.size + 1 + 1) ((w.alloc o1).alloc o2) 3 #[] ([] : List Int) rfl (by simp) (by simp) (by simp) rfl
    have e : ((w.alloc o1).alloc o2).heap.size = w.heap.size + 1 + 1 := by simp
    rw [e] at h
    exact h
  have HO0 := hid hO0; clear hO0
  go_enter Try.func97, Try.ntmps97
  go_wp2_with (at_builtin; refine wp_append rfl _ _ 34 rfl 3 i0 (.int .i64 0) 8 Try.underlying34 hi hz0 hz1 hz2 rfl rfl (HO0.out _ _) (b2 := []) rfl (H2.out.grow (HI.out _ _ _)).src List.nodup_nil ?q1 ?q2 ?q3 ?q4 ?_)
  case q1 => first | (intro b hb; cases hb) | omega | (simp; done) | (simp; omega)
  case q2 => first | (intro b hb; cases hb) | omega | (simp; done) | (simp; omega)
  case q3 => first | (intro b hb; cases hb) | omega | (simp; done) | (simp; omega)
  case q4 => first | (intro b hb; cases hb) | omega | (simp; done) | (simp; omega)
  intro p c w1 b1 hO hT hb
  have hR : ∀ z ∈ [w.heap.size + 1 + 1], z = w.heap.size + 1 + 1 := by simp
  have B0 : Bx w1 (w.heap.size) _ := Bx.tch (b := w.heap.size) hT (by first | omega | (simp; done) | (simp; omega)) (fun hm => by have := hR _ hm; first | omega | (simp at this; done) | (simp at this; omega)) (by repeat (first  | (apply Bx.new; (focus (first | (simp; done) | (simp; omega) | omega))) | (apply Bx.alloc; rotate_left; (focus (first | (simp; done) | (simp; omega) | omega))) | (apply Bx.setOther; rotate_left; (focus (first | (simp; done) | (simp; omega) | omega))) | apply Bx.setSame))
  have B0o := B0.out
  have B0f := B0.fr
  have B1 : Bx w1 (w.heap.size + 1) _ := Bx.tch (b := w.heap.size + 1) hT (by first | omega | (simp; done) | (simp; omega)) (fun hm => by have := hR _ hm; first | omega | (simp at this; done) | (simp at this; omega)) (by repeat (first  | (apply Bx.new; (focus (first | (simp; done) | (simp; omega) | omega))) | (apply Bx.alloc; rotate_left; (focus (first | (simp; done) | (simp; omega) | omega))) | (apply Bx.setOther; rotate_left; (focus (first | (simp; done) | (simp; omega) | omega))) | apply Bx.setSame))
  have B1o := B1.out
  have B1f := B1.fr
  have hs1 : w.heap.size + 3 ≤ w1.heap.size := by have := hT.size; simpa using this
  have HO2 : Hid (OwnL (w.heap.size + 1 + 1) w1 3 (.slice p d.Cells.length c) b1 d.Cells) := hid (by simpa using hO)
  have HB := hid (below_tch (HI.out _ _ _) hT (by simp; omega))
  clear hb hO hT
  go_wp2
  refine bodyPost_ret (v := .agg #[.int .i64 d.W, .int .i64 d.H, .slice p d.Cells.length c, .int .i64 d.X, .int .i64 d.Y, .bool d.Wrap]) (by simp [results, Try.results97, go_sem, B1o, B0o]) rfl ?_
  refine ⟨_, b1, by first | rfl | (simp; done), ?_, ?_⟩
  · refine OwnL.mono (lo := w.heap.size + 2) ?_ (by omega)
    repeat (first | with_reducible exact HO2.out | ((with_reducible apply OwnL.setLow); rotate_left; (first | exact Nat.lt_succ_self _ | exact Nat.lt_add_of_pos_right (by decide) | (simp; done) | (simp; omega))))
  · (repeat (first | with_reducible exact HB.out | ((with_reducible apply Below.setCell); rotate_left; (first | exact Nat.le_refl _ | exact Nat.le_succ _ | (simp; done)))))
end Go.Proofs.Ytffinfpnmohnaaa
