/- Moves of the cursor, the reference's. -/
import Derived.Test.YtcgpgdndnfoabaaGridGo
set_option linter.unusedSimpArgs false
set_option linter.unusedVariables false
namespace Go.G6
open Go.RowKit
theorem gridGo_top (d : GridD) (x y : Int) : 1 + (gridGo d x y).nkv ≤ topK := by
  have h : (gridGo d x y).nkv = (gridGo d x y).Cells.length := nL_const _ _ fun _ => rfl
  rw [h]
  unfold gridGo
  split
  · rename_i hok
    have := gridOk_shape hok
    show 1 + d.Cells.length ≤ topK
    unfold topK; omega
  · simp [grid0, topK]
theorem clamp_low {x m : Int} (h : x < 0) (hm : 0 ≤ m) : clampI x m = 0 := by unfold clampI; omega
theorem clamp_high {x m : Int} (h : m < x) (hm : 0 ≤ m) : clampI x m = m := by unfold clampI; omega
theorem clamp_mid {x m : Int} (h : ¬ x < 0) (h2 : ¬ m < x) : clampI x m = x := by unfold clampI; omega
end Go.G6
namespace Go.Proofs.Ytcgpgdndnfoabaa
open Go.RowKit Go.G6
set_option maxHeartbeats 1600000
set_option maxRecDepth 10000
theorem s_l08Clamp (x m : Int) (hm : 0 ≤ m) (w : World) :
    Calls Try.prog 39 #[.int .i64 x, .int .i64 m] w fun e w' => e = .returned (.int .i64 (clampI x m)) ∧ w = w' := by
  by_cases h : x < 0
  · have E := hid (clamp_low h hm)
    go_enter Try.func39, Try.ntmps39
    go_wp2
    go_ret
    exact ⟨ret_int (by rw [E.out]), rfl⟩
  by_cases h2 : m < x
  · have E := hid (clamp_high h2 hm)
    go_enter Try.func39, Try.ntmps39
    go_wp2
    go_ret
    exact ⟨ret_int (by rw [E.out]), rfl⟩
  have E := hid (clamp_mid h h2)
  go_enter Try.func39, Try.ntmps39
  go_wp2
  go_ret
  exact ⟨ret_int (by rw [E.out]), rfl⟩
theorem s_l08Copy {w : World} {bs : List Nat} {cs : List Value} {d : GridD} (h : Rep.pt w bs cs d) (hn : d.Cells.length ≤ 16777216) :
    Calls Try.prog 38 #[.agg cs.toArray] w fun e w' => ∃ v bs', e = .returned (.agg #[.int .i64 d.W, .int .i64 d.H, v, .int .i64 d.X, .int .i64 d.Y, .bool d.Wrap]) ∧ OwnL w.heap.size w' 3 v bs' d.Cells ∧ Below w.heap.size w w' := by
  obtain ⟨a2, l2, k2, rfl, h0, h1, h2, h3, h4⟩ := open_Grid h
  obtain rfl := h2.len_eq
  have H2 := hid h2
  clear h h2
  have INI : ∀ o1 o2 o3, Below w.heap.size w (((w.alloc o1).alloc o2).alloc o3) := fun o1 o2 o3 => (((Below.refl _ _).alloc (Nat.le_refl _) _).alloc (by simp) _).alloc (by simp; omega) _
  have HI := hid INI; clear INI
  obtain ⟨i0, hi, hz0, hz1, hz2⟩ := info_parts info_int
  have hO0 : ∀ o1 o2, OwnL (w.heap.size + 1 + 1) (((w.alloc o1).alloc o2).alloc (.cells #[] 3)) 3 (.slice (some ⟨w.heap.size + 1 + 1, 0, none⟩) 0 0) [w.heap.size + 1 + 1] ([] : List Int) := fun o1 o2 => by
    have h := OwnL.lit (lo := w.heap.size + 1 + 1) ((w.alloc o1).alloc o2) 3 #[] ([] : List Int) rfl (by simp) (by simp) (by simp) rfl
    have e : ((w.alloc o1).alloc o2).heap.size = w.heap.size + 1 + 1 := by simp
    rw [e] at h
    exact h
  have HO0 := hid hO0; clear hO0
  go_enter Try.func38, Try.ntmps38
  go_wp2_with (at_builtin; refine wp_append rfl _ _ 22 rfl 3 i0 (.int .i64 0) 8 Try.underlying22 hi hz0 hz1 hz2 rfl rfl (HO0.out _ _) (b2 := []) rfl (H2.out.grow (HI.out _ _ _)).src List.nodup_nil ?q1 ?q2 ?q3 ?q4 ?_)
  case q1 => first | (intro b hb; cases hb) | omega | (simp; done) | (simp; omega)
  case q2 => first | (intro b hb; cases hb) | omega | (simp; done) | (simp; omega)
  case q3 => first | (intro b hb; cases hb) | omega | (simp; done) | (simp; omega)
  case q4 => first | (intro b hb; cases hb) | omega | (simp; done) | (simp; omega)
  intro p c w1 b1 hO hT hb
  have hR : ∀ z ∈ [w.heap.size + 1 + 1], z = w.heap.size + 1 + 1 := by simp
  have B0 : Bx w1 (w.heap.size) _ := Bx.tch (b := w.heap.size) hT (by first | omega | (simp; done) | (simp; omega)) (fun hm => by have := hR _ hm; first | omega | (simp at this; done) | (simp at this; omega)) (by repeat (first  | (apply Bx.new; (focus (first | (simp; done) | (simp; omega) | omega))) | (apply Bx.alloc; rotate_left; (focus (first | (simp; done) | (simp; omega) | omega))) | (apply Bx.setOther; rotate_left; (focus (first | (simp; done) | (simp; omega) | omega))) | apply Bx.setSame))
  have B0o := B0.out
  have B0f := B0.fr
  have B1 : Bx w1 (w.heap.size + 1) _ := Bx.tch (b := w.heap.size + 1) hT (by first | omega | (simp; done) | (simp; omega)) (fun hm => by have := hR _ hm; first | omega | (simp at this; done) | (simp at this; omega)) (by repeat (first  | (apply Bx.new; (focus (first | (simp; done) | (simp; omega) | omega))) | (apply Bx.alloc; rotate_left; (focus (first | (simp; done) | (simp; omega) | omega))) | (apply Bx.setOther; rotate_left; (focus (first | (simp; done) | (simp; omega) | omega))) | apply Bx.setSame))
  have B1o := B1.out
  have B1f := B1.fr
  have hs1 : w.heap.size + 3 ≤ w1.heap.size := by have := hT.size; simpa using this
  have HO2 : Hid (OwnL (w.heap.size + 1 + 1) w1 3 (.slice p d.Cells.length c) b1 d.Cells) := hid (by simpa using hO)
  have HB := hid (below_tch (HI.out _ _ _) hT (by simp; omega))
  clear hb hO hT
  go_wp2
  refine bodyPost_ret (v := .agg #[.int .i64 d.W, .int .i64 d.H, .slice p d.Cells.length c, .int .i64 d.X, .int .i64 d.Y, .bool d.Wrap]) (by simp [results, Try.results38, go_sem, B1o, B0o]) rfl ?_
  refine ⟨_, b1, by first | rfl | (simp; done), ?_, ?_⟩
  · refine OwnL.mono (lo := w.heap.size + 2) ?_ (by omega)
    repeat (first | with_reducible exact HO2.out | ((with_reducible apply OwnL.setLow); rotate_left; (first | exact Nat.lt_succ_self _ | exact Nat.lt_add_of_pos_right (by decide) | (simp; done) | (simp; omega))))
  · (repeat (first | with_reducible exact HB.out | ((with_reducible apply Below.setCell); rotate_left; (first | exact Nat.le_refl _ | exact Nat.le_succ _ | (simp; done)))))
theorem s_GridGo {w : World} {bs : List Nat} {cs : List Value} {d : GridD} (h : Rep.pt w bs cs d) (x : Int) (hx : I64 x) (y : Int) (hy : I64 y) :
    Calls Try.prog 10 #[.agg cs.toArray, .int .i64 x, .int .i64 y] w (RetA w (gridGo d x y)) := by
  have H := hid h
  obtain ⟨a2, l2, k2, rfl, h0, h1, h2, h3, h4⟩ := open_Grid h
  obtain rfl := h2.len_eq
  clear h h2
  have INI : ∀ o1 o2, Below w.heap.size w ((w.alloc o1).alloc o2) := fun o1 o2 => ((Below.refl _ _).alloc (Nat.le_refl _) _).alloc (by simp) _
  have HI := hid INI; clear INI
  cases hg : gridOk d
  · have E : Hid (gridGo d x y = grid0) := hid (by simp [gridGo, hg])
    have HG := hid hg; clear hg
    go_enter Try.func10, Try.ntmps10
    go_wp2_with fail
    refine (s_GridOk (grow H.out (HI.out _ _))).mono ?_
    rintro e w1 ⟨rfl, hb⟩
    have B1 : Bx w1 (w.heap.size + 1) _ := Bx.below (b := w.heap.size + 1) hb (by first | omega | (simp; done) | (simp; omega)) (by repeat (first  | (apply Bx.new; (focus (first | (simp; done) | (simp; omega) | omega))) | (apply Bx.alloc; rotate_left; (focus (first | (simp; done) | (simp; omega) | omega))) | (apply Bx.setOther; rotate_left; (focus (first | (simp; done) | (simp; omega) | omega))) | apply Bx.setSame))
    have B1o := B1.out
    have B1f := B1.fr
    have HB := hid (below_call (HI.out _ _) hb)
    clear hb
    rw [HG.out]
    go_wp2
    refine bodyPost_ret (v := .agg #[.int .i64 0, .int .i64 0, .slice none 0 0, .int .i64 0, .int .i64 0, .bool false]) (by simp [results, Try.results10, go_sem, B1o]) rfl ?_
    refine ⟨_, [], rfl, ?_, ?_⟩
    · rw [E.out]
      exact own_Grid (d := grid0) (by simp [I64, grid0]) (by simp [I64, grid0]) (own_nil _ _) (by simp [I64, grid0]) (by simp [I64, grid0])
    · (repeat (first | with_reducible exact HB.out | ((with_reducible apply Below.setCell); rotate_left; (first | exact Nat.le_refl _ | exact Nat.le_succ _ | (simp; done)))))
  have hs := gridOk_shape hg
  have E : Hid (gridGo d x y = moveD d x y) := hid (by simp [gridGo, hg])
  have HS := hid hs
  have HG := hid hg; clear hg hs
  go_enter Try.func10, Try.ntmps10
  go_wp2_with fail
  refine (s_GridOk (grow H.out (HI.out _ _))).mono ?_
  rintro e w1 ⟨rfl, hb⟩
  have B0 : Bx w1 (w.heap.size) _ := Bx.below (b := w.heap.size) hb (by first | omega | (simp; done) | (simp; omega)) (by repeat (first  | (apply Bx.new; (focus (first | (simp; done) | (simp; omega) | omega))) | (apply Bx.alloc; rotate_left; (focus (first | (simp; done) | (simp; omega) | omega))) | (apply Bx.setOther; rotate_left; (focus (first | (simp; done) | (simp; omega) | omega))) | apply Bx.setSame))
  have B0o := B0.out
  have B0f := B0.fr
  have B1 : Bx w1 (w.heap.size + 1) _ := Bx.below (b := w.heap.size + 1) hb (by first | omega | (simp; done) | (simp; omega)) (by repeat (first  | (apply Bx.new; (focus (first | (simp; done) | (simp; omega) | omega))) | (apply Bx.alloc; rotate_left; (focus (first | (simp; done) | (simp; omega) | omega))) | (apply Bx.setOther; rotate_left; (focus (first | (simp; done) | (simp; omega) | omega))) | apply Bx.setSame))
  have B1o := B1.out
  have B1f := B1.fr
  have hs1 : w.heap.size + 2 ≤ w1.heap.size := by have := hb.size; simpa using this
  have HB1 := hid (below_call (HI.out _ _) hb)
  clear hb
  rw [HG.out]
  go_wp2_with fail
  refine (s_l08Copy (grow H.out HB1.out) (by have := HS.out; omega)).mono ?_
  rintro e w2 ⟨v2, b2, rfl, hO, hb⟩
  obtain ⟨p2, k2', rfl⟩ := hO.slice
  replace B0 : Bx w2 (w.heap.size) _ := Bx.below (b := w.heap.size) hb (by first | omega | (simp; done) | (simp; omega)) (by repeat (first  | exact B0 | exact B1 | (apply Bx.new; (focus (first | (simp; done) | (simp; omega) | omega))) | (apply Bx.alloc; rotate_left; (focus (first | (simp; done) | (simp; omega) | omega))) | (apply Bx.setOther; rotate_left; (focus (first | (simp; done) | (simp; omega) | omega))) | apply Bx.setSame))
  replace B0o := B0.out
  replace B0f := B0.fr
  replace B1 : Bx w2 (w.heap.size + 1) _ := Bx.below (b := w.heap.size + 1) hb (by first | omega | (simp; done) | (simp; omega)) (by repeat (first  | exact B0 | exact B1 | (apply Bx.new; (focus (first | (simp; done) | (simp; omega) | omega))) | (apply Bx.alloc; rotate_left; (focus (first | (simp; done) | (simp; omega) | omega))) | (apply Bx.setOther; rotate_left; (focus (first | (simp; done) | (simp; omega) | omega))) | apply Bx.setSame))
  replace B1o := B1.out
  replace B1f := B1.fr
  have hs2 : w1.heap.size ≤ w2.heap.size := hb.size
  have HO2 := hid hO
  have HB2 := hid (below_call HB1.out hb)
  clear hb hO
  have hss : w.heap.size + 2 ≤ w2.heap.size := by omega
  have hs := HS.out
  have hw6 : wrap64 (d.W - 1) = d.W - 1 := IntWalk.wrap64_in _ (by omega)
  have hw7 : wrap64 (d.H - 1) = d.H - 1 := IntWalk.wrap64_in _ (by omega)
  have HM := hid (show 0 ≤ d.W - 1 ∧ 0 ≤ d.H - 1 by omega)
  have hne : ¬ w2.heap.size = w.heap.size + 1 := by omega
  have hne2 : ¬ w2.heap.size = w.heap.size := by omega
  have hlt0 : w.heap.size < w2.heap.size := by omega
  have hlt1 : w.heap.size + 1 < w2.heap.size := by omega
  clear hs
  go_wp2_with fail
  refine (s_l08Clamp x (d.W - 1) HM.out.1 _).mono ?_
  rintro e w' ⟨rfl, rfl⟩
  go_wp2_with fail
  refine (s_l08Clamp y (d.H - 1) HM.out.2 _).mono ?_
  rintro e w' ⟨rfl, rfl⟩
  have bz3 : ∀ (W : World) (ob : Obj) (o : Nat), w.heap.size + 1 < W.heap.size → (W.alloc ob).cell? ⟨w.heap.size + 1, o, none⟩ = W.cell? ⟨w.heap.size + 1, o, none⟩ := fun W ob o h => World.cell?_of_block (Below.heap_alloc _ _ _ h)
  go_wp2_with fail
  refine bodyPost_ret (v := .agg #[.int .i64 d.W, .int .i64 d.H, .slice p2 d.Cells.length k2', .int .i64 (clampI x (d.W - 1)), .int .i64 (clampI y (d.H - 1)), .bool false]) (by simp [results, Try.results10, go_sem, B1o, bz3, hlt1]) rfl ?_
  obtain ⟨b2x, hbx, hOw⟩ := HO2.out.own
  refine ⟨_, b2x, rfl, ?_, ?_⟩
  · rw [E.out]
    have hs := HS.out
    refine own_Grid (d := moveD d x y) h0 h1 ?_ (by show I64 (clampI _ _); unfold I64 clampI; omega) (by show I64 (clampI _ _); unfold I64 clampI; omega)
    refine Own.mono (lo := w1.heap.size) ?_ (by omega)
    (repeat (first | (with_reducible apply Own.alloc) | ((with_reducible apply Own.setCell); rotate_left; (show w.heap.size + 1 < w1.heap.size; omega))))
    exact hOw
  · (repeat (first | with_reducible exact HB2.out | ((with_reducible apply Below.alloc); rotate_left; (first | (simp; done) | (simp; omega) | omega)) | ((with_reducible apply Below.setCell); rotate_left; (first | exact Nat.le_refl _ | exact Nat.le_succ _ | (simp; done)))))
end Go.Proofs.Ytcgpgdndnfoabaa
