/- Terminals: another size (printed by genvtsize.py). -/
import Derived.Test.YtffinfpnmohnaaaVtOk
set_option linter.unusedSimpArgs false
set_option linter.unusedVariables false
namespace Go.G6
open Go.RowKit
def vtSizeOk (d : VtD) (x y : Int) : Bool := vtOk d && gridNewOk x y
def vtSize (d : VtD) (x y : Int) : VtD := if vtSizeOk d x y then vtOf (gridNew x y) d.Bells else vt0
theorem vtSize_top (d : VtD) (x y : Int) : 1 + (vtSize d x y).nkv ≤ topK := by
  unfold vtSize
  split
  · have h : (vtOf (gridNew x y) d.Bells).nkv = (gridNew x y).nkv := rfl
    rw [h]; exact gridNew_top x y
  · decide
theorem own_vt0 (lo : Nat) (w : World) : Own lo w [] [.int .i64 0, .int .i64 0, .slice none 0 0, .int .i64 0, .int .i64 0, .bool false, .int .i64 0, .slice none 0 0, .slice none 0 0, .int .i64 0] vt0 :=
  own_Vt (d := vt0) (by simp [I64, vt0, grid0]) (by simp [I64, vt0, grid0]) (own_nil _ _) (by simp [I64, vt0, grid0]) (by simp [I64, vt0, grid0]) (by simp [I64, vt0]) (own_nil _ _) (own_nil _ _) (by simp [I64, vt0]) (by simp) (by simp) (by simp)
end Go.G6
namespace Go.Proofs.Ytffinfpnmohnaaa
open Go.RowKit Go.G6
set_option maxHeartbeats 3000000
set_option maxRecDepth 10000
theorem i_VtSize {w : World} {bs : List Nat} {cs : List Value} {d : VtD} (h : Rep.pt w bs cs d) (x : Int) (hx : I64 x) (y : Int) (hy : I64 y) :
    Calls Try.prog 30 #[.agg cs.toArray, .int .i64 x, .int .i64 y] w (RetAB w (vtSize d x y) (.bool (vtSizeOk d x y))) := by
  have H := hid h
  obtain ⟨q2, q7, q8, a2, l2, k2, a7, l7, k7, a8, l8, k8, rfl, rfl, h0, h1, h2, h3, h4, h6, h7, h8, h9⟩ := open_Vt h
  obtain rfl := h2.len_eq
  obtain rfl := h7.len_eq
  obtain rfl := h8.len_eq
  have I9 := hid h9
  clear h h0 h1 h2 h3 h4 h6 h7 h8 h9
  have INI : ∀ o1 o2, Below w.heap.size w ((w.alloc o1).alloc o2) := fun o1 o2 => ((Below.refl _ _).alloc (Nat.le_refl _) _).alloc (by simp) _
  have HI := hid INI; clear INI
  go_enter Try.func30, Try.ntmps30
  go_wp2_with fail
  refine (i_VtNew x hx y hy _).mono ?_
  rintro e w1 ⟨cs1, bs1, rfl, hO, hb⟩
  obtain ⟨c2, c7, c8, n2, m2, j2, n7, m7, j7, n8, m8, j8, rfl, rfl, g0, g1, g2, g3, g4, g6, g7, g8, g9⟩ := open_Vt hO.1
  have hP := parts_Vt hO g2 g7 g8
  have B0 : Bx w1 (w.heap.size) _ := Bx.below (b := w.heap.size) hb (by first | omega | (simp; done) | (simp; omega)) (by repeat (first  | (apply Bx.new; (focus (first | (simp; done) | (simp; omega) | omega))) | (apply Bx.alloc; rotate_left; (focus (first | (simp; done) | (simp; omega) | omega))) | (apply Bx.setOther; rotate_left; (focus (first | (simp; done) | (simp; omega) | omega))) | apply Bx.setSame))
  have B0o := B0.out
  have B0f := B0.fr
  have B1 : Bx w1 (w.heap.size + 1) _ := Bx.below (b := w.heap.size + 1) hb (by first | omega | (simp; done) | (simp; omega)) (by repeat (first  | (apply Bx.new; (focus (first | (simp; done) | (simp; omega) | omega))) | (apply Bx.alloc; rotate_left; (focus (first | (simp; done) | (simp; omega) | omega))) | (apply Bx.setOther; rotate_left; (focus (first | (simp; done) | (simp; omega) | omega))) | apply Bx.setSame))
  have B1o := B1.out
  have B1f := B1.fr
  have hs1 : w.heap.size + 2 ≤ w1.heap.size := by have := hb.size; simpa using this
  have HB1 := hid (below_call (HI.out _ _) hb)
  have HP := hid hP
  have HG := hid (show I64 (gridNew x y).W ∧ I64 (gridNew x y).H ∧ I64 (gridNew x y).X ∧ I64 (gridNew x y).Y from ⟨g0, g1, g3, g4⟩)
  clear hb hO hP g0 g1 g2 g3 g4 g6 g7 g8 g9
  simp only [show (vtNew x y).Grid = gridNew x y from rfl, show (vtNew x y).State = 0 from rfl, show (vtNew x y).Args = [] from rfl, show (vtNew x y).Part = [] from rfl, show (vtNew x y).Bells = 0 from rfl] at HP ⊢
  have hlt0 : w.heap.size < w1.heap.size := by omega
  have hlt1 : w.heap.size + 1 < w1.heap.size := by omega
  go_wp2_with fail
  refine (i_VtOk (grow H.out (HB1.out.alloc HB1.out.size _))).mono ?_
  rintro e w2 ⟨rfl, hb2⟩
  replace B0 : Bx w2 (w.heap.size) _ := Bx.below (b := w.heap.size) hb2 (by first | omega | (simp; done) | (simp; omega)) (by repeat (first  | exact B0 | exact B1 | (apply Bx.new; (focus (first | (simp; done) | (simp; omega) | omega))) | (apply Bx.alloc; rotate_left; (focus (first | (simp; done) | (simp; omega) | omega))) | (apply Bx.setOther; rotate_left; (focus (first | (simp; done) | (simp; omega) | omega))) | apply Bx.setSame))
  replace B0o := B0.out
  replace B0f := B0.fr
  replace B1 : Bx w2 (w.heap.size + 1) _ := Bx.below (b := w.heap.size + 1) hb2 (by first | omega | (simp; done) | (simp; omega)) (by repeat (first  | exact B0 | exact B1 | (apply Bx.new; (focus (first | (simp; done) | (simp; omega) | omega))) | (apply Bx.alloc; rotate_left; (focus (first | (simp; done) | (simp; omega) | omega))) | (apply Bx.setOther; rotate_left; (focus (first | (simp; done) | (simp; omega) | omega))) | apply Bx.setSame))
  replace B1o := B1.out
  replace B1f := B1.fr
  have B8 : Bx w2 (w1.heap.size) _ := Bx.below (b := w1.heap.size) hb2 (by first | omega | (simp; done) | (simp; omega)) (by repeat (first  | exact B0 | exact B1 | (apply Bx.new; (focus (first | (simp; done) | (simp; omega) | omega))) | (apply Bx.alloc; rotate_left; (focus (first | (simp; done) | (simp; omega) | omega))) | (apply Bx.setOther; rotate_left; (focus (first | (simp; done) | (simp; omega) | omega))) | apply Bx.setSame))
  have B8o := B8.out
  have B8f := B8.fr
  have HB2 := hid (below_call (HB1.out.alloc HB1.out.size _) hb2)
  have hs2 : w1.heap.size + 1 ≤ w2.heap.size := by have := hb2.size; simpa using this
  have HK := hid (show ∀ b, b < w1.heap.size → w2.heap[b]? = w1.heap[b]? from fun b hb => (hb2.block b (by simp; omega)).trans (Below.heap_alloc _ _ _ hb))
  clear hb2
  have hne0 : ¬ w1.heap.size = w.heap.size := by omega
  have hne1 : ¬ w1.heap.size = w.heap.size + 1 := by omega
  have hne2 : ¬ w.heap.size = w1.heap.size := by omega
  have hne3 : ¬ w.heap.size + 1 = w1.heap.size := by omega
  cases hv : vtOk d
  · have E := hid (show vtSize d x y = vt0 ∧ vtSizeOk d x y = false from ⟨by simp [vtSize, vtSizeOk, hv], by simp [vtSizeOk, hv]⟩)
    clear hv
    go_wp2
    refine bodyPost_ret (v := .tuple #[.agg #[.int .i64 0, .int .i64 0, .slice none 0 0, .int .i64 0, .int .i64 0, .bool false, .int .i64 0, .slice none 0 0, .slice none 0 0, .int .i64 0], .bool false]) (by simp [results, Try.results30, go_sem, B1o]) rfl ?_
    refine ⟨#[.int .i64 0, .int .i64 0, .slice none 0 0, .int .i64 0, .int .i64 0, .bool false, .int .i64 0, .slice none 0 0, .slice none 0 0, .int .i64 0].toList, [], by rw [E.out.2], ?_, ?_⟩
    · rw [E.out.1]; exact own_vt0 _ _
    · (repeat (first | with_reducible exact HB2.out | ((with_reducible apply Below.setCell); rotate_left; (first | exact Nat.le_refl _ | exact Nat.le_succ _ | (simp; done) | omega | (simp; omega)))))
  cases hgo : gridNewOk x y
  · have E := hid (show vtSize d x y = vt0 ∧ vtSizeOk d x y = false from ⟨by simp [vtSize, vtSizeOk, hgo], by simp [vtSizeOk, hgo]⟩)
    clear hv hgo
    go_wp2
    refine bodyPost_ret (v := .tuple #[.agg #[.int .i64 0, .int .i64 0, .slice none 0 0, .int .i64 0, .int .i64 0, .bool false, .int .i64 0, .slice none 0 0, .slice none 0 0, .int .i64 0], .bool false]) (by simp [results, Try.results30, go_sem, B1o]) rfl ?_
    refine ⟨#[.int .i64 0, .int .i64 0, .slice none 0 0, .int .i64 0, .int .i64 0, .bool false, .int .i64 0, .slice none 0 0, .slice none 0 0, .int .i64 0].toList, [], by rw [E.out.2], ?_, ?_⟩
    · rw [E.out.1]; exact own_vt0 _ _
    · (repeat (first | with_reducible exact HB2.out | ((with_reducible apply Below.setCell); rotate_left; (first | exact Nat.le_refl _ | exact Nat.le_succ _ | (simp; done) | omega | (simp; omega)))))
  have E := hid (show vtSize d x y = vtOf (gridNew x y) d.Bells ∧ vtSizeOk d x y = true from ⟨by simp [vtSize, vtSizeOk, hv, hgo], by simp [vtSizeOk, hv, hgo]⟩)
  clear hv hgo
  go_wp2
  refine bodyPost_ret (v := .tuple #[.agg #[.int .i64 (gridNew x y).W, .int .i64 (gridNew x y).H, .slice n2 m2 j2, .int .i64 (gridNew x y).X, .int .i64 (gridNew x y).Y, .bool (gridNew x y).Wrap, .int .i64 0, .slice n7 m7 j7, .slice n8 m8 j8, .int .i64 d.Bells], .bool true]) (by simp [results, Try.results30, go_sem, B1o]) rfl ?_
  refine ⟨#[.int .i64 (gridNew x y).W, .int .i64 (gridNew x y).H, .slice n2 m2 j2, .int .i64 (gridNew x y).X, .int .i64 (gridNew x y).Y, .bool (gridNew x y).Wrap, .int .i64 0, .slice n7 m7 j7, .slice n8 m8 j8, .int .i64 d.Bells].toList, c2 ++ (c7 ++ c8), by rw [E.out.2], ?_, ?_⟩
  · rw [E.out.1]
    obtain ⟨p2, p7, p8, e27, e28, e78⟩ := HP.out
    have hh := own_Vt (d := vtOf (gridNew x y) d.Bells) HG.out.1 HG.out.2.1 p2 HG.out.2.2.1 HG.out.2.2.2 (by simp [I64, vtOf]) p7 p8 I9.out e27 e28 e78
    have hall : ∀ b ∈ c2 ++ (c7 ++ c8), w.heap.size + 2 ≤ b ∧ b < w1.heap.size := fun b hb => by have q := hh.2.2 b hb; have q2 := Rep.lt hh.1 b hb; exact ⟨by have := q.1; simpa using this, q2⟩
    refine Own.mono (lo := w.heap.size + 2) ?_ (by omega)
    have hh2 : Own (w.heap.size + 2) w2 (c2 ++ (c7 ++ c8)) _ _ := (Own.mono hh (by simp)).keep fun b hb => HK.out b (hall b hb).2
    (repeat ((with_reducible apply Own.setCell); rotate_left; (show w.heap.size + 1 < w.heap.size + 2; omega)))
    exact hh2.keep fun b hb => Below.heap_setCell _ _ _ _ (by have := (hall b hb).2; simp; omega)
  · (repeat (first | with_reducible exact HB2.out | ((with_reducible apply Below.setCell); rotate_left; (first | exact Nat.le_refl _ | exact Nat.le_succ _ | (simp; done) | omega | (simp; omega)))))
theorem s_VtSize {w : World} {bs : List Nat} {cs : List Value} {d : VtD} (h : Rep.pt w bs cs d) (x : Int) (hx : I64 x) (y : Int) (hy : I64 y) :
    Calls Try.prog 29 #[.agg cs.toArray, .int .i64 x, .int .i64 y] w (RetAB w (vtSize d x y) (.bool (vtSizeOk d x y))) := by
  have H := hid h
  obtain ⟨q2, q7, q8, a2, l2, k2, a7, l7, k7, a8, l8, k8, rfl, rfl, h0, h1, h2, h3, h4, h6, h7, h8, h9⟩ := open_Vt h
  obtain rfl := h2.len_eq
  obtain rfl := h7.len_eq
  obtain rfl := h8.len_eq
  have I9 := hid h9
  clear h h0 h1 h2 h3 h4 h6 h7 h8 h9
  have INI : ∀ o1 o2, Below w.heap.size w ((w.alloc o1).alloc o2) := fun o1 o2 => ((Below.refl _ _).alloc (Nat.le_refl _) _).alloc (by simp) _
  have HI := hid INI; clear INI
  go_enter Try.func29, Try.ntmps29
  go_wp2_with fail
  refine (s_VtNew x hx y hy _).mono ?_
  rintro e w1 ⟨cs1, bs1, rfl, hO, hb⟩
  obtain ⟨c2, c7, c8, n2, m2, j2, n7, m7, j7, n8, m8, j8, rfl, rfl, g0, g1, g2, g3, g4, g6, g7, g8, g9⟩ := open_Vt hO.1
  have hP := parts_Vt hO g2 g7 g8
  have B0 : Bx w1 (w.heap.size) _ := Bx.below (b := w.heap.size) hb (by first | omega | (simp; done) | (simp; omega)) (by repeat (first  | (apply Bx.new; (focus (first | (simp; done) | (simp; omega) | omega))) | (apply Bx.alloc; rotate_left; (focus (first | (simp; done) | (simp; omega) | omega))) | (apply Bx.setOther; rotate_left; (focus (first | (simp; done) | (simp; omega) | omega))) | apply Bx.setSame))
  have B0o := B0.out
  have B0f := B0.fr
  have B1 : Bx w1 (w.heap.size + 1) _ := Bx.below (b := w.heap.size + 1) hb (by first | omega | (simp; done) | (simp; omega)) (by repeat (first  | (apply Bx.new; (focus (first | (simp; done) | (simp; omega) | omega))) | (apply Bx.alloc; rotate_left; (focus (first | (simp; done) | (simp; omega) | omega))) | (apply Bx.setOther; rotate_left; (focus (first | (simp; done) | (simp; omega) | omega))) | apply Bx.setSame))
  have B1o := B1.out
  have B1f := B1.fr
  have hs1 : w.heap.size + 2 ≤ w1.heap.size := by have := hb.size; simpa using this
  have HB1 := hid (below_call (HI.out _ _) hb)
  have HP := hid hP
  have HG := hid (show I64 (gridNew x y).W ∧ I64 (gridNew x y).H ∧ I64 (gridNew x y).X ∧ I64 (gridNew x y).Y from ⟨g0, g1, g3, g4⟩)
  clear hb hO hP g0 g1 g2 g3 g4 g6 g7 g8 g9
  simp only [show (vtNew x y).Grid = gridNew x y from rfl, show (vtNew x y).State = 0 from rfl, show (vtNew x y).Args = [] from rfl, show (vtNew x y).Part = [] from rfl, show (vtNew x y).Bells = 0 from rfl] at HP ⊢
  have hlt0 : w.heap.size < w1.heap.size := by omega
  have hlt1 : w.heap.size + 1 < w1.heap.size := by omega
  go_wp2_with fail
  refine (s_VtOk (grow H.out (HB1.out.alloc HB1.out.size _))).mono ?_
  rintro e w2 ⟨rfl, hb2⟩
  replace B0 : Bx w2 (w.heap.size) _ := Bx.below (b := w.heap.size) hb2 (by first | omega | (simp; done) | (simp; omega)) (by repeat (first  | exact B0 | exact B1 | (apply Bx.new; (focus (first | (simp; done) | (simp; omega) | omega))) | (apply Bx.alloc; rotate_left; (focus (first | (simp; done) | (simp; omega) | omega))) | (apply Bx.setOther; rotate_left; (focus (first | (simp; done) | (simp; omega) | omega))) | apply Bx.setSame))
  replace B0o := B0.out
  replace B0f := B0.fr
  replace B1 : Bx w2 (w.heap.size + 1) _ := Bx.below (b := w.heap.size + 1) hb2 (by first | omega | (simp; done) | (simp; omega)) (by repeat (first  | exact B0 | exact B1 | (apply Bx.new; (focus (first | (simp; done) | (simp; omega) | omega))) | (apply Bx.alloc; rotate_left; (focus (first | (simp; done) | (simp; omega) | omega))) | (apply Bx.setOther; rotate_left; (focus (first | (simp; done) | (simp; omega) | omega))) | apply Bx.setSame))
  replace B1o := B1.out
  replace B1f := B1.fr
  have B8 : Bx w2 (w1.heap.size) _ := Bx.below (b := w1.heap.size) hb2 (by first | omega | (simp; done) | (simp; omega)) (by repeat (first  | exact B0 | exact B1 | (apply Bx.new; (focus (first | (simp; done) | (simp; omega) | omega))) | (apply Bx.alloc; rotate_left; (focus (first | (simp; done) | (simp; omega) | omega))) | (apply Bx.setOther; rotate_left; (focus (first | (simp; done) | (simp; omega) | omega))) | apply Bx.setSame))
  have B8o := B8.out
  have B8f := B8.fr
  have HB2 := hid (below_call (HB1.out.alloc HB1.out.size _) hb2)
  have hs2 : w1.heap.size + 1 ≤ w2.heap.size := by have := hb2.size; simpa using this
  have HK := hid (show ∀ b, b < w1.heap.size → w2.heap[b]? = w1.heap[b]? from fun b hb => (hb2.block b (by simp; omega)).trans (Below.heap_alloc _ _ _ hb))
  clear hb2
  have hne0 : ¬ w1.heap.size = w.heap.size := by omega
  have hne1 : ¬ w1.heap.size = w.heap.size + 1 := by omega
  have hne2 : ¬ w.heap.size = w1.heap.size := by omega
  have hne3 : ¬ w.heap.size + 1 = w1.heap.size := by omega
  cases hv : vtOk d
  · have E := hid (show vtSize d x y = vt0 ∧ vtSizeOk d x y = false from ⟨by simp [vtSize, vtSizeOk, hv], by simp [vtSizeOk, hv]⟩)
    clear hv
    go_wp2
    refine bodyPost_ret (v := .tuple #[.agg #[.int .i64 0, .int .i64 0, .slice none 0 0, .int .i64 0, .int .i64 0, .bool false, .int .i64 0, .slice none 0 0, .slice none 0 0, .int .i64 0], .bool false]) (by simp [results, Try.results29, go_sem, B1o]) rfl ?_
    refine ⟨#[.int .i64 0, .int .i64 0, .slice none 0 0, .int .i64 0, .int .i64 0, .bool false, .int .i64 0, .slice none 0 0, .slice none 0 0, .int .i64 0].toList, [], by rw [E.out.2], ?_, ?_⟩
    · rw [E.out.1]; exact own_vt0 _ _
    · (repeat (first | with_reducible exact HB2.out | ((with_reducible apply Below.setCell); rotate_left; (first | exact Nat.le_refl _ | exact Nat.le_succ _ | (simp; done) | omega | (simp; omega)))))
  cases hgo : gridNewOk x y
  · have E := hid (show vtSize d x y = vt0 ∧ vtSizeOk d x y = false from ⟨by simp [vtSize, vtSizeOk, hgo], by simp [vtSizeOk, hgo]⟩)
    clear hv hgo
    go_wp2
    refine bodyPost_ret (v := .tuple #[.agg #[.int .i64 0, .int .i64 0, .slice none 0 0, .int .i64 0, .int .i64 0, .bool false, .int .i64 0, .slice none 0 0, .slice none 0 0, .int .i64 0], .bool false]) (by simp [results, Try.results29, go_sem, B1o]) rfl ?_
    refine ⟨#[.int .i64 0, .int .i64 0, .slice none 0 0, .int .i64 0, .int .i64 0, .bool false, .int .i64 0, .slice none 0 0, .slice none 0 0, .int .i64 0].toList, [], by rw [E.out.2], ?_, ?_⟩
    · rw [E.out.1]; exact own_vt0 _ _
    · (repeat (first | with_reducible exact HB2.out | ((with_reducible apply Below.setCell); rotate_left; (first | exact Nat.le_refl _ | exact Nat.le_succ _ | (simp; done) | omega | (simp; omega)))))
  have E := hid (show vtSize d x y = vtOf (gridNew x y) d.Bells ∧ vtSizeOk d x y = true from ⟨by simp [vtSize, vtSizeOk, hv, hgo], by simp [vtSizeOk, hv, hgo]⟩)
  clear hv hgo
  go_wp2
  refine bodyPost_ret (v := .tuple #[.agg #[.int .i64 (gridNew x y).W, .int .i64 (gridNew x y).H, .slice n2 m2 j2, .int .i64 (gridNew x y).X, .int .i64 (gridNew x y).Y, .bool (gridNew x y).Wrap, .int .i64 0, .slice n7 m7 j7, .slice n8 m8 j8, .int .i64 d.Bells], .bool true]) (by simp [results, Try.results29, go_sem, B1o]) rfl ?_
  refine ⟨#[.int .i64 (gridNew x y).W, .int .i64 (gridNew x y).H, .slice n2 m2 j2, .int .i64 (gridNew x y).X, .int .i64 (gridNew x y).Y, .bool (gridNew x y).Wrap, .int .i64 0, .slice n7 m7 j7, .slice n8 m8 j8, .int .i64 d.Bells].toList, c2 ++ (c7 ++ c8), by rw [E.out.2], ?_, ?_⟩
  · rw [E.out.1]
    obtain ⟨p2, p7, p8, e27, e28, e78⟩ := HP.out
    have hh := own_Vt (d := vtOf (gridNew x y) d.Bells) HG.out.1 HG.out.2.1 p2 HG.out.2.2.1 HG.out.2.2.2 (by simp [I64, vtOf]) p7 p8 I9.out e27 e28 e78
    have hall : ∀ b ∈ c2 ++ (c7 ++ c8), w.heap.size + 2 ≤ b ∧ b < w1.heap.size := fun b hb => by have q := hh.2.2 b hb; have q2 := Rep.lt hh.1 b hb; exact ⟨by have := q.1; simpa using this, q2⟩
    refine Own.mono (lo := w.heap.size + 2) ?_ (by omega)
    have hh2 : Own (w.heap.size + 2) w2 (c2 ++ (c7 ++ c8)) _ _ := (Own.mono hh (by simp)).keep fun b hb => HK.out b (hall b hb).2
    (repeat ((with_reducible apply Own.setCell); rotate_left; (show w.heap.size + 1 < w.heap.size + 2; omega)))
    exact hh2.keep fun b hb => Below.heap_setCell _ _ _ _ (by have := (hall b hb).2; simp; omega)
  · (repeat (first | with_reducible exact HB2.out | ((with_reducible apply Below.setCell); rotate_left; (first | exact Nat.le_refl _ | exact Nat.le_succ _ | (simp; done) | omega | (simp; omega)))))
end Go.Proofs.Ytffinfpnmohnaaa
