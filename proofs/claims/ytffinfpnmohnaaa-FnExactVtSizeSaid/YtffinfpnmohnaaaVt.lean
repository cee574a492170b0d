/- Terminals: new ones, sizes. -/
import Derived.Test.YtffinfpnmohnaaaGridAt
import Derived.Test.YtffinfpnmohnaaaGrid
set_option linter.unusedSimpArgs false
set_option linter.unusedVariables false
namespace Go.G6
open Go.RowKit
def vt0 : VtD := ⟨grid0, 0, [], [], 0⟩
def vtOf (g : GridD) (bells : Int) : VtD := ⟨g, 0, [], [], bells⟩
def vtNew (x y : Int) : VtD := vtOf (gridNew x y) 0
theorem own_vtOf {lo : Nat} {w : World} {g : GridD} {b2 : List Nat} {a2 : Option Addr} {l2 k2 : Nat} (bells : Int) (hb : I64 bells) (h0 : I64 g.W) (h1 : I64 g.H) (h2 : Own lo w b2 [.slice a2 l2 k2] g.Cells) (h3 : I64 g.X) (h4 : I64 g.Y) :
    Own lo w (b2 ++ ([] ++ [])) [.int .i64 g.W, .int .i64 g.H, .slice a2 l2 k2, .int .i64 g.X, .int .i64 g.Y, .bool g.Wrap, .int .i64 0, .slice none 0 0, .slice none 0 0, .int .i64 bells] (vtOf g bells) :=
  own_Vt (d := vtOf g bells) h0 h1 h2 h3 h4 (by simp [I64, vtOf]) (own_nil _ _) (own_nil _ _) hb (by simp) (by simp) (by simp)
theorem vtNew_top (x y : Int) : 1 + (vtNew x y).nkv ≤ topK := by
  have h : (vtNew x y).nkv = (gridNew x y).nkv := rfl
  rw [h]; exact gridNew_top x y
end Go.G6
namespace Go.Proofs.Ytffinfpnmohnaaa
open Go.RowKit Go.G6
set_option maxHeartbeats 1600000
set_option maxRecDepth 10000
theorem i_VtNew (x : Int) (hx : I64 x) (y : Int) (hy : I64 y) (w : World) :
    Calls Try.prog 93 #[.int .i64 x, .int .i64 y] w (RetAB w (vtNew x y) (.bool (gridNewOk x y))) := by
  have hBel : ∀ o, Below w.heap.size w (w.alloc o) := fun o => (Below.refl _ _).alloc (Nat.le_refl _) _
  have HBel := hid hBel; clear hBel
  go_enter Try.func93, Try.ntmps93
  go_wp2_with fail
  refine (i_GridNew x hx y hy _).mono ?_
  rintro e w1 ⟨cs, bs, rfl, hO, hb⟩
  obtain ⟨a2, l2, k2, rfl, g0, g1, g2, g3, g4⟩ := open_Grid hO.1
  have hOc := parts_Grid hO g2
  have B0 : Bx w1 (w.heap.size) _ := Bx.below (b := w.heap.size) hb (by first | omega | (simp; done) | (simp; omega)) (by repeat (first  | (apply Bx.new; (focus (first | (simp; done) | (simp; omega) | omega))) | (apply Bx.alloc; rotate_left; (focus (first | (simp; done) | (simp; omega) | omega))) | (apply Bx.setOther; rotate_left; (focus (first | (simp; done) | (simp; omega) | omega))) | apply Bx.setSame))
  have B0o := B0.out
  have B0f := B0.fr
  have hs1 := hb.size
  have HS1 : Hid (w.heap.size < w1.heap.size) := hid (by simp at hs1; omega)
  have HB := hid (below_call (HBel.out _) hb)
  have HO := hid hOc
  have HG := hid (show I64 (gridNew x y).W ∧ I64 (gridNew x y).H ∧ I64 (gridNew x y).X ∧ I64 (gridNew x y).Y from ⟨g0, g1, g3, g4⟩)
  clear hb hO hOc g0 g1 g2 g3 g4 hs1
  have hlt0 := HS1.out
  have hne0 : ¬ w1.heap.size = w.heap.size := by omega
  have hne1 : ¬ w.heap.size = w1.heap.size := by omega
  have bz1 : ∀ c t o, (w1.alloc (.cells c t)).cell? ⟨w.heap.size, o, none⟩ = w1.cell? ⟨w.heap.size, o, none⟩ := fun c t o => World.cell?_of_block (Below.heap_alloc _ _ _ hlt0)
  have bz2 : ∀ c t o, (w1.alloc (.cells c t)).frozen? ⟨w.heap.size, o, none⟩ = false := fun c t o => (Bx.alloc B0 hlt0 _).fr o
  have bz3 : ∀ (W : World) (ob : Obj) (o : Nat), w.heap.size < W.heap.size → (W.alloc ob).cell? ⟨w.heap.size, o, none⟩ = W.cell? ⟨w.heap.size, o, none⟩ := fun W ob o h => World.cell?_of_block (Below.heap_alloc _ _ _ h)
  go_wp2
  refine bodyPost_ret (v := .tuple #[.agg #[.int .i64 (gridNew x y).W, .int .i64 (gridNew x y).H, .slice a2 l2 k2, .int .i64 (gridNew x y).X, .int .i64 (gridNew x y).Y, .bool (gridNew x y).Wrap, .int .i64 0, .slice none 0 0, .slice none 0 0, .int .i64 0], .bool (gridNewOk x y)]) (by simp [results, Try.results93, go_sem, B0o, bz3, hlt0]) rfl ?_
  refine ⟨_, bs ++ ([] ++ []), rfl, own_vtOf (b2 := bs) (a2 := a2) (l2 := l2) (k2 := k2) 0 (by simp [I64]) HG.out.1 HG.out.2.1 ?_ HG.out.2.2.1 HG.out.2.2.2, ?_⟩
  · refine Own.mono (lo := w.heap.size + 1) ?_ (by omega)
    have HO2 : Own (w.heap.size + 1) w1 bs [.slice a2 l2 k2] (gridNew x y).Cells := Own.mono HO.out (by simp)
    repeat (first | with_reducible exact HO2 | with_reducible refine Own.alloc ?_ _ | (with_reducible apply Own.setCell; rotate_left; exact Nat.lt_succ_self _))
  · (repeat (first | with_reducible exact HB.out | (with_reducible apply Below.setCell; rotate_left; exact Nat.le_refl _) | with_reducible refine Below.alloc ?_ (by first | omega | (simp; done) | (simp; omega) | (have := HS1.out; omega)) _))
theorem s_VtNew (x : Int) (hx : I64 x) (y : Int) (hy : I64 y) (w : World) :
    Calls Try.prog 92 #[.int .i64 x, .int .i64 y] w (RetAB w (vtNew x y) (.bool (gridNewOk x y))) := by
  have hBel : ∀ o, Below w.heap.size w (w.alloc o) := fun o => (Below.refl _ _).alloc (Nat.le_refl _) _
  have HBel := hid hBel; clear hBel
  go_enter Try.func92, Try.ntmps92
  go_wp2_with fail
  refine (s_GridNew x hx y hy _).mono ?_
  rintro e w1 ⟨cs, bs, rfl, hO, hb⟩
  obtain ⟨a2, l2, k2, rfl, g0, g1, g2, g3, g4⟩ := open_Grid hO.1
  have hOc := parts_Grid hO g2
  have B0 : Bx w1 (w.heap.size) _ := Bx.below (b := w.heap.size) hb (by first | omega | (simp; done) | (simp; omega)) (by repeat (first  | (apply Bx.new; (focus (first | (simp; done) | (simp; omega) | omega))) | (apply Bx.alloc; rotate_left; (focus (first | (simp; done) | (simp; omega) | omega))) | (apply Bx.setOther; rotate_left; (focus (first | (simp; done) | (simp; omega) | omega))) | apply Bx.setSame))
  have B0o := B0.out
  have B0f := B0.fr
  have hs1 := hb.size
  have HS1 : Hid (w.heap.size < w1.heap.size) := hid (by simp at hs1; omega)
  have HB := hid (below_call (HBel.out _) hb)
  have HO := hid hOc
  have HG := hid (show I64 (gridNew x y).W ∧ I64 (gridNew x y).H ∧ I64 (gridNew x y).X ∧ I64 (gridNew x y).Y from ⟨g0, g1, g3, g4⟩)
  clear hb hO hOc g0 g1 g2 g3 g4 hs1
  have hlt0 := HS1.out
  have hne0 : ¬ w1.heap.size = w.heap.size := by omega
  have hne1 : ¬ w.heap.size = w1.heap.size := by omega
  have bz1 : ∀ c t o, (w1.alloc (.cells c t)).cell? ⟨w.heap.size, o, none⟩ = w1.cell? ⟨w.heap.size, o, none⟩ := fun c t o => World.cell?_of_block (Below.heap_alloc _ _ _ hlt0)
  have bz2 : ∀ c t o, (w1.alloc (.cells c t)).frozen? ⟨w.heap.size, o, none⟩ = false := fun c t o => (Bx.alloc B0 hlt0 _).fr o
  have bz3 : ∀ (W : World) (ob : Obj) (o : Nat), w.heap.size < W.heap.size → (W.alloc ob).cell? ⟨w.heap.size, o, none⟩ = W.cell? ⟨w.heap.size, o, none⟩ := fun W ob o h => World.cell?_of_block (Below.heap_alloc _ _ _ h)
  go_wp2
  refine bodyPost_ret (v := .tuple #[.agg #[.int .i64 (gridNew x y).W, .int .i64 (gridNew x y).H, .slice a2 l2 k2, .int .i64 (gridNew x y).X, .int .i64 (gridNew x y).Y, .bool (gridNew x y).Wrap, .int .i64 0, .slice none 0 0, .slice none 0 0, .int .i64 0], .bool (gridNewOk x y)]) (by simp [results, Try.results92, go_sem, B0o, bz3, hlt0]) rfl ?_
  refine ⟨_, bs ++ ([] ++ []), rfl, own_vtOf (b2 := bs) (a2 := a2) (l2 := l2) (k2 := k2) 0 (by simp [I64]) HG.out.1 HG.out.2.1 ?_ HG.out.2.2.1 HG.out.2.2.2, ?_⟩
  · refine Own.mono (lo := w.heap.size + 1) ?_ (by omega)
    have HO2 : Own (w.heap.size + 1) w1 bs [.slice a2 l2 k2] (gridNew x y).Cells := Own.mono HO.out (by simp)
    repeat (first | with_reducible exact HO2 | with_reducible refine Own.alloc ?_ _ | (with_reducible apply Own.setCell; rotate_left; exact Nat.lt_succ_self _))
  · (repeat (first | with_reducible exact HB.out | (with_reducible apply Below.setCell; rotate_left; exact Nat.le_refl _) | with_reducible refine Below.alloc ?_ (by first | omega | (simp; done) | (simp; omega) | (have := HS1.out; omega)) _))
end Go.Proofs.Ytffinfpnmohnaaa
