/- Scrolling: the reference's. -/
import Derived.Test.YtladpkeaahimkaaGridSi
import Derived.Test.YtladpkeaahimkaaLate
set_option linter.unusedSimpArgs false
set_option linter.unusedVariables false
namespace Go.G6
open Go.RowKit
/-- Scrolled as far as k. -/
def scrTo (d : GridD) (k : Nat) : List Int := (scrollD d).Cells.take k ++ d.Cells.drop k
theorem scrTo_zero (d : GridD) : scrTo d 0 = d.Cells := by simp [scrTo]
theorem scrTo_all {d : GridD} (hl : d.W.toNat ≤ d.Cells.length) : scrTo d d.Cells.length = (scrollD d).Cells := by
  rw [scrTo, List.take_of_length_le (by rw [scroll_full hl]; exact Nat.le_refl _), List.drop_length, List.append_nil]
theorem scrTo_len {d : GridD} {k : Nat} (hl : d.W.toNat ≤ d.Cells.length) : (scrTo d k).length = d.Cells.length := by
  rw [scrTo, List.length_append, List.length_take, List.length_drop, scroll_full hl]; omega
theorem scrTo_set {d : GridD} {k : Nat} {x : Int} (hk : k < d.Cells.length) (h : (scrollD d).Cells[k]? = some x) : (scrTo d k).set k x = scrTo d (k + 1) := by
  obtain ⟨h1, h2⟩ := List.getElem?_eq_some_iff.1 h
  have e : ((scrollD d).Cells.take k).length = k := by rw [List.length_take]; omega
  rw [scrTo, List.set_append_right _ _ (by omega), e, Nat.sub_self, List.drop_eq_getElem_cons hk, List.set_cons_zero, scrTo, List.take_succ_eq_append_getElem h1, h2, List.append_assoc]
  rfl
end Go.G6
namespace Go.Proofs.Ytladpkeaahimkaa
open Go.RowKit Go.G6
set_option maxHeartbeats 3000000
set_option maxRecDepth 10000
theorem s_GridScroll {w : World} {bs : List Nat} {cs : List Value} {d : GridD} (h : Rep.pt w bs cs d) :
    Calls Try.prog 39 #[.agg cs.toArray] w (RetA w (gridScroll d)) := by
  have H := hid h
  obtain ⟨a2, l2, k2, rfl, h0, h1, h2, h3, h4⟩ := open_Grid h
  obtain rfl := h2.len_eq
  have H2 := hid h2
  clear h h2
  have INI : ∀ o1 o2, Below w.heap.size w ((w.alloc o1).alloc o2) := fun o1 o2 => ((Below.refl _ _).alloc (Nat.le_refl _) _).alloc (by simp) _
  have HI := hid INI; clear INI
  cases hg : gridOk d
  · have E : Hid (gridScroll d = grid0) := hid (by simp [gridScroll, hg])
    have HG := hid hg; clear hg
    go_enter Try.func39, Try.ntmps39
    go_wp2_with fail
    refine (s_GridOk (grow H.out (HI.out _ _))).mono ?_
    rintro e w1 ⟨rfl, hb⟩
    have B1 : Bx w1 (w.heap.size + 1) _ := Bx.below (b := w.heap.size + 1) hb (by first | omega | (simp; done) | (simp; omega)) (by repeat (first  | (apply Bx.new; (focus (first | (simp; done) | (simp; omega) | omega))) | (apply Bx.alloc; rotate_left; (focus (first | (simp; done) | (simp; omega) | omega))) | (apply Bx.setOther; rotate_left; (focus (first | (simp; done) | (simp; omega) | omega))) | apply Bx.setSame))
    have B1o := B1.out
    have B1f := B1.fr
    have HB := hid (below_call (HI.out _ _) hb)
    clear hb
    rw [HG.out]
    go_wp2
    refine bodyPost_ret (v := .agg #[.int .i64 0, .int .i64 0, .slice none 0 0, .int .i64 0, .int .i64 0, .bool false]) (by simp [results, Try.results39, go_sem, B1o]) rfl ?_
    refine ⟨_, [], rfl, ?_, ?_⟩
    · rw [E.out]
      exact own_Grid (d := grid0) (by simp [I64, grid0]) (by simp [I64, grid0]) (own_nil _ _) (by simp [I64, grid0]) (by simp [I64, grid0])
    · (repeat (first | with_reducible exact HB.out | ((with_reducible apply Below.setCell); rotate_left; (first | exact Nat.le_refl _ | exact Nat.le_succ _ | (simp; done)))))
  have hs := gridOk_shape hg
  have E : Hid (gridScroll d = scrollD d) := hid (by simp [gridScroll, hg])
  have HS := hid hs
  have HG := hid hg; clear hg hs
  go_enter Try.func39, Try.ntmps39
  go_wp2_with fail
  refine (s_GridOk (grow H.out (HI.out _ _))).mono ?_
  rintro e w1 ⟨rfl, hb⟩
  have B0 : Bx w1 (w.heap.size) _ := Bx.below (b := w.heap.size) hb (by first | omega | (simp; done) | (simp; omega)) (by repeat (first  | (apply Bx.new; (focus (first | (simp; done) | (simp; omega) | omega))) | (apply Bx.alloc; rotate_left; (focus (first | (simp; done) | (simp; omega) | omega))) | (apply Bx.setOther; rotate_left; (focus (first | (simp; done) | (simp; omega) | omega))) | apply Bx.setSame))
  have B0o := B0.out
  have B0f := B0.fr
  have B1 : Bx w1 (w.heap.size + 1) _ := Bx.below (b := w.heap.size + 1) hb (by first | omega | (simp; done) | (simp; omega)) (by repeat (first  | (apply Bx.new; (focus (first | (simp; done) | (simp; omega) | omega))) | (apply Bx.alloc; rotate_left; (focus (first | (simp; done) | (simp; omega) | omega))) | (apply Bx.setOther; rotate_left; (focus (first | (simp; done) | (simp; omega) | omega))) | apply Bx.setSame))
  have B1o := B1.out
  have B1f := B1.fr
  have hs1 : w.heap.size + 2 ≤ w1.heap.size := by have := hb.size; simpa using this
  have HB1 := hid (below_call (HI.out _ _) hb)
  clear hb
  rw [HG.out]
  go_wp2_with fail
  refine (s_l08Copy (grow H.out HB1.out) (by have := HS.out; omega)).mono ?_
  rintro e w2 ⟨v2, b2, rfl, hO, hb⟩
  obtain ⟨p2, k2', rfl⟩ := hO.slice
  obtain ⟨bx, hbx, hOw⟩ := hO.own
  have hL := hO.lts
  replace B0 : Bx w2 (w.heap.size) _ := Bx.below (b := w.heap.size) hb (by first | omega | (simp; done) | (simp; omega)) (by repeat (first  | exact B0 | exact B1 | (apply Bx.new; (focus (first | (simp; done) | (simp; omega) | omega))) | (apply Bx.alloc; rotate_left; (focus (first | (simp; done) | (simp; omega) | omega))) | (apply Bx.setOther; rotate_left; (focus (first | (simp; done) | (simp; omega) | omega))) | apply Bx.setSame))
  replace B0o := B0.out
  replace B0f := B0.fr
  replace B1 : Bx w2 (w.heap.size + 1) _ := Bx.below (b := w.heap.size + 1) hb (by first | omega | (simp; done) | (simp; omega)) (by repeat (first  | exact B0 | exact B1 | (apply Bx.new; (focus (first | (simp; done) | (simp; omega) | omega))) | (apply Bx.alloc; rotate_left; (focus (first | (simp; done) | (simp; omega) | omega))) | (apply Bx.setOther; rotate_left; (focus (first | (simp; done) | (simp; omega) | omega))) | apply Bx.setSame))
  replace B1o := B1.out
  replace B1f := B1.fr
  have hs2 : w1.heap.size ≤ w2.heap.size := hb.size
  have HO2 := hid hO
  have HB2 := hid (below_call HB1.out hb)
  have HOw := hid hOw; have HL := hid (fun b hb => hL b (hbx b hb))
  clear hb hO hOw hL
  have hss : w.heap.size + 2 ≤ w2.heap.size := by omega
  have hs := HS.out
  obtain ⟨W, hW⟩ : ∃ W : Nat, d.W = (W : Int) := ⟨d.W.toNat, by omega⟩
  have hWl := scroll_len hs
  have eW : d.W.toNat = W := by omega
  have HWl := hid hWl; have HeW := hid eW
  have hW1 : 1 ≤ W ∧ W ≤ 200 := by omega
  have hn8 : d.Cells.length ≤ 8000 := by omega
  have hlt0 : w.heap.size < w2.heap.size := by omega
  have hlt1 : w.heap.size + 1 < w2.heap.size := by omega
  have BU0 := B0.alloc hlt0 (.cells #[.int .i64 d.W, .int .i64 d.H, .slice p2 d.Cells.length k2', .int .i64 d.X, .int .i64 d.Y, .bool d.Wrap] 59)
  have BU1 := B1.alloc hlt1 (.cells #[.int .i64 d.W, .int .i64 d.H, .slice p2 d.Cells.length k2', .int .i64 d.X, .int .i64 d.Y, .bool d.Wrap] 59)
  have BU3 := Bx.new w2 #[.int .i64 d.W, .int .i64 d.H, .slice p2 d.Cells.length k2', .int .i64 d.X, .int .i64 d.Y, .bool d.Wrap] 59 rfl
  have HBU := hid (And.intro BU0 (And.intro BU1 BU3))
  have HWe := hid hW
  clear hs hWl eW BU0 BU1 BU3 hW
  go_wp2_with fail
  go_loopw [14] (fun i wr => ∃ k : Nat, k ≤ d.Cells.length ∧ i = .int .i64 k ∧ Own w1.heap.size wr bx [.slice p2 d.Cells.length k2'] (scrTo d k) ∧ Bx wr w.heap.size #[.int .i64 d.W, .int .i64 d.H, .slice a2 d.Cells.length k2, .int .i64 d.X, .int .i64 d.Y, .bool d.Wrap] ∧ Bx wr (w.heap.size + 1) #[.int .i64 0, .int .i64 0, .slice none 0 0, .int .i64 0, .int .i64 0, .bool false] ∧ Bx wr w2.heap.size #[.int .i64 d.W, .int .i64 d.H, .slice p2 d.Cells.length k2', .int .i64 d.X, .int .i64 d.Y, .bool d.Wrap] ∧ Below w.heap.size w wr) (fun i _ => d.Cells.length - (intOf i).toNat)
  case atStart => exact ⟨0, Nat.zero_le _, rfl, by rw [scrTo_zero]; exact HOw.out.alloc _, HBU.out.1, HBU.out.2.1, HBU.out.2.2, HB2.out.alloc HB2.out.size _⟩
  case round =>
    obtain ⟨k, hk, rfl, hO, hX0, hX1, hX3, hb⟩ := hrel
    have HO := hid hO; have HX0 := hid hX0; have HX1 := hid hX1; have HX3 := hid hX3; have HBr := hid hb
    rw [HWe.out] at hX0 hX3
    have x0 := hX0.out; have x1 := hX1.out; have x1f := hX1.fr; have x3 := hX3.out
    clear hX0 hX1 hX3
    by_cases hlt : k < d.Cells.length
    rotate_left
    · obtain rfl : k = d.Cells.length := by omega
      clear hO hb
      go_wp2
      refine bodyPost_ret (v := .agg #[.int .i64 (W : Int), .int .i64 d.H, .slice p2 d.Cells.length k2', .int .i64 d.X, .int .i64 d.Y, .bool d.Wrap]) (by simp [results, Try.results39, go_sem, x1]) rfl ?_
      refine ⟨[.int .i64 (W : Int), .int .i64 d.H, .slice p2 d.Cells.length k2', .int .i64 d.X, .int .i64 d.Y, .bool d.Wrap], bx, rfl, ?_, ?_⟩
      · rw [E.out, ← HWe.out]
        have hO := HO.out
        rw [scrTo_all HWl.out] at hO
        refine own_Grid (d := scrollD d) h0 h1 ?_ h3 h4
        refine Own.mono (lo := w1.heap.size) ?_ (by omega)
        (repeat ((with_reducible apply Own.setCell); rotate_left; (show w.heap.size + 1 < w1.heap.size; omega)))
        exact hO
      · (repeat (first | with_reducible exact HBr.out | ((with_reducible apply Below.setCell); rotate_left; (first | exact Nat.le_refl _ | exact Nat.le_succ _ | (simp; done)))))
    have hlk : k < (scrTo d k).length := by rw [scrTo_len HWl.out]; exact hlt
    obtain ⟨b, off, rfl, hbb, hck, hfr, hO1⟩ := hO.setScal k hlk (32 : Int) (by show I64 32; simp [I64])
    have hbl := HL.out b hbb
    have hn0 : ¬ b = w.heap.size := by omega
    have hn0' : ¬ w.heap.size = b := by omega
    have hn3 : ¬ b = w2.heap.size := by omega
    have hn3' : ¬ w2.heap.size = b := by omega
    have hck1 : wr.cell? ⟨b, off + k, none⟩ = some _ := hck
    have hwr : wrap64 ((k : Int) + (W : Int)) = (k : Int) + (W : Int) := IntWalk.wrap64_in _ (by omega)
    have HOx := hid hO1
    clear hO hck hO1
    have hsa := scroll_at k hlt HWl.out
    by_cases hc : k + W < d.Cells.length
    · have hv : (scrollD d).Cells[k]? = some d.Cells[k + W] := by rw [hsa, dif_pos (by rw [HeW.out]; exact hc)]; simp only [HeW.out]
      obtain ⟨b', off', rfl, hbw', hcv, hok'⟩ := H2.out.at (k + W) hc
      have hcv1 : wr.cell? ⟨b', off' + (k + W), none⟩ = some (.int .i64 d.Cells[k + W]) := (hb.cell (p := ⟨b', off' + (k + W), none⟩) hbw').trans hcv
      have hne : ¬ b = b' := by omega
      have hne' : ¬ b' = b := by omega
      have hci : (k : Int) + (W : Int) < (d.Cells.length : Int) := by omega
      have Hv := hid hv
      clear hcv hb hsa hv
      obtain ⟨_, _, hbo, _, _, _, hO2⟩ := HOx.out.setScal k (by simpa using hlk) d.Cells[k + W] hok'
      simp only [Option.some.injEq, Addr.mk.injEq, and_true] at hbo
      obtain ⟨rfl, rfl⟩ := hbo
      have HO3 := hid hO2
      clear hO2 hok'
      have y0 := (HX0.out.setOther (by simpa using hn0' : w.heap.size ≠ (⟨b, off + k, none⟩ : Addr).block) (.int .i64 32)).out
      have y3 := (HX3.out.setOther (by simpa using hn3' : w2.heap.size ≠ (⟨b, off + k, none⟩ : Addr).block) (.int .i64 32)).out
      rw [HWe.out] at y0 y3
      have yv : (wr.setCell ⟨b, off + k, none⟩ (.int .i64 32)).cell? ⟨b', off' + (k + W), none⟩ = some (.int .i64 d.Cells[k + W]) := (World.cell?_setCell_far _ _ _ _ (by simpa using hne)).trans hcv1
      have yb : Below w.heap.size w (wr.setCell ⟨b, off + k, none⟩ (.int .i64 32)) := HBr.out.setCell (by simp; omega) _
      have z00 := y0 0; have z02 := y0 2; have z32 := y3 2
      simp only [List.getElem?_toArray, List.getElem?_cons_zero, List.getElem?_cons_succ] at z00 z02 z32
      have yc : (wr.setCell ⟨b, off + k, none⟩ (.int .i64 32)).cell? ⟨b, off + k, none⟩ = some (.int .i64 32) := World.cell?_setCell_same _ _ _ hck1
      have yf : (wr.setCell ⟨b, off + k, none⟩ (.int .i64 32)).frozen? ⟨b, off + k, none⟩ = false := by simpa using hfr
      have hkn : (k : Int) < (d.Cells.length : Int) := by omega
      have hwr2 : IntKind.i64.wrap ((k : Int) + (W : Int)) = (k : Int) + (W : Int) := wrapI (by omega)
      have hnn : (0 : Int) ≤ (k : Int) + (W : Int) := by omega
      have hnat : ((k : Int) + (W : Int)).toNat = k + W := by omega
      have Hy := hid (And.intro yb (And.intro z00 (And.intro z02 (And.intro z32 yv))))
      go_wp2_with fail
      go_region_held3 (fun V => Below w.heap.size w V ∧ V.cell? ⟨w.heap.size, 0, none⟩ = some (.int .i64 (W : Int)) ∧ V.cell? ⟨w.heap.size, 2, none⟩ = some (.slice (some ⟨b', off', none⟩) d.Cells.length k2) ∧ V.cell? ⟨w2.heap.size, 2, none⟩ = some (.slice (some ⟨b, off, none⟩) d.Cells.length k2') ∧ V.cell? ⟨b', off' + (k + W), none⟩ = some (.int .i64 d.Cells[k + W])) (first | exact held4_drew Hy.out | assumption | exact held4_drew (held4_set _ Hy.out (by simp; omega) (by simpa using hn0) (by simpa using hn0) (by simpa using hn3) (by simpa using hne))) (fail)
      go_wp2
      refine ⟨⟨k + 1, by omega, rfl, ?_, ((HX0.out.setOther (by simpa using hn0') _).setOther (by simpa using hn0') _).drew, ((HX1.out.setOther (by simp; omega) _).setOther (by simp; omega) _).drew, ((HX3.out.setOther (by simpa using hn3') _).setOther (by simpa using hn3') _).drew, ((HBr.out.setCell (by simp; omega) _).setCell (by simp; omega) _).drew⟩, by simp [intOf]; omega⟩
      have := HO3.out
      rw [List.set_set, scrTo_set hlt Hv.out] at this
      exact this.keep (fun _ _ => rfl)
    · have hv : (scrollD d).Cells[k]? = some 32 := by rw [hsa, dif_neg (by rw [HeW.out]; exact hc)]
      have hci : ¬ (k : Int) + (W : Int) < (d.Cells.length : Int) := by omega
      have Hv := hid hv
      clear hb hsa hv
      go_wp2
      refine ⟨⟨k + 1, by omega, rfl, ?_, HX0.out.setOther (by simpa using hn0') _, HX1.out.setOther (by simp; omega) _, HX3.out.setOther (by simpa using hn3') _, HBr.out.setCell (by simp; omega) _⟩, by simp [intOf]; omega⟩
      have := HOx.out
      rw [scrTo_set hlt Hv.out] at this
      exact this
end Go.Proofs.Ytladpkeaahimkaa
