/- Lines that are made anew (printed by genline.py). -/
import Derived.Test.YtdfpjchneofndaaText
import Derived.Test.YtdfpjchneofndaaCopy
import Derived.Test.YtdfpjchneofndaaWords
import Derived.Deep.RegionHeld3
import Derived.Lib.MinMax
import Derived.Deep.DeepCutAuto
set_option linter.unusedSimpArgs false
set_option linter.unusedVariables false
namespace Go.G6
open Go.RowKit
def lineText (d : LineD) : ByteArray := if lineOk d then textOf d.Text else ByteArray.empty
theorem own_line0 (lo : Nat) (w : World) : Own lo w [] [.slice none 0 0, .int .i64 0] line0 := own_Line (d := line0) (own_nil _ _) (by simp [I64, line0])
theorem I64_nat {n : Nat} (h : n ≤ 1000000000) : I64 (n : Int) := by unfold I64; omega
end Go.G6
namespace Go.Proofs.Ytdfpjchneofndaa
open Go.RowKit Go.G6
set_option maxHeartbeats 1600000
set_option maxRecDepth 10000
theorem i_goTo {w : World} {bs : List Nat} {cs : List Value} {d : LineD} (h : Rep.pt w bs cs d) (x : Int) (hx : I64 x) (hn : d.Text.length ≤ 16777216) :
    Calls Try.prog 130 #[.agg cs.toArray, .int .i64 x] w fun e w' => ∃ v bs', e = .returned (.agg #[v, .int .i64 (clampN x d.Text.length)]) ∧ OwnL w.heap.size w' 3 v bs' d.Text ∧ Below w.heap.size w w' := by
  have H := hid h
  obtain ⟨a0, l0, k0, rfl, h0, h1⟩ := open_Line h
  obtain rfl := h0.len_eq
  clear h
  have H0 := hid (held2_new w #[.slice a0 d.Text.length k0, .int .i64 d.At] #[.slice none 0 0, .int .i64 0] 81 81)
  have HB1 : Hid (Bx ((w.alloc (.cells #[.slice a0 d.Text.length k0, .int .i64 d.At] 81)).alloc (.cells #[.slice none 0 0, .int .i64 0] 81)) (w.heap.size + 1) #[.slice none 0 0, .int .i64 0]) := hid (Bx.new _ _ _ (by simp))
  have Hcl := hid (clampN_eq x d.Text.length)
  go_enter Try.func130, Try.ntmps130
  go_wp2
  go_region_held3 (fun W => Below w.heap.size w W ∧ w.heap.size + 2 ≤ W.heap.size ∧ (∀ o, W.cell? ⟨w.heap.size, o, none⟩ = #[.slice a0 d.Text.length k0, .int .i64 d.At][o]?)) (first | exact held1_of2 (held2_drew H0.out) | assumption | exact held1_set _ (held1_set _ (by assumption) (by simp) (by simp)) (by simp) (by simp)) (first | (go_at_call 103; refine (i_copyInts (h0.grow (by go_split_ands; assumption)) hn).mono ?_; rintro e w1 ⟨v, b1, rfl, hO, hb⟩; obtain ⟨p, c, rfl⟩ := hO.slice; have qS := held1_below (by assumption) hb (by omega) (by omega); have qB := Bx.below (b := w.heap.size + 1) hb (by go_split_ands; omega) (by first | assumption | exact HB1.out.drew); have qBo := qB.out; have qBf := qB.fr; have HO := hid hO; have HS1 := hid qS.2.1; clear hO))
  all_goals
    have HQ : Hid (Below w.heap.size w w1) := hid (by go_split_ands; assumption)
    clear qS
    go_wp2
    refine bodyPost_ret (v := .agg #[.slice p d.Text.length c, .int .i64 (clampN x d.Text.length)]) (by rw [← Hcl.out]; simp [results, Try.results130, go_sem, qBo]) rfl ?_
    refine ⟨_, b1, rfl, ?_, (HQ.out.setCell (by simp) _).setCell (by simp) _⟩
    exact ((HO.out.setLow (by first | (simp; done) | (simp; omega)) _).setLow (by first | (simp; done) | (simp; omega)) _).mono (by first | (simp; done) | (simp; omega))
theorem i_LineText {w : World} {bs : List Nat} {cs : List Value} {d : LineD} (h : Rep.pt w bs cs d) :
    Calls Try.prog 67 #[.agg cs.toArray] w fun e w' => e = .returned (.string (lineText d)) ∧ Below w.heap.size w w' := by
  have H := hid h
  obtain ⟨a0, l0, k0, rfl, h0, h1⟩ := open_Line h
  obtain rfl := h0.len_eq
  clear h
  cases hk : lineOk d
  · have HZ : Hid (lineText d = ByteArray.empty) := hid (by simp [lineText, hk])
    have Hk := hid hk; clear hk
    go_enter Try.func67, Try.ntmps67
    go_wp2_with fail
    refine (i_LineOk (grow H.out ?_)).mono ?_
    · exact (Below.refl _ _).alloc (Nat.le_refl _) _
    rintro e w1 ⟨rfl, hb⟩
    have HB := hid (below_call ((Below.refl _ _).alloc (Nat.le_refl _) _) hb)
    clear hb
    rw [Hk.out]
    go_wp2
    go_ret
    exact ⟨by rw [HZ.out]; rfl, HB.out⟩
  have hq := lineOk_bounds hk
  have HZ : Hid (lineText d = textOf d.Text) := hid (by simp [lineText, hk])
  have Hk := hid hk; clear hk
  have Hq := hid hq; clear hq
  go_enter Try.func67, Try.ntmps67
  go_wp2_with fail
  refine (i_LineOk (grow H.out ?_)).mono ?_
  · exact (Below.refl _ _).alloc (Nat.le_refl _) _
  rintro e w1 ⟨rfl, hb⟩
  have B0 : Bx w1 (w.heap.size) _ := Bx.below (b := w.heap.size) hb (by first | omega | (simp; done) | (simp; omega)) (by repeat (first  | (apply Bx.new; (focus (first | (simp; done) | (simp; omega) | omega))) | (apply Bx.alloc; rotate_left; (focus (first | (simp; done) | (simp; omega) | omega))) | (apply Bx.setOther; rotate_left; (focus (first | (simp; done) | (simp; omega) | omega))) | apply Bx.setSame))
  have B0o := B0.out
  have B0f := B0.fr
  have HB := hid (below_call ((Below.refl _ _).alloc (Nat.le_refl _) _) hb)
  clear hb
  rw [Hk.out]
  go_wp2_with fail
  refine (i_TextOf (h0.grow HB.out) (by have := Hq.out; omega)).mono ?_
  rintro e w2 ⟨rfl, hb⟩
  have HB2 := hid (below_call HB.out hb)
  clear hb
  go_wp2
  go_ret
  exact ⟨by rw [HZ.out]; rfl, HB2.out⟩
end Go.Proofs.Ytdfpjchneofndaa
