/- Lines that are made anew (printed by genline.py). -/
import Derived.Test.YtndhhongkigikaaText
import Derived.Test.YtndhhongkigikaaCopy
import Derived.Test.YtndhhongkigikaaWords
import Derived.Deep.RegionHeld3
import Derived.Lib.MinMax
import Derived.Deep.DeepCutAuto
set_option linter.unusedSimpArgs false
set_option linter.unusedVariables false
namespace Go.G6
open Go.RowKit
def lineText (d : LineD) : ByteArray := if lineOk d then textOf d.Text else ByteArray.empty
theorem own_line0 (lo : Nat) (w : World) : Own lo w [] [.slice none 0 0, .int .i64 0] line0 := own_Line (d := line0) (own_nil _ _) (by simp [I64, line0])
theorem I64_nat {n : Nat} (h : n ≤ 1000000000) : I64 (n : Int) := by unfold I64; omega
end Go.G6
namespace Go.Proofs.Ytndhhongkigikaa
open Go.RowKit Go.G6
set_option maxHeartbeats 1600000
set_option maxRecDepth 10000
theorem i_goTo {w : World} {bs : List Nat} {cs : List Value} {d : LineD} (h : Rep.pt w bs cs d) (x : Int) (hx : I64 x) (hn : d.Text.length ≤ 16777216) :
    Calls Try.prog 77 #[.agg cs.toArray, .int .i64 x] w fun e w' => ∃ v bs', e = .returned (.agg #[v, .int .i64 (clampN x d.Text.length)]) ∧ OwnL w.heap.size w' 3 v bs' d.Text ∧ Below w.heap.size w w' := by
  have H := hid h
  obtain ⟨a0, l0, k0, rfl, h0, h1⟩ := open_Line h
  obtain rfl := h0.len_eq
  clear h
  have H0 := hid (held2_new w #[.slice a0 d.Text.length k0, .int .i64 d.At] #[.slice none 0 0, .int .i64 0] 26 26)
  have HB1 : Hid (Bx ((w.alloc (.cells #[.slice a0 d.Text.length k0, .int .i64 d.At] 26)).alloc (.cells #[.slice none 0 0, .int .i64 0] 26)) (w.heap.size + 1) #[.slice none 0 0, .int .i64 0]) := hid (Bx.new _ _ _ (by simp))
  have Hcl := hid (clampN_eq x d.Text.length)
  go_enter Try.func77, Try.ntmps77
  go_wp2
  go_region_held3 (fun W => Below w.heap.size w W ∧ w.heap.size + 2 ≤ W.heap.size ∧ (∀ o, W.cell? ⟨w.heap.size, o, none⟩ = #[.slice a0 d.Text.length k0, .int .i64 d.At][o]?)) (first | exact held1_of2 (held2_drew H0.out) | assumption | exact held1_set _ (held1_set _ (by assumption) (by simp) (by simp)) (by simp) (by simp)) (first | (go_at_call 99; refine (i_copyInts (h0.grow (by go_split_ands; assumption)) hn).mono ?_; rintro e w1 ⟨v, b1, rfl, hO, hb⟩; obtain ⟨p, c, rfl⟩ := hO.slice; have qS := held1_below (by assumption) hb (by omega) (by omega); have qB := Bx.below (b := w.heap.size + 1) hb (by go_split_ands; omega) (by first | assumption | exact HB1.out.drew); have qBo := qB.out; have qBf := qB.fr; have HO := hid hO; have HS1 := hid qS.2.1; clear hO))
  all_goals
    have HQ : Hid (Below w.heap.size w w1) := hid (by go_split_ands; assumption)
    clear qS
    go_wp2
    refine bodyPost_ret (v := .agg #[.slice p d.Text.length c, .int .i64 (clampN x d.Text.length)]) (by rw [← Hcl.out]; simp [results, Try.results77, go_sem, qBo]) rfl ?_
    refine ⟨_, b1, rfl, ?_, (HQ.out.setCell (by simp) _).setCell (by simp) _⟩
    exact ((HO.out.setLow (by first | (simp; done) | (simp; omega)) _).setLow (by first | (simp; done) | (simp; omega)) _).mono (by first | (simp; done) | (simp; omega))
theorem s_l13If {w : World} {bs : List Nat} {cs : List Value} {d : LineD} (h : Rep.pt w bs cs d) (ok : Bool) :
    Calls Try.prog 98 #[.agg cs.toArray, .bool ok] w (RetABX w bs (lineIf d ok) (.bool (ok && lineOk d))) := by
  have H := hid h
  obtain ⟨a0, l0, k0, rfl, h0, h1⟩ := open_Line h
  obtain rfl := h0.len_eq
  clear h
  have H0 := hid (held2_new w #[.slice a0 d.Text.length k0, .int .i64 d.At] #[.slice none 0 0, .int .i64 0] 26 26)
  have HB1 : Hid (Bx ((w.alloc (.cells #[.slice a0 d.Text.length k0, .int .i64 d.At] 26)).alloc (.cells #[.slice none 0 0, .int .i64 0] 26)) (w.heap.size + 1) #[.slice none 0 0, .int .i64 0]) := hid (Bx.new _ _ _ (by simp))
  cases ok
  · have HZ : Hid ((false && lineOk d) = false ∧ lineIf d false = line0) := hid ⟨by simp, by simp [lineIf]⟩
    have HB : Hid (Below w.heap.size w ((w.alloc (.cells #[.slice a0 d.Text.length k0, .int .i64 d.At] 26)).alloc (.cells #[.slice none 0 0, .int .i64 0] 26))) := hid (((Below.refl _ _).alloc (Nat.le_refl _) _).alloc (by simp) _)
    have B1o := HB1.out.out
    go_enter Try.func98, Try.ntmps98
    go_wp2
    refine bodyPost_ret (v := .tuple #[.agg #[.slice none 0 0, .int .i64 0], .bool false]) (by simp [results, Try.results98, go_sem, B1o]) rfl ?_
    refine ⟨[.slice none 0 0, .int .i64 0], [], (fun b hb => by cases hb), by first | rfl | rw [HZ.out.1], ?_, ?_⟩
    · rw [HZ.out.2]; exact (own_line0 0 _).1
    · (repeat (first | exact HB.out | exact Below.refl _ _ | refine Below.setCell ?_ (by first | omega | (simp; done) | (simp; omega)) _ | refine Below.alloc ?_ (by first | omega | (simp; done) | (simp; omega)) _))
  cases hk : lineOk d
  · have HZ : Hid ((true && false) = false ∧ lineIf d true = line0) := hid ⟨by simp, by simp [lineIf, hk]⟩
    have Hk := hid hk; clear hk
    go_enter Try.func98, Try.ntmps98
    go_wp2_with fail
    refine (s_LineOk (grow H.out ?_)).mono ?_
    · exact ((Below.refl _ _).alloc (Nat.le_refl _) _).alloc (by simp) _
    rintro e w1 ⟨rfl, hb⟩
    have B1 : Bx w1 (w.heap.size + 1) _ := Bx.below (b := w.heap.size + 1) hb (by first | omega | (simp; done) | (simp; omega)) (by repeat (first  | (apply Bx.new; (focus (first | (simp; done) | (simp; omega) | omega))) | (apply Bx.alloc; rotate_left; (focus (first | (simp; done) | (simp; omega) | omega))) | (apply Bx.setOther; rotate_left; (focus (first | (simp; done) | (simp; omega) | omega))) | apply Bx.setSame))
    have B1o := B1.out
    have B1f := B1.fr
    have HB := hid (below_call (((Below.refl _ _).alloc (Nat.le_refl _) _).alloc (by simp) _) hb)
    clear hb
    rw [Hk.out]
    go_wp2
    refine bodyPost_ret (v := .tuple #[.agg #[.slice none 0 0, .int .i64 0], .bool false]) (by simp [results, Try.results98, go_sem, B1o]) rfl ?_
    refine ⟨[.slice none 0 0, .int .i64 0], [], (fun b hb => by cases hb), by first | rfl | rw [HZ.out.1], ?_, ?_⟩
    · rw [HZ.out.2]; exact (own_line0 0 _).1
    · (repeat (first | exact HB.out | exact Below.refl _ _ | refine Below.setCell ?_ (by first | omega | (simp; done) | (simp; omega)) _ | refine Below.alloc ?_ (by first | omega | (simp; done) | (simp; omega)) _))
  have HZ : Hid ((true && true) = true ∧ lineIf d true = d) := hid ⟨by simp, by simp [lineIf, hk]⟩
  have Hk := hid hk; clear hk
  go_enter Try.func98, Try.ntmps98
  go_wp2_with fail
  refine (s_LineOk (grow H.out ?_)).mono ?_
  · exact ((Below.refl _ _).alloc (Nat.le_refl _) _).alloc (by simp) _
  rintro e w1 ⟨rfl, hb⟩
  have B0 : Bx w1 (w.heap.size) _ := Bx.below (b := w.heap.size) hb (by first | omega | (simp; done) | (simp; omega)) (by repeat (first  | (apply Bx.new; (focus (first | (simp; done) | (simp; omega) | omega))) | (apply Bx.alloc; rotate_left; (focus (first | (simp; done) | (simp; omega) | omega))) | (apply Bx.setOther; rotate_left; (focus (first | (simp; done) | (simp; omega) | omega))) | apply Bx.setSame))
  have B0o := B0.out
  have B0f := B0.fr
  have B1 : Bx w1 (w.heap.size + 1) _ := Bx.below (b := w.heap.size + 1) hb (by first | omega | (simp; done) | (simp; omega)) (by repeat (first  | (apply Bx.new; (focus (first | (simp; done) | (simp; omega) | omega))) | (apply Bx.alloc; rotate_left; (focus (first | (simp; done) | (simp; omega) | omega))) | (apply Bx.setOther; rotate_left; (focus (first | (simp; done) | (simp; omega) | omega))) | apply Bx.setSame))
  have B1o := B1.out
  have B1f := B1.fr
  have HB := hid (below_call (((Below.refl _ _).alloc (Nat.le_refl _) _).alloc (by simp) _) hb)
  clear hb
  rw [Hk.out]
  go_wp2
  have hb9 := (HB.out.setCell (p := ⟨w.heap.size + 1, 0, none⟩) (by simp) (.slice a0 d.Text.length k0)).setCell (p := ⟨w.heap.size + 1, 1, none⟩) (by simp) (.int .i64 d.At)
  refine bodyPost_ret (v := .tuple #[.agg #[.slice a0 d.Text.length k0, .int .i64 d.At], .bool true]) (by simp [results, Try.results98, go_sem, B1o]) rfl ?_
  exact ⟨[.slice a0 d.Text.length k0, .int .i64 d.At], bs, fun _ h => h, by first | rfl | rw [HZ.out.1], by rw [HZ.out.2]; exact grow H.out hb9, hb9⟩
end Go.Proofs.Ytndhhongkigikaa
