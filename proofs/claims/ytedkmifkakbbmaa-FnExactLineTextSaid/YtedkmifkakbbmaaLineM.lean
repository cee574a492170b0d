/- Lines that are made anew (printed by genline.py). -/
import Derived.Test.YtedkmifkakbbmaaText
import Derived.Test.YtedkmifkakbbmaaCopy
import Derived.Test.YtedkmifkakbbmaaWords
import Derived.Deep.RegionHeld3
import Derived.Lib.MinMax
set_option linter.unusedSimpArgs false
set_option linter.unusedVariables false
namespace Go.G6
open Go.RowKit
def lineText (d : LineD) : ByteArray := if lineOk d then textOf d.Text else ByteArray.empty
theorem own_line0 (lo : Nat) (w : World) : Own lo w [] [.slice none 0 0, .int .i64 0] line0 := own_Line (d := line0) (own_nil _ _) (by simp [I64, line0])
theorem I64_nat {n : Nat} (h : n ≤ 1000000000) : I64 (n : Int) := by unfold I64; omega
end Go.G6
namespace Go.Proofs.Ytedkmifkakbbmaa
open Go.RowKit Go.G6
set_option maxHeartbeats 1600000
set_option maxRecDepth 10000
theorem i_goTo {w : World} {bs : List Nat} {cs : List Value} {d : LineD} (h : Rep.pt w bs cs d) (x : Int) (hx : I64 x) (hn : d.Text.length ≤ 16777216) :
    Calls Try.prog 63 #[.agg cs.toArray, .int .i64 x] w fun e w' => ∃ v bs', e = .returned (.agg #[v, .int .i64 (clampN x d.Text.length)]) ∧ OwnL w.heap.size w' 3 v bs' d.Text ∧ Below w.heap.size w w' := by
  have H := hid h
  obtain ⟨a0, l0, k0, rfl, h0, h1⟩ := open_Line h
  obtain rfl := h0.len_eq
  clear h
  have H0 := hid (held2_new w #[.slice a0 d.Text.length k0, .int .i64 d.At] #[.slice none 0 0, .int .i64 0] 26 26)
  have HB1 : Hid (Bx ((w.alloc (.cells #[.slice a0 d.Text.length k0, .int .i64 d.At] 26)).alloc (.cells #[.slice none 0 0, .int .i64 0] 26)) (w.heap.size + 1) #[.slice none 0 0, .int .i64 0]) := hid (Bx.new _ _ _ (by simp))
  have Hcl := hid (clampN_eq x d.Text.length)
  go_enter Try.func63, Try.ntmps63
  go_wp2
  go_region_held3 (fun W => Below w.heap.size w W ∧ w.heap.size + 2 ≤ W.heap.size ∧ (∀ o, W.cell? ⟨w.heap.size, o, none⟩ = #[.slice a0 d.Text.length k0, .int .i64 d.At][o]?)) (first | exact held1_of2 (held2_drew H0.out) | assumption | exact held1_set _ (held1_set _ (by assumption) (by simp) (by simp)) (by simp) (by simp)) (first | (go_at_call 65; refine (i_copyInts (h0.grow (by go_split_ands; assumption)) hn).mono ?_; rintro e w1 ⟨v, b1, rfl, hO, hb⟩; obtain ⟨p, c, rfl⟩ := hO.slice; have qS := held1_below (by assumption) hb (by omega) (by omega); have qB := Bx.below (b := w.heap.size + 1) hb (by go_split_ands; omega) (by first | assumption | exact HB1.out.drew); have qBo := qB.out; have qBf := qB.fr; have HO := hid hO; have HS1 := hid qS.2.1; clear hO))
  all_goals
    have HQ : Hid (Below w.heap.size w w1) := hid (by go_split_ands; assumption)
    clear qS
    go_wp2
    refine bodyPost_ret (v := .agg #[.slice p d.Text.length c, .int .i64 (clampN x d.Text.length)]) (by rw [← Hcl.out]; simp [results, Try.results63, go_sem, qBo]) rfl ?_
    refine ⟨_, b1, rfl, ?_, (HQ.out.setCell (by simp) _).setCell (by simp) _⟩
    exact ((HO.out.setLow (by first | (simp; done) | (simp; omega)) _).setLow (by first | (simp; done) | (simp; omega)) _).mono (by first | (simp; done) | (simp; omega))
theorem i_LineGo {w : World} {bs : List Nat} {cs : List Value} {d : LineD} (h : Rep.pt w bs cs d) (x : Int) (hx : I64 x) :
    Calls Try.prog 30 #[.agg cs.toArray, .int .i64 x] w (RetAB w (lineGo d x) (.bool (lineOk d))) := by
  have H := hid h
  obtain ⟨a0, l0, k0, rfl, h0, h1⟩ := open_Line h
  obtain rfl := h0.len_eq
  clear h
  have H0 := hid (held2_new w #[.slice a0 d.Text.length k0, .int .i64 d.At] #[.slice none 0 0, .int .i64 0] 26 26)
  have HB1 : Hid (Bx ((w.alloc (.cells #[.slice a0 d.Text.length k0, .int .i64 d.At] 26)).alloc (.cells #[.slice none 0 0, .int .i64 0] 26)) (w.heap.size + 1) #[.slice none 0 0, .int .i64 0]) := hid (Bx.new _ _ _ (by simp))
  cases hk : lineOk d
  · have HZ : Hid (lineOk d = false ∧ lineGo d x = line0) := hid ⟨hk, by simp [lineGo, hk]⟩
    have Hk := hid hk; clear hk
    go_enter Try.func30, Try.ntmps30
    go_wp2_with fail
    refine (i_LineOk (grow H.out ?_)).mono ?_
    · exact ((Below.refl _ _).alloc (Nat.le_refl _) _).alloc (by simp) _
    rintro e w1 ⟨rfl, hb⟩
    have B1 : Bx w1 (w.heap.size + 1) _ := Bx.below (b := w.heap.size + 1) hb (by first | omega | (simp; done) | (simp; omega)) (by repeat (first  | (apply Bx.new; (focus (first | (simp; done) | (simp; omega) | omega))) | (apply Bx.alloc; rotate_left; (focus (first | (simp; done) | (simp; omega) | omega))) | (apply Bx.setOther; rotate_left; (focus (first | (simp; done) | (simp; omega) | omega))) | apply Bx.setSame))
    have B1o := B1.out
    have B1f := B1.fr
    have HB := hid (below_call (((Below.refl _ _).alloc (Nat.le_refl _) _).alloc (by simp) _) hb)
    clear hb
    rw [Hk.out]
    go_wp2
    refine bodyPost_ret (v := .tuple #[.agg #[.slice none 0 0, .int .i64 0], .bool false]) (by simp [results, Try.results30, go_sem, B1o]) rfl ?_
    refine ⟨[.slice none 0 0, .int .i64 0], [], by first | rfl | rw [HZ.out.1], ?_, ?_⟩
    · rw [HZ.out.2]; exact own_line0 _ _
    · (repeat (first | exact HB.out | exact Below.refl _ _ | refine Below.setCell ?_ (by first | omega | (simp; done) | (simp; omega)) _ | refine Below.alloc ?_ (by first | omega | (simp; done) | (simp; omega)) _))
  have hq := lineOk_bounds hk
  have HZ : Hid (lineOk d = true ∧ lineGo d x = goToD d x) := hid ⟨hk, by simp [lineGo, hk]⟩
  have Hk := hid hk; clear hk
  have Hq := hid hq; clear hq
  go_enter Try.func30, Try.ntmps30
  go_wp2_with fail
  refine (i_LineOk (grow H.out ?_)).mono ?_
  · exact ((Below.refl _ _).alloc (Nat.le_refl _) _).alloc (by simp) _
  rintro e w1 ⟨rfl, hb⟩
  have B0 : Bx w1 (w.heap.size) _ := Bx.below (b := w.heap.size) hb (by first | omega | (simp; done) | (simp; omega)) (by repeat (first  | (apply Bx.new; (focus (first | (simp; done) | (simp; omega) | omega))) | (apply Bx.alloc; rotate_left; (focus (first | (simp; done) | (simp; omega) | omega))) | (apply Bx.setOther; rotate_left; (focus (first | (simp; done) | (simp; omega) | omega))) | apply Bx.setSame))
  have B0o := B0.out
  have B0f := B0.fr
  have B1 : Bx w1 (w.heap.size + 1) _ := Bx.below (b := w.heap.size + 1) hb (by first | omega | (simp; done) | (simp; omega)) (by repeat (first  | (apply Bx.new; (focus (first | (simp; done) | (simp; omega) | omega))) | (apply Bx.alloc; rotate_left; (focus (first | (simp; done) | (simp; omega) | omega))) | (apply Bx.setOther; rotate_left; (focus (first | (simp; done) | (simp; omega) | omega))) | apply Bx.setSame))
  have B1o := B1.out
  have B1f := B1.fr
  have HB1x := hid (below_call (((Below.refl _ _).alloc (Nat.le_refl _) _).alloc (by simp) _) hb)
  have hs1 : w.heap.size + 2 ≤ w1.heap.size := by have := hb.size; simpa using this
  clear hb
  rw [Hk.out]
  go_wp2_with fail
  refine (i_goTo (grow H.out HB1x.out) x hx (by have := Hq.out; omega)).mono ?_
  rintro e w2 ⟨v2, b2, rfl, hO, hb⟩
  obtain ⟨p2, k2, rfl⟩ := hO.slice
  replace B1 : Bx w2 (w.heap.size + 1) _ := Bx.below (b := w.heap.size + 1) hb (by first | omega | (simp; done) | (simp; omega)) (by repeat (first  | exact B0 | exact B1 | (apply Bx.new; (focus (first | (simp; done) | (simp; omega) | omega))) | (apply Bx.alloc; rotate_left; (focus (first | (simp; done) | (simp; omega) | omega))) | (apply Bx.setOther; rotate_left; (focus (first | (simp; done) | (simp; omega) | omega))) | apply Bx.setSame))
  replace B1o := B1.out
  replace B1f := B1.fr
  have HO2 := hid hO
  have HB2 := hid (below_call HB1x.out hb)
  clear hb hO
  go_wp2
  refine bodyPost_ret (v := .tuple #[.agg #[.slice p2 d.Text.length k2, .int .i64 (clampN x d.Text.length)], .bool true]) (by simp [results, Try.results30, go_sem, B1o]) rfl ?_
  obtain ⟨b2x, hbx, hOw⟩ := HO2.out.own
  refine ⟨[.slice p2 d.Text.length k2, .int .i64 (clampN x d.Text.length)], b2x, by first | rfl | rw [HZ.out.1], ?_, (HB2.out.setCell (by simp) _).setCell (by simp) _⟩
  rw [HZ.out.2]
  refine own_Line (d := goToD d x) ?_ (I64_nat (by have := clampN_le x d.Text.length; have := Hq.out; omega))
  exact (Own.setCell' _ (Own.setCell' _ hOw (fun b hb => by have := HO2.out.lts b (hbx b hb); simp; omega)) (fun b hb => by have := HO2.out.lts b (hbx b hb); simp; omega)).mono (by omega)
theorem s_l13If {w : World} {bs : List Nat} {cs : List Value} {d : LineD} (h : Rep.pt w bs cs d) (ok : Bool) :
    Calls Try.prog 64 #[.agg cs.toArray, .bool ok] w (RetABX w bs (lineIf d ok) (.bool (ok && lineOk d))) := by
  have H := hid h
  obtain ⟨a0, l0, k0, rfl, h0, h1⟩ := open_Line h
  obtain rfl := h0.len_eq
  clear h
  have H0 := hid (held2_new w #[.slice a0 d.Text.length k0, .int .i64 d.At] #[.slice none 0 0, .int .i64 0] 26 26)
  have HB1 : Hid (Bx ((w.alloc (.cells #[.slice a0 d.Text.length k0, .int .i64 d.At] 26)).alloc (.cells #[.slice none 0 0, .int .i64 0] 26)) (w.heap.size + 1) #[.slice none 0 0, .int .i64 0]) := hid (Bx.new _ _ _ (by simp))
  cases ok
  · have HZ : Hid ((false && lineOk d) = false ∧ lineIf d false = line0) := hid ⟨by simp, by simp [lineIf]⟩
    have HB : Hid (Below w.heap.size w ((w.alloc (.cells #[.slice a0 d.Text.length k0, .int .i64 d.At] 26)).alloc (.cells #[.slice none 0 0, .int .i64 0] 26))) := hid (((Below.refl _ _).alloc (Nat.le_refl _) _).alloc (by simp) _)
    have B1o := HB1.out.out
    go_enter Try.func64, Try.ntmps64
    go_wp2
    refine bodyPost_ret (v := .tuple #[.agg #[.slice none 0 0, .int .i64 0], .bool false]) (by simp [results, Try.results64, go_sem, B1o]) rfl ?_
    refine ⟨[.slice none 0 0, .int .i64 0], [], (fun b hb => by cases hb), by first | rfl | rw [HZ.out.1], ?_, ?_⟩
    · rw [HZ.out.2]; exact (own_line0 0 _).1
    · (repeat (first | exact HB.out | exact Below.refl _ _ | refine Below.setCell ?_ (by first | omega | (simp; done) | (simp; omega)) _ | refine Below.alloc ?_ (by first | omega | (simp; done) | (simp; omega)) _))
  cases hk : lineOk d
  · have HZ : Hid ((true && false) = false ∧ lineIf d true = line0) := hid ⟨by simp, by simp [lineIf, hk]⟩
    have Hk := hid hk; clear hk
    go_enter Try.func64, Try.ntmps64
    go_wp2_with fail
    refine (s_LineOk (grow H.out ?_)).mono ?_
    · exact ((Below.refl _ _).alloc (Nat.le_refl _) _).alloc (by simp) _
    rintro e w1 ⟨rfl, hb⟩
    have B1 : Bx w1 (w.heap.size + 1) _ := Bx.below (b := w.heap.size + 1) hb (by first | omega | (simp; done) | (simp; omega)) (by repeat (first  | (apply Bx.new; (focus (first | (simp; done) | (simp; omega) | omega))) | (apply Bx.alloc; rotate_left; (focus (first | (simp; done) | (simp; omega) | omega))) | (apply Bx.setOther; rotate_left; (focus (first | (simp; done) | (simp; omega) | omega))) | apply Bx.setSame))
    have B1o := B1.out
    have B1f := B1.fr
    have HB := hid (below_call (((Below.refl _ _).alloc (Nat.le_refl _) _).alloc (by simp) _) hb)
    clear hb
    rw [Hk.out]
    go_wp2
    refine bodyPost_ret (v := .tuple #[.agg #[.slice none 0 0, .int .i64 0], .bool false]) (by simp [results, Try.results64, go_sem, B1o]) rfl ?_
    refine ⟨[.slice none 0 0, .int .i64 0], [], (fun b hb => by cases hb), by first | rfl | rw [HZ.out.1], ?_, ?_⟩
    · rw [HZ.out.2]; exact (own_line0 0 _).1
    · (repeat (first | exact HB.out | exact Below.refl _ _ | refine Below.setCell ?_ (by first | omega | (simp; done) | (simp; omega)) _ | refine Below.alloc ?_ (by first | omega | (simp; done) | (simp; omega)) _))
  have HZ : Hid ((true && true) = true ∧ lineIf d true = d) := hid ⟨by simp, by simp [lineIf, hk]⟩
  have Hk := hid hk; clear hk
  go_enter Try.func64, Try.ntmps64
  go_wp2_with fail
  refine (s_LineOk (grow H.out ?_)).mono ?_
  · exact ((Below.refl _ _).alloc (Nat.le_refl _) _).alloc (by simp) _
  rintro e w1 ⟨rfl, hb⟩
  have B0 : Bx w1 (w.heap.size) _ := Bx.below (b := w.heap.size) hb (by first | omega | (simp; done) | (simp; omega)) (by repeat (first  | (apply Bx.new; (focus (first | (simp; done) | (simp; omega) | omega))) | (apply Bx.alloc; rotate_left; (focus (first | (simp; done) | (simp; omega) | omega))) | (apply Bx.setOther; rotate_left; (focus (first | (simp; done) | (simp; omega) | omega))) | apply Bx.setSame))
  have B0o := B0.out
  have B0f := B0.fr
  have B1 : Bx w1 (w.heap.size + 1) _ := Bx.below (b := w.heap.size + 1) hb (by first | omega | (simp; done) | (simp; omega)) (by repeat (first  | (apply Bx.new; (focus (first | (simp; done) | (simp; omega) | omega))) | (apply Bx.alloc; rotate_left; (focus (first | (simp; done) | (simp; omega) | omega))) | (apply Bx.setOther; rotate_left; (focus (first | (simp; done) | (simp; omega) | omega))) | apply Bx.setSame))
  have B1o := B1.out
  have B1f := B1.fr
  have HB := hid (below_call (((Below.refl _ _).alloc (Nat.le_refl _) _).alloc (by simp) _) hb)
  clear hb
  rw [Hk.out]
  go_wp2
  have hb9 := (HB.out.setCell (p := ⟨w.heap.size + 1, 0, none⟩) (by simp) (.slice a0 d.Text.length k0)).setCell (p := ⟨w.heap.size + 1, 1, none⟩) (by simp) (.int .i64 d.At)
  refine bodyPost_ret (v := .tuple #[.agg #[.slice a0 d.Text.length k0, .int .i64 d.At], .bool true]) (by simp [results, Try.results64, go_sem, B1o]) rfl ?_
  exact ⟨[.slice a0 d.Text.length k0, .int .i64 d.At], bs, fun _ h => h, by first | rfl | rw [HZ.out.1], by rw [HZ.out.2]; exact grow H.out hb9, hb9⟩
theorem s_LineGo {w : World} {bs : List Nat} {cs : List Value} {d : LineD} (h : Rep.pt w bs cs d) (x : Int) (hx : I64 x) (hn : d.Text.length ≤ 1048576) :
    Calls Try.prog 29 #[.agg cs.toArray, .int .i64 x] w (RetABP w (lineGo d x) (.bool (lineOk d))) := by
  have H := hid h
  obtain ⟨a0, l0, k0, rfl, h0, h1⟩ := open_Line h
  obtain rfl := h0.len_eq
  clear h
  have H0 := hid (held2_new w #[.slice a0 d.Text.length k0, .int .i64 d.At] #[.slice none 0 0, .int .i64 0] 26 26)
  have HB1 : Hid (Bx ((w.alloc (.cells #[.slice a0 d.Text.length k0, .int .i64 d.At] 26)).alloc (.cells #[.slice none 0 0, .int .i64 0] 26)) (w.heap.size + 1) #[.slice none 0 0, .int .i64 0]) := hid (Bx.new _ _ _ (by simp))
  have Hcl := hid (clampN_eq x d.Text.length)
  have HZ : Hid ((lineOk d && lineOk (goToD d x)) = lineOk d ∧ lineIf (goToD d x) (lineOk d) = lineGo d x) := hid (by
    cases hk : lineOk d
    · simp [lineIf, lineGo, hk]
    · simp [lineIf, lineGo, hk, lineOk_goTo x hk])
  go_enter Try.func29, Try.ntmps29
  go_wp2
  go_region_held3 (fun W => Below w.heap.size w W ∧ w.heap.size + 2 ≤ W.heap.size ∧ (∀ o, W.cell? ⟨w.heap.size, o, none⟩ = #[.slice a0 d.Text.length k0, .int .i64 d.At][o]?)) (first | exact held1_of2 (held2_drew H0.out) | assumption | exact held1_set _ (held1_set _ (by assumption) (by simp) (by simp)) (by simp) (by simp)) (first | (go_at_call 61; refine (s_l13Join (h0.grow (by go_split_ands; assumption)) (slc_nil _) (slc_nil _) (by omega) (Nat.zero_le _) (Nat.zero_le _)).mono ?_; rintro e w1 ⟨v, b1, rfl, hO, hb⟩; simp only [List.append_nil] at hO; obtain ⟨p, c, bx, rfl, hbx, hS⟩ := hO.slc; have qS := held1_below (by assumption) hb (by omega) (by omega); have qB := Bx.below (b := w.heap.size + 1) hb (by go_split_ands; omega) (by first | assumption | exact HB1.out.drew); have qBo := qB.out; have qBf := qB.fr; have HS := hid hS; have RB : Hid (∀ b ∈ bx, w.heap.size + 2 ≤ b) := hid (fun b h => Nat.le_trans (by go_split_ands; assumption) (hO.lts b (hbx b h)).1); clear hO hbx hS) | (go_at_call 68; refine (s_l08Clamp _ _ _ (by omega)).mono ?_; rintro e w' ⟨rfl, rfl⟩; rw [Hcl.out]) | (go_at_call 60; refine (s_LineOk (grow H.out (by go_split_ands; assumption))).mono ?_; rintro e w1 ⟨rfl, hb⟩; have qS := held1_below (by assumption) hb (by omega) (by omega); have qB := Bx.below (b := w.heap.size + 1) hb (by go_split_ands; omega) (by first | assumption | exact HB1.out.drew); have qBo := qB.out; have qBf := qB.fr) | (go_at_call 64; refine (s_l13If (d := goToD d x) (mk_Line (d := goToD d x) (by repeat (first | exact HS.out | (apply Slc.grow; rotate_left; assumption))) (show I64 ((clampN x d.Text.length : Nat) : Int) from I64_nat (by have := clampN_le x d.Text.length; omega))) _).mono ?_; rintro e w9 ⟨cs9, b9, hb9, rfl, hp, hb⟩; have R9 := hid (fun b h => RB.out b (hb9 b h)); have HP := hid hp; obtain ⟨a9, l9, k9, rfl, g0, g1⟩ := open_Line hp; have qS := held1_below (by assumption) hb (by omega) (by omega); have qB := Bx.below (b := w.heap.size + 1) hb (by go_split_ands; omega) (by first | assumption | exact HB1.out.drew); have qBo := qB.out; have qBf := qB.fr; clear hp g0 g1 hb9))
  all_goals
    have HQ : Hid (Below w.heap.size w w9) := hid (by go_split_ands; assumption)
    have g9 := (HQ.out.setCell (p := ⟨w.heap.size + 1, 0, none⟩) (by simp) (.slice a9 l9 k9)).setCell (p := ⟨w.heap.size + 1, 1, none⟩) (by simp) (.int .i64 (lineIf (goToD d x) (lineOk d)).At)
    have G9 := hid g9; clear g9
    go_wp2
    refine bodyPost_ret (v := .tuple #[.agg #[.slice a9 l9 k9, .int .i64 (lineIf (goToD d x) (lineOk d)).At], .bool (lineOk d && lineOk (goToD d x))]) (by simp [results, Try.results29, go_sem, qBo]) rfl ?_
    refine ⟨[.slice a9 l9 k9, .int .i64 (lineIf (goToD d x) (lineOk d)).At], b9, by rw [HZ.out.1], ?_, G9.out⟩
    rw [← HZ.out.2]
    exact Rep.keep HP.out fun b hb => (Below.heap_setCell _ _ _ _ (by have := R9.out b hb; simp; omega)).trans (Below.heap_setCell _ _ _ _ (by have := R9.out b hb; simp; omega))
theorem i_LineText {w : World} {bs : List Nat} {cs : List Value} {d : LineD} (h : Rep.pt w bs cs d) :
    Calls Try.prog 28 #[.agg cs.toArray] w fun e w' => e = .returned (.string (lineText d)) ∧ Below w.heap.size w w' := by
  have H := hid h
  obtain ⟨a0, l0, k0, rfl, h0, h1⟩ := open_Line h
  obtain rfl := h0.len_eq
  clear h
  cases hk : lineOk d
  · have HZ : Hid (lineText d = ByteArray.empty) := hid (by simp [lineText, hk])
    have Hk := hid hk; clear hk
    go_enter Try.func28, Try.ntmps28
    go_wp2_with fail
    refine (i_LineOk (grow H.out ?_)).mono ?_
    · exact (Below.refl _ _).alloc (Nat.le_refl _) _
    rintro e w1 ⟨rfl, hb⟩
    have HB := hid (below_call ((Below.refl _ _).alloc (Nat.le_refl _) _) hb)
    clear hb
    rw [Hk.out]
    go_wp2
    go_ret
    exact ⟨by rw [HZ.out]; rfl, HB.out⟩
  have hq := lineOk_bounds hk
  have HZ : Hid (lineText d = textOf d.Text) := hid (by simp [lineText, hk])
  have Hk := hid hk; clear hk
  have Hq := hid hq; clear hq
  go_enter Try.func28, Try.ntmps28
  go_wp2_with fail
  refine (i_LineOk (grow H.out ?_)).mono ?_
  · exact (Below.refl _ _).alloc (Nat.le_refl _) _
  rintro e w1 ⟨rfl, hb⟩
  have B0 : Bx w1 (w.heap.size) _ := Bx.below (b := w.heap.size) hb (by first | omega | (simp; done) | (simp; omega)) (by repeat (first  | (apply Bx.new; (focus (first | (simp; done) | (simp; omega) | omega))) | (apply Bx.alloc; rotate_left; (focus (first | (simp; done) | (simp; omega) | omega))) | (apply Bx.setOther; rotate_left; (focus (first | (simp; done) | (simp; omega) | omega))) | apply Bx.setSame))
  have B0o := B0.out
  have B0f := B0.fr
  have HB := hid (below_call ((Below.refl _ _).alloc (Nat.le_refl _) _) hb)
  clear hb
  rw [Hk.out]
  go_wp2_with fail
  refine (i_TextOf (h0.grow HB.out) (by have := Hq.out; omega)).mono ?_
  rintro e w2 ⟨rfl, hb⟩
  have HB2 := hid (below_call HB.out hb)
  clear hb
  go_wp2
  go_ret
  exact ⟨by rw [HZ.out]; rfl, HB2.out⟩
theorem s_LineText {w : World} {bs : List Nat} {cs : List Value} {d : LineD} (h : Rep.pt w bs cs d) :
    Calls Try.prog 27 #[.agg cs.toArray] w fun e w' => e = .returned (.string (lineText d)) ∧ Below w.heap.size w w' := by
  have H := hid h
  obtain ⟨a0, l0, k0, rfl, h0, h1⟩ := open_Line h
  obtain rfl := h0.len_eq
  clear h
  cases hk : lineOk d
  · have HZ : Hid (lineText d = ByteArray.empty) := hid (by simp [lineText, hk])
    have Hk := hid hk; clear hk
    go_enter Try.func27, Try.ntmps27
    go_wp2_with fail
    refine (s_LineOk (grow H.out ?_)).mono ?_
    · exact (Below.refl _ _).alloc (Nat.le_refl _) _
    rintro e w1 ⟨rfl, hb⟩
    have HB := hid (below_call ((Below.refl _ _).alloc (Nat.le_refl _) _) hb)
    clear hb
    rw [Hk.out]
    go_wp2
    go_ret
    exact ⟨by rw [HZ.out]; rfl, HB.out⟩
  have hq := lineOk_bounds hk
  have HZ : Hid (lineText d = textOf d.Text) := hid (by simp [lineText, hk])
  have Hk := hid hk; clear hk
  have Hq := hid hq; clear hq
  go_enter Try.func27, Try.ntmps27
  go_wp2_with fail
  refine (s_LineOk (grow H.out ?_)).mono ?_
  · exact (Below.refl _ _).alloc (Nat.le_refl _) _
  rintro e w1 ⟨rfl, hb⟩
  have B0 : Bx w1 (w.heap.size) _ := Bx.below (b := w.heap.size) hb (by first | omega | (simp; done) | (simp; omega)) (by repeat (first  | (apply Bx.new; (focus (first | (simp; done) | (simp; omega) | omega))) | (apply Bx.alloc; rotate_left; (focus (first | (simp; done) | (simp; omega) | omega))) | (apply Bx.setOther; rotate_left; (focus (first | (simp; done) | (simp; omega) | omega))) | apply Bx.setSame))
  have B0o := B0.out
  have B0f := B0.fr
  have HB := hid (below_call ((Below.refl _ _).alloc (Nat.le_refl _) _) hb)
  clear hb
  rw [Hk.out]
  go_wp2_with fail
  refine (s_TextOf (h0.grow HB.out) (by have := Hq.out; omega)).mono ?_
  rintro e w2 ⟨rfl, hb⟩
  have HB2 := hid (below_call HB.out hb)
  clear hb
  go_wp2
  go_ret
  exact ⟨by rw [HZ.out]; rfl, HB2.out⟩
end Go.Proofs.Ytedkmifkakbbmaa
