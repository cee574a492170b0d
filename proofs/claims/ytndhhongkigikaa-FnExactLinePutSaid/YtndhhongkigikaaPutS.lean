/- Runes put into a line (printed by genput.py). -/
import Derived.Test.YtndhhongkigikaaLineM
import Derived.Test.YtndhhongkigikaaLate
set_option linter.unusedSimpArgs false
set_option linter.unusedVariables false
namespace Go.Proofs.Ytndhhongkigikaa
open Go.RowKit Go.G6
set_option maxHeartbeats 30000000
set_option maxRecDepth 10000
theorem s_LinePut {w : World} {bs bs2 : List Nat} {cs : List Value} {d : LineD} {a2 : Option Addr} {l2 k2 : Nat} {t : List Int} (h : Rep.pt w bs cs d) (h2 : Slc w bs2 a2 l2 k2 t) (hn2 : t.length ≤ 1048576) :
    Calls Try.prog 31 #[.agg cs.toArray, .slice a2 l2 k2] w (RetABQ w (linePut d t) (.bool (linePutOk d t))) := by
  have H := hid h
  obtain ⟨a0, l0, k0, rfl, h0, h1⟩ := open_Line h
  obtain rfl := h0.len_eq
  clear h
  have H0 := hid (held2_new w #[.slice a0 d.Text.length k0, .int .i64 d.At] #[.slice none 0 0, .int .i64 0] 26 26)
  have HB1 : Hid (Bx ((w.alloc (.cells #[.slice a0 d.Text.length k0, .int .i64 d.At] 26)).alloc (.cells #[.slice none 0 0, .int .i64 0] 26)) (w.heap.size + 1) #[.slice none 0 0, .int .i64 0]) := hid (Bx.new _ _ _ (by simp))
  obtain rfl := h2.len_eq
  obtain ⟨i0, hi, hz0, hz1, hz2⟩ := info_parts info_int
  cases hk : lineOk d
  · have HZ : Hid (linePutOk d t = false ∧ linePut d t = line0) := hid (by simp [linePutOk, linePut, hk])
    have Hk := hid hk; clear hk
    go_enter Try.func31, Try.ntmps31
    go_wp2_with fail
    refine (s_LineOk (grow H.out ?_)).mono ?_
    · exact ((Below.refl _ _).alloc (Nat.le_refl _) _).alloc (by simp) _
    rintro e w1 ⟨rfl, hb⟩
    have B1 : Bx w1 (w.heap.size + 1) _ := Bx.below (b := w.heap.size + 1) hb (by first | omega | (simp; done) | (simp; omega)) (by repeat (first  | (apply Bx.new; (focus (first | (simp; done) | (simp; omega) | omega))) | (apply Bx.alloc; rotate_left; (focus (first | (simp; done) | (simp; omega) | omega))) | (apply Bx.setOther; rotate_left; (focus (first | (simp; done) | (simp; omega) | omega))) | apply Bx.setSame))
    have B1o := B1.out
    have B1f := B1.fr
    have HB := hid (below_call (((Below.refl _ _).alloc (Nat.le_refl _) _).alloc (by simp) _) hb)
    clear hb
    rw [Hk.out]
    go_wp2
    refine bodyPost_ret (v := .tuple #[.agg #[.slice none 0 0, .int .i64 0], .bool false]) (by simp [results, Try.results31, go_sem, B1o]) rfl ?_
    refine ⟨[.slice none 0 0, .int .i64 0], [], by first | rfl | rw [HZ.out.1], ?_, ?_, ?_⟩
    · rw [HZ.out.2]; exact (own_line0 0 _).1
    · intro b hb; cases hb
    · (repeat (first | exact HB.out | exact Below.refl _ _ | refine Below.setCell ?_ (by first | omega | (simp; done) | (simp; omega)) _ | refine Below.alloc ?_ (by first | omega | (simp; done) | (simp; omega)) _))
  have hq := lineOk_bounds hk
  have HZ : Hid (linePutOk d t = lineOk (putD d t) ∧ linePut d t = lineIf (putD d t) true) := hid (by simp [linePutOk, linePut, lineIf, hk])
  have Hk := hid hk; clear hk
  obtain ⟨hq1, hq2, hq3⟩ := hq
  obtain ⟨p1, bs1, hcut1, _, _, hS1⟩ := h0.cut_h 22 Try.underlying22 hi hz1 d.At hq2 hq3
  obtain ⟨p3, bs3, hcut3, _, _, hS3⟩ := h0.cut_l 22 Try.underlying22 hi hz1 d.At hq2 hq3
  have HS1 := hid hS1; have HS3 := hid hS3; clear hS1 hS3
  have hwr : IntKind.i64.wrap (d.At + (t.length : Int)) = d.At + (t.length : Int) := wrapI (by omega)
  go_enter Try.func31, Try.ntmps31
  go_wp2_with fail
  refine (s_LineOk (grow H.out ?_)).mono ?_
  · exact ((Below.refl _ _).alloc (Nat.le_refl _) _).alloc (by simp) _
  rintro e w1 ⟨rfl, hb⟩
  have B0 : Bx w1 (w.heap.size) _ := Bx.below (b := w.heap.size) hb (by first | omega | (simp; done) | (simp; omega)) (by repeat (first  | (apply Bx.new; (focus (first | (simp; done) | (simp; omega) | omega))) | (apply Bx.alloc; rotate_left; (focus (first | (simp; done) | (simp; omega) | omega))) | (apply Bx.setOther; rotate_left; (focus (first | (simp; done) | (simp; omega) | omega))) | apply Bx.setSame))
  have B0o := B0.out
  have B0f := B0.fr
  have B1 : Bx w1 (w.heap.size + 1) _ := Bx.below (b := w.heap.size + 1) hb (by first | omega | (simp; done) | (simp; omega)) (by repeat (first  | (apply Bx.new; (focus (first | (simp; done) | (simp; omega) | omega))) | (apply Bx.alloc; rotate_left; (focus (first | (simp; done) | (simp; omega) | omega))) | (apply Bx.setOther; rotate_left; (focus (first | (simp; done) | (simp; omega) | omega))) | apply Bx.setSame))
  have B1o := B1.out
  have B1f := B1.fr
  have HB := hid (below_call (((Below.refl _ _).alloc (Nat.le_refl _) _).alloc (by simp) _) hb)
  have hs1 : w.heap.size + 2 ≤ w1.heap.size := by have := hb.size; simpa using this
  have HW1 : Hid (Below w.heap.size w w1 ∧ w.heap.size + 2 ≤ w1.heap.size ∧ (∀ o, w1.cell? ⟨w.heap.size, o, none⟩ = #[.slice a0 d.Text.length k0, .int .i64 d.At][o]?)) := hid ⟨HB.out, hs1, B0o⟩
  have HX1 := hid B1
  clear hb
  rw [Hk.out]
  go_wp2_with fail
  go_region_held3 (fun W => Below w.heap.size w W ∧ w.heap.size + 2 ≤ W.heap.size ∧ (∀ o, W.cell? ⟨w.heap.size, o, none⟩ = #[.slice a0 d.Text.length k0, .int .i64 d.At][o]?)) (first | exact held1_drew HW1.out | assumption | exact held1_set _ (held1_set _ (by assumption) (by simp) (by simp)) (by simp) (by simp)) (first | (go_at_call 75; refine (s_l13Join (HS1.out.grow (by go_split_ands; assumption)) (h2.grow (by go_split_ands; assumption)) (HS3.out.grow (by go_split_ands; assumption)) (by rw [List.length_take]; omega) (by omega) (by rw [List.length_drop]; omega)).mono ?_; rintro e w2 ⟨v, b1, rfl, hO, hb⟩; obtain ⟨p, c, bx, hv, hbx, hS⟩ := hO.slc; rw [show (d.Text.take d.At.toNat ++ t ++ d.Text.drop d.At.toNat).length = d.Text.length + t.length from putD_len d t] at hv hS; subst hv; have qS := held1_below (by assumption) hb (by omega) (by omega); have qB := Bx.below (b := w.heap.size + 1) hb (by go_split_ands; omega) (by first | assumption | exact HX1.out.drew); have qBo := qB.out; have qBf := qB.fr; have HS := hid hS; have RB : Hid (∀ b ∈ bx, w.heap.size + 2 ≤ b) := hid (fun b h => Nat.le_trans (by go_split_ands; assumption) (hO.lts b (hbx b h)).1); clear hO hbx hS) | (go_at_call 98; refine (s_l13If (d := putD d t) (mk_Line (d := putD d t) (by repeat (first | exact HS.out | (apply Slc.grow; rotate_left; assumption))) (show I64 (d.At + (t.length : Int)) by unfold I64; omega)) _).mono ?_; rintro e w9 ⟨cs9, b9, hb9, rfl, hp, hb⟩; have R9 := hid (fun b h => RB.out b (hb9 b h)); have HP := hid hp; obtain ⟨a9, l9, k9, rfl, g0, g1⟩ := open_Line hp; have qS := held1_below (by assumption) hb (by omega) (by omega); have qB := Bx.below (b := w.heap.size + 1) hb (by go_split_ands; omega) (by assumption); have qBo := qB.out; have qBf := qB.fr; clear hp g0 g1 hb9))
  all_goals
    have HQ : Hid (Below w.heap.size w w9) := hid (by go_split_ands; assumption)
    have g9 := (HQ.out.setCell (p := ⟨w.heap.size + 1, 0, none⟩) (by simp) (.slice a9 l9 k9)).setCell (p := ⟨w.heap.size + 1, 1, none⟩) (by simp) (.int .i64 (lineIf (putD d t) true).At)
    have G9 := hid g9; clear g9
    go_wp2
    refine bodyPost_ret (v := .tuple #[.agg #[.slice a9 l9 k9, .int .i64 (lineIf (putD d t) true).At], .bool (true && lineOk (putD d t))]) (by simp [results, Try.results31, go_sem, qBo]) rfl ?_
    refine ⟨[.slice a9 l9 k9, .int .i64 (lineIf (putD d t) true).At], b9, by rw [HZ.out.1]; rfl, ?_, (fun b hb => by have := R9.out b hb; omega), G9.out⟩
    rw [HZ.out.2]
    exact Rep.keep HP.out fun b hb => (Below.heap_setCell _ _ _ _ (by have := R9.out b hb; simp; omega)).trans (Below.heap_setCell _ _ _ _ (by have := R9.out b hb; simp; omega))
end Go.Proofs.Ytndhhongkigikaa
