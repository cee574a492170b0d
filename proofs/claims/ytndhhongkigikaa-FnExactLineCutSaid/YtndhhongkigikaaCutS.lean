/- Runes cut out of a line (printed by gencut.py). -/
import Derived.Test.YtndhhongkigikaaCase
import Derived.Test.YtndhhongkigikaaLate
import Derived.Test.YtndhhongkigikaaCutI
set_option linter.unusedSimpArgs false
set_option linter.unusedVariables false
namespace Go.Proofs.Ytndhhongkigikaa
open Go.RowKit Go.G6
set_option maxHeartbeats 30000000
set_option maxRecDepth 10000
theorem s_LineCut {w : World} {bs : List Nat} {cs : List Value} {d : LineD} (h : Rep.pt w bs cs d) (x : Int) (hx : I64 x) (y : Int) (hy : I64 y) :
    Calls Try.prog 36 #[.agg cs.toArray, .int .i64 x, .int .i64 y] w (RetALB w (lineCut d x y) (lineCut2 d x y) (.bool (spanOk d x y))) := by
  have H := hid h
  obtain ⟨a0, l0, k0, rfl, h0, h1⟩ := open_Line h
  obtain rfl := h0.len_eq
  clear h
  obtain ⟨i0, hi, hz0, hz1, hz2⟩ := info_parts info_int
  cases hk : inLineB d x y
  · have HZ : Hid (spanOk d x y = false ∧ lineCut d x y = line0 ∧ lineCut2 d x y = []) := hid (by have h9 : spanOk d x y = false := hk; simp [lineCut, lineCut2, h9])
    have Hk := hid hk; clear hk
    go_enter Try.func36, Try.ntmps36
    go_wp2_with fail
    refine (s_l13Span (grow H.out ?_) x y).mono ?_
    · exact (((Below.refl _ _).alloc (Nat.le_refl _) _).alloc (by simp) _)
    rintro e w1 ⟨rfl, hb⟩
    have B0 : Bx w1 (w.heap.size) _ := Bx.below (b := w.heap.size) hb (by first | omega | (simp; done) | (simp; omega)) (by repeat (first  | (apply Bx.new; (focus (first | (simp; done) | (simp; omega) | omega))) | (apply Bx.alloc; rotate_left; (focus (first | (simp; done) | (simp; omega) | omega))) | (apply Bx.setOther; rotate_left; (focus (first | (simp; done) | (simp; omega) | omega))) | apply Bx.setSame))
    have B0o := B0.out
    have B0f := B0.fr
    have B1 : Bx w1 (w.heap.size + 1) _ := Bx.below (b := w.heap.size + 1) hb (by first | omega | (simp; done) | (simp; omega)) (by repeat (first  | (apply Bx.new; (focus (first | (simp; done) | (simp; omega) | omega))) | (apply Bx.alloc; rotate_left; (focus (first | (simp; done) | (simp; omega) | omega))) | (apply Bx.setOther; rotate_left; (focus (first | (simp; done) | (simp; omega) | omega))) | apply Bx.setSame))
    have B1o := B1.out
    have B1f := B1.fr
    have HB := hid (below_call (((Below.refl _ _).alloc (Nat.le_refl _) _).alloc (by simp) _) hb)
    clear hb
    rw [Hk.out]
    go_wp2
    refine bodyPost_ret (v := .tuple #[.agg #[.slice none 0 0, .int .i64 0], .slice none 0 0, .bool false]) (by simp [results, Try.results36, go_sem, B1o]) rfl ?_
    refine ⟨[.slice none 0 0, .int .i64 0], [], none, 0, 0, [], by rw [HZ.out.1], ?_, ?_, (fun b hb => by cases hb), (HB.out.setCell (by simp) _).setCell (by simp) _⟩
    · rw [HZ.out.2.1]; exact own_line0 _ _
    · rw [HZ.out.2.2]; exact own_nil _ _
  have hk0 := hk
  simp only [inLineB, Bool.and_eq_true, decide_eq_true_eq] at hk0
  obtain ⟨hlo9, hx0, hxy, hyn⟩ := hk0
  have hq := lineOk_bounds hlo9
  have hn4 := hq.1
  have h9 : spanOk d x y = true := hk
  have HZ : Hid (spanOk d x y = true ∧ lineCut d x y = cutD d x y ∧ lineCut2 d x y = (d.Text.take y.toNat).drop x.toNat) := hid (by simp [lineCut, lineCut2, h9])
  have Hk := hid hk; clear hk h9 hlo9
  obtain ⟨F, rfl⟩ : ∃ F : Nat, x = (F : Int) := ⟨x.toNat, by omega⟩
  obtain ⟨T, rfl⟩ : ∃ T : Nat, y = (T : Int) := ⟨y.toNat, by omega⟩
  obtain ⟨p1, bs1, hcut1, _, _, hS1⟩ := h0.cut_h 22 Try.underlying22 hi hz1 (F : Int) (by omega) (by omega)
  obtain ⟨p2, bs2, hcut2, _, _, hS2⟩ := h0.cut_l 22 Try.underlying22 hi hz1 (T : Int) (by omega) (by omega)
  obtain ⟨p3, bs3, hcut3, _, _, hS3⟩ := h0.cut_lh 22 Try.underlying22 hi hz1 (F : Int) (T : Int) (by omega) (by omega) (by omega)
  simp only [Int.toNat_natCast] at hcut1 hcut2 hcut3 hS1 hS2 hS3
  have HS1 := hid hS1; have HS2 := hid hS2; have HS3 := hid hS3; clear hS1 hS2 hS3
  have HL1 := hid (show (d.Text.take F).length = F by rw [List.length_take]; omega)
  have HL2 := hid (show F + (d.Text.drop T).length = F + (d.Text.length - T) by rw [List.length_drop])
  have HL3 := hid (show ((d.Text.take T).drop F).length = T - F by rw [List.length_drop, List.length_take]; omega)
  have HLt := hid (show (d.Text.take F ++ d.Text.drop T).length = F + (d.Text.length - T) by rw [List.length_append, List.length_take, List.length_drop]; omega)
  have hwA : wrap64 ((T : Int) - (F : Int)) = (T : Int) - (F : Int) := IntWalk.wrap64_in _ (by omega)
  have hwA2 : IntKind.i64.wrap ((T : Int) - (F : Int)) = (T : Int) - (F : Int) := wrapI (by omega)
  have HQ1 := hid hq; clear hq
  by_cases hA : (T : Int) ≤ d.At
  rotate_left
  by_cases hB : (F : Int) < d.At
  rotate_left
  · have HAt := hid (show cutAt d (F : Int) (T : Int) = d.At from cutAt_3 hA hB)
    have hA2 : ¬ d.At ≥ (T : Int) := hA
    go_enter Try.func36, Try.ntmps36
    go_wp2_with fail
    refine (s_l13Span (grow H.out ?_) (F : Int) (T : Int)).mono ?_
    · exact (((Below.refl _ _).alloc (Nat.le_refl _) _).alloc (by simp) _)
    rintro e w1 ⟨rfl, hb⟩
    have B0 : Bx w1 (w.heap.size) _ := Bx.below (b := w.heap.size) hb (by first | omega | (simp; done) | (simp; omega)) (by repeat (first  | (apply Bx.new; (focus (first | (simp; done) | (simp; omega) | omega))) | (apply Bx.alloc; rotate_left; (focus (first | (simp; done) | (simp; omega) | omega))) | (apply Bx.setOther; rotate_left; (focus (first | (simp; done) | (simp; omega) | omega))) | apply Bx.setSame))
    have B0o := B0.out
    have B0f := B0.fr
    have B1 : Bx w1 (w.heap.size + 1) _ := Bx.below (b := w.heap.size + 1) hb (by first | omega | (simp; done) | (simp; omega)) (by repeat (first  | (apply Bx.new; (focus (first | (simp; done) | (simp; omega) | omega))) | (apply Bx.alloc; rotate_left; (focus (first | (simp; done) | (simp; omega) | omega))) | (apply Bx.setOther; rotate_left; (focus (first | (simp; done) | (simp; omega) | omega))) | apply Bx.setSame))
    have B1o := B1.out
    have B1f := B1.fr
    have HB := hid (below_call (((Below.refl _ _).alloc (Nat.le_refl _) _).alloc (by simp) _) hb)
    have hs1 : w.heap.size + 2 ≤ w1.heap.size := by have := hb.size; simpa using this
    have HX0 := hid B0; have HX1 := hid B1
    clear hb
    rw [Hk.out]
    go_upto_region 8 with fail
    go_wp2_with fail
    refine late_start (fun W => Below w.heap.size w W ∧ W.cell? ⟨w.heap.size, 0, none⟩ = some (.slice a0 d.Text.length k0)) 19 (by kernel_rfl) ?_ (fun hS => ?_)
    · exact ⟨HB.out.drew, HX0.out.out 0⟩
    refine late_genw (fun U0 hU => ?_)
    rw [← hU] at hS
    have X1 : Bx U0 (w.heap.size + 1) #[.slice none 0 0, .int .i64 0] := by rw [hU]; exact HX1.out.drew
    have hlo9 : w.heap.size + 2 ≤ U0.heap.size := by rw [hU]; simp; omega
    clear hU
    refine late_take (i := 0) (v := ?_) rfl (by kernel_rfl) (fun _ _ _ h => h) (by rfl) ?_ (by assumption) ?_
    rotate_left
    · (intro w9 hS9; (try dsimp only at hS9); (try go_split_ands); go_simp <;> with_reducible rfl)
    try simp only [Act.put, List.setIfInBounds_toArray, List.set_cons_zero, List.set_cons_succ]
    refine late_take (i := 1) (v := ?_) rfl (by kernel_rfl) (fun _ _ _ h => h) (by rfl) ?_ (by assumption) ?_
    rotate_left
    · (intro w9 hS9; (try dsimp only at hS9); (try go_split_ands); go_simp <;> with_reducible rfl)
    try simp only [Act.put, List.setIfInBounds_toArray, List.set_cons_zero, List.set_cons_succ]
    refine late_take (i := 2) (v := ?_) rfl (by kernel_rfl) (fun _ _ _ h => h) (by rfl) ?_ (by assumption) ?_
    rotate_left
    · (intro w9 hS9; (try dsimp only at hS9); (try go_split_ands); go_simp <;> with_reducible rfl)
    try simp only [Act.put, List.setIfInBounds_toArray, List.set_cons_zero, List.set_cons_succ]
    refine late_take (i := 3) (v := ?_) rfl (by kernel_rfl) (fun _ _ _ h => h) (by rfl) ?_ (by assumption) ?_
    rotate_left
    · (intro w9 hS9; (try dsimp only at hS9); (try go_split_ands); go_simp <;> with_reducible rfl)
    try simp only [Act.put, List.setIfInBounds_toArray, List.set_cons_zero, List.set_cons_succ]
    refine late_take (i := 4) (v := ?_) rfl (by kernel_rfl) (fun _ _ _ h => h) (by rfl) ?_ (by assumption) ?_
    rotate_left
    · (intro w9 hS9; (try dsimp only at hS9); (try go_split_ands); go_simp <;> with_reducible rfl)
    try simp only [Act.put, List.setIfInBounds_toArray, List.set_cons_zero, List.set_cons_succ]
    refine late_take (i := 5) (v := ?_) rfl (by kernel_rfl) (fun _ _ _ h => h) (by rfl) ?_ (by assumption) ?_
    rotate_left
    · (intro w9 hS9; (try dsimp only at hS9); (try go_split_ands); go_simp <;> with_reducible rfl)
    try simp only [Act.put, List.setIfInBounds_toArray, List.set_cons_zero, List.set_cons_succ]
    refine late_take (i := 6) (v := ?_) rfl (by kernel_rfl) (fun _ _ _ h => h) (by rfl) ?_ (by assumption) ?_
    rotate_left
    · (intro w9 hS9; (try dsimp only at hS9); (try go_split_ands); go_simp <;> with_reducible rfl)
    try simp only [Act.put, List.setIfInBounds_toArray, List.set_cons_zero, List.set_cons_succ]
    refine late_take (i := 7) (v := ?_) rfl (by kernel_rfl) (fun _ _ _ h => h) (by rfl) ?_ (by assumption) ?_
    rotate_left
    · (intro w9 hS9; (try dsimp only at hS9); (try go_split_ands); go_simp <;> with_reducible rfl)
    try simp only [Act.put, List.setIfInBounds_toArray, List.set_cons_zero, List.set_cons_succ]
    refine late_take (i := 9) (v := ?_) rfl (by kernel_rfl) (fun _ _ _ h => h) (by rfl) ?_ (by assumption) ?_
    rotate_left
    · (intro w9 hS9; (try dsimp only at hS9); (try go_split_ands); go_simp <;> with_reducible rfl)
    try simp only [Act.put, List.setIfInBounds_toArray, List.set_cons_zero, List.set_cons_succ]
    refine late_take (i := 11) (v := ?_) rfl (by kernel_rfl) (fun _ _ _ h => h) (by rfl) ?_ (by assumption) ?_
    rotate_left
    · (intro w9 hS9; (try dsimp only at hS9); (try go_split_ands); go_simp <;> with_reducible rfl)
    try simp only [Act.put, List.setIfInBounds_toArray, List.set_cons_zero, List.set_cons_succ]
    refine late_take (i := 12) (v := ?_) rfl (by kernel_rfl) (fun _ _ _ h => h) (by rfl) ?_ (by assumption) ?_
    rotate_left
    · (intro w9 hS9; (try dsimp only at hS9); (try go_split_ands); go_simp <;> with_reducible rfl)
    try simp only [Act.put, List.setIfInBounds_toArray, List.set_cons_zero, List.set_cons_succ]
    refine late_take (i := 13) (v := ?_) rfl (by kernel_rfl) (fun _ _ _ h => h) (by rfl) ?_ (by assumption) ?_
    rotate_left
    · (intro w9 hS9; (try dsimp only at hS9); (try go_split_ands); go_simp <;> with_reducible rfl)
    try simp only [Act.put, List.setIfInBounds_toArray, List.set_cons_zero, List.set_cons_succ]
    refine late_take (i := 14) (v := ?_) rfl (by kernel_rfl) (fun _ _ _ h => h) (by rfl) ?_ (by assumption) ?_
    rotate_left
    · (intro w9 hS9; (try dsimp only at hS9); (try go_split_ands); go_simp <;> with_reducible rfl)
    try simp only [Act.put, List.setIfInBounds_toArray, List.set_cons_zero, List.set_cons_succ]
    refine late_take (i := 15) (v := ?_) rfl (by kernel_rfl) (fun _ _ _ h => h) (by rfl) ?_ (by assumption) ?_
    rotate_left
    · (intro w9 hS9; (try dsimp only at hS9); (try go_split_ands); go_simp <;> with_reducible rfl)
    try simp only [Act.put, List.setIfInBounds_toArray, List.set_cons_zero, List.set_cons_succ]
    refine late_one (i := 8) rfl (by kernel_rfl) (fun K9 hK9 => ?_)
    go_simp
    refine (s_l13Join (HS1.out.grow hS.1) (slc_nil _) (HS2.out.grow hS.1) (by rw [HL1.out]; omega) (Nat.zero_le _) (by rw [List.length_drop]; omega)).mono ?_
    rintro e U1 ⟨v, bx, rfl, hO, hst⟩
    rw [List.append_nil] at hO
    obtain ⟨p, c, rfl⟩ := hO.slice
    rw [HLt.out] at hO ⊢
    replace hO := hO.mono hlo9
    replace X1 := Bx.below hst (by omega) X1
    go_wp2_with fail
    refine hK9.out _ _ (fun _ => ?_) (fun hS9 => ?_)
    · (try dsimp only); exact ⟨hS.1.trans (hst.mono hS.1.size), cellc (Tch.of_below (bs := []) hst) hS.2 (by simp)⟩
    replace hS := hS9 (by decide)
    clear hK9 K9 hS9
    try simp only [Act.put, List.setIfInBounds_toArray, List.set_cons_zero, List.set_cons_succ]
    replace hlo9 := Nat.le_trans hlo9 hst.size
    clear hst
    refine late_take (i := 10) (v := ?_) rfl (by kernel_rfl) (fun _ _ _ h => h) (by rfl) ?_ (by assumption) ?_
    rotate_left
    · (intro w9 hS9; (try dsimp only at hS9); (try go_split_ands); go_simp <;> with_reducible rfl)
    try simp only [Act.put, List.setIfInBounds_toArray, List.set_cons_zero, List.set_cons_succ]
    refine late_one (i := 16) rfl (by kernel_rfl) (fun K9 hK9 => ?_)
    go_simp
    refine (s_l13Join (slc_nil _) (HS3.out.grow hS.1) (slc_nil _) (Nat.zero_le _) (by rw [HL3.out]; omega) (Nat.zero_le _)).mono ?_
    rintro e U2 ⟨v, b1, rfl, hO9, hst⟩
    rw [List.append_nil, List.nil_append] at hO9
    obtain ⟨p9, c9, rfl⟩ := hO9.slice
    rw [HL3.out] at hO9 ⊢
    have hlt9 : ∀ b ∈ bx, b < U1.heap.size := fun b hb => (hO.lts b hb).2
    replace hO := hO.grow hst
    replace X1 := Bx.below hst (by omega) X1
    have X1o := X1.out; have X1f := X1.fr
    go_wp2_with fail
    refine hK9.out _ _ (fun _ => ?_) (fun hS9 => ?_)
    · (try dsimp only); exact ⟨hS.1.trans (hst.mono hS.1.size), cellc (Tch.of_below (bs := []) hst) hS.2 (by simp)⟩
    replace hS := hS9 (by decide)
    clear hK9 K9 hS9
    try simp only [Act.put, List.setIfInBounds_toArray, List.set_cons_zero, List.set_cons_succ]
    refine late_one (i := 17) rfl (by kernel_rfl) (fun K9 hK9 => ?_)
    go_simp
    refine hK9.out _ _ (fun _ => ?_) (fun hS9 => ?_)
    · (try dsimp only); exact ⟨(hS.1.setCell (by simp) _).setCell (by simp) _, (World.cell?_setCell_far _ _ _ _ (by simp; try omega)).trans ((World.cell?_setCell_far _ _ _ _ (by simp; try omega)).trans hS.2)⟩
    replace hS := hS9 (by decide)
    clear hK9 K9 hS9
    try simp only [Act.put, List.setIfInBounds_toArray, List.set_cons_zero, List.set_cons_succ]
    refine late_take (i := 18) (v := ?_) rfl (by kernel_rfl) (fun _ _ _ h => h) (by rfl) ?_ (by assumption) ?_
    rotate_left
    · (intro w9 hS9; (try dsimp only at hS9); (try go_split_ands); go_simp <;> with_reducible rfl)
    try simp only [Act.put, List.setIfInBounds_toArray, List.set_cons_zero, List.set_cons_succ]
    refine late_one (i := 19) rfl (by kernel_rfl) (fun K9 hK9 => ?_)
    go_simp
    refine hK9.out _ _ (fun h => absurd rfl h) (fun _ => ?_)
    clear hK9 K9
    try simp only [Act.put, List.setIfInBounds_toArray, List.set_cons_zero, List.set_cons_succ]
    refine late_done (by kernel_rfl) ?_ _
    go_wp2
    refine bodyPost_ret (v := .tuple #[.agg #[.slice p (F + (d.Text.length - T)) c, .int .i64 (d.At)], .slice p9 (T - F) c9, .bool true]) (by simp [results, Try.results36, go_sem, X1o]) rfl ?_
    obtain ⟨b6, hb6, hOw⟩ := hO.own
    obtain ⟨b7, hb7, hOw2⟩ := hO9.own
    refine ⟨[.slice p (F + (d.Text.length - T)) c, .int .i64 (d.At)], b6, p9, T - F, c9, b7, by rw [HZ.out.1], ?_, ?_, ?_, ?_⟩
    · rw [HZ.out.2.1]
      refine Own.mono (lo := w.heap.size + 2) ?_ (by omega)
      have e9 : cutD d (F : Int) (T : Int) = ⟨d.Text.take F ++ d.Text.drop T, d.At⟩ := by rw [cutD, HAt.out]; rfl
      rw [e9]
      refine own_Line (d := ⟨d.Text.take F ++ d.Text.drop T, d.At⟩) ?_ (by show I64 (d.At); unfold I64; have := HQ1.out; omega)
      exact Own.setCell' _ (Own.setCell' _ hOw (fun b hb => by have := (hO.lts b (hb6 b hb)).1; simp; omega)) (fun b hb => by have := (hO.lts b (hb6 b hb)).1; simp; omega)
    · rw [HZ.out.2.2]
      refine Own.mono (lo := w.heap.size + 2) ?_ (by omega)
      simp only [Int.toNat_natCast]
      exact Own.setCell' _ (Own.setCell' _ (hOw2.mono hlo9) (fun b hb => by have := (hO9.lts b (hb7 b hb)).1; simp; omega)) (fun b hb => by have := (hO9.lts b (hb7 b hb)).1; simp; omega)
    · exact fun b hb hb2 => by have q1 := hlt9 b (hb6 b hb); have q2 := (hO9.lts b (hb7 b hb2)).1; omega
    · exact hS.1
  · have HAt := hid (show cutAt d (F : Int) (T : Int) = d.At - ((T : Int) - (F : Int)) from cutAt_1 hA)
    have hA2 : d.At ≥ (T : Int) := hA
    have hw3 : wrap64 (d.At - ((T : Int) - (F : Int))) = d.At - ((T : Int) - (F : Int)) := IntWalk.wrap64_in _ (by have := HQ1.out; omega)
    have hw4 : IntKind.i64.wrap (d.At - ((T : Int) - (F : Int))) = d.At - ((T : Int) - (F : Int)) := wrapI (by have := HQ1.out; omega)
    go_enter Try.func36, Try.ntmps36
    go_wp2_with fail
    refine (s_l13Span (grow H.out ?_) (F : Int) (T : Int)).mono ?_
    · exact (((Below.refl _ _).alloc (Nat.le_refl _) _).alloc (by simp) _)
    rintro e w1 ⟨rfl, hb⟩
    have B0 : Bx w1 (w.heap.size) _ := Bx.below (b := w.heap.size) hb (by first | omega | (simp; done) | (simp; omega)) (by repeat (first  | (apply Bx.new; (focus (first | (simp; done) | (simp; omega) | omega))) | (apply Bx.alloc; rotate_left; (focus (first | (simp; done) | (simp; omega) | omega))) | (apply Bx.setOther; rotate_left; (focus (first | (simp; done) | (simp; omega) | omega))) | apply Bx.setSame))
    have B0o := B0.out
    have B0f := B0.fr
    have B1 : Bx w1 (w.heap.size + 1) _ := Bx.below (b := w.heap.size + 1) hb (by first | omega | (simp; done) | (simp; omega)) (by repeat (first  | (apply Bx.new; (focus (first | (simp; done) | (simp; omega) | omega))) | (apply Bx.alloc; rotate_left; (focus (first | (simp; done) | (simp; omega) | omega))) | (apply Bx.setOther; rotate_left; (focus (first | (simp; done) | (simp; omega) | omega))) | apply Bx.setSame))
    have B1o := B1.out
    have B1f := B1.fr
    have HB := hid (below_call (((Below.refl _ _).alloc (Nat.le_refl _) _).alloc (by simp) _) hb)
    have hs1 : w.heap.size + 2 ≤ w1.heap.size := by have := hb.size; simpa using this
    have HX0 := hid B0; have HX1 := hid B1
    clear hb
    rw [Hk.out]
    go_upto_region 8 with fail
    go_wp2_with fail
    refine late_start (fun W => Below w.heap.size w W ∧ W.cell? ⟨w.heap.size, 0, none⟩ = some (.slice a0 d.Text.length k0)) 19 (by kernel_rfl) ?_ (fun hS => ?_)
    · exact ⟨HB.out.drew, HX0.out.out 0⟩
    refine late_genw (fun U0 hU => ?_)
    rw [← hU] at hS
    have X1 : Bx U0 (w.heap.size + 1) #[.slice none 0 0, .int .i64 0] := by rw [hU]; exact HX1.out.drew
    have hlo9 : w.heap.size + 2 ≤ U0.heap.size := by rw [hU]; simp; omega
    clear hU
    refine late_take (i := 0) (v := ?_) rfl (by kernel_rfl) (fun _ _ _ h => h) (by rfl) ?_ (by assumption) ?_
    rotate_left
    · (intro w9 hS9; (try dsimp only at hS9); (try go_split_ands); go_simp <;> with_reducible rfl)
    try simp only [Act.put, List.setIfInBounds_toArray, List.set_cons_zero, List.set_cons_succ]
    refine late_take (i := 1) (v := ?_) rfl (by kernel_rfl) (fun _ _ _ h => h) (by rfl) ?_ (by assumption) ?_
    rotate_left
    · (intro w9 hS9; (try dsimp only at hS9); (try go_split_ands); go_simp <;> with_reducible rfl)
    try simp only [Act.put, List.setIfInBounds_toArray, List.set_cons_zero, List.set_cons_succ]
    refine late_take (i := 2) (v := ?_) rfl (by kernel_rfl) (fun _ _ _ h => h) (by rfl) ?_ (by assumption) ?_
    rotate_left
    · (intro w9 hS9; (try dsimp only at hS9); (try go_split_ands); go_simp <;> with_reducible rfl)
    try simp only [Act.put, List.setIfInBounds_toArray, List.set_cons_zero, List.set_cons_succ]
    refine late_take (i := 3) (v := ?_) rfl (by kernel_rfl) (fun _ _ _ h => h) (by rfl) ?_ (by assumption) ?_
    rotate_left
    · (intro w9 hS9; (try dsimp only at hS9); (try go_split_ands); go_simp <;> with_reducible rfl)
    try simp only [Act.put, List.setIfInBounds_toArray, List.set_cons_zero, List.set_cons_succ]
    refine late_take (i := 4) (v := ?_) rfl (by kernel_rfl) (fun _ _ _ h => h) (by rfl) ?_ (by assumption) ?_
    rotate_left
    · (intro w9 hS9; (try dsimp only at hS9); (try go_split_ands); go_simp <;> with_reducible rfl)
    try simp only [Act.put, List.setIfInBounds_toArray, List.set_cons_zero, List.set_cons_succ]
    refine late_take (i := 5) (v := ?_) rfl (by kernel_rfl) (fun _ _ _ h => h) (by rfl) ?_ (by assumption) ?_
    rotate_left
    · (intro w9 hS9; (try dsimp only at hS9); (try go_split_ands); go_simp <;> with_reducible rfl)
    try simp only [Act.put, List.setIfInBounds_toArray, List.set_cons_zero, List.set_cons_succ]
    refine late_take (i := 6) (v := ?_) rfl (by kernel_rfl) (fun _ _ _ h => h) (by rfl) ?_ (by assumption) ?_
    rotate_left
    · (intro w9 hS9; (try dsimp only at hS9); (try go_split_ands); go_simp <;> with_reducible rfl)
    try simp only [Act.put, List.setIfInBounds_toArray, List.set_cons_zero, List.set_cons_succ]
    refine late_take (i := 7) (v := ?_) rfl (by kernel_rfl) (fun _ _ _ h => h) (by rfl) ?_ (by assumption) ?_
    rotate_left
    · (intro w9 hS9; (try dsimp only at hS9); (try go_split_ands); go_simp <;> with_reducible rfl)
    try simp only [Act.put, List.setIfInBounds_toArray, List.set_cons_zero, List.set_cons_succ]
    refine late_take (i := 9) (v := ?_) rfl (by kernel_rfl) (fun _ _ _ h => h) (by rfl) ?_ (by assumption) ?_
    rotate_left
    · (intro w9 hS9; (try dsimp only at hS9); (try go_split_ands); go_simp <;> with_reducible rfl)
    try simp only [Act.put, List.setIfInBounds_toArray, List.set_cons_zero, List.set_cons_succ]
    refine late_take (i := 11) (v := ?_) rfl (by kernel_rfl) (fun _ _ _ h => h) (by rfl) ?_ (by assumption) ?_
    rotate_left
    · (intro w9 hS9; (try dsimp only at hS9); (try go_split_ands); go_simp <;> with_reducible rfl)
    try simp only [Act.put, List.setIfInBounds_toArray, List.set_cons_zero, List.set_cons_succ]
    refine late_take (i := 12) (v := ?_) rfl (by kernel_rfl) (fun _ _ _ h => h) (by rfl) ?_ (by assumption) ?_
    rotate_left
    · (intro w9 hS9; (try dsimp only at hS9); (try go_split_ands); go_simp <;> with_reducible rfl)
    try simp only [Act.put, List.setIfInBounds_toArray, List.set_cons_zero, List.set_cons_succ]
    refine late_take (i := 13) (v := ?_) rfl (by kernel_rfl) (fun _ _ _ h => h) (by rfl) ?_ (by assumption) ?_
    rotate_left
    · (intro w9 hS9; (try dsimp only at hS9); (try go_split_ands); go_simp <;> with_reducible rfl)
    try simp only [Act.put, List.setIfInBounds_toArray, List.set_cons_zero, List.set_cons_succ]
    refine late_take (i := 14) (v := ?_) rfl (by kernel_rfl) (fun _ _ _ h => h) (by rfl) ?_ (by assumption) ?_
    rotate_left
    · (intro w9 hS9; (try dsimp only at hS9); (try go_split_ands); go_simp <;> with_reducible rfl)
    try simp only [Act.put, List.setIfInBounds_toArray, List.set_cons_zero, List.set_cons_succ]
    refine late_take (i := 15) (v := ?_) rfl (by kernel_rfl) (fun _ _ _ h => h) (by rfl) ?_ (by assumption) ?_
    rotate_left
    · (intro w9 hS9; (try dsimp only at hS9); (try go_split_ands); go_simp <;> with_reducible rfl)
    try simp only [Act.put, List.setIfInBounds_toArray, List.set_cons_zero, List.set_cons_succ]
    refine late_one (i := 8) rfl (by kernel_rfl) (fun K9 hK9 => ?_)
    go_simp
    refine (s_l13Join (HS1.out.grow hS.1) (slc_nil _) (HS2.out.grow hS.1) (by rw [HL1.out]; omega) (Nat.zero_le _) (by rw [List.length_drop]; omega)).mono ?_
    rintro e U1 ⟨v, bx, rfl, hO, hst⟩
    rw [List.append_nil] at hO
    obtain ⟨p, c, rfl⟩ := hO.slice
    rw [HLt.out] at hO ⊢
    replace hO := hO.mono hlo9
    replace X1 := Bx.below hst (by omega) X1
    go_wp2_with fail
    refine hK9.out _ _ (fun _ => ?_) (fun hS9 => ?_)
    · (try dsimp only); exact ⟨hS.1.trans (hst.mono hS.1.size), cellc (Tch.of_below (bs := []) hst) hS.2 (by simp)⟩
    replace hS := hS9 (by decide)
    clear hK9 K9 hS9
    try simp only [Act.put, List.setIfInBounds_toArray, List.set_cons_zero, List.set_cons_succ]
    replace hlo9 := Nat.le_trans hlo9 hst.size
    clear hst
    refine late_take (i := 10) (v := ?_) rfl (by kernel_rfl) (fun _ _ _ h => h) (by rfl) ?_ (by assumption) ?_
    rotate_left
    · (intro w9 hS9; (try dsimp only at hS9); (try go_split_ands); go_simp <;> with_reducible rfl)
    try simp only [Act.put, List.setIfInBounds_toArray, List.set_cons_zero, List.set_cons_succ]
    refine late_one (i := 16) rfl (by kernel_rfl) (fun K9 hK9 => ?_)
    go_simp
    refine (s_l13Join (slc_nil _) (HS3.out.grow hS.1) (slc_nil _) (Nat.zero_le _) (by rw [HL3.out]; omega) (Nat.zero_le _)).mono ?_
    rintro e U2 ⟨v, b1, rfl, hO9, hst⟩
    rw [List.append_nil, List.nil_append] at hO9
    obtain ⟨p9, c9, rfl⟩ := hO9.slice
    rw [HL3.out] at hO9 ⊢
    have hlt9 : ∀ b ∈ bx, b < U1.heap.size := fun b hb => (hO.lts b hb).2
    replace hO := hO.grow hst
    replace X1 := Bx.below hst (by omega) X1
    have X1o := X1.out; have X1f := X1.fr
    go_wp2_with fail
    refine hK9.out _ _ (fun _ => ?_) (fun hS9 => ?_)
    · (try dsimp only); exact ⟨hS.1.trans (hst.mono hS.1.size), cellc (Tch.of_below (bs := []) hst) hS.2 (by simp)⟩
    replace hS := hS9 (by decide)
    clear hK9 K9 hS9
    try simp only [Act.put, List.setIfInBounds_toArray, List.set_cons_zero, List.set_cons_succ]
    refine late_one (i := 17) rfl (by kernel_rfl) (fun K9 hK9 => ?_)
    go_simp
    refine hK9.out _ _ (fun _ => ?_) (fun hS9 => ?_)
    · (try dsimp only); exact ⟨(hS.1.setCell (by simp) _).setCell (by simp) _, (World.cell?_setCell_far _ _ _ _ (by simp; try omega)).trans ((World.cell?_setCell_far _ _ _ _ (by simp; try omega)).trans hS.2)⟩
    replace hS := hS9 (by decide)
    clear hK9 K9 hS9
    try simp only [Act.put, List.setIfInBounds_toArray, List.set_cons_zero, List.set_cons_succ]
    refine late_take (i := 18) (v := ?_) rfl (by kernel_rfl) (fun _ _ _ h => h) (by rfl) ?_ (by assumption) ?_
    rotate_left
    · (intro w9 hS9; (try dsimp only at hS9); (try go_split_ands); go_simp <;> with_reducible rfl)
    try simp only [Act.put, List.setIfInBounds_toArray, List.set_cons_zero, List.set_cons_succ]
    refine late_one (i := 19) rfl (by kernel_rfl) (fun K9 hK9 => ?_)
    go_simp
    refine hK9.out _ _ (fun h => absurd rfl h) (fun _ => ?_)
    clear hK9 K9
    try simp only [Act.put, List.setIfInBounds_toArray, List.set_cons_zero, List.set_cons_succ]
    refine late_done (by kernel_rfl) ?_ _
    go_wp2
    refine bodyPost_ret (v := .tuple #[.agg #[.slice p (F + (d.Text.length - T)) c, .int .i64 (d.At - ((T : Int) - (F : Int)))], .slice p9 (T - F) c9, .bool true]) (by simp [results, Try.results36, go_sem, X1o]) rfl ?_
    obtain ⟨b6, hb6, hOw⟩ := hO.own
    obtain ⟨b7, hb7, hOw2⟩ := hO9.own
    refine ⟨[.slice p (F + (d.Text.length - T)) c, .int .i64 (d.At - ((T : Int) - (F : Int)))], b6, p9, T - F, c9, b7, by rw [HZ.out.1], ?_, ?_, ?_, ?_⟩
    · rw [HZ.out.2.1]
      refine Own.mono (lo := w.heap.size + 2) ?_ (by omega)
      have e9 : cutD d (F : Int) (T : Int) = ⟨d.Text.take F ++ d.Text.drop T, d.At - ((T : Int) - (F : Int))⟩ := by rw [cutD, HAt.out]; rfl
      rw [e9]
      refine own_Line (d := ⟨d.Text.take F ++ d.Text.drop T, d.At - ((T : Int) - (F : Int))⟩) ?_ (by show I64 (d.At - ((T : Int) - (F : Int))); unfold I64; have := HQ1.out; omega)
      exact Own.setCell' _ (Own.setCell' _ hOw (fun b hb => by have := (hO.lts b (hb6 b hb)).1; simp; omega)) (fun b hb => by have := (hO.lts b (hb6 b hb)).1; simp; omega)
    · rw [HZ.out.2.2]
      refine Own.mono (lo := w.heap.size + 2) ?_ (by omega)
      simp only [Int.toNat_natCast]
      exact Own.setCell' _ (Own.setCell' _ (hOw2.mono hlo9) (fun b hb => by have := (hO9.lts b (hb7 b hb)).1; simp; omega)) (fun b hb => by have := (hO9.lts b (hb7 b hb)).1; simp; omega)
    · exact fun b hb hb2 => by have q1 := hlt9 b (hb6 b hb); have q2 := (hO9.lts b (hb7 b hb2)).1; omega
    · exact hS.1
  · have HAt := hid (show cutAt d (F : Int) (T : Int) = (F : Int) from cutAt_2 hA hB)
    have hA2 : ¬ d.At ≥ (T : Int) := hA
    go_enter Try.func36, Try.ntmps36
    go_wp2_with fail
    refine (s_l13Span (grow H.out ?_) (F : Int) (T : Int)).mono ?_
    · exact (((Below.refl _ _).alloc (Nat.le_refl _) _).alloc (by simp) _)
    rintro e w1 ⟨rfl, hb⟩
    have B0 : Bx w1 (w.heap.size) _ := Bx.below (b := w.heap.size) hb (by first | omega | (simp; done) | (simp; omega)) (by repeat (first  | (apply Bx.new; (focus (first | (simp; done) | (simp; omega) | omega))) | (apply Bx.alloc; rotate_left; (focus (first | (simp; done) | (simp; omega) | omega))) | (apply Bx.setOther; rotate_left; (focus (first | (simp; done) | (simp; omega) | omega))) | apply Bx.setSame))
    have B0o := B0.out
    have B0f := B0.fr
    have B1 : Bx w1 (w.heap.size + 1) _ := Bx.below (b := w.heap.size + 1) hb (by first | omega | (simp; done) | (simp; omega)) (by repeat (first  | (apply Bx.new; (focus (first | (simp; done) | (simp; omega) | omega))) | (apply Bx.alloc; rotate_left; (focus (first | (simp; done) | (simp; omega) | omega))) | (apply Bx.setOther; rotate_left; (focus (first | (simp; done) | (simp; omega) | omega))) | apply Bx.setSame))
    have B1o := B1.out
    have B1f := B1.fr
    have HB := hid (below_call (((Below.refl _ _).alloc (Nat.le_refl _) _).alloc (by simp) _) hb)
    have hs1 : w.heap.size + 2 ≤ w1.heap.size := by have := hb.size; simpa using this
    have HX0 := hid B0; have HX1 := hid B1
    clear hb
    rw [Hk.out]
    go_upto_region 8 with fail
    go_wp2_with fail
    refine late_start (fun W => Below w.heap.size w W ∧ W.cell? ⟨w.heap.size, 0, none⟩ = some (.slice a0 d.Text.length k0)) 19 (by kernel_rfl) ?_ (fun hS => ?_)
    · exact ⟨HB.out.drew, HX0.out.out 0⟩
    refine late_genw (fun U0 hU => ?_)
    rw [← hU] at hS
    have X1 : Bx U0 (w.heap.size + 1) #[.slice none 0 0, .int .i64 0] := by rw [hU]; exact HX1.out.drew
    have hlo9 : w.heap.size + 2 ≤ U0.heap.size := by rw [hU]; simp; omega
    clear hU
    refine late_take (i := 0) (v := ?_) rfl (by kernel_rfl) (fun _ _ _ h => h) (by rfl) ?_ (by assumption) ?_
    rotate_left
    · (intro w9 hS9; (try dsimp only at hS9); (try go_split_ands); go_simp <;> with_reducible rfl)
    try simp only [Act.put, List.setIfInBounds_toArray, List.set_cons_zero, List.set_cons_succ]
    refine late_take (i := 1) (v := ?_) rfl (by kernel_rfl) (fun _ _ _ h => h) (by rfl) ?_ (by assumption) ?_
    rotate_left
    · (intro w9 hS9; (try dsimp only at hS9); (try go_split_ands); go_simp <;> with_reducible rfl)
    try simp only [Act.put, List.setIfInBounds_toArray, List.set_cons_zero, List.set_cons_succ]
    refine late_take (i := 2) (v := ?_) rfl (by kernel_rfl) (fun _ _ _ h => h) (by rfl) ?_ (by assumption) ?_
    rotate_left
    · (intro w9 hS9; (try dsimp only at hS9); (try go_split_ands); go_simp <;> with_reducible rfl)
    try simp only [Act.put, List.setIfInBounds_toArray, List.set_cons_zero, List.set_cons_succ]
    refine late_take (i := 3) (v := ?_) rfl (by kernel_rfl) (fun _ _ _ h => h) (by rfl) ?_ (by assumption) ?_
    rotate_left
    · (intro w9 hS9; (try dsimp only at hS9); (try go_split_ands); go_simp <;> with_reducible rfl)
    try simp only [Act.put, List.setIfInBounds_toArray, List.set_cons_zero, List.set_cons_succ]
    refine late_take (i := 4) (v := ?_) rfl (by kernel_rfl) (fun _ _ _ h => h) (by rfl) ?_ (by assumption) ?_
    rotate_left
    · (intro w9 hS9; (try dsimp only at hS9); (try go_split_ands); go_simp <;> with_reducible rfl)
    try simp only [Act.put, List.setIfInBounds_toArray, List.set_cons_zero, List.set_cons_succ]
    refine late_take (i := 5) (v := ?_) rfl (by kernel_rfl) (fun _ _ _ h => h) (by rfl) ?_ (by assumption) ?_
    rotate_left
    · (intro w9 hS9; (try dsimp only at hS9); (try go_split_ands); go_simp <;> with_reducible rfl)
    try simp only [Act.put, List.setIfInBounds_toArray, List.set_cons_zero, List.set_cons_succ]
    refine late_take (i := 6) (v := ?_) rfl (by kernel_rfl) (fun _ _ _ h => h) (by rfl) ?_ (by assumption) ?_
    rotate_left
    · (intro w9 hS9; (try dsimp only at hS9); (try go_split_ands); go_simp <;> with_reducible rfl)
    try simp only [Act.put, List.setIfInBounds_toArray, List.set_cons_zero, List.set_cons_succ]
    refine late_take (i := 7) (v := ?_) rfl (by kernel_rfl) (fun _ _ _ h => h) (by rfl) ?_ (by assumption) ?_
    rotate_left
    · (intro w9 hS9; (try dsimp only at hS9); (try go_split_ands); go_simp <;> with_reducible rfl)
    try simp only [Act.put, List.setIfInBounds_toArray, List.set_cons_zero, List.set_cons_succ]
    refine late_take (i := 9) (v := ?_) rfl (by kernel_rfl) (fun _ _ _ h => h) (by rfl) ?_ (by assumption) ?_
    rotate_left
    · (intro w9 hS9; (try dsimp only at hS9); (try go_split_ands); go_simp <;> with_reducible rfl)
    try simp only [Act.put, List.setIfInBounds_toArray, List.set_cons_zero, List.set_cons_succ]
    refine late_take (i := 11) (v := ?_) rfl (by kernel_rfl) (fun _ _ _ h => h) (by rfl) ?_ (by assumption) ?_
    rotate_left
    · (intro w9 hS9; (try dsimp only at hS9); (try go_split_ands); go_simp <;> with_reducible rfl)
    try simp only [Act.put, List.setIfInBounds_toArray, List.set_cons_zero, List.set_cons_succ]
    refine late_take (i := 12) (v := ?_) rfl (by kernel_rfl) (fun _ _ _ h => h) (by rfl) ?_ (by assumption) ?_
    rotate_left
    · (intro w9 hS9; (try dsimp only at hS9); (try go_split_ands); go_simp <;> with_reducible rfl)
    try simp only [Act.put, List.setIfInBounds_toArray, List.set_cons_zero, List.set_cons_succ]
    refine late_take (i := 13) (v := ?_) rfl (by kernel_rfl) (fun _ _ _ h => h) (by rfl) ?_ (by assumption) ?_
    rotate_left
    · (intro w9 hS9; (try dsimp only at hS9); (try go_split_ands); go_simp <;> with_reducible rfl)
    try simp only [Act.put, List.setIfInBounds_toArray, List.set_cons_zero, List.set_cons_succ]
    refine late_take (i := 14) (v := ?_) rfl (by kernel_rfl) (fun _ _ _ h => h) (by rfl) ?_ (by assumption) ?_
    rotate_left
    · (intro w9 hS9; (try dsimp only at hS9); (try go_split_ands); go_simp <;> with_reducible rfl)
    try simp only [Act.put, List.setIfInBounds_toArray, List.set_cons_zero, List.set_cons_succ]
    refine late_take (i := 15) (v := ?_) rfl (by kernel_rfl) (fun _ _ _ h => h) (by rfl) ?_ (by assumption) ?_
    rotate_left
    · (intro w9 hS9; (try dsimp only at hS9); (try go_split_ands); go_simp <;> with_reducible rfl)
    try simp only [Act.put, List.setIfInBounds_toArray, List.set_cons_zero, List.set_cons_succ]
    refine late_one (i := 8) rfl (by kernel_rfl) (fun K9 hK9 => ?_)
    go_simp
    refine (s_l13Join (HS1.out.grow hS.1) (slc_nil _) (HS2.out.grow hS.1) (by rw [HL1.out]; omega) (Nat.zero_le _) (by rw [List.length_drop]; omega)).mono ?_
    rintro e U1 ⟨v, bx, rfl, hO, hst⟩
    rw [List.append_nil] at hO
    obtain ⟨p, c, rfl⟩ := hO.slice
    rw [HLt.out] at hO ⊢
    replace hO := hO.mono hlo9
    replace X1 := Bx.below hst (by omega) X1
    go_wp2_with fail
    refine hK9.out _ _ (fun _ => ?_) (fun hS9 => ?_)
    · (try dsimp only); exact ⟨hS.1.trans (hst.mono hS.1.size), cellc (Tch.of_below (bs := []) hst) hS.2 (by simp)⟩
    replace hS := hS9 (by decide)
    clear hK9 K9 hS9
    try simp only [Act.put, List.setIfInBounds_toArray, List.set_cons_zero, List.set_cons_succ]
    replace hlo9 := Nat.le_trans hlo9 hst.size
    clear hst
    refine late_take (i := 10) (v := ?_) rfl (by kernel_rfl) (fun _ _ _ h => h) (by rfl) ?_ (by assumption) ?_
    rotate_left
    · (intro w9 hS9; (try dsimp only at hS9); (try go_split_ands); go_simp <;> with_reducible rfl)
    try simp only [Act.put, List.setIfInBounds_toArray, List.set_cons_zero, List.set_cons_succ]
    refine late_one (i := 16) rfl (by kernel_rfl) (fun K9 hK9 => ?_)
    go_simp
    refine (s_l13Join (slc_nil _) (HS3.out.grow hS.1) (slc_nil _) (Nat.zero_le _) (by rw [HL3.out]; omega) (Nat.zero_le _)).mono ?_
    rintro e U2 ⟨v, b1, rfl, hO9, hst⟩
    rw [List.append_nil, List.nil_append] at hO9
    obtain ⟨p9, c9, rfl⟩ := hO9.slice
    rw [HL3.out] at hO9 ⊢
    have hlt9 : ∀ b ∈ bx, b < U1.heap.size := fun b hb => (hO.lts b hb).2
    replace hO := hO.grow hst
    replace X1 := Bx.below hst (by omega) X1
    have X1o := X1.out; have X1f := X1.fr
    go_wp2_with fail
    refine hK9.out _ _ (fun _ => ?_) (fun hS9 => ?_)
    · (try dsimp only); exact ⟨hS.1.trans (hst.mono hS.1.size), cellc (Tch.of_below (bs := []) hst) hS.2 (by simp)⟩
    replace hS := hS9 (by decide)
    clear hK9 K9 hS9
    try simp only [Act.put, List.setIfInBounds_toArray, List.set_cons_zero, List.set_cons_succ]
    refine late_one (i := 17) rfl (by kernel_rfl) (fun K9 hK9 => ?_)
    go_simp
    refine hK9.out _ _ (fun _ => ?_) (fun hS9 => ?_)
    · (try dsimp only); exact ⟨(hS.1.setCell (by simp) _).setCell (by simp) _, (World.cell?_setCell_far _ _ _ _ (by simp; try omega)).trans ((World.cell?_setCell_far _ _ _ _ (by simp; try omega)).trans hS.2)⟩
    replace hS := hS9 (by decide)
    clear hK9 K9 hS9
    try simp only [Act.put, List.setIfInBounds_toArray, List.set_cons_zero, List.set_cons_succ]
    refine late_take (i := 18) (v := ?_) rfl (by kernel_rfl) (fun _ _ _ h => h) (by rfl) ?_ (by assumption) ?_
    rotate_left
    · (intro w9 hS9; (try dsimp only at hS9); (try go_split_ands); go_simp <;> with_reducible rfl)
    try simp only [Act.put, List.setIfInBounds_toArray, List.set_cons_zero, List.set_cons_succ]
    refine late_one (i := 19) rfl (by kernel_rfl) (fun K9 hK9 => ?_)
    go_simp
    refine hK9.out _ _ (fun h => absurd rfl h) (fun _ => ?_)
    clear hK9 K9
    try simp only [Act.put, List.setIfInBounds_toArray, List.set_cons_zero, List.set_cons_succ]
    refine late_done (by kernel_rfl) ?_ _
    go_wp2
    refine bodyPost_ret (v := .tuple #[.agg #[.slice p (F + (d.Text.length - T)) c, .int .i64 ((F : Int))], .slice p9 (T - F) c9, .bool true]) (by simp [results, Try.results36, go_sem, X1o]) rfl ?_
    obtain ⟨b6, hb6, hOw⟩ := hO.own
    obtain ⟨b7, hb7, hOw2⟩ := hO9.own
    refine ⟨[.slice p (F + (d.Text.length - T)) c, .int .i64 ((F : Int))], b6, p9, T - F, c9, b7, by rw [HZ.out.1], ?_, ?_, ?_, ?_⟩
    · rw [HZ.out.2.1]
      refine Own.mono (lo := w.heap.size + 2) ?_ (by omega)
      have e9 : cutD d (F : Int) (T : Int) = ⟨d.Text.take F ++ d.Text.drop T, (F : Int)⟩ := by rw [cutD, HAt.out]; rfl
      rw [e9]
      refine own_Line (d := ⟨d.Text.take F ++ d.Text.drop T, (F : Int)⟩) ?_ (by show I64 ((F : Int)); unfold I64; have := HQ1.out; omega)
      exact Own.setCell' _ (Own.setCell' _ hOw (fun b hb => by have := (hO.lts b (hb6 b hb)).1; simp; omega)) (fun b hb => by have := (hO.lts b (hb6 b hb)).1; simp; omega)
    · rw [HZ.out.2.2]
      refine Own.mono (lo := w.heap.size + 2) ?_ (by omega)
      simp only [Int.toNat_natCast]
      exact Own.setCell' _ (Own.setCell' _ (hOw2.mono hlo9) (fun b hb => by have := (hO9.lts b (hb7 b hb)).1; simp; omega)) (fun b hb => by have := (hO9.lts b (hb7 b hb)).1; simp; omega)
    · exact fun b hb hb2 => by have q1 := hlt9 b (hb6 b hb); have q2 := (hO9.lts b (hb7 b hb2)).1; omega
    · exact hS.1
end Go.Proofs.Ytndhhongkigikaa
