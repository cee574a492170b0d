/- Letters turned, by the reference (printed by gencase.py). -/
import Derived.Test.YtndhhongkigikaaCase
import Derived.Test.YtndhhongkigikaaLate
set_option linter.unusedSimpArgs false
set_option linter.unusedVariables false
namespace Go.Proofs.Ytndhhongkigikaa
open Go.RowKit Go.G6
set_option maxHeartbeats 30000000
set_option maxRecDepth 10000
theorem s_LineCase {w : World} {bs : List Nat} {cs : List Value} {d : LineD} (h : Rep.pt w bs cs d) (x : Int) (hx : I64 x) (y : Int) (hy : I64 y) (how : Int) (hh : I64 how) :
    Calls Try.prog 29 #[.agg cs.toArray, .int .i64 x, .int .i64 y, .int .i64 how] w (RetAB w (lineCase d x y how) (.bool (caseOk d x y how))) := by
  have H := hid h
  obtain ⟨a0, l0, k0, rfl, h0, h1⟩ := open_Line h
  obtain rfl := h0.len_eq
  clear h
  cases hk : inLineB d x y
  · have HZ : Hid (caseOk d x y how = false ∧ lineCase d x y how = line0) := hid (by simp [lineCase, caseOk, hk])
    have Hk := hid hk; clear hk
    go_enter Try.func29, Try.ntmps29
    go_wp2_with fail
    refine (s_l13Span (grow H.out ?_) x y).mono ?_
    · exact (((Below.refl _ _).alloc (Nat.le_refl _) _).alloc (by simp) _)
    rintro e w1 ⟨rfl, hb⟩
    have B0 : Bx w1 (w.heap.size) _ := Bx.below (b := w.heap.size) hb (by first | omega | (simp; done) | (simp; omega)) (by repeat (first  | (apply Bx.new; (focus (first | (simp; done) | (simp; omega) | omega))) | (apply Bx.alloc; rotate_left; (focus (first | (simp; done) | (simp; omega) | omega))) | (apply Bx.setOther; rotate_left; (focus (first | (simp; done) | (simp; omega) | omega))) | apply Bx.setSame))
    have B0o := B0.out
    have B0f := B0.fr
    have B1 : Bx w1 (w.heap.size + 1) _ := Bx.below (b := w.heap.size + 1) hb (by first | omega | (simp; done) | (simp; omega)) (by repeat (first  | (apply Bx.new; (focus (first | (simp; done) | (simp; omega) | omega))) | (apply Bx.alloc; rotate_left; (focus (first | (simp; done) | (simp; omega) | omega))) | (apply Bx.setOther; rotate_left; (focus (first | (simp; done) | (simp; omega) | omega))) | apply Bx.setSame))
    have B1o := B1.out
    have B1f := B1.fr
    have HB := hid (below_call (((Below.refl _ _).alloc (Nat.le_refl _) _).alloc (by simp) _) hb)
    have hs1 : w.heap.size + 2 ≤ w1.heap.size := by have := hb.size; simpa using this
    clear hb
    rw [Hk.out]
    go_wp2
    refine bodyPost_ret (v := .tuple #[.agg #[.slice none 0 0, .int .i64 0], .bool false]) (by simp [results, Try.results29, go_sem, B1o]) rfl ?_
    refine ⟨[.slice none 0 0, .int .i64 0], [], by first | rfl | rw [HZ.out.1], ?_, (HB.out.setCell (by simp) _).setCell (by simp) _⟩
    rw [HZ.out.2]; exact own_line0 _ _
  by_cases hw0 : how < 0
  · have HZ : Hid (caseOk d x y how = false ∧ lineCase d x y how = line0) := hid (by simp only [lineCase, caseOk, show decide (0 ≤ how ∧ how ≤ 2) = false from decide_eq_false (by omega), Bool.and_false]; simp)
    have Hk := hid hk; clear hk
    go_enter Try.func29, Try.ntmps29
    go_wp2_with fail
    refine (s_l13Span (grow H.out ?_) x y).mono ?_
    · exact (((Below.refl _ _).alloc (Nat.le_refl _) _).alloc (by simp) _)
    rintro e w1 ⟨rfl, hb⟩
    have B0 : Bx w1 (w.heap.size) _ := Bx.below (b := w.heap.size) hb (by first | omega | (simp; done) | (simp; omega)) (by repeat (first  | (apply Bx.new; (focus (first | (simp; done) | (simp; omega) | omega))) | (apply Bx.alloc; rotate_left; (focus (first | (simp; done) | (simp; omega) | omega))) | (apply Bx.setOther; rotate_left; (focus (first | (simp; done) | (simp; omega) | omega))) | apply Bx.setSame))
    have B0o := B0.out
    have B0f := B0.fr
    have B1 : Bx w1 (w.heap.size + 1) _ := Bx.below (b := w.heap.size + 1) hb (by first | omega | (simp; done) | (simp; omega)) (by repeat (first  | (apply Bx.new; (focus (first | (simp; done) | (simp; omega) | omega))) | (apply Bx.alloc; rotate_left; (focus (first | (simp; done) | (simp; omega) | omega))) | (apply Bx.setOther; rotate_left; (focus (first | (simp; done) | (simp; omega) | omega))) | apply Bx.setSame))
    have B1o := B1.out
    have B1f := B1.fr
    have HB := hid (below_call (((Below.refl _ _).alloc (Nat.le_refl _) _).alloc (by simp) _) hb)
    have hs1 : w.heap.size + 2 ≤ w1.heap.size := by have := hb.size; simpa using this
    clear hb
    rw [Hk.out]
    go_wp2
    refine bodyPost_ret (v := .tuple #[.agg #[.slice none 0 0, .int .i64 0], .bool false]) (by simp [results, Try.results29, go_sem, B1o]) rfl ?_
    refine ⟨[.slice none 0 0, .int .i64 0], [], by first | rfl | rw [HZ.out.1], ?_, (HB.out.setCell (by simp) _).setCell (by simp) _⟩
    rw [HZ.out.2]; exact own_line0 _ _
  by_cases hw2 : 2 < how
  · have HZ : Hid (caseOk d x y how = false ∧ lineCase d x y how = line0) := hid (by simp only [lineCase, caseOk, show decide (0 ≤ how ∧ how ≤ 2) = false from decide_eq_false (by omega), Bool.and_false]; simp)
    have Hk := hid hk; clear hk
    go_enter Try.func29, Try.ntmps29
    go_wp2_with fail
    refine (s_l13Span (grow H.out ?_) x y).mono ?_
    · exact (((Below.refl _ _).alloc (Nat.le_refl _) _).alloc (by simp) _)
    rintro e w1 ⟨rfl, hb⟩
    have B0 : Bx w1 (w.heap.size) _ := Bx.below (b := w.heap.size) hb (by first | omega | (simp; done) | (simp; omega)) (by repeat (first  | (apply Bx.new; (focus (first | (simp; done) | (simp; omega) | omega))) | (apply Bx.alloc; rotate_left; (focus (first | (simp; done) | (simp; omega) | omega))) | (apply Bx.setOther; rotate_left; (focus (first | (simp; done) | (simp; omega) | omega))) | apply Bx.setSame))
    have B0o := B0.out
    have B0f := B0.fr
    have B1 : Bx w1 (w.heap.size + 1) _ := Bx.below (b := w.heap.size + 1) hb (by first | omega | (simp; done) | (simp; omega)) (by repeat (first  | (apply Bx.new; (focus (first | (simp; done) | (simp; omega) | omega))) | (apply Bx.alloc; rotate_left; (focus (first | (simp; done) | (simp; omega) | omega))) | (apply Bx.setOther; rotate_left; (focus (first | (simp; done) | (simp; omega) | omega))) | apply Bx.setSame))
    have B1o := B1.out
    have B1f := B1.fr
    have HB := hid (below_call (((Below.refl _ _).alloc (Nat.le_refl _) _).alloc (by simp) _) hb)
    have hs1 : w.heap.size + 2 ≤ w1.heap.size := by have := hb.size; simpa using this
    clear hb
    rw [Hk.out]
    go_wp2
    refine bodyPost_ret (v := .tuple #[.agg #[.slice none 0 0, .int .i64 0], .bool false]) (by simp [results, Try.results29, go_sem, B1o]) rfl ?_
    refine ⟨[.slice none 0 0, .int .i64 0], [], by first | rfl | rw [HZ.out.1], ?_, (HB.out.setCell (by simp) _).setCell (by simp) _⟩
    rw [HZ.out.2]; exact own_line0 _ _
  have hk0 := hk
  simp only [inLineB, Bool.and_eq_true, decide_eq_true_eq] at hk0
  obtain ⟨hlo, hx0, hxy, hyn⟩ := hk0
  have hq := lineOk_bounds hlo
  have hn4 := hq.1
  have h9 : caseOk d x y how = true := by simp only [caseOk, hk, show decide (0 ≤ how ∧ how ≤ 2) = true from decide_eq_true (by omega)]; rfl
  have HZ : Hid (caseOk d x y how = true ∧ lineCase d x y how = ⟨caseR how true (y.toNat - x.toNat) x.toNat d.Text, y⟩) := hid ⟨h9, by simp [lineCase, h9]⟩
  have Hk := hid hk; clear hk
  clear hlo hq h9
  obtain ⟨F, rfl⟩ : ∃ F : Nat, x = (F : Int) := ⟨x.toNat, by omega⟩
  obtain ⟨T, rfl⟩ : ∃ T : Nat, y = (T : Int) := ⟨y.toNat, by omega⟩
  go_enter Try.func29, Try.ntmps29
  go_wp2_with fail
  refine (s_l13Span (grow H.out ?_) (F : Int) (T : Int)).mono ?_
  · exact (((Below.refl _ _).alloc (Nat.le_refl _) _).alloc (by simp) _)
  rintro e w1 ⟨rfl, hb⟩
  have B0 : Bx w1 (w.heap.size) _ := Bx.below (b := w.heap.size) hb (by first | omega | (simp; done) | (simp; omega)) (by repeat (first  | (apply Bx.new; (focus (first | (simp; done) | (simp; omega) | omega))) | (apply Bx.alloc; rotate_left; (focus (first | (simp; done) | (simp; omega) | omega))) | (apply Bx.setOther; rotate_left; (focus (first | (simp; done) | (simp; omega) | omega))) | apply Bx.setSame))
  have B0o := B0.out
  have B0f := B0.fr
  have B1 : Bx w1 (w.heap.size + 1) _ := Bx.below (b := w.heap.size + 1) hb (by first | omega | (simp; done) | (simp; omega)) (by repeat (first  | (apply Bx.new; (focus (first | (simp; done) | (simp; omega) | omega))) | (apply Bx.alloc; rotate_left; (focus (first | (simp; done) | (simp; omega) | omega))) | (apply Bx.setOther; rotate_left; (focus (first | (simp; done) | (simp; omega) | omega))) | apply Bx.setSame))
  have B1o := B1.out
  have B1f := B1.fr
  have HB := hid (below_call (((Below.refl _ _).alloc (Nat.le_refl _) _).alloc (by simp) _) hb)
  have hs1 : w.heap.size + 2 ≤ w1.heap.size := by have := hb.size; simpa using this
  clear hb
  rw [Hk.out]
  go_wp2_with fail
  refine (s_l13Join (h0.grow HB.out) (slc_nil _) (slc_nil _) (by omega) (Nat.zero_le _) (Nat.zero_le _)).mono ?_
  rintro e w2 ⟨v2, b2, rfl, hO, hb⟩
  simp only [List.append_nil] at hO
  obtain ⟨p2, c2, rfl⟩ := hO.slice
  obtain ⟨bx, hbx, hOw⟩ := hO.own
  have hL := hO.lts
  replace B1 : Bx w2 (w.heap.size + 1) _ := Bx.below (b := w.heap.size + 1) hb (by first | omega | (simp; done) | (simp; omega)) (by repeat (first  | exact B0 | exact B1 | (apply Bx.new; (focus (first | (simp; done) | (simp; omega) | omega))) | (apply Bx.alloc; rotate_left; (focus (first | (simp; done) | (simp; omega) | omega))) | (apply Bx.setOther; rotate_left; (focus (first | (simp; done) | (simp; omega) | omega))) | apply Bx.setSame))
  replace B1o := B1.out
  replace B1f := B1.fr
  have HB2 := hid (below_call HB.out hb)
  have hs2 : w1.heap.size ≤ w2.heap.size := hb.size
  have HL := hid (fun b hb => hL b (hbx b hb))
  have HOw := hid hOw
  clear hb hO hOw hL
  go_wp2_with fail
  go_loopw [11, 12] (fun f i wr => ∃ (k : Nat) (fb : Bool) (ys : List Int), F ≤ k ∧ k ≤ T ∧ i = .int .i64 k ∧ f = .bool fb ∧ ys.length = d.Text.length ∧ caseR how true (T - F) F d.Text = caseR how fb (T - k) k ys ∧ Own w1.heap.size wr bx [.slice p2 d.Text.length c2] ys ∧ Bx wr (w.heap.size + 1) #[.slice none 0 0, .int .i64 0] ∧ Below w.heap.size w wr) (fun _ i _ => T - (intOf i).toNat)
  case atStart => exact ⟨F, true, d.Text, Nat.le_refl _, by omega, rfl, rfl, rfl, rfl, HOw.out, B1, HB2.out⟩
  case round =>
    obtain ⟨k, fb, ys, hFk, hkT, rfl, rfl, hyl, hR, hO, hX1, hb⟩ := hrel
    have HR := hid hR; have HO := hid hO; have HX1 := hid hX1; have HBr := hid hb
    have x1 := hX1.out; have x1f := hX1.fr
    clear hR hX1 hb
    by_cases hlt : k < T
    rotate_left
    · obtain rfl : k = T := by omega
      clear hO
      go_wp2
      refine bodyPost_ret (v := .tuple #[.agg #[.slice p2 d.Text.length c2, .int .i64 (k : Int)], .bool true]) (by simp [results, Try.results29, go_sem, x1]) rfl ?_
      refine ⟨[.slice p2 d.Text.length c2, .int .i64 (k : Int)], bx, by rw [HZ.out.1], ?_, (HBr.out.setCell (by simp) _).setCell (by simp) _⟩
      rw [HZ.out.2, Int.toNat_natCast, Int.toNat_natCast, HR.out, Nat.sub_self]
      refine Own.mono (lo := w1.heap.size) ?_ (by omega)
      refine own_Line (d := ⟨ys, (k : Int)⟩) ?_ (I64_nat (by omega))
      repeat (first | exact HO.out | refine Own.setCell' _ ?_ (fun b hb => by have := HL.out b hb; simp; omega))
    have hky : k < ys.length := by omega
    have hri : I64 ys[k] := hO.slc.oks _ (List.getElem_mem hky)
    obtain ⟨r, hr⟩ : ∃ r, r = ys[k] := ⟨_, rfl⟩
    have hself : ys.set k r = ys := by rw [hr]; exact List.set_getElem_self _
    obtain ⟨b, off, rfl, hbb, hck, hfr, hOt⟩ := hO.setScal k hky (convC true ys[k]) (convC_ok hri)
    obtain ⟨_, _, eb, hx1, hx2, hx3, hOf⟩ := hO.setScal k hky (convC false ys[k]) (convC_ok hri)
    simp only [Option.some.injEq, Addr.mk.injEq, and_true] at eb
    obtain ⟨rfl, rfl⟩ := eb
    clear hx1 hx2 hx3
    have hbl := HL.out b hbb
    have hck1 : wr.cell? ⟨b, off + k, none⟩ = some (.int .i64 r) := by rw [hr]; exact hck
    have HOt := hid hOt; have HOf := hid hOf
    rw [← hr] at hri HOt HOf
    have hki : (k : Int) < (d.Text.length : Int) := by omega
    have hkTi : (k : Int) < (T : Int) := by omega
    have HLn := hid (caseR_no (how := how) (first := fb) hky hlt); have HLy := hid (caseR_yes (how := how) (first := fb) hky hlt)
    rw [← hr] at HLn HLy
    have Hs := hid hself
    clear hO hck hOt hOf hr hself
    have hrg : r < 65 ∨ (65 ≤ r ∧ r ≤ 90) ∨ (90 < r ∧ r < 97) ∨ (97 ≤ r ∧ r ≤ 122) ∨ 122 < r := by omega
    rcases hrg with q | q | q | q | q
    · have Q := hid q
      have t1 : decide ((97 : Int) ≤ r) = false := by first | exact decide_eq_true (by omega) | exact decide_eq_false (by omega)
      have t2 : decide (r ≤ (122 : Int)) = true := by first | exact decide_eq_true (by omega) | exact decide_eq_false (by omega)
      have t3 : decide ((65 : Int) ≤ r) = false := by first | exact decide_eq_true (by omega) | exact decide_eq_false (by omega)
      have t4 : decide (r ≤ (90 : Int)) = true := by first | exact decide_eq_true (by omega) | exact decide_eq_false (by omega)
      have il : inB r 97 122 = false := by unfold inB; first | exact decide_eq_true (by omega) | exact decide_eq_false (by omega)
      have iu : inB r 65 90 = false := by unfold inB; first | exact decide_eq_true (by omega) | exact decide_eq_false (by omega)
      have HN := hid (HLn.out (by simp [letter, il, iu]))
      clear q HLn HLy il iu
      go_wp2
      exact ⟨⟨k + 1, fb, ys, by omega, by omega, rfl, rfl, hyl, by rw [HR.out, HN.out], HO.out, HX1.out, HBr.out⟩, by simp [intOf]; omega⟩
    · have Q := hid q
      have t1 : decide ((97 : Int) ≤ r) = false := by first | exact decide_eq_true (by omega) | exact decide_eq_false (by omega)
      have t2 : decide (r ≤ (122 : Int)) = true := by first | exact decide_eq_true (by omega) | exact decide_eq_false (by omega)
      have t3 : decide ((65 : Int) ≤ r) = true := by first | exact decide_eq_true (by omega) | exact decide_eq_false (by omega)
      have t4 : decide (r ≤ (90 : Int)) = true := by first | exact decide_eq_true (by omega) | exact decide_eq_false (by omega)
      have il : inB r 97 122 = false := by unfold inB; first | exact decide_eq_true (by omega) | exact decide_eq_false (by omega)
      have iu : inB r 65 90 = true := by unfold inB; first | exact decide_eq_true (by omega) | exact decide_eq_false (by omega)
      have HY := hid (HLy.out (by simp [letter, il, iu]))
      have ct : convC true r = r := by simp [convC, il, iu]
      have cf : convC false r = r + 32 := by simp [convC, il, iu]
      have hwr1 : wrap64 (r - 32) = r - 32 := IntWalk.wrap64_in _ (by omega)
      have hwr2 : wrap64 (r + 32) = r + 32 := IntWalk.wrap64_in _ (by omega)
      rw [ct] at HOt; rw [cf] at HOf
      clear q HLn HLy il iu
      have hcs : ((how == 1) = true) ∨ ((how == 1) = false ∧ (how == 2) = true ∧ fb = true) ∨ ((how == 1) = false ∧ (how == 2) = false) ∨ ((how == 1) = false ∧ (how == 2) = true ∧ fb = false) := by cases (how == 1) <;> cases (how == 2) <;> cases fb <;> simp
      rcases hcs with e1 | ⟨e1, e2, rfl⟩ | ⟨e1, e2⟩ | ⟨e1, e2, rfl⟩
      · have hup : upC how fb = true := by simp [upC, e1]
        rw [hup, ct, Hs.out] at HY
        clear hup ct cf
        go_wp2
        exact ⟨⟨k + 1, false, ys, by omega, by omega, rfl, rfl, hyl, by rw [HR.out, HY.out], HO.out, HX1.out, HBr.out⟩, by simp [intOf]; omega⟩
      · have hup : upC how true = true := by simp [upC, e1, e2]
        rw [hup, ct, Hs.out] at HY
        clear hup ct cf
        go_wp2
        exact ⟨⟨k + 1, false, ys, by omega, by omega, rfl, rfl, hyl, by rw [HR.out, HY.out], HO.out, HX1.out, HBr.out⟩, by simp [intOf]; omega⟩
      · have hup : upC how fb = false := by simp [upC, e1, e2]
        rw [hup, cf] at HY
        clear hup ct cf
        go_wp2
        exact ⟨⟨k + 1, false, ys.set k (r + 32), by omega, by omega, rfl, rfl, by rw [List.length_set]; exact hyl, by rw [HR.out, HY.out], HOf.out, HX1.out.setOther (by simp; omega) _, HBr.out.setCell (by simp; omega) _⟩, by simp [intOf]; omega⟩
      · have hup : upC how false = false := by simp [upC, e1, e2]
        rw [hup, cf] at HY
        clear hup ct cf
        go_wp2
        exact ⟨⟨k + 1, false, ys.set k (r + 32), by omega, by omega, rfl, rfl, by rw [List.length_set]; exact hyl, by rw [HR.out, HY.out], HOf.out, HX1.out.setOther (by simp; omega) _, HBr.out.setCell (by simp; omega) _⟩, by simp [intOf]; omega⟩
    · have Q := hid q
      have t1 : decide ((97 : Int) ≤ r) = false := by first | exact decide_eq_true (by omega) | exact decide_eq_false (by omega)
      have t2 : decide (r ≤ (122 : Int)) = true := by first | exact decide_eq_true (by omega) | exact decide_eq_false (by omega)
      have t3 : decide ((65 : Int) ≤ r) = true := by first | exact decide_eq_true (by omega) | exact decide_eq_false (by omega)
      have t4 : decide (r ≤ (90 : Int)) = false := by first | exact decide_eq_true (by omega) | exact decide_eq_false (by omega)
      have il : inB r 97 122 = false := by unfold inB; first | exact decide_eq_true (by omega) | exact decide_eq_false (by omega)
      have iu : inB r 65 90 = false := by unfold inB; first | exact decide_eq_true (by omega) | exact decide_eq_false (by omega)
      have HN := hid (HLn.out (by simp [letter, il, iu]))
      clear q HLn HLy il iu
      go_wp2
      exact ⟨⟨k + 1, fb, ys, by omega, by omega, rfl, rfl, hyl, by rw [HR.out, HN.out], HO.out, HX1.out, HBr.out⟩, by simp [intOf]; omega⟩
    · have Q := hid q
      have t1 : decide ((97 : Int) ≤ r) = true := by first | exact decide_eq_true (by omega) | exact decide_eq_false (by omega)
      have t2 : decide (r ≤ (122 : Int)) = true := by first | exact decide_eq_true (by omega) | exact decide_eq_false (by omega)
      have t3 : decide ((65 : Int) ≤ r) = true := by first | exact decide_eq_true (by omega) | exact decide_eq_false (by omega)
      have t4 : decide (r ≤ (90 : Int)) = false := by first | exact decide_eq_true (by omega) | exact decide_eq_false (by omega)
      have il : inB r 97 122 = true := by unfold inB; first | exact decide_eq_true (by omega) | exact decide_eq_false (by omega)
      have iu : inB r 65 90 = false := by unfold inB; first | exact decide_eq_true (by omega) | exact decide_eq_false (by omega)
      have HY := hid (HLy.out (by simp [letter, il, iu]))
      have ct : convC true r = r - 32 := by simp [convC, il, iu]
      have cf : convC false r = r := by simp [convC, il, iu]
      have hwr1 : wrap64 (r - 32) = r - 32 := IntWalk.wrap64_in _ (by omega)
      have hwr2 : wrap64 (r + 32) = r + 32 := IntWalk.wrap64_in _ (by omega)
      rw [ct] at HOt; rw [cf] at HOf
      clear q HLn HLy il iu
      have hcs : ((how == 1) = true) ∨ ((how == 1) = false ∧ (how == 2) = true ∧ fb = true) ∨ ((how == 1) = false ∧ (how == 2) = false) ∨ ((how == 1) = false ∧ (how == 2) = true ∧ fb = false) := by cases (how == 1) <;> cases (how == 2) <;> cases fb <;> simp
      rcases hcs with e1 | ⟨e1, e2, rfl⟩ | ⟨e1, e2⟩ | ⟨e1, e2, rfl⟩
      · have hup : upC how fb = true := by simp [upC, e1]
        rw [hup, ct] at HY
        clear hup ct cf
        go_wp2
        exact ⟨⟨k + 1, false, ys.set k (r - 32), by omega, by omega, rfl, rfl, by rw [List.length_set]; exact hyl, by rw [HR.out, HY.out], HOt.out, HX1.out.setOther (by simp; omega) _, HBr.out.setCell (by simp; omega) _⟩, by simp [intOf]; omega⟩
      · have hup : upC how true = true := by simp [upC, e1, e2]
        rw [hup, ct] at HY
        clear hup ct cf
        go_wp2
        exact ⟨⟨k + 1, false, ys.set k (r - 32), by omega, by omega, rfl, rfl, by rw [List.length_set]; exact hyl, by rw [HR.out, HY.out], HOt.out, HX1.out.setOther (by simp; omega) _, HBr.out.setCell (by simp; omega) _⟩, by simp [intOf]; omega⟩
      · have hup : upC how fb = false := by simp [upC, e1, e2]
        rw [hup, cf, Hs.out] at HY
        clear hup ct cf
        go_wp2
        exact ⟨⟨k + 1, false, ys, by omega, by omega, rfl, rfl, hyl, by rw [HR.out, HY.out], HO.out, HX1.out, HBr.out⟩, by simp [intOf]; omega⟩
      · have hup : upC how false = false := by simp [upC, e1, e2]
        rw [hup, cf, Hs.out] at HY
        clear hup ct cf
        go_wp2
        exact ⟨⟨k + 1, false, ys, by omega, by omega, rfl, rfl, hyl, by rw [HR.out, HY.out], HO.out, HX1.out, HBr.out⟩, by simp [intOf]; omega⟩
    · have Q := hid q
      have t1 : decide ((97 : Int) ≤ r) = true := by first | exact decide_eq_true (by omega) | exact decide_eq_false (by omega)
      have t2 : decide (r ≤ (122 : Int)) = false := by first | exact decide_eq_true (by omega) | exact decide_eq_false (by omega)
      have t3 : decide ((65 : Int) ≤ r) = true := by first | exact decide_eq_true (by omega) | exact decide_eq_false (by omega)
      have t4 : decide (r ≤ (90 : Int)) = false := by first | exact decide_eq_true (by omega) | exact decide_eq_false (by omega)
      have il : inB r 97 122 = false := by unfold inB; first | exact decide_eq_true (by omega) | exact decide_eq_false (by omega)
      have iu : inB r 65 90 = false := by unfold inB; first | exact decide_eq_true (by omega) | exact decide_eq_false (by omega)
      have HN := hid (HLn.out (by simp [letter, il, iu]))
      clear q HLn HLy il iu
      go_wp2
      exact ⟨⟨k + 1, fb, ys, by omega, by omega, rfl, rfl, hyl, by rw [HR.out, HN.out], HO.out, HX1.out, HBr.out⟩, by simp [intOf]; omega⟩
end Go.Proofs.Ytndhhongkigikaa
