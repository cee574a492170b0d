/- Letters turned (printed by gencase.py). -/
import Derived.Test.YtdfpjchneofndaaLineM
import Derived.Test.YtdfpjchneofndaaLate
set_option linter.unusedSimpArgs false
set_option linter.unusedVariables false
namespace Go.G6
open Go.RowKit Rep
def upC (how : Int) (first : Bool) : Bool := (how == 1) || ((how == 2) && first)
def letter (r : Int) : Bool := inB r 97 122 || inB r 65 90
def convC (up : Bool) (r : Int) : Int := if up then (if inB r 97 122 then r - 32 else r) else (if inB r 65 90 then r + 32 else r)
/-- n runes from k on. -/
def caseR (how : Int) : Bool → Nat → Nat → List Int → List Int
  | _, 0, _, xs => xs
  | first, n + 1, k, xs => if letter (xs.getD k 0) then caseR how false n (k + 1) (xs.set k (convC (upC how first) (xs.getD k 0))) else caseR how first n (k + 1) xs
def inLineB (d : LineD) (x y : Int) : Bool := lineOk d && decide (0 ≤ x ∧ x ≤ y ∧ y ≤ (d.Text.length : Int))
def caseOk (d : LineD) (x y how : Int) : Bool := inLineB d x y && decide (0 ≤ how ∧ how ≤ 2)
def lineCase (d : LineD) (x y how : Int) : LineD := if caseOk d x y how then ⟨caseR how true (y.toNat - x.toNat) x.toNat d.Text, y⟩ else line0
theorem caseR_len (how : Int) : ∀ (n : Nat) (first : Bool) (k : Nat) (xs : List Int), (caseR how first n k xs).length = xs.length
  | 0, _, _, _ => rfl
  | n + 1, first, k, xs => by
    unfold caseR
    split
    · rw [caseR_len how n]; simp
    · rw [caseR_len how n]
theorem caseR_no {how : Int} {first : Bool} {T k : Nat} {ys : List Int} (h : k < ys.length) (hk : k < T) (hl : letter ys[k] = false) : caseR how first (T - k) k ys = caseR how first (T - (k + 1)) (k + 1) ys := by
  rw [show T - k = (T - (k + 1)) + 1 by omega]
  have e : ys.getD k 0 = ys[k] := by simp [List.getD, h]
  rw [caseR, e, hl]; rfl
theorem caseR_yes {how : Int} {first : Bool} {T k : Nat} {ys : List Int} (h : k < ys.length) (hk : k < T) (hl : letter ys[k] = true) : caseR how first (T - k) k ys = caseR how false (T - (k + 1)) (k + 1) (ys.set k (convC (upC how first) ys[k])) := by
  rw [show T - k = (T - (k + 1)) + 1 by omega]
  have e : ys.getD k 0 = ys[k] := by simp [List.getD, h]
  rw [caseR, e, hl]; rfl
theorem convC_ok {up : Bool} {r : Int} (h : I64 r) : I64 (convC up r) := by
  unfold convC I64 inB at *
  split <;> split <;> simp_all <;> omega
theorem lineCase_top (d : LineD) (x y how : Int) (h : d.Text.length ≤ 1048576) : 1 + (lineCase d x y how).nkv ≤ topK := by
  rw [line_nkv]; unfold lineCase topK; split
  · show 1 + (caseR _ _ _ _ _).length ≤ _
    rw [caseR_len]; omega
  · simp [line0]
end Go.G6
namespace Go.Proofs.Ytdfpjchneofndaa
open Go.RowKit Go.G6
set_option maxHeartbeats 30000000
set_option maxRecDepth 10000
theorem i_inLine {w : World} {bs : List Nat} {cs : List Value} {d : LineD} (h : Rep.pt w bs cs d) (x y : Int) :
    Calls Try.prog 129 #[.agg cs.toArray, .int .i64 x, .int .i64 y] w fun e w' => e = .returned (.bool (inLineB d x y)) ∧ Below w.heap.size w w' := by
  have H := hid h
  obtain ⟨a0, l0, k0, rfl, h0, h1⟩ := open_Line h
  obtain rfl := h0.len_eq
  clear h
  cases hk : lineOk d
  · have Hk := hid hk; clear hk
    go_enter Try.func129, Try.ntmps129
    go_wp2_with fail
    refine (i_LineOk (grow H.out ?_)).mono ?_
    · exact (Below.refl _ _).alloc (Nat.le_refl _) _
    rintro e w1 ⟨rfl, hb⟩
    have HB := hid (below_call ((Below.refl _ _).alloc (Nat.le_refl _) _) hb)
    clear hb
    rw [Hk.out]
    go_wp2
    go_ret
    exact ⟨ret_bool (by simp [inLineB, Hk.out]), HB.out⟩
  have Hk := hid hk; clear hk
  by_cases c1 : 0 ≤ x
  · by_cases c2 : x ≤ y
    · by_cases c3 : y ≤ (d.Text.length : Int)
      all_goals
        go_enter Try.func129, Try.ntmps129
        go_wp2_with fail
        refine (i_LineOk (grow H.out ?_)).mono ?_
        · exact (Below.refl _ _).alloc (Nat.le_refl _) _
        rintro e w1 ⟨rfl, hb⟩
        have B0 : Bx w1 (w.heap.size) _ := Bx.below (b := w.heap.size) hb (by first | omega | (simp; done) | (simp; omega)) (by repeat (first  | (apply Bx.new; (focus (first | (simp; done) | (simp; omega) | omega))) | (apply Bx.alloc; rotate_left; (focus (first | (simp; done) | (simp; omega) | omega))) | (apply Bx.setOther; rotate_left; (focus (first | (simp; done) | (simp; omega) | omega))) | apply Bx.setSame))
        have B0o := B0.out
        have B0f := B0.fr
        have HB := hid (below_call ((Below.refl _ _).alloc (Nat.le_refl _) _) hb)
        clear hb
        rw [Hk.out]
        go_wp2
        go_ret
        exact ⟨ret_bool (by first | (simp [inLineB, Hk.out, c1, c2, c3]; done) | (simp [inLineB, Hk.out]; omega)), HB.out⟩
    all_goals
      go_enter Try.func129, Try.ntmps129
      go_wp2_with fail
      refine (i_LineOk (grow H.out ?_)).mono ?_
      · exact (Below.refl _ _).alloc (Nat.le_refl _) _
      rintro e w1 ⟨rfl, hb⟩
      have HB := hid (below_call ((Below.refl _ _).alloc (Nat.le_refl _) _) hb)
      clear hb
      rw [Hk.out]
      go_wp2
      go_ret
      exact ⟨ret_bool (by first | (simp [inLineB, Hk.out, c1, c2]; done) | (simp [inLineB, Hk.out]; omega)), HB.out⟩
  all_goals
    go_enter Try.func129, Try.ntmps129
    go_wp2_with fail
    refine (i_LineOk (grow H.out ?_)).mono ?_
    · exact (Below.refl _ _).alloc (Nat.le_refl _) _
    rintro e w1 ⟨rfl, hb⟩
    have HB := hid (below_call ((Below.refl _ _).alloc (Nat.le_refl _) _) hb)
    clear hb
    rw [Hk.out]
    go_wp2
    go_ret
    exact ⟨ret_bool (by first | (simp [inLineB, Hk.out, c1]; done) | (simp [inLineB, Hk.out]; omega)), HB.out⟩
theorem i_upper (r : Int) (hr : I64 r) (w : World) : Calls Try.prog 131 #[.int .i64 r] w fun e w' => e = .returned (.int .i64 (convC true r)) ∧ w = w' := by
  cases hl : inB r 97 122
  all_goals
    have HC := hid hl
    have hw : inB r 97 122 = true → wrap64 (r - 32) = r - 32 := fun h => IntWalk.wrap64_in _ (by simp [inB] at h; omega)
    rw [hl] at hw
    go_enter Try.func131, Try.ntmps131
    go_wp2_with fail
    refine (i_isLower _ _).mono ?_
    rintro e w' ⟨rfl, rfl⟩
    rw [HC.out]
    clear hl
    try replace hw := hw rfl
    go_wp2
    go_ret
    exact ⟨ret_int (by first | (simp [convC, HC.out]; done) | (simp [convC, HC.out]; exact hw trivial)), rfl⟩
theorem i_lower (r : Int) (hr : I64 r) (w : World) : Calls Try.prog 132 #[.int .i64 r] w fun e w' => e = .returned (.int .i64 (convC false r)) ∧ w = w' := by
  cases hl : inB r 65 90
  all_goals
    have HC := hid hl
    have hw : inB r 65 90 = true → wrap64 (r + 32) = r + 32 := fun h => IntWalk.wrap64_in _ (by simp [inB] at h; omega)
    rw [hl] at hw
    go_enter Try.func132, Try.ntmps132
    go_wp2_with fail
    refine (i_isUpper _ _).mono ?_
    rintro e w' ⟨rfl, rfl⟩
    rw [HC.out]
    clear hl
    try replace hw := hw rfl
    go_wp2
    go_ret
    exact ⟨ret_int (by first | (simp [convC, HC.out]; done) | (simp [convC, HC.out]; exact hw trivial)), rfl⟩
theorem i_LineCase {w : World} {bs : List Nat} {cs : List Value} {d : LineD} (h : Rep.pt w bs cs d) (x : Int) (hx : I64 x) (y : Int) (hy : I64 y) (how : Int) (hh : I64 how) :
    Calls Try.prog 64 #[.agg cs.toArray, .int .i64 x, .int .i64 y, .int .i64 how] w (RetAB w (lineCase d x y how) (.bool (caseOk d x y how))) := by
  have H := hid h
  obtain ⟨a0, l0, k0, rfl, h0, h1⟩ := open_Line h
  obtain rfl := h0.len_eq
  clear h
  cases hk : inLineB d x y
  · have HZ : Hid (caseOk d x y how = false ∧ lineCase d x y how = line0) := hid (by simp [lineCase, caseOk, hk])
    have Hk := hid hk; clear hk
    go_enter Try.func64, Try.ntmps64
    go_wp2_with fail
    refine (i_inLine (grow H.out ?_) x y).mono ?_
    · exact (((Below.refl _ _).alloc (Nat.le_refl _) _).alloc (by simp) _)
    rintro e w1 ⟨rfl, hb⟩
    have B0 : Bx w1 (w.heap.size) _ := Bx.below (b := w.heap.size) hb (by first | omega | (simp; done) | (simp; omega)) (by repeat (first  | (apply Bx.new; (focus (first | (simp; done) | (simp; omega) | omega))) | (apply Bx.alloc; rotate_left; (focus (first | (simp; done) | (simp; omega) | omega))) | (apply Bx.setOther; rotate_left; (focus (first | (simp; done) | (simp; omega) | omega))) | apply Bx.setSame))
    have B0o := B0.out
    have B0f := B0.fr
    have B1 : Bx w1 (w.heap.size + 1) _ := Bx.below (b := w.heap.size + 1) hb (by first | omega | (simp; done) | (simp; omega)) (by repeat (first  | (apply Bx.new; (focus (first | (simp; done) | (simp; omega) | omega))) | (apply Bx.alloc; rotate_left; (focus (first | (simp; done) | (simp; omega) | omega))) | (apply Bx.setOther; rotate_left; (focus (first | (simp; done) | (simp; omega) | omega))) | apply Bx.setSame))
    have B1o := B1.out
    have B1f := B1.fr
    have HB := hid (below_call (((Below.refl _ _).alloc (Nat.le_refl _) _).alloc (by simp) _) hb)
    have hs1 : w.heap.size + 2 ≤ w1.heap.size := by have := hb.size; simpa using this
    clear hb
    rw [Hk.out]
    go_wp2
    refine bodyPost_ret (v := .tuple #[.agg #[.slice none 0 0, .int .i64 0], .bool false]) (by simp [results, Try.results64, go_sem, B1o]) rfl ?_
    refine ⟨[.slice none 0 0, .int .i64 0], [], by first | rfl | rw [HZ.out.1], ?_, (HB.out.setCell (by simp) _).setCell (by simp) _⟩
    rw [HZ.out.2]; exact own_line0 _ _
  cases hw : decide (0 ≤ how ∧ how ≤ 2)
  · have HZ : Hid (caseOk d x y how = false ∧ lineCase d x y how = line0) := hid (by simp only [lineCase, caseOk, hk, hw]; simp)
    have Hk := hid hk; clear hk
    have Hw := hid hw; clear hw
    go_enter Try.func64, Try.ntmps64
    go_wp2_with fail
    refine (i_inLine (grow H.out ?_) x y).mono ?_
    · exact (((Below.refl _ _).alloc (Nat.le_refl _) _).alloc (by simp) _)
    rintro e w1 ⟨rfl, hb⟩
    have B0 : Bx w1 (w.heap.size) _ := Bx.below (b := w.heap.size) hb (by first | omega | (simp; done) | (simp; omega)) (by repeat (first  | (apply Bx.new; (focus (first | (simp; done) | (simp; omega) | omega))) | (apply Bx.alloc; rotate_left; (focus (first | (simp; done) | (simp; omega) | omega))) | (apply Bx.setOther; rotate_left; (focus (first | (simp; done) | (simp; omega) | omega))) | apply Bx.setSame))
    have B0o := B0.out
    have B0f := B0.fr
    have B1 : Bx w1 (w.heap.size + 1) _ := Bx.below (b := w.heap.size + 1) hb (by first | omega | (simp; done) | (simp; omega)) (by repeat (first  | (apply Bx.new; (focus (first | (simp; done) | (simp; omega) | omega))) | (apply Bx.alloc; rotate_left; (focus (first | (simp; done) | (simp; omega) | omega))) | (apply Bx.setOther; rotate_left; (focus (first | (simp; done) | (simp; omega) | omega))) | apply Bx.setSame))
    have B1o := B1.out
    have B1f := B1.fr
    have HB := hid (below_call (((Below.refl _ _).alloc (Nat.le_refl _) _).alloc (by simp) _) hb)
    have hs1 : w.heap.size + 2 ≤ w1.heap.size := by have := hb.size; simpa using this
    clear hb
    rw [Hk.out]
    go_wp2_with fail
    refine (i_in _ _ _ _).mono ?_
    rintro e w' ⟨rfl, rfl⟩
    rw [show inB how 0 2 = false from Hw.out]
    go_wp2
    refine bodyPost_ret (v := .tuple #[.agg #[.slice none 0 0, .int .i64 0], .bool false]) (by simp [results, Try.results64, go_sem, B1o]) rfl ?_
    refine ⟨[.slice none 0 0, .int .i64 0], [], by first | rfl | rw [HZ.out.1], ?_, (HB.out.setCell (by simp) _).setCell (by simp) _⟩
    rw [HZ.out.2]; exact own_line0 _ _
  have hk0 := hk
  simp only [inLineB, Bool.and_eq_true, decide_eq_true_eq] at hk0
  obtain ⟨hlo, hx0, hxy, hyn⟩ := hk0
  have hq := lineOk_bounds hlo
  have hn4 := hq.1
  have h9 : caseOk d x y how = true := by simp only [caseOk, hk, hw]; rfl
  have HZ : Hid (caseOk d x y how = true ∧ lineCase d x y how = ⟨caseR how true (y.toNat - x.toNat) x.toNat d.Text, y⟩) := hid ⟨h9, by simp [lineCase, h9]⟩
  clear h9
  have Hk := hid hk; clear hk
  have Hw := hid hw; clear hw hlo hq
  obtain ⟨F, rfl⟩ : ∃ F : Nat, x = (F : Int) := ⟨x.toNat, by omega⟩
  obtain ⟨T, rfl⟩ : ∃ T : Nat, y = (T : Int) := ⟨y.toNat, by omega⟩
  have hcl : clampN (T : Int) d.Text.length = T := by unfold clampN; omega
  go_enter Try.func64, Try.ntmps64
  go_wp2_with fail
  refine (i_inLine (grow H.out ?_) (F : Int) (T : Int)).mono ?_
  · exact (((Below.refl _ _).alloc (Nat.le_refl _) _).alloc (by simp) _)
  rintro e w1 ⟨rfl, hb⟩
  have B0 : Bx w1 (w.heap.size) _ := Bx.below (b := w.heap.size) hb (by first | omega | (simp; done) | (simp; omega)) (by repeat (first  | (apply Bx.new; (focus (first | (simp; done) | (simp; omega) | omega))) | (apply Bx.alloc; rotate_left; (focus (first | (simp; done) | (simp; omega) | omega))) | (apply Bx.setOther; rotate_left; (focus (first | (simp; done) | (simp; omega) | omega))) | apply Bx.setSame))
  have B0o := B0.out
  have B0f := B0.fr
  have B1 : Bx w1 (w.heap.size + 1) _ := Bx.below (b := w.heap.size + 1) hb (by first | omega | (simp; done) | (simp; omega)) (by repeat (first  | (apply Bx.new; (focus (first | (simp; done) | (simp; omega) | omega))) | (apply Bx.alloc; rotate_left; (focus (first | (simp; done) | (simp; omega) | omega))) | (apply Bx.setOther; rotate_left; (focus (first | (simp; done) | (simp; omega) | omega))) | apply Bx.setSame))
  have B1o := B1.out
  have B1f := B1.fr
  have HB := hid (below_call (((Below.refl _ _).alloc (Nat.le_refl _) _).alloc (by simp) _) hb)
  have hs1 : w.heap.size + 2 ≤ w1.heap.size := by have := hb.size; simpa using this
  clear hb
  rw [Hk.out]
  go_wp2_with fail
  refine (i_in _ _ _ _).mono ?_
  rintro e w' ⟨rfl, rfl⟩
  rw [show inB how 0 2 = true from Hw.out]
  go_wp2_with fail
  refine (i_goTo (grow H.out HB.out) (T : Int) hy (by omega)).mono ?_
  rintro e w2 ⟨v2, b2, rfl, hO, hb⟩
  rw [hcl]
  obtain ⟨p2, c2, rfl⟩ := hO.slice
  obtain ⟨bx, hbx, hOw⟩ := hO.own
  have hL := hO.lts
  replace B1 : Bx w2 (w.heap.size + 1) _ := Bx.below (b := w.heap.size + 1) hb (by first | omega | (simp; done) | (simp; omega)) (by repeat (first  | exact B0 | exact B1 | (apply Bx.new; (focus (first | (simp; done) | (simp; omega) | omega))) | (apply Bx.alloc; rotate_left; (focus (first | (simp; done) | (simp; omega) | omega))) | (apply Bx.setOther; rotate_left; (focus (first | (simp; done) | (simp; omega) | omega))) | apply Bx.setSame))
  replace B1o := B1.out
  replace B1f := B1.fr
  have HB2 := hid (below_call HB.out hb)
  have hs2 : w1.heap.size ≤ w2.heap.size := hb.size
  have HL := hid (fun b hb => hL b (hbx b hb))
  have HOw := hid hOw
  clear hb hO hOw hL
  go_wp2_with fail
  go_loopw [11, 12] (fun f i wr => ∃ (k : Nat) (fb : Bool) (ys : List Int), F ≤ k ∧ k ≤ T ∧ i = .int .i64 k ∧ f = .bool fb ∧ ys.length = d.Text.length ∧ caseR how true (T - F) F d.Text = caseR how fb (T - k) k ys ∧ Own w1.heap.size wr bx [.slice p2 d.Text.length c2] ys ∧ Bx wr (w.heap.size + 1) #[.slice none 0 0, .int .i64 0] ∧ Bx wr w2.heap.size #[.slice p2 d.Text.length c2, .int .i64 (T : Int)] ∧ Below w.heap.size w wr) (fun _ i _ => T - (intOf i).toNat)
  case atStart => exact ⟨F, true, d.Text, Nat.le_refl _, by omega, rfl, rfl, rfl, rfl, HOw.out.alloc _, B1.alloc (by omega) _, Bx.new _ _ _ rfl, HB2.out.alloc HB2.out.size _⟩
  case round =>
    obtain ⟨k, fb, ys, hFk, hkT, rfl, rfl, hyl, hR, hO, hX1, hX2, hb⟩ := hrel
    have HR := hid hR; have HO := hid hO; have HX1 := hid hX1; have HX2 := hid hX2; have HBr := hid hb
    have x1 := hX1.out; have x1f := hX1.fr; have x2 := hX2.out
    have hz2 : w2.heap.size < wr.heap.size := hX2.f.lt
    clear hR hX1 hX2 hb
    by_cases hlt : k < T
    rotate_left
    · obtain rfl : k = T := by omega
      clear hO
      go_wp2
      refine bodyPost_ret (v := .tuple #[.agg #[.slice p2 d.Text.length c2, .int .i64 (k : Int)], .bool true]) (by simp [results, Try.results64, go_sem, x1]) rfl ?_
      refine ⟨[.slice p2 d.Text.length c2, .int .i64 (k : Int)], bx, by rw [HZ.out.1], ?_, (HBr.out.setCell (by simp) _).setCell (by simp) _⟩
      rw [HZ.out.2, Int.toNat_natCast, Int.toNat_natCast, HR.out, Nat.sub_self]
      refine Own.mono (lo := w1.heap.size) ?_ (by omega)
      refine own_Line (d := ⟨ys, (k : Int)⟩) ?_ (I64_nat (by omega))
      repeat (first | exact HO.out | refine Own.setCell' _ ?_ (fun b hb => by have := HL.out b hb; simp; omega))
    have hky : k < ys.length := by omega
    have hri : I64 ys[k] := hO.slc.oks _ (List.getElem_mem hky)
    obtain ⟨r, hr⟩ : ∃ r, r = ys[k] := ⟨_, rfl⟩
    obtain ⟨b, off, rfl, hbb, hck, hfr, hO1⟩ := hO.setScal k hky (convC (upC how fb) ys[k]) (convC_ok hri)
    have hbl := HL.out b hbb
    have hck1 : wr.cell? ⟨b, off + k, none⟩ = some (.int .i64 r) := by rw [hr]; exact hck
    have HO1 := hid hO1
    rw [← hr] at hri HO1
    have hki : (k : Int) < (d.Text.length : Int) := by omega
    have hn2 : ¬ b = w2.heap.size := by omega
    have hn2s : ¬ w2.heap.size = b := by omega
    have hkTi : (k : Int) < (T : Int) := by omega
    have HLn := hid (caseR_no (how := how) (first := fb) hky hlt); have HLy := hid (caseR_yes (how := how) (first := fb) hky hlt)
    rw [← hr] at HLn HLy
    have Hr := hid hr; clear hO hck hO1 hr
    cases hl1 : inB r 97 122
    · cases hl2 : inB r 65 90
      · have HN := hid (HLn.out (by simp [letter, hl1, hl2]))
        have H1 := hid hl1; have H2 := hid hl2; clear hl1 hl2
        go_wp2_with fail
        refine (i_isLower _ _).mono ?_
        rintro e w' ⟨rfl, rfl⟩
        rw [H1.out]
        go_wp2_with fail
        refine (i_isUpper _ _).mono ?_
        rintro e w' ⟨rfl, rfl⟩
        rw [H2.out]
        go_wp2
        exact ⟨⟨k + 1, fb, ys, by omega, by omega, rfl, rfl, hyl, by rw [HR.out, HN.out], HO.out, HX1.out, HX2.out, HBr.out⟩, by simp [intOf]; omega⟩
      · have H1 := hid hl1; have H2 := hid hl2; clear hl1 hl2
        cases hup : upC how fb
        rotate_left
        · have HUp : Hid (upC how fb = true) := hid hup
          have hup9 := hup; unfold upC at hup9
          clear hup
          have HY := hid (HLy.out (by simp [letter, H1.out, H2.out]))
          rw [HUp.out] at HY HO1
          go_wp2_with fail
          refine (i_isLower _ _).mono ?_
          rintro e w' ⟨rfl, rfl⟩
          rw [H1.out]
          go_wp2_with fail
          refine (i_isUpper _ _).mono ?_
          rintro e w' ⟨rfl, rfl⟩
          rw [H2.out]
          clear HLn HLy
          have hcs : (how == 1) = true ∨ ((how == 1) = false ∧ (how == 2) = true ∧ fb = true) := by revert hup9; cases (how == 1) <;> cases (how == 2) <;> cases fb <;> simp
          clear hup9 HUp
          rcases hcs with e1 | ⟨e1, e2, rfl⟩
          all_goals
            go_wp2_with fail
            go_region_held3 (fun W => W.cell? ⟨w2.heap.size, 0, none⟩ = some (.slice (some ⟨b, off, none⟩) d.Text.length c2)) (first | exact x2 0 | assumption | exact (World.cell?_setCell_far _ _ _ _ (by simpa using hn2)).trans (x2 0) | exact (World.cell?_setCell_far _ _ _ _ (by simpa using hn2)).trans (by assumption)) (first | (go_at_call 131; refine (i_upper r hri _).mono ?_; rintro e w9 ⟨rfl, rfl⟩))
            go_wp2
            exact ⟨⟨k + 1, false, ys.set k (convC true r), by omega, by omega, rfl, rfl, by rw [List.length_set]; exact hyl, by rw [HR.out, HY.out], HO1.out.drew, (HX1.out.setOther (by simp; omega) _).drew, (HX2.out.setOther (by simpa using hn2s) _).drew, (HBr.out.setCell (by simp; omega) _).drew⟩, by simp [intOf]; omega⟩
        · have HUp : Hid (upC how fb = false) := hid hup
          have hup9 := hup; unfold upC at hup9
          clear hup
          have HY := hid (HLy.out (by simp [letter, H1.out, H2.out]))
          rw [HUp.out] at HY HO1
          go_wp2_with fail
          refine (i_isLower _ _).mono ?_
          rintro e w' ⟨rfl, rfl⟩
          rw [H1.out]
          go_wp2_with fail
          refine (i_isUpper _ _).mono ?_
          rintro e w' ⟨rfl, rfl⟩
          rw [H2.out]
          clear HLn HLy
          have hcs : ((how == 1) = false ∧ (how == 2) = false) ∨ ((how == 1) = false ∧ (how == 2) = true ∧ fb = false) := by revert hup9; cases (how == 1) <;> cases (how == 2) <;> cases fb <;> simp
          clear hup9 HUp
          rcases hcs with ⟨e1, e2⟩ | ⟨e1, e2, rfl⟩
          all_goals
            go_wp2_with fail
            go_region_held3 (fun W => W.cell? ⟨w2.heap.size, 0, none⟩ = some (.slice (some ⟨b, off, none⟩) d.Text.length c2)) (first | exact x2 0 | assumption | exact (World.cell?_setCell_far _ _ _ _ (by simpa using hn2)).trans (x2 0) | exact (World.cell?_setCell_far _ _ _ _ (by simpa using hn2)).trans (by assumption)) (first | (go_at_call 132; refine (i_lower r hri _).mono ?_; rintro e w9 ⟨rfl, rfl⟩))
            go_wp2
            exact ⟨⟨k + 1, false, ys.set k (convC false r), by omega, by omega, rfl, rfl, by rw [List.length_set]; exact hyl, by rw [HR.out, HY.out], HO1.out.drew, (HX1.out.setOther (by simp; omega) _).drew, (HX2.out.setOther (by simpa using hn2s) _).drew, (HBr.out.setCell (by simp; omega) _).drew⟩, by simp [intOf]; omega⟩
    · have H1 := hid hl1; clear hl1
      cases hup : upC how fb
      rotate_left
      · have HUp : Hid (upC how fb = true) := hid hup
        have hup9 := hup; unfold upC at hup9
        clear hup
        have HY := hid (HLy.out (by simp [letter, H1.out]))
        rw [HUp.out] at HY HO1
        go_wp2_with fail
        refine (i_isLower _ _).mono ?_
        rintro e w' ⟨rfl, rfl⟩
        rw [H1.out]
        clear HLn HLy
        have hcs : (how == 1) = true ∨ ((how == 1) = false ∧ (how == 2) = true ∧ fb = true) := by revert hup9; cases (how == 1) <;> cases (how == 2) <;> cases fb <;> simp
        clear hup9 HUp
        rcases hcs with e1 | ⟨e1, e2, rfl⟩
        all_goals
          go_wp2_with fail
          go_region_held3 (fun W => W.cell? ⟨w2.heap.size, 0, none⟩ = some (.slice (some ⟨b, off, none⟩) d.Text.length c2)) (first | exact x2 0 | assumption | exact (World.cell?_setCell_far _ _ _ _ (by simpa using hn2)).trans (x2 0) | exact (World.cell?_setCell_far _ _ _ _ (by simpa using hn2)).trans (by assumption)) (first | (go_at_call 131; refine (i_upper r hri _).mono ?_; rintro e w9 ⟨rfl, rfl⟩))
          go_wp2
          exact ⟨⟨k + 1, false, ys.set k (convC true r), by omega, by omega, rfl, rfl, by rw [List.length_set]; exact hyl, by rw [HR.out, HY.out], HO1.out.drew, (HX1.out.setOther (by simp; omega) _).drew, (HX2.out.setOther (by simpa using hn2s) _).drew, (HBr.out.setCell (by simp; omega) _).drew⟩, by simp [intOf]; omega⟩
      · have HUp : Hid (upC how fb = false) := hid hup
        have hup9 := hup; unfold upC at hup9
        clear hup
        have HY := hid (HLy.out (by simp [letter, H1.out]))
        rw [HUp.out] at HY HO1
        go_wp2_with fail
        refine (i_isLower _ _).mono ?_
        rintro e w' ⟨rfl, rfl⟩
        rw [H1.out]
        clear HLn HLy
        have hcs : ((how == 1) = false ∧ (how == 2) = false) ∨ ((how == 1) = false ∧ (how == 2) = true ∧ fb = false) := by revert hup9; cases (how == 1) <;> cases (how == 2) <;> cases fb <;> simp
        clear hup9 HUp
        rcases hcs with ⟨e1, e2⟩ | ⟨e1, e2, rfl⟩
        all_goals
          go_wp2_with fail
          go_region_held3 (fun W => W.cell? ⟨w2.heap.size, 0, none⟩ = some (.slice (some ⟨b, off, none⟩) d.Text.length c2)) (first | exact x2 0 | assumption | exact (World.cell?_setCell_far _ _ _ _ (by simpa using hn2)).trans (x2 0) | exact (World.cell?_setCell_far _ _ _ _ (by simpa using hn2)).trans (by assumption)) (first | (go_at_call 132; refine (i_lower r hri _).mono ?_; rintro e w9 ⟨rfl, rfl⟩))
          go_wp2
          exact ⟨⟨k + 1, false, ys.set k (convC false r), by omega, by omega, rfl, rfl, by rw [List.length_set]; exact hyl, by rw [HR.out, HY.out], HO1.out.drew, (HX1.out.setOther (by simp; omega) _).drew, (HX2.out.setOther (by simpa using hn2s) _).drew, (HBr.out.setCell (by simp; omega) _).drew⟩, by simp [intOf]; omega⟩
end Go.Proofs.Ytdfpjchneofndaa
