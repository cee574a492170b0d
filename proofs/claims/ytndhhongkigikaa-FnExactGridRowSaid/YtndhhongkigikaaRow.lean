/- The text of a row of a grid (printed by genrow.py). -/
import Derived.Test.YtndhhongkigikaaGridAt
import Derived.Test.YtndhhongkigikaaText
import Derived.Test.YtndhhongkigikaaLate
set_option linter.unusedSimpArgs false
set_option linter.unusedVariables false
namespace Go.G6
open Go.RowKit Rep
/-- How long a row is without the blanks at its end. -/
def trimN (row : List Int) : Nat → Nat
  | 0 => 0
  | n + 1 => if row.getD n 0 = 32 then trimN row n else n + 1
theorem trimN_le (row : List Int) : ∀ n, trimN row n ≤ n
  | 0 => Nat.le_refl _
  | n + 1 => by
    have := trimN_le row n
    unfold trimN; split <;> omega
def notHalf (row : List Int) (n : Nat) : List Int := (row.take n).filter (fun r => decide (r ≠ -1))
def trimT (l : List Int) : List Int := l.take (trimN l l.length)
theorem trimN_app (l : List Int) (x : Int) : ∀ n, n ≤ l.length → trimN (l ++ [x]) n = trimN l n
  | 0, _ => rfl
  | n + 1, h => by
    have e : (l ++ [x]).getD n 0 = l.getD n 0 := by simp [List.getD, List.getElem?_append_left (show n < l.length by omega)]
    rw [trimN, trimN, e, trimN_app l x n (by omega)]
theorem trimT_32 (l : List Int) : trimT (l ++ [32]) = trimT l := by
  have e : (l ++ [32]).getD l.length 0 = 32 := by simp [List.getD]
  have h := trimN_le l l.length
  rw [trimT, trimT, List.length_append, List.length_cons, List.length_nil, Nat.zero_add, trimN, if_pos e, trimN_app l 32 _ (Nat.le_refl _), List.take_append_of_le_length h]
theorem trimT_ne (l : List Int) (x : Int) (hx : x ≠ 32) : trimT (l ++ [x]) = l ++ [x] := by
  have e : (l ++ [x]).getD l.length 0 = x := by simp [List.getD]
  rw [trimT, List.length_append, List.length_cons, List.length_nil, Nat.zero_add, trimN, if_neg (by rw [e]; exact hx)]
  exact List.take_of_length_le (by simp)
theorem notHalf_succ {row : List Int} {n : Nat} (h : n < row.length) : notHalf row (n + 1) = if row[n] = -1 then notHalf row n else notHalf row n ++ [row[n]] := by
  unfold notHalf
  rw [List.take_succ_eq_append_getElem h, List.filter_append]
  by_cases q : row[n] = -1
  · simp [q]
  · simp [q]
theorem textList_half (l : List Int) : textList (l.filter (fun r => decide (r ≠ -1))) = textList l := by
  unfold textList
  induction l with
  | nil => rfl
  | cons x xs ih =>
    by_cases q : x = -1
    · subst q
      have e : runeBytes (-1) = [] := by simp [runeBytes, runeOk]
      simp only [List.flatMap_cons, e, List.nil_append]
      simpa using ih
    · simp only [List.filter_cons, q, ne_eq, not_false_eq_true, decide_true, if_true, List.flatMap_cons]
      rw [ih]
theorem notHalf_succ' {row : List Int} {n : Nat} (h : n < row.length) (q : row[n] ≠ -1) : notHalf row (n + 1) = notHalf row n ++ [row[n]] := by rw [notHalf_succ h, if_neg q]
theorem textList_app (xs ys : List Int) : textList (xs ++ ys) = textList xs ++ textList ys := by simp [textList]
/-- A row in which a half follows a wide rune: with the halves or without, the text is one. -/
theorem row_text {row : List Int} (hv : ∀ n, (h : n < row.length) → row[n] = -1 → 0 < n ∧ width (row.getD (n - 1) 0) = 2) :
    ∀ n, n ≤ row.length → textList (row.take (trimN row n)) = textList (trimT (notHalf row n))
  | 0, _ => by simp [trimN, trimT, notHalf]
  | n + 1, h => by
    have hn : n < row.length := by omega
    have e : row.getD n 0 = row[n] := by simp [List.getD, hn]
    rw [notHalf_succ hn]
    by_cases q : row[n] = 32
    · rw [trimN, e, if_pos q, if_neg (by omega), q, trimT_32]
      exact row_text hv n (by omega)
    · rw [trimN, e, if_neg q]
      by_cases p : row[n] = -1
      · rw [if_pos p]
        obtain ⟨h0, hw⟩ := hv n hn p
        obtain ⟨m, rfl⟩ : ∃ m, n = m + 1 := ⟨n - 1, by omega⟩
        have hm : m < row.length := by omega
        have e2 : row.getD (m + 1 - 1) 0 = row[m] := by simp [List.getD, hm]
        rw [e2] at hw
        have h1 : row[m] ≠ -1 := by intro e9; rw [e9] at hw; simp [width, printable] at hw
        have h2 : row[m] ≠ 32 := by
          intro e9; rw [e9] at hw
          have : width 32 = 1 := by decide
          omega
        rw [notHalf_succ hm, if_neg h1, trimT_ne _ _ h2, ← notHalf_succ' hm h1]
        rw [notHalf, textList_half, List.take_succ_eq_append_getElem hn, p]
        show textList (_ ++ [-1]) = _
        rw [textList_app, show textList [-1] = [] by decide, List.append_nil]
      · rw [if_neg p, trimT_ne _ _ q, ← notHalf_succ' hn p, notHalf, textList_half]
def rowOf (d : GridD) (y : Int) : List Int := (d.Cells.take ((y * d.W).toNat + d.W.toNat)).drop (y * d.W).toNat
def rowIn (d : GridD) (y : Int) : Bool := gridOk d && decide (0 ≤ y ∧ y ≤ d.H - 1)
def gridRow (d : GridD) (y : Int) : ByteArray := if rowIn d y then textOf ((rowOf d y).take (trimN (rowOf d y) (rowOf d y).length)) else ByteArray.empty
end Go.G6
namespace Go.G6
open Go.RowKit Rep
theorem rowOf_len {d : GridD} {y : Int} (h : gridOk d = true) (hy : 0 ≤ y ∧ y ≤ d.H - 1) : (rowOf d y).length = d.W.toNat := by
  have hs := gridOk_shape h
  have hc := cell_in (x := d.W - 1) (y := y) (W := d.W) (H := d.H) (by omega) (by omega) (by omega) hy.1 hy.2
  rw [rowOf, List.length_drop, List.length_take]; omega
theorem row_valid {d : GridD} {y : Int} (h : gridOk d = true) (hy : 0 ≤ y ∧ y ≤ d.H - 1) : ∀ n, (hn : n < (rowOf d y).length) → (rowOf d y)[n] = -1 → 0 < n ∧ width ((rowOf d y).getD (n - 1) 0) = 2 := by
  intro n hn he
  have hl := rowOf_len h hy
  have hs := gridOk_shape h
  have hc := cell_in (x := d.W - 1) (y := y) (W := d.W) (H := d.H) (by omega) (by omega) (by omega) hy.1 hy.2
  have hall : ∀ k, k < d.Cells.length → cellOk d.W d.Cells k = true := by
    have h9 := h
    simp only [gridOk, Bool.and_eq_true] at h9
    have := h9.2
    simpa [cellsOk] using this
  obtain ⟨N0, hN0⟩ : ∃ n : Nat, (n : Int) = y * d.W := ⟨(y * d.W).toNat, by omega⟩
  have hk : N0 + n < d.Cells.length := by omega
  have hg : (rowOf d y).getD n 0 = d.Cells.getD (N0 + n) 0 := by
    simp only [rowOf, ← hN0, Int.toNat_natCast, List.getD, List.getElem?_drop]
    rw [List.getElem?_take_of_lt (by omega)]
  have hg2 : (rowOf d y)[n] = d.Cells.getD (N0 + n) 0 := by rw [← hg]; simp [List.getD, hn]
  have hq := hall (N0 + n) hk
  rw [hg2] at he
  rw [cellOk, if_pos he, Bool.and_eq_true, decide_eq_true_eq, decide_eq_true_eq] at hq
  have hmod : ((N0 + n : Nat) : Int) % d.W = (n : Int) := by
    rw [Int.natCast_add, hN0, Int.mul_comm, Int.add_comm, Int.add_mul_emod_self_left]
    exact Int.emod_eq_of_lt (by omega) (by omega)
  rw [hmod] at hq
  refine ⟨by omega, ?_⟩
  have hg3 : (rowOf d y).getD (n - 1) 0 = d.Cells.getD (N0 + n - 1) 0 := by
    simp only [rowOf, ← hN0, Int.toNat_natCast, List.getD, List.getElem?_drop]
    rw [List.getElem?_take_of_lt (by omega), show N0 + (n - 1) = N0 + n - 1 by omega]
  rw [hg3]; exact hq.2
theorem gridRow_s {d : GridD} {y : Int} (h : gridOk d = true) (hy : 0 ≤ y ∧ y ≤ d.H - 1) : gridRow d y = textOf (trimT (notHalf (rowOf d y) (rowOf d y).length)) := by
  have hr : rowIn d y = true := by simp only [rowIn, h, Bool.true_and, decide_eq_true_eq]; exact hy
  rw [gridRow, if_pos hr, textOf, textOf, row_text (row_valid h hy) _ (Nat.le_refl _)]
def lenV : Value → Nat
  | .slice _ n _ => n
  | _ => 0
end Go.G6
namespace Go.Proofs.Ytndhhongkigikaa
open Go.RowKit Go.G6
set_option maxHeartbeats 30000000
set_option maxRecDepth 10000
theorem i_GridRow {w : World} {bs : List Nat} {cs : List Value} {d : GridD} (h : Rep.pt w bs cs d) (y : Int) (hy : I64 y) :
    Calls Try.prog 53 #[.agg cs.toArray, .int .i64 y] w fun e w' => e = .returned (.string (gridRow d y)) ∧ Below w.heap.size w w' := by
  have H := hid h
  obtain ⟨a2, l2, k2, rfl, h0, h1, h2, h3, h4⟩ := open_Grid h
  obtain rfl := h2.len_eq
  have hm := h2.max
  have H2 := hid h2
  clear h h2
  obtain ⟨i0, hi, hz0, hz1, hz2⟩ := info_parts info_int
  cases hg : gridOk d
  · have E : Hid (gridRow d y = ByteArray.empty) := hid (by simp [gridRow, rowIn, hg])
    have HG := hid hg; clear hg
    go_enter Try.func53, Try.ntmps53
    go_wp2_with fail
    refine (i_GridOk (grow H.out ?_)).mono ?_
    · exact (Below.refl _ _).alloc (Nat.le_refl _) _
    rintro e w1 ⟨rfl, hb⟩
    have B0 : Bx w1 (w.heap.size) _ := Bx.below (b := w.heap.size) hb (by first | omega | (simp; done) | (simp; omega)) (by repeat (first  | (apply Bx.new; (focus (first | (simp; done) | (simp; omega) | omega))) | (apply Bx.alloc; rotate_left; (focus (first | (simp; done) | (simp; omega) | omega))) | (apply Bx.setOther; rotate_left; (focus (first | (simp; done) | (simp; omega) | omega))) | apply Bx.setSame))
    have B0o := B0.out
    have B0f := B0.fr
    have HB := hid (below_call ((Below.refl _ _).alloc (Nat.le_refl _) _) hb)
    clear hb
    rw [HG.out]
    go_wp2
    go_ret
    exact ⟨by rw [E.out]; rfl, HB.out⟩
  have HG := hid hg
  have hs := gridOk_shape hg
  have HS := hid hs
  have hw7 : wrap64 (d.H - 1) = d.H - 1 := IntWalk.wrap64_in _ (by omega)
  cases qy : inB y 0 (d.H - 1)
  · have E : Hid (gridRow d y = ByteArray.empty) := hid (by simp [inB] at qy; have : rowIn d y = false := by (simp only [rowIn, hg, Bool.true_and, decide_eq_false_iff_not]; omega)
                                                            rw [gridRow, this]; rfl)
    have X2 := hid qy; clear qy hg hs
    go_enter Try.func53, Try.ntmps53
    go_wp2_with fail
    refine (i_GridOk (grow H.out ?_)).mono ?_
    · exact (Below.refl _ _).alloc (Nat.le_refl _) _
    rintro e w1 ⟨rfl, hb⟩
    have B0 : Bx w1 (w.heap.size) _ := Bx.below (b := w.heap.size) hb (by first | omega | (simp; done) | (simp; omega)) (by repeat (first  | (apply Bx.new; (focus (first | (simp; done) | (simp; omega) | omega))) | (apply Bx.alloc; rotate_left; (focus (first | (simp; done) | (simp; omega) | omega))) | (apply Bx.setOther; rotate_left; (focus (first | (simp; done) | (simp; omega) | omega))) | apply Bx.setSame))
    have B0o := B0.out
    have B0f := B0.fr
    have HB := hid (below_call ((Below.refl _ _).alloc (Nat.le_refl _) _) hb)
    clear hb
    rw [HG.out]
    go_wp2_with fail
    refine (i_in _ _ _ _).mono ?_
    rintro e w' ⟨rfl, rfl⟩
    rw [X2.out]
    go_wp2
    go_ret
    exact ⟨by rw [E.out]; rfl, HB.out⟩
  have X2 := hid qy
  have Qy : 0 ≤ y ∧ y ≤ d.H - 1 := by simpa [inB] using qy
  clear qy
  have hci := cell_in (x := d.W - 1) (y := y) (W := d.W) (H := d.H) (by omega) (by omega) (by omega) Qy.1 Qy.2
  obtain ⟨Wn, hWn⟩ : ∃ n : Nat, (n : Int) = d.W := ⟨d.W.toNat, by omega⟩
  obtain ⟨N0, hN0⟩ : ∃ n : Nat, (n : Int) = y * d.W := ⟨(y * d.W).toNat, by omega⟩
  have hin : N0 + Wn ≤ d.Cells.length := by omega
  have hn4 : d.Cells.length ≤ 8000 := by omega
  have hm1 : wrap64 (y * d.W) = (N0 : Int) := by rw [← hN0]; exact IntWalk.wrap64_in _ (by omega)
  have hrow : rowOf d y = (d.Cells.take (N0 + Wn)).drop N0 := by unfold rowOf; rw [← hN0, ← hWn]; simp only [Int.toNat_natCast]
  have hp1 : wrap64 (y + 1) = y + 1 := IntWalk.wrap64_in _ (by omega)
  obtain ⟨Un, hUn⟩ : ∃ n : Nat, n = N0 + Wn := ⟨_, rfl⟩
  have hm2 : wrap64 ((y + 1) * d.W) = (Un : Int) := by rw [Int.add_mul, Int.one_mul, ← hN0, ← hWn]; rw [IntWalk.wrap64_in _ (by omega)]; omega
  obtain ⟨p1, bs1, hcut1, _, _, hS1⟩ := H2.out.cut_lh 22 Try.underlying22 hi hz1 (N0 : Int) (Un : Int) (by omega) (by omega) (by omega)
  simp only [Int.toNat_natCast, show Un - N0 = Wn by omega] at hcut1 hS1
  rw [← hUn] at hrow
  rw [← hrow] at hS1
  have hl := rowOf_len hg Qy
  have E := hid (show gridRow d y = textOf ((rowOf d y).take (trimN (rowOf d y) Wn)) by rw [gridRow, if_pos (by simp only [rowIn, hg, Bool.true_and, decide_eq_true_eq]; exact Qy), hl, ← hWn, Int.toNat_natCast])
  rw [← hWn, Int.toNat_natCast] at hl
  obtain ⟨row, hrw⟩ : ∃ row, row = rowOf d y := ⟨_, rfl⟩
  rw [← hrw] at hS1 hl E
  have HS1 := hid hS1; have HL := hid hl; clear hS1 hl hrow hrw hg hs hci hN0 hWn hUn
  go_enter Try.func53, Try.ntmps53
  go_wp2_with fail
  refine (i_GridOk (grow H.out ?_)).mono ?_
  · exact (Below.refl _ _).alloc (Nat.le_refl _) _
  rintro e w1 ⟨rfl, hb⟩
  have B0 : Bx w1 (w.heap.size) _ := Bx.below (b := w.heap.size) hb (by first | omega | (simp; done) | (simp; omega)) (by repeat (first  | (apply Bx.new; (focus (first | (simp; done) | (simp; omega) | omega))) | (apply Bx.alloc; rotate_left; (focus (first | (simp; done) | (simp; omega) | omega))) | (apply Bx.setOther; rotate_left; (focus (first | (simp; done) | (simp; omega) | omega))) | apply Bx.setSame))
  have B0o := B0.out
  have B0f := B0.fr
  have HB := hid (below_call ((Below.refl _ _).alloc (Nat.le_refl _) _) hb)
  clear hb
  rw [HG.out]
  go_wp2_with fail
  refine (i_in _ _ _ _).mono ?_
  rintro e w' ⟨rfl, rfl⟩
  rw [X2.out]
  go_wp2_with fail
  go_loopw [6] (fun v wr => ∃ n : Nat, n ≤ Wn ∧ v = .int .i64 (n : Int) ∧ trimN row Wn = trimN row n ∧ Below w.heap.size w wr) (fun v _ => (intOf v).toNat)
  case atStart => exact ⟨Wn, Nat.le_refl _, rfl, rfl, HB.out⟩
  case round =>
    obtain ⟨n, hn, rfl, ht, hb⟩ := hrel
    have HBr := hid hb; clear hb
    obtain ⟨p3, bs3, hcut3, _, _, hS3⟩ := (HS1.out.grow HBr.out).cut_h 22 Try.underlying22 hi hz1 (n : Int) (by omega) (by rw [HL.out]; omega)
    simp only [Int.toNat_natCast] at hcut3 hS3
    have HS3 := hid hS3; clear hS3
    rcases Nat.eq_zero_or_pos n with h0n | hpos
    · have hng : ¬ (n : Int) > 0 := by omega
      have HT := hid (show trimN row Wn = n by rw [ht, h0n]; rfl)
      clear ht h0n
      go_wp2_with fail
      refine (i_TextOf HS3.out (by rw [List.length_take]; omega)).mono ?_
      rintro e w3 ⟨rfl, hb⟩
      have HB3 := hid (below_call HBr.out hb)
      clear hb
      go_wp2
      go_ret
      exact ⟨by rw [E.out, HT.out]; rfl, HB3.out⟩
    obtain ⟨m, hm⟩ : ∃ m, n = m + 1 := ⟨n - 1, by omega⟩
    have hmr : m < row.length := by rw [HL.out]; omega
    obtain ⟨b1, off1, ea, hck, hok⟩ := (HS1.out.grow HBr.out).int m hmr
    obtain ⟨r, hr⟩ : ∃ r, r = row[m] := ⟨_, rfl⟩
    rw [← hr] at hck
    have hgd : row.getD m 0 = r := by rw [hr]; simp [List.getD, hmr]
    have hsub : wrap64 ((n : Int) - 1) = (m : Int) := by rw [IntWalk.wrap64_in _ (by omega)]; omega
    have hsub2 : IntKind.i64.wrap ((n : Int) - 1) = (m : Int) := by rw [wrapI (by omega)]; omega
    have hgt : (n : Int) > 0 := by omega
    have hmi : (m : Int) < (Wn : Int) := by omega
    obtain rfl := ea
    have HM := hid hm
    cases q : (r == 32)
    · have ht2 := hid (show trimN row n = n by rw [hm, trimN, hgd, if_neg (by simpa using q)])
      have HT := hid ht
      clear ht hr hgd hok hm
      go_wp2_with fail
      refine (i_TextOf HS3.out (by rw [List.length_take]; omega)).mono ?_
      rintro e w3 ⟨rfl, hb⟩
      have HB3 := hid (below_call HBr.out hb)
      clear hb
      go_wp2
      go_ret
      exact ⟨by rw [E.out, HT.out, ht2.out]; rfl, HB3.out⟩
    · have ht2 := hid (show trimN row Wn = trimN row m by rw [ht, hm, trimN, hgd, if_pos (by simpa using q)])
      clear ht hr hgd hok hm hcut3
      go_wp2
      exact ⟨⟨m, by have := HM.out; omega, rfl, ht2.out, HBr.out⟩, by have := HM.out; simp [intOf]; omega⟩
theorem s_GridRow {w : World} {bs : List Nat} {cs : List Value} {d : GridD} (h : Rep.pt w bs cs d) (y : Int) (hy : I64 y) :
    Calls Try.prog 51 #[.agg cs.toArray, .int .i64 y] w fun e w' => e = .returned (.string (gridRow d y)) ∧ Below w.heap.size w w' := by
  have H := hid h
  obtain ⟨a2, l2, k2, rfl, h0, h1, h2, h3, h4⟩ := open_Grid h
  obtain rfl := h2.len_eq
  have hm := h2.max
  have H2 := hid h2
  clear h h2
  obtain ⟨i0, hi, hz0, hz1, hz2⟩ := info_parts info_int
  cases hg : gridOk d
  · have E : Hid (gridRow d y = ByteArray.empty) := hid (by simp [gridRow, rowIn, hg])
    have HG := hid hg; clear hg
    go_enter Try.func51, Try.ntmps51
    go_wp2_with fail
    refine (s_GridOk (grow H.out ?_)).mono ?_
    · exact (Below.refl _ _).alloc (Nat.le_refl _) _
    rintro e w1 ⟨rfl, hb⟩
    have B0 : Bx w1 (w.heap.size) _ := Bx.below (b := w.heap.size) hb (by first | omega | (simp; done) | (simp; omega)) (by repeat (first  | (apply Bx.new; (focus (first | (simp; done) | (simp; omega) | omega))) | (apply Bx.alloc; rotate_left; (focus (first | (simp; done) | (simp; omega) | omega))) | (apply Bx.setOther; rotate_left; (focus (first | (simp; done) | (simp; omega) | omega))) | apply Bx.setSame))
    have B0o := B0.out
    have B0f := B0.fr
    have HB := hid (below_call ((Below.refl _ _).alloc (Nat.le_refl _) _) hb)
    clear hb
    rw [HG.out]
    go_wp2
    go_ret
    exact ⟨by rw [E.out]; rfl, HB.out⟩
  have HG := hid hg
  have hs := gridOk_shape hg
  have HS := hid hs
  by_cases qa : y < 0
  · have E : Hid (gridRow d y = ByteArray.empty) := hid (by have : rowIn d y = false := by (simp only [rowIn, hg, Bool.true_and, decide_eq_false_iff_not]; omega)
                                                            rw [gridRow, this]; rfl)
    clear hg hs
    go_enter Try.func51, Try.ntmps51
    go_wp2_with fail
    refine (s_GridOk (grow H.out ?_)).mono ?_
    · exact (Below.refl _ _).alloc (Nat.le_refl _) _
    rintro e w1 ⟨rfl, hb⟩
    have B0 : Bx w1 (w.heap.size) _ := Bx.below (b := w.heap.size) hb (by first | omega | (simp; done) | (simp; omega)) (by repeat (first  | (apply Bx.new; (focus (first | (simp; done) | (simp; omega) | omega))) | (apply Bx.alloc; rotate_left; (focus (first | (simp; done) | (simp; omega) | omega))) | (apply Bx.setOther; rotate_left; (focus (first | (simp; done) | (simp; omega) | omega))) | apply Bx.setSame))
    have B0o := B0.out
    have B0f := B0.fr
    have HB := hid (below_call ((Below.refl _ _).alloc (Nat.le_refl _) _) hb)
    clear hb
    rw [HG.out]
    go_wp2
    go_ret
    exact ⟨by rw [E.out]; rfl, HB.out⟩
  by_cases qb : y ≥ d.H
  · have E : Hid (gridRow d y = ByteArray.empty) := hid (by have : rowIn d y = false := by (simp only [rowIn, hg, Bool.true_and, decide_eq_false_iff_not]; omega)
                                                            rw [gridRow, this]; rfl)
    clear hg hs
    go_enter Try.func51, Try.ntmps51
    go_wp2_with fail
    refine (s_GridOk (grow H.out ?_)).mono ?_
    · exact (Below.refl _ _).alloc (Nat.le_refl _) _
    rintro e w1 ⟨rfl, hb⟩
    have B0 : Bx w1 (w.heap.size) _ := Bx.below (b := w.heap.size) hb (by first | omega | (simp; done) | (simp; omega)) (by repeat (first  | (apply Bx.new; (focus (first | (simp; done) | (simp; omega) | omega))) | (apply Bx.alloc; rotate_left; (focus (first | (simp; done) | (simp; omega) | omega))) | (apply Bx.setOther; rotate_left; (focus (first | (simp; done) | (simp; omega) | omega))) | apply Bx.setSame))
    have B0o := B0.out
    have B0f := B0.fr
    have HB := hid (below_call ((Below.refl _ _).alloc (Nat.le_refl _) _) hb)
    clear hb
    rw [HG.out]
    go_wp2
    go_ret
    exact ⟨by rw [E.out]; rfl, HB.out⟩
  have Qy : 0 ≤ y ∧ y ≤ d.H - 1 := by omega
  have hci := cell_in (x := d.W - 1) (y := y) (W := d.W) (H := d.H) (by omega) (by omega) (by omega) Qy.1 Qy.2
  obtain ⟨Wn, hWn⟩ : ∃ n : Nat, (n : Int) = d.W := ⟨d.W.toNat, by omega⟩
  obtain ⟨N0, hN0⟩ : ∃ n : Nat, (n : Int) = y * d.W := ⟨(y * d.W).toNat, by omega⟩
  have hin : N0 + Wn ≤ d.Cells.length := by omega
  have hn4 : d.Cells.length ≤ 8000 := by omega
  have hm1 : wrap64 (y * d.W) = (N0 : Int) := by rw [← hN0]; exact IntWalk.wrap64_in _ (by omega)
  have hrow : rowOf d y = (d.Cells.take (N0 + Wn)).drop N0 := by unfold rowOf; rw [← hN0, ← hWn]; simp only [Int.toNat_natCast]
  replace hm1 : wrap64 (y * d.W) = y * d.W := by rw [hm1]; exact hN0
  have HN0 := hid hN0
  have hl := rowOf_len hg Qy
  rw [← hWn, Int.toNat_natCast] at hl
  have E := hid (gridRow_s hg Qy)
  rw [hl] at E
  have hcells : ∀ k, (hk : k < Wn) → (rowOf d y)[k]? = d.Cells[N0 + k]? := fun k hk => by rw [hrow, List.getElem?_drop, List.getElem?_take_of_lt (by omega)]
  obtain ⟨row, hrw⟩ : ∃ row, row = rowOf d y := ⟨_, rfl⟩
  rw [← hrw] at hl E hcells
  have HL := hid hl; have HC := hid hcells; have HWn := hid hWn
  clear hl hrow hrw hg hs hci hN0 hcells hWn
  go_enter Try.func51, Try.ntmps51
  go_wp2_with fail
  refine (s_GridOk (grow H.out ?_)).mono ?_
  · exact (Below.refl _ _).alloc (Nat.le_refl _) _
  rintro e w1 ⟨rfl, hb⟩
  have B0 : Bx w1 (w.heap.size) _ := Bx.below (b := w.heap.size) hb (by first | omega | (simp; done) | (simp; omega)) (by repeat (first  | (apply Bx.new; (focus (first | (simp; done) | (simp; omega) | omega))) | (apply Bx.alloc; rotate_left; (focus (first | (simp; done) | (simp; omega) | omega))) | (apply Bx.setOther; rotate_left; (focus (first | (simp; done) | (simp; omega) | omega))) | apply Bx.setSame))
  have B0o := B0.out
  have B0f := B0.fr
  have HB := hid (below_call ((Below.refl _ _).alloc (Nat.le_refl _) _) hb)
  clear hb
  rw [HG.out]
  have HX0 := hid B0
  go_wp2_with fail
  go_loopw [5, 6] (fun v i wr => ∃ (k : Nat) (p : Option Addr) (c : Nat) (b2 : List Nat), k ≤ Wn ∧ i = .int .i64 (k : Int) ∧ v = .slice p (notHalf row k).length c ∧ OwnL w1.heap.size wr 3 (.slice p (notHalf row k).length c) b2 (notHalf row k) ∧ Below w1.heap.size w1 wr) (fun _ i _ => Wn - (intOf i).toNat)
  case atStart => exact ⟨0, (some ⟨w1.heap.size, 0, none⟩), 0, [w1.heap.size], Nat.zero_le _, rfl, rfl, ownL_empty rfl (Nat.le_refl _), (Below.refl _ _).alloc (Nat.le_refl _) _⟩
  case round =>
    obtain ⟨k, p, c, b2, hk, rfl, rfl, hO, hb⟩ := hrel
    have HO := hid hO; have HBr := hid hb
    have hlt0 : w.heap.size < w1.heap.size := HX0.out.f.lt
    have X0 := Bx.below hb hlt0 HX0.out
    have X0o := X0.out
    clear hO hb
    have hL : (notHalf row k).length ≤ k := Nat.le_trans (List.length_filter_le _ _) (by rw [List.length_take]; omega)
    by_cases hlt : k < Wn
    rotate_left
    · obtain rfl : k = Wn := by omega
      have hki : ¬ (k : Int) < d.W := by rw [← HWn.out]; omega
      obtain ⟨l, hlx⟩ : ∃ l, l = notHalf row k := ⟨_, rfl⟩
      rw [← hlx] at HO hL E ⊢
      clear hlx
      obtain ⟨pq, cq, bq, hv, hsub, hSl⟩ := HO.out.slc
      simp only [Value.slice.injEq, true_and] at hv
      obtain ⟨rfl, rfl⟩ := hv
      have HSl := hid hSl; have HB5 := hid (HB.out.trans (HBr.out.mono (by omega : w.heap.size ≤ w1.heap.size)))
      clear hSl hsub
      go_wp2_with fail
      go_loopw [5] (fun v w5 => ∃ (n : Nat) (q : Option Addr) (cc : Nat) (bx : List Nat), n ≤ l.length ∧ v = .slice q n cc ∧ Slc w5 bx q n cc (l.take n) ∧ trimN l l.length = trimN l n ∧ Below w.heap.size w w5) (fun v _ => lenV v)
      case atStart => exact ⟨l.length, p, c, bq, Nat.le_refl _, rfl, by rw [List.take_length]; exact HSl.out, rfl, HB5.out⟩
      case round =>
        rename World => w5
        obtain ⟨n, q, cc, bx, hn, rfl, hS3, ht, hb⟩ := hrel
        have HBr := hid hb; have HS3 := hid hS3; clear hb hS3
        rcases Nat.eq_zero_or_pos n with h0n | hpos
        · have hng : ¬ (n : Int) > 0 := by omega
          have HT := hid (show trimN l l.length = n by rw [ht, h0n]; rfl)
          clear ht h0n
          go_wp2_with fail
          refine (s_TextOf HS3.out (by rw [List.length_take]; omega)).mono ?_
          rintro e w3 ⟨rfl, hb⟩
          have HB3 := hid (below_call HBr.out hb)
          clear hb
          go_wp2
          go_ret
          exact ⟨by rw [E.out, trimT, HT.out]; rfl, HB3.out⟩
        obtain ⟨m, hm⟩ : ∃ m, n = m + 1 := ⟨n - 1, by omega⟩
        have hml : m < l.length := by omega
        have hmt : m < (l.take n).length := by rw [List.length_take]; omega
        obtain ⟨b1, off1, ea, hck, hok⟩ := HS3.out.int m hmt
        obtain ⟨r, hr⟩ : ∃ r, r = l[m] := ⟨_, rfl⟩
        rw [List.getElem_take, ← hr] at hck
        have hgd : l.getD m 0 = r := by rw [hr]; simp [List.getD, hml]
        have hsb : wrap64 ((n : Int) - 1) = (m : Int) := by rw [IntWalk.wrap64_in _ (by omega)]; omega
        have hsb2 : IntKind.i64.wrap ((n : Int) - 1) = (m : Int) := by rw [wrapI (by omega)]; omega
        have hgt : (n : Int) > 0 := by omega
        have hmi : (m : Int) < (n : Int) := by omega
        obtain rfl := ea
        have HM := hid hm
        cases z : (r == 32)
        · have ht2 := hid (show trimN l n = n by rw [hm, trimN, hgd, if_neg (by simpa using z)])
          have HT := hid ht
          clear ht hr hgd hok hm
          go_wp2_with fail
          refine (s_TextOf HS3.out (by rw [List.length_take]; omega)).mono ?_
          rintro e w3 ⟨rfl, hb⟩
          have HB3 := hid (below_call HBr.out hb)
          clear hb
          go_wp2
          go_ret
          exact ⟨by rw [E.out, trimT, HT.out, ht2.out]; rfl, HB3.out⟩
        · obtain ⟨p3, bs3, hcut3, _, _, hS4⟩ := HS3.out.cut_h 22 Try.underlying22 hi hz1 (m : Int) (by omega) (by rw [List.length_take]; omega)
          simp only [Int.toNat_natCast] at hcut3 hS4
          rw [List.take_take, Nat.min_eq_left (by omega)] at hS4
          have HS4 := hid hS4
          have ht2 := hid (show trimN l l.length = trimN l m by rw [ht, hm, trimN, hgd, if_pos (by simpa using z)])
          clear ht hr hgd hok hm hS4
          go_wp2
          exact ⟨⟨m, _, _, _, by have := HM.out; omega, rfl, HS4.out, ht2.out, HBr.out⟩, by have := HM.out; simp [lenV]; omega⟩
    have hki : (k : Int) < d.W := by rw [← HWn.out]; omega
    obtain ⟨m, hmk⟩ : ∃ m : Nat, m = N0 + k := ⟨_, rfl⟩
    have hkc : m < d.Cells.length := by omega
    have hkc2 : (m : Int) < (d.Cells.length : Int) := by omega
    have hmul : wrap64 (y * d.W + (k : Int)) = (m : Int) := by rw [← HN0.out, IntWalk.wrap64_in _ (by omega)]; omega
    obtain ⟨b1, off1, ea, hck, hok⟩ := (H2.out.grow (HB.out.trans (HBr.out.mono (by omega : w.heap.size ≤ w1.heap.size)))).int m hkc
    obtain ⟨r, hr⟩ : ∃ r, r = d.Cells[m] := ⟨_, rfl⟩
    rw [← hr] at hck hok
    have hkr : k < row.length := by rw [HL.out]; exact hlt
    have hrk : row[k] = r := by have q := HC.out k hlt; rw [← hmk, List.getElem?_eq_getElem hkr, List.getElem?_eq_getElem hkc] at q; rw [hr]; exact Option.some.inj q
    clear hmk
    obtain rfl := ea
    by_cases z : r = -1
    · have hne : (r != -1) = false := by simp [z]
      have hl2 := hid (show notHalf row (k + 1) = notHalf row k by rw [notHalf_succ hkr, hrk, if_pos z])
      clear z hr hrk
      go_wp2
      exact ⟨⟨k + 1, p, c, b2, by omega, by first | rfl | simp, by rw [hl2.out], by rw [hl2.out]; exact HO.out, HBr.out⟩, by simp [intOf]; omega⟩
    have hne : (r != -1) = true := by simp [z]
    have hl2 := hid (show notHalf row (k + 1) = notHalf row k ++ [r] by rw [notHalf_succ hkr, hrk, if_neg z])
    clear z hr hrk
    have HB2 := HBr
    go_wp2_with (at_builtin; refine wp_append rfl _ _ 22 rfl 3 i0 (.int .i64 0) 8 Try.underlying22 hi hz0 hz1 hz2 rfl (lo := w1.heap.size) (bs := b2) (xs := notHalf row k) rfl ?own (b2 := []) (ys := [r]) rfl ?src List.nodup_nil ?q1 ?q2 ?q3 ?q4 ?_)
    case own => repeat (first | exact HO.out | refine OwnL.alloc ?_ _ | refine OwnL.setCell ?_ (fun b hb => by have := HO.out.lts b hb; simp; try omega) _)
    case src => exact src_new (pt_i hok) (by simp) _ _
    case q1 => simp
    case q2 => (first | omega | (simp; omega) | (simp; done))
    case q3 => (first | omega | (simp; omega) | (simp; done))
    case q4 => (first | omega | (simp; omega) | (simp; done) | (have := HB2.out.size; first | omega | (simp; omega)))
    intro p3 c3 w3 b3 hO hT hm
    have HB3 := hid (below_tch (HBr.out.alloc HBr.out.size _) hT (fun x hx => by have := HO.out.lts x hx; simp; omega))
    try simp only [List.length_cons, List.length_nil, Nat.zero_add] at hO
    try simp only [List.length_cons, List.length_nil, Nat.zero_add]
    have HO3 := hid hO
    clear hO hT hm
    go_wp2
    exact ⟨⟨k + 1, p3, c3, b3, by omega, by first | rfl | simp, by rw [hl2.out, List.length_append]; rfl, by rw [hl2.out, List.length_append]; exact HO3.out, HB3.out⟩, by simp [intOf]; omega⟩
end Go.Proofs.Ytndhhongkigikaa
