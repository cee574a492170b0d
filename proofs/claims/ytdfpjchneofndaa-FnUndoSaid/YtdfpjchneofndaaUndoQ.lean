/- Putting a line, by the reference (printed by genundo.py). -/
import Derived.Test.YtdfpjchneofndaaUndoC
import Derived.Test.YtdfpjchneofndaaRune
import Derived.Test.YtdfpjchneofndaaLst
import Derived.Test.YtdfpjchneofndaaLate
import Derived.Test.YtdfpjchneofndaaSame
import Derived.Lib.MinMax
set_option linter.unusedSimpArgs false
set_option linter.unusedVariables false
namespace Go.Proofs.Ytdfpjchneofndaa
open Go.RowKit Go.G6
set_option maxHeartbeats 1600000
set_option maxRecDepth 10000
theorem s_l15Same {w : World} {b1 b2 : List Nat} {a1 a2 : Option Addr} {len1 len2 cap1 cap2 : Nat} {xs ys : List Int} (h1 : Slc w b1 a1 len1 cap1 xs) (h2 : Slc w b2 a2 len2 cap2 ys) :
    Calls Try.prog 167 #[.slice a1 len1 cap1, .slice a2 len2 cap2] w fun e w' => e = .returned (.bool (decide (xs = ys))) ∧ Below w.heap.size w w' := by
  obtain rfl := h1.len_eq
  obtain rfl := h2.len_eq
  have hm := h1.max
  have hm2 := h2.max
  by_cases hl : xs.length = ys.length
  rotate_left
  · go_enter Try.func167, Try.ntmps167
    have HL := hid hl
    have hl1 : ((xs.length : Int) != (ys.length : Int)) = true := by rw [bne_iff_ne]; omega
    clear hl
    go_wp2
    go_ret
    exact ⟨ret_bool (by rw [eq_comm, decide_eq_false_iff_not]; rintro rfl; exact HL.out rfl), Below.refl _ _⟩
  have hl1 : ((xs.length : Int) != (ys.length : Int)) = false := by rw [bne_eq_false_iff_eq]; omega
  have HL := hid hl; clear hl
  go_enter Try.func167, Try.ntmps167
  go_wp2_with fail
  go_loopw [13] (fun i wr => ∃ k : Nat, k ≤ xs.length ∧ i = .int .i64 k ∧ xs.take k = ys.take k ∧ Below w.heap.size w wr) (fun i _ => xs.length - (intOf i).toNat)
  case atStart => exact ⟨0, Nat.zero_le _, rfl, rfl, Below.refl _ _⟩
  case round =>
    obtain ⟨k, hk, rfl, ht, hb⟩ := hrel
    have Hb := hid hb
    have HT := hid ht; clear ht
    have hl2 := HL.out
    by_cases hlt : k < xs.length
    · have hlt2 : k < ys.length := by omega
      obtain ⟨b, off, rfl, hbw, hck, _⟩ := h1.at k hlt
      obtain ⟨b', off', rfl, hbw', hck', _⟩ := h2.at k hlt2
      have hc1 : wr.cell? ⟨b, off + k, none⟩ = some (.int .i64 xs[k]) := by rw [hb.cell (p := ⟨b, off + k, none⟩) hbw]; exact hck
      have hc2 : wr.cell? ⟨b', off' + k, none⟩ = some (.int .i64 ys[k]) := by rw [hb.cell (p := ⟨b', off' + k, none⟩) hbw']; exact hck'
      clear hck hck' hb hl2
      have hlt' : (k : Int) < (xs.length : Int) := by omega
      have hlt'' : (k : Int) < (ys.length : Int) := by omega
      by_cases he : xs[k] = ys[k]
      · have he1 : (xs[k] != ys[k]) = false := by rw [bne_eq_false_iff_eq]; exact he
        have HN := hid (take_same HT.out hlt hlt2 he)
        clear he
        go_wp2
        go_quiet (fail)
        go_wp2
        exact ⟨⟨k + 1, by omega, rfl, HN.out, Hb.out.drewN _⟩, by simp [intOf]; omega⟩
      · have he1 : (xs[k] != ys[k]) = true := by rw [bne_iff_ne]; exact he
        have HN := hid (ne_at hlt hlt2 he)
        clear he
        go_wp2
        go_quiet (fail)
        go_wp2
        go_ret
        exact ⟨ret_bool (by rw [eq_comm, decide_eq_false_iff_not]; exact HN.out), Hb.out.drewN _⟩
    · clear hb
      have HN : Hid (xs = ys) := hid (by
        have := HT.out
        rwa [List.take_of_length_le (by omega), List.take_of_length_le (by omega)] at this)
      go_wp2
      go_ret
      exact ⟨ret_bool (by rw [eq_comm, decide_eq_true_eq]; exact HN.out), Hb.out⟩
set_option maxHeartbeats 4000000 in
theorem s_UndoPut {w : World} {bs bs2 : List Nat} {cs cs2 : List Value} {d : UndoD} {l : LineD} (h : Rep.pt w bs cs d) (h2 : Rep.pt w bs2 cs2 l) :
    Calls Try.prog 124 #[.agg cs.toArray, .agg cs2.toArray] w (RetAB w (undoPut d l) (.bool (undoPutOk d l))) := by
  have H := hid h; have H2 := hid h2
  obtain ⟨a0, l0, k0, rfl, h0⟩ := open_Undo h
  obtain rfl := h0.len_eq
  obtain ⟨a1, l1, k1, rfl, g0, g1⟩ := open_Line h2
  obtain rfl := g0.len_eq
  clear h h2
  obtain ⟨i0, hi, hz0, hz1, hz2⟩ := info_parts info_Line
  cases hk : undoOk d
  · have HZ : Hid (undoPutOk d l = false ∧ undoPut d l = undo0) := hid (by simp [undoPut, undoPutOk, hk])
    have Hk := hid hk; clear hk
    go_enter Try.func124, Try.ntmps124
    go_wp2_with fail
    refine (s_UndoOk (grow H.out ?_)).mono ?_
    · exact ((((Below.refl _ _).alloc (Nat.le_refl _) _).alloc (by simp) _).alloc (by simp; omega) _)
    rintro e w1 ⟨rfl, hb⟩
    have B0 : Bx w1 (w.heap.size) _ := Bx.below (b := w.heap.size) hb (by first | omega | (simp; done) | (simp; omega)) (by repeat (first  | (apply Bx.new; (focus (first | (simp; done) | (simp; omega) | omega))) | (apply Bx.alloc; rotate_left; (focus (first | (simp; done) | (simp; omega) | omega))) | (apply Bx.setOther; rotate_left; (focus (first | (simp; done) | (simp; omega) | omega))) | apply Bx.setSame))
    have B0o := B0.out
    have B0f := B0.fr
    have B1 : Bx w1 (w.heap.size + 1) _ := Bx.below (b := w.heap.size + 1) hb (by first | omega | (simp; done) | (simp; omega)) (by repeat (first  | (apply Bx.new; (focus (first | (simp; done) | (simp; omega) | omega))) | (apply Bx.alloc; rotate_left; (focus (first | (simp; done) | (simp; omega) | omega))) | (apply Bx.setOther; rotate_left; (focus (first | (simp; done) | (simp; omega) | omega))) | apply Bx.setSame))
    have B1o := B1.out
    have B1f := B1.fr
    have B2 : Bx w1 (w.heap.size + 1 + 1) _ := Bx.below (b := w.heap.size + 1 + 1) hb (by first | omega | (simp; done) | (simp; omega)) (by repeat (first  | (apply Bx.new; (focus (first | (simp; done) | (simp; omega) | omega))) | (apply Bx.alloc; rotate_left; (focus (first | (simp; done) | (simp; omega) | omega))) | (apply Bx.setOther; rotate_left; (focus (first | (simp; done) | (simp; omega) | omega))) | apply Bx.setSame))
    have B2o := B2.out
    have B2f := B2.fr
    have HB := hid (below_call ((((Below.refl _ _).alloc (Nat.le_refl _) _).alloc (by simp) _).alloc (by simp; omega) _) hb)
    have hs1 : w.heap.size + 3 ≤ w1.heap.size := by have := hb.size; simpa using this
    clear hb
    rw [Hk.out]
    go_wp2
    refine bodyPost_ret (v := .tuple #[.agg #[.slice none 0 0], .bool false]) (by simp [results, Try.results124, go_sem, B2o]) rfl ?_
    refine ⟨[.slice none 0 0], [], by rw [HZ.out.1], ?_, HB.out.setCell (by simp; try omega) _⟩
    rw [HZ.out.2]; exact own_Undo (d := undo0) (own_nil _ _)
  have Hq := hid (undoOk_bounds hk)
  cases hk2 : lineOk l
  · have HZ : Hid (undoPutOk d l = false ∧ undoPut d l = undo0) := hid (by simp [undoPut, undoPutOk, hk2])
    have Hk := hid hk; clear hk
    have Hk2 := hid hk2; clear hk2
    go_enter Try.func124, Try.ntmps124
    go_wp2_with fail
    refine (s_UndoOk (grow H.out ?_)).mono ?_
    · exact ((((Below.refl _ _).alloc (Nat.le_refl _) _).alloc (by simp) _).alloc (by simp; omega) _)
    rintro e w1 ⟨rfl, hb⟩
    have B0 : Bx w1 (w.heap.size) _ := Bx.below (b := w.heap.size) hb (by first | omega | (simp; done) | (simp; omega)) (by repeat (first  | (apply Bx.new; (focus (first | (simp; done) | (simp; omega) | omega))) | (apply Bx.alloc; rotate_left; (focus (first | (simp; done) | (simp; omega) | omega))) | (apply Bx.setOther; rotate_left; (focus (first | (simp; done) | (simp; omega) | omega))) | apply Bx.setSame))
    have B0o := B0.out
    have B0f := B0.fr
    have B1 : Bx w1 (w.heap.size + 1) _ := Bx.below (b := w.heap.size + 1) hb (by first | omega | (simp; done) | (simp; omega)) (by repeat (first  | (apply Bx.new; (focus (first | (simp; done) | (simp; omega) | omega))) | (apply Bx.alloc; rotate_left; (focus (first | (simp; done) | (simp; omega) | omega))) | (apply Bx.setOther; rotate_left; (focus (first | (simp; done) | (simp; omega) | omega))) | apply Bx.setSame))
    have B1o := B1.out
    have B1f := B1.fr
    have B2 : Bx w1 (w.heap.size + 1 + 1) _ := Bx.below (b := w.heap.size + 1 + 1) hb (by first | omega | (simp; done) | (simp; omega)) (by repeat (first  | (apply Bx.new; (focus (first | (simp; done) | (simp; omega) | omega))) | (apply Bx.alloc; rotate_left; (focus (first | (simp; done) | (simp; omega) | omega))) | (apply Bx.setOther; rotate_left; (focus (first | (simp; done) | (simp; omega) | omega))) | apply Bx.setSame))
    have B2o := B2.out
    have B2f := B2.fr
    have HB := hid (below_call ((((Below.refl _ _).alloc (Nat.le_refl _) _).alloc (by simp) _).alloc (by simp; omega) _) hb)
    have hs1 : w.heap.size + 3 ≤ w1.heap.size := by have := hb.size; simpa using this
    clear hb
    rw [Hk.out]
    go_wp2_with fail
    refine (s_LineOk (grow H2.out HB.out)).mono ?_
    rintro e w2 ⟨rfl, hb⟩
    replace B0 : Bx w2 (w.heap.size) _ := Bx.below (b := w.heap.size) hb (by first | omega | (simp; done) | (simp; omega)) (by repeat (first  | exact B0 | exact B1 | exact B2 | (apply Bx.new; (focus (first | (simp; done) | (simp; omega) | omega))) | (apply Bx.alloc; rotate_left; (focus (first | (simp; done) | (simp; omega) | omega))) | (apply Bx.setOther; rotate_left; (focus (first | (simp; done) | (simp; omega) | omega))) | apply Bx.setSame))
    replace B0o := B0.out
    replace B0f := B0.fr
    replace B1 : Bx w2 (w.heap.size + 1) _ := Bx.below (b := w.heap.size + 1) hb (by first | omega | (simp; done) | (simp; omega)) (by repeat (first  | exact B0 | exact B1 | exact B2 | (apply Bx.new; (focus (first | (simp; done) | (simp; omega) | omega))) | (apply Bx.alloc; rotate_left; (focus (first | (simp; done) | (simp; omega) | omega))) | (apply Bx.setOther; rotate_left; (focus (first | (simp; done) | (simp; omega) | omega))) | apply Bx.setSame))
    replace B1o := B1.out
    replace B1f := B1.fr
    replace B2 : Bx w2 (w.heap.size + 1 + 1) _ := Bx.below (b := w.heap.size + 1 + 1) hb (by first | omega | (simp; done) | (simp; omega)) (by repeat (first  | exact B0 | exact B1 | exact B2 | (apply Bx.new; (focus (first | (simp; done) | (simp; omega) | omega))) | (apply Bx.alloc; rotate_left; (focus (first | (simp; done) | (simp; omega) | omega))) | (apply Bx.setOther; rotate_left; (focus (first | (simp; done) | (simp; omega) | omega))) | apply Bx.setSame))
    replace B2o := B2.out
    replace B2f := B2.fr
    have HB2 := hid (below_call HB.out hb)
    have hs2 : w1.heap.size ≤ w2.heap.size := hb.size
    clear hb
    rw [Hk2.out]
    go_wp2
    refine bodyPost_ret (v := .tuple #[.agg #[.slice none 0 0], .bool false]) (by simp [results, Try.results124, go_sem, B2o]) rfl ?_
    refine ⟨[.slice none 0 0], [], by rw [HZ.out.1], ?_, HB2.out.setCell (by simp; try omega) _⟩
    rw [HZ.out.2]; exact own_Undo (d := undo0) (own_nil _ _)
  have hle : l.Text.length ≤ 16777216 := by have := lineOk_len hk2; omega
  have HZ : Hid (undoPutOk d l = true ∧ undoPut d l = if sameLast d l then d else { Lines := undoNew d l }) := hid (by simp [undoPut, undoPutOk, hk, hk2])
  have Hk := hid hk; clear hk
  have Hk2 := hid hk2; clear hk2
  go_enter Try.func124, Try.ntmps124
  go_wp2_with fail
  refine (s_UndoOk (grow H.out ?_)).mono ?_
  · exact ((((Below.refl _ _).alloc (Nat.le_refl _) _).alloc (by simp) _).alloc (by simp; omega) _)
  rintro e w1 ⟨rfl, hb⟩
  have B0 : Bx w1 (w.heap.size) _ := Bx.below (b := w.heap.size) hb (by first | omega | (simp; done) | (simp; omega)) (by repeat (first  | (apply Bx.new; (focus (first | (simp; done) | (simp; omega) | omega))) | (apply Bx.alloc; rotate_left; (focus (first | (simp; done) | (simp; omega) | omega))) | (apply Bx.setOther; rotate_left; (focus (first | (simp; done) | (simp; omega) | omega))) | apply Bx.setSame))
  have B0o := B0.out
  have B0f := B0.fr
  have B1 : Bx w1 (w.heap.size + 1) _ := Bx.below (b := w.heap.size + 1) hb (by first | omega | (simp; done) | (simp; omega)) (by repeat (first  | (apply Bx.new; (focus (first | (simp; done) | (simp; omega) | omega))) | (apply Bx.alloc; rotate_left; (focus (first | (simp; done) | (simp; omega) | omega))) | (apply Bx.setOther; rotate_left; (focus (first | (simp; done) | (simp; omega) | omega))) | apply Bx.setSame))
  have B1o := B1.out
  have B1f := B1.fr
  have B2 : Bx w1 (w.heap.size + 1 + 1) _ := Bx.below (b := w.heap.size + 1 + 1) hb (by first | omega | (simp; done) | (simp; omega)) (by repeat (first  | (apply Bx.new; (focus (first | (simp; done) | (simp; omega) | omega))) | (apply Bx.alloc; rotate_left; (focus (first | (simp; done) | (simp; omega) | omega))) | (apply Bx.setOther; rotate_left; (focus (first | (simp; done) | (simp; omega) | omega))) | apply Bx.setSame))
  have B2o := B2.out
  have B2f := B2.fr
  have HB := hid (below_call ((((Below.refl _ _).alloc (Nat.le_refl _) _).alloc (by simp) _).alloc (by simp; omega) _) hb)
  have hs1 : w.heap.size + 3 ≤ w1.heap.size := by have := hb.size; simpa using this
  clear hb
  rw [Hk.out]
  go_wp2_with fail
  refine (s_LineOk (grow H2.out HB.out)).mono ?_
  rintro e w2 ⟨rfl, hb⟩
  replace B0 : Bx w2 (w.heap.size) _ := Bx.below (b := w.heap.size) hb (by first | omega | (simp; done) | (simp; omega)) (by repeat (first  | exact B0 | exact B1 | exact B2 | (apply Bx.new; (focus (first | (simp; done) | (simp; omega) | omega))) | (apply Bx.alloc; rotate_left; (focus (first | (simp; done) | (simp; omega) | omega))) | (apply Bx.setOther; rotate_left; (focus (first | (simp; done) | (simp; omega) | omega))) | apply Bx.setSame))
  replace B0o := B0.out
  replace B0f := B0.fr
  replace B1 : Bx w2 (w.heap.size + 1) _ := Bx.below (b := w.heap.size + 1) hb (by first | omega | (simp; done) | (simp; omega)) (by repeat (first  | exact B0 | exact B1 | exact B2 | (apply Bx.new; (focus (first | (simp; done) | (simp; omega) | omega))) | (apply Bx.alloc; rotate_left; (focus (first | (simp; done) | (simp; omega) | omega))) | (apply Bx.setOther; rotate_left; (focus (first | (simp; done) | (simp; omega) | omega))) | apply Bx.setSame))
  replace B1o := B1.out
  replace B1f := B1.fr
  replace B2 : Bx w2 (w.heap.size + 1 + 1) _ := Bx.below (b := w.heap.size + 1 + 1) hb (by first | omega | (simp; done) | (simp; omega)) (by repeat (first  | exact B0 | exact B1 | exact B2 | (apply Bx.new; (focus (first | (simp; done) | (simp; omega) | omega))) | (apply Bx.alloc; rotate_left; (focus (first | (simp; done) | (simp; omega) | omega))) | (apply Bx.setOther; rotate_left; (focus (first | (simp; done) | (simp; omega) | omega))) | apply Bx.setSame))
  replace B2o := B2.out
  replace B2f := B2.fr
  have HB2 := hid (below_call HB.out hb)
  have hs2 : w1.heap.size ≤ w2.heap.size := hb.size
  clear hb
  rw [Hk2.out]
  go_wp2_with fail
  refine (s_l15Lines (grow H.out HB2.out) Hq.out.2.1).mono ?_
  rintro e w3 ⟨v3, b3, rfl, hO, hb⟩
  obtain ⟨p3, c3, rfl⟩ := hO.slice
  replace B1 : Bx w3 (w.heap.size + 1) _ := Bx.below (b := w.heap.size + 1) hb (by first | omega | (simp; done) | (simp; omega)) (by repeat (first  | exact B0 | exact B1 | exact B2 | (apply Bx.new; (focus (first | (simp; done) | (simp; omega) | omega))) | (apply Bx.alloc; rotate_left; (focus (first | (simp; done) | (simp; omega) | omega))) | (apply Bx.setOther; rotate_left; (focus (first | (simp; done) | (simp; omega) | omega))) | apply Bx.setSame))
  replace B1o := B1.out
  replace B1f := B1.fr
  replace B2 : Bx w3 (w.heap.size + 1 + 1) _ := Bx.below (b := w.heap.size + 1 + 1) hb (by first | omega | (simp; done) | (simp; omega)) (by repeat (first  | exact B0 | exact B1 | exact B2 | (apply Bx.new; (focus (first | (simp; done) | (simp; omega) | omega))) | (apply Bx.alloc; rotate_left; (focus (first | (simp; done) | (simp; omega) | omega))) | (apply Bx.setOther; rotate_left; (focus (first | (simp; done) | (simp; omega) | omega))) | apply Bx.setSame))
  replace B2o := B2.out
  replace B2f := B2.fr
  have HB3 := hid (below_call HB2.out hb)
  have hs3 : w2.heap.size ≤ w3.heap.size := hb.size
  clear hb
  have hn20 := Hq.out.1
  have HL3 := hid hO.lts
  by_cases h00 : d.Lines.length = 0
  · have HSL : Hid ((if sameLast d l = true then d else { Lines := undoNew d l } : UndoD) = { Lines := undoNew d l }) := hid (by simp [sameLast_nil h00])
    have BX1 : Bx (w3.alloc (.cells #[.slice p3 d.Lines.length c3] 106)) (w.heap.size + 1) _ := B1.alloc (by omega) _
    have BX2 : Bx (w3.alloc (.cells #[.slice p3 d.Lines.length c3] 106)) (w.heap.size + 1 + 1) _ := B2.alloc (by omega) _
    have BX3 : Bx (w3.alloc (.cells #[.slice p3 d.Lines.length c3] 106)) w3.heap.size _ := Bx.new w3 #[.slice p3 d.Lines.length c3] 106 rfl
    have HOu := hid (hO.alloc (.cells #[.slice p3 d.Lines.length c3] 106))
    have HBu := hid (HB3.out.alloc HB3.out.size (.cells #[.slice p3 d.Lines.length c3] 106))
    have hgt : decide ((0 : Int) < (d.Lines.length : Int)) = false := decide_eq_false (by omega)
    have hgtn : decide (0 < d.Lines.length) = false := decide_eq_false (by omega)
    clear hO h00
    go_wp2_with fail
    go_quiet (fail)
    go_wp2_with fail
    obtain ⟨U, hU⟩ : ∃ U, U = (w3.alloc (.cells #[.slice p3 d.Lines.length c3] 106)).drewN nq := ⟨_, rfl⟩
    rw [← hU]
    replace BX1 : Bx U _ _ := hU ▸ BX1.drewN nq; replace BX2 : Bx U _ _ := hU ▸ BX2.drewN nq; replace BX3 : Bx U _ _ := hU ▸ BX3.drewN nq
    replace HOu : Hid (OwnL w2.heap.size U _ _ _ _) := hid (by rw [hU]; exact HOu.out.keep (fun _ _ => rfl))
    replace HBu : Hid (Below w.heap.size w U) := hid (by rw [hU]; exact HBu.out.drewN nq)
    clear hU
    have NB := hid (fun b hb => HL3.out b hb)
    have nA : w3.heap.size ∉ b3 := fun hm => by have := (NB.out _ hm).2; omega
    have nL : w.heap.size + 1 ∉ b3 := fun hm => by have := (NB.out _ hm).1; omega
    have n2 : w.heap.size + 1 + 1 ∉ b3 := fun hm => by have := (NB.out _ hm).1; omega
    have hU3 : w3.heap.size < U.heap.size := BX3.f.lt
    have HX1 := hid BX1; have HX2 := hid BX2; have HX3 := hid BX3
    have q0 := BX1.out 0; have q1 := BX1.out 1; have q3 := BX3.out 0
    try simp only [List.getElem?_toArray, List.getElem?_cons_zero, List.getElem?_cons_succ] at q0 q1 q3
    refine late_start (fun W => Tch b3 U W ∧ W.cell? ⟨w3.heap.size, 0, none⟩ = some (.slice p3 d.Lines.length c3) ∧ W.cell? ⟨w.heap.size + 1, 0, none⟩ = some (.slice a1 l.Text.length k1) ∧ W.cell? ⟨w.heap.size + 1, 1, none⟩ = some (.int .i64 l.At)) 7 (by kernel_rfl) ?_ (fun hS => ?_)
    · exact ⟨(Tch.refl _ _).drew, HX3.out.out 0, HX1.out.out 0, HX1.out.out 1⟩
    refine late_take (i := 0) (v := ?_) rfl (by kernel_rfl) (fun _ _ _ h => h) (by rfl) ?_ (by assumption) ?_
    rotate_left
    · (intro w9 hS9; (try dsimp only at hS9); (try go_split_ands); go_simp <;> with_reducible rfl)
    try simp only [Act.put, List.setIfInBounds_toArray, List.set_cons_zero, List.set_cons_succ]
    refine late_take (i := 1) (v := ?_) rfl (by kernel_rfl) (fun _ _ _ h => h) (by rfl) ?_ (by assumption) ?_
    rotate_left
    · (intro w9 hS9; (try dsimp only at hS9); (try go_split_ands); go_simp <;> with_reducible rfl)
    try simp only [Act.put, List.setIfInBounds_toArray, List.set_cons_zero, List.set_cons_succ]
    refine late_take (i := 2) (v := ?_) rfl (by kernel_rfl) (fun _ _ _ h => h) (by rfl) ?_ (by assumption) ?_
    rotate_left
    · (intro w9 hS9; (try dsimp only at hS9); (try go_split_ands); go_simp <;> with_reducible rfl)
    try simp only [Act.put, List.setIfInBounds_toArray, List.set_cons_zero, List.set_cons_succ]
    refine late_one (i := 3) rfl (by kernel_rfl) (fun K9 hK9 => ?_)
    go_simp
    refine (s_l15Line (grow H2.out HBu.out.drew) hle).mono ?_
    rintro e wa ⟨v, b1, rfl, hO1, hb1⟩
    obtain ⟨p1, c1, rfl⟩ := hO1.slice
    obtain ⟨b1x, hb1x, hOw⟩ := hO1.own
    have hW : Below U.heap.size U wa := ((Below.refl _ _).drew).trans (hb1.mono (by simp))
    have HOw := hid hOw
    have L1 : Hid (∀ b ∈ b1x, U.heap.size ≤ b ∧ b < wa.heap.size) := hid (fun b hb => hO1.lts b (hb1x b hb))
    clear hO1 hOw hb1x
    go_wp2_with fail
    refine hK9.out _ _ (fun _ => ?_) (fun hS9 => ?_)
    · (try dsimp only); exact ⟨keepc hS.1 (Tch.of_below (bs := []) hb1) (fun x hx => by cases hx), cellc (Tch.of_below (bs := []) hb1) hS.2.1 (by simp), cellc (Tch.of_below (bs := []) hb1) hS.2.2.1 (by simp), cellc (Tch.of_below (bs := []) hb1) hS.2.2.2 (by simp)⟩
    replace hS := hS9 (by decide)
    clear hK9 K9 hS9
    try simp only [Act.put, List.setIfInBounds_toArray, List.set_cons_zero, List.set_cons_succ]
    refine late_one (i := 4) rfl (by kernel_rfl) (fun K9 hK9 => ?_)
    go_simp
    refine hK9.out _ _ (fun _ => ?_) (fun hS9 => ?_)
    · (try dsimp only); exact ⟨keepc hS.1 ((Tch.refl [] _).alloc _) (fun x hx => by cases hx), cellc ((Tch.refl [] _).alloc _) hS.2.1 (by simp), cellc ((Tch.refl [] _).alloc _) hS.2.2.1 (by simp), cellc ((Tch.refl [] _).alloc _) hS.2.2.2 (by simp)⟩
    replace hS := hS9 (by decide)
    clear hK9 K9 hS9
    try simp only [Act.put, List.setIfInBounds_toArray, List.set_cons_zero, List.set_cons_succ]
    refine late_one (i := 5) rfl (by kernel_rfl) (fun K9 hK9 => ?_)
    refine step_append rfl _ _ 104 rfl 81 i0 (.agg #[.slice none 0 0, .int .i64 0]) 32 Try.underlying104 hi hz0 hz1 hz2 rfl (lo := w2.heap.size) (bs := b3) (xs := d.Lines) rfl ?own (b2 := b1x) (ys := [l]) rfl ?src ?nd ?f2 ?q2 ?q3 ?q4 ?_
    case own => exact (HOu.out.grow hW).alloc _
    case src => exact src_new (mk_Line (d := l) (pt_slice.1 HOw.out.1) g1) rfl _ _
    case nd => exact HOw.out.2.1
    case f2 => exact fun b hb => ⟨by have := (L1.out b hb).1; omega, (HOw.out.2.2 b hb).2.keep (Below.heap_alloc _ _ _ (L1.out b hb).2), fun hm => by have := (L1.out b hb).1; have := (NB.out b hm).2; omega⟩
    case q2 => simp; omega
    case q3 => simp; omega
    case q4 => have := hW.size; simp; omega
    intro p5 c5 w5 b5 hO5 hT5 hm5
    simp only [List.length_cons, List.length_nil, Nat.zero_add] at hO5 ⊢
    refine hK9.out _ _ (fun _ => ?_) (fun hS9 => ?_)
    · (try dsimp only); exact ⟨keepc hS.1 hT5 (fun x hx => .inl hx), cellc hT5 hS.2.1 nA, cellc hT5 hS.2.2.1 nL, cellc hT5 hS.2.2.2 nL⟩
    replace hS := hS9 (by decide)
    clear hK9 K9 hS9
    try simp only [Act.put, List.setIfInBounds_toArray, List.set_cons_zero, List.set_cons_succ]
    refine late_take (i := 6) (v := ?_) rfl (by kernel_rfl) (fun _ _ _ h => h) (by rfl) ?_ (by assumption) ?_
    rotate_left
    · (intro w9 hS9; (try dsimp only at hS9); (try go_split_ands); go_simp <;> with_reducible rfl)
    try simp only [Act.put, List.setIfInBounds_toArray, List.set_cons_zero, List.set_cons_succ]
    refine late_one (i := 7) rfl (by kernel_rfl) (fun K9 hK9 => ?_)
    have hT := hS.1
    have e1 := hS.2.1
    have hF := HX3.out.f.keep (hT.block _ hU3 nA)
    have hf := hF.frozen 0
    have B2x := HX2.out.keep (hT.block (w.heap.size + 1 + 1) (by omega) n2)
    have B2xo := B2x.out; have B2xf := B2x.fr
    have hz5 := hT.size
    have HB5 : Hid (Below w.heap.size w w5) := hid (HBu.out.trans (hT.below HBu.out.size (fun x hx => by have := (NB.out x hx).1; omega)))
    have HO5 := hid hO5
    have L5 : Hid (∀ b ∈ b5, b ≠ w3.heap.size ∧ b ≠ w.heap.size + 1 + 1) := hid fun b hb => by
      have h9 := (hO5.lts b hb).1
      refine ⟨?_, by omega⟩
      rintro rfl
      rcases hm5 _ hb with h | h | h
      · exact nA h
      · have := (L1.out _ h).1; omega
      · have := hW.size; simp at h; omega
    obtain ⟨b6, hb6, hOw6⟩ := hO5.own
    have HW6 := hid hOw6
    clear hO5 hT5 hm5 hT hS hF hOw6 hb1 hW q0 q1 q3 BX1 BX2 BX3
    go_simp
    refine hK9.out _ _ (fun h => absurd rfl h) (fun _ => ?_)
    clear hK9 K9
    try simp only [Act.put, List.setIfInBounds_toArray, List.set_cons_zero, List.set_cons_succ]
    refine late_done (by kernel_rfl) ?_ _
    by_cases h20 : 20 < d.Lines.length + 1
    · obtain ⟨p6, bS, hcut, hbS, hnS, hS6⟩ := HW6.out.slc.cut_l 104 Try.underlying104 hi hz1 1 (by omega) (by simp; try omega)
      simp only [Int.toNat_one, Nat.add_sub_cancel, List.length_append, List.length_cons, List.length_nil, Nat.zero_add] at hcut hS6
      have HS6 := hid (HW6.out.cutS hbS hnS hS6)
      have hbS2 := hid hbS
      clear hS6 hbS hnS
      have Hnew : Hid (undoNew d l = (d.Lines ++ [l]).drop 1) := hid (by simp [undoNew, h20])
      have hn20e : ((d.Lines.length : Int) == 20) = true := by
        have h9 : d.Lines.length = 20 := by omega
        rw [h9]; rfl
      go_wp2
      refine bodyPost_ret (v := .tuple #[.agg #[.slice p6 d.Lines.length (c5 - 1)], .bool true]) (by simp [results, Try.results124, go_sem, B2xo]) rfl ?_
      refine ⟨[.slice p6 d.Lines.length (c5 - 1)], bS, by rw [HZ.out.1], ?_, ?_⟩
      · rw [HZ.out.2, HSL.out]
        refine Own.mono (lo := w2.heap.size) ?_ (by omega)
        refine own_Undo (d := { Lines := undoNew d l }) ?_
        rw [show ({ Lines := undoNew d l } : UndoD).Lines = (d.Lines ++ [l]).drop 1 from Hnew.out]
        repeat (first | exact HS6.out | refine Own.setCell' _ ?_ (fun b hb => by have := L5.out b (hb6 b (hbS2.out b hb)); simp; omega))
      · repeat (first | exact HB5.out | refine Below.setCell ?_ (by simp; try omega) _)
    · have Hnew : Hid (undoNew d l = d.Lines ++ [l]) := hid (by simp [undoNew, h20])
      have hn20e : ((d.Lines.length : Int) == 20) = false := by rw [beq_eq_false_iff_ne]; omega
      go_wp2
      refine bodyPost_ret (v := .tuple #[.agg #[.slice p5 (d.Lines.length + 1) c5], .bool true]) (by simp [results, Try.results124, go_sem, B2xo]) rfl ?_
      refine ⟨[.slice p5 (d.Lines.length + 1) c5], b6, by rw [HZ.out.1], ?_, ?_⟩
      · rw [HZ.out.2, HSL.out]
        refine Own.mono (lo := w2.heap.size) ?_ (by omega)
        refine own_Undo (d := { Lines := undoNew d l }) ?_
        rw [show ({ Lines := undoNew d l } : UndoD).Lines = d.Lines ++ [l] from Hnew.out]
        repeat (first | exact (by simpa using HW6.out) | refine Own.setCell' _ ?_ (fun b hb => by have := L5.out b (hb6 b hb); simp; omega))
      · repeat (first | exact HB5.out | refine Below.setCell ?_ (by simp; try omega) _)
  obtain ⟨m, hm⟩ : ∃ m, d.Lines.length = m + 1 := ⟨d.Lines.length - 1, by omega⟩
  have hlt : m < d.Lines.length := by omega
  obtain ⟨g, cap, bi, c0, ev, hgb, _, hgl, _, _, hOi, hAi, _⟩ := hO.setE m hlt
  simp only [Value.slice.injEq] at ev
  obtain ⟨rfl, _, rfl⟩ := ev
  obtain ⟨ai, li, ki, rfl, f0, f1⟩ := open_Line hOi.1
  obtain rfl := f0.len_eq
  have hgl2 := (hO.lts g hgb).1
  have HF0 := hid f0
  have ce : w3.cell? ⟨g, m * 2, none⟩ = some (.slice ai d.Lines[m].Text.length ki) := hAi 0 _ rfl
  clear hAi hOi f0 f1
  have BX1 : Bx (w3.alloc (.cells #[.slice (some ⟨g, 0, none⟩) d.Lines.length c3] 106)) (w.heap.size + 1) _ := B1.alloc (by omega) _
  have BX2 : Bx (w3.alloc (.cells #[.slice (some ⟨g, 0, none⟩) d.Lines.length c3] 106)) (w.heap.size + 1 + 1) _ := B2.alloc (by omega) _
  have BX3 : Bx (w3.alloc (.cells #[.slice (some ⟨g, 0, none⟩) d.Lines.length c3] 106)) w3.heap.size _ := Bx.new w3 #[.slice (some ⟨g, 0, none⟩) d.Lines.length c3] 106 rfl
  have HOu := hid (hO.alloc (.cells #[.slice (some ⟨g, 0, none⟩) d.Lines.length c3] 106))
  have HBu := hid (HB3.out.alloc HB3.out.size (.cells #[.slice (some ⟨g, 0, none⟩) d.Lines.length c3] 106))
  have cx : (w3.alloc (.cells #[.slice (some ⟨g, 0, none⟩) d.Lines.length c3] 106)).cell? ⟨g, m * 2, none⟩ = some (.slice ai d.Lines[m].Text.length ki) := (World.cell?_alloc_lt _ _ ⟨g, m * 2, none⟩ hgl).trans ce
  have hgt : decide ((0 : Int) < (d.Lines.length : Int)) = true := decide_eq_true (by omega)
  have hgtn : decide (0 < d.Lines.length) = true := decide_eq_true (by omega)
  have hgt2 : (0 : Int) < (d.Lines.length : Int) := by omega
  have hsub : wrap64 ((d.Lines.length : Int) - 1) = (m : Int) := by rw [IntWalk.wrap64_in _ (by omega)]; omega
  have hsub2 : IntKind.i64.wrap ((d.Lines.length : Int) - 1) = (m : Int) := by rw [wrapI (by omega)]; omega
  have hm1 : (0 : Int) ≤ (m : Int) := by omega
  have hm2 : (m : Int) < (d.Lines.length : Int) := by omega
  clear hO
  have Hm := hid hm; clear hm
  go_wp2_with fail
  have hU9 : w3.heap.size < (w3.alloc (.cells #[.slice (some ⟨g, 0, none⟩) d.Lines.length c3] 106)).heap.size := BX3.f.lt
  cases hsm : sameLast d l
  rotate_left
  · skip
    have HSM : Hid (decide (d.Lines[m].Text = l.Text) = true) := hid (by rw [← hsm, sameLast_at (by omega)]; simp [Hm.out])
    have HSL : Hid ((if sameLast d l = true then d else { Lines := undoNew d l } : UndoD) = d) := hid (by simp [hsm])
    clear hsm
    go_region_held3 (fun W => Below (w3.alloc (.cells #[.slice (some ⟨g, 0, none⟩) d.Lines.length c3] 106)).heap.size (w3.alloc (.cells #[.slice (some ⟨g, 0, none⟩) d.Lines.length c3] 106)) W ∧ W.cell? ⟨w3.heap.size, 0, none⟩ = some (.slice (some ⟨g, 0, none⟩) d.Lines.length c3) ∧ W.cell? ⟨g, m * 2, none⟩ = some (.slice ai d.Lines[m].Text.length ki) ∧ W.cell? ⟨w.heap.size + 1, 0, none⟩ = some (.slice a1 l.Text.length k1)) (first | exact ⟨(Below.refl _ _).drew, BX3.out 0, cx, BX1.out 0⟩ | (go_split_ands; exact ⟨Below.trans (by assumption) (Below.mono hb2 (Below.size (by assumption))), cellc (Tch.of_below (bs := []) hb2) (by assumption) (by simp), cellc (Tch.of_below (bs := []) hb2) (by assumption) (by simp), cellc (Tch.of_below (bs := []) hb2) (by assumption) (by simp)⟩)) (first | (go_at_call 167; refine (s_l15Same (Slc.grow (HF0.out.grow ((Below.refl _ _).alloc (Nat.le_refl _) _)) (by go_split_ands; assumption)) (g0.grow (HBu.out.trans (Below.mono (by go_split_ands; assumption) HBu.out.size)))).mono ?_; rintro e w4 ⟨he, hb2⟩; rw [HSM.out] at he; subst he))
    have hp : Below (w3.alloc (.cells #[.slice (some ⟨g, 0, none⟩) d.Lines.length c3] 106)).heap.size (w3.alloc (.cells #[.slice (some ⟨g, 0, none⟩) d.Lines.length c3] 106)) w4 := by go_split_ands; assumption
    have BY2 := Bx.below hp (by omega) BX2; have BY3 := Bx.below hp hU9 BX3
    have HOv := hid (HOu.out.grow hp); have HBv := hid (HBu.out.trans (hp.mono HBu.out.size))
    have y2 := BY2.out; have y2f := BY2.fr; have y3 := BY3.out; have h4 := hp.size; simp at h4
    clear hp hb2 BX1 BX2 BX3
    go_wp2
    refine bodyPost_ret (v := .tuple #[.agg #[.slice (some ⟨g, 0, none⟩) d.Lines.length c3], .bool true]) (by simp [results, Try.results124, go_sem, y2]) rfl ?_
    obtain ⟨b6, hb6, hOw6⟩ := HOv.out.own
    refine ⟨[.slice (some ⟨g, 0, none⟩) d.Lines.length c3], b6, by rw [HZ.out.1], ?_, HBv.out.setCell (by simp; try omega) _⟩
    rw [HZ.out.2, HSL.out]
    refine Own.mono (lo := w2.heap.size) ?_ (by omega)
    refine own_Undo (d := d) ?_
    exact Own.setCell' _ hOw6 (fun b hb => by have := HL3.out b (hb6 b hb); simp; omega)
  have HSM : Hid (decide (d.Lines[m].Text = l.Text) = false) := hid (by rw [← hsm, sameLast_at (by omega)]; simp [Hm.out])
  have HSL : Hid ((if sameLast d l = true then d else { Lines := undoNew d l } : UndoD) = { Lines := undoNew d l }) := hid (by simp [hsm])
  clear hsm
  go_region_held3 (fun W => Below (w3.alloc (.cells #[.slice (some ⟨g, 0, none⟩) d.Lines.length c3] 106)).heap.size (w3.alloc (.cells #[.slice (some ⟨g, 0, none⟩) d.Lines.length c3] 106)) W ∧ W.cell? ⟨w3.heap.size, 0, none⟩ = some (.slice (some ⟨g, 0, none⟩) d.Lines.length c3) ∧ W.cell? ⟨g, m * 2, none⟩ = some (.slice ai d.Lines[m].Text.length ki) ∧ W.cell? ⟨w.heap.size + 1, 0, none⟩ = some (.slice a1 l.Text.length k1)) (first | exact ⟨(Below.refl _ _).drew, BX3.out 0, cx, BX1.out 0⟩ | (go_split_ands; exact ⟨Below.trans (by assumption) (Below.mono hb2 (Below.size (by assumption))), cellc (Tch.of_below (bs := []) hb2) (by assumption) (by simp), cellc (Tch.of_below (bs := []) hb2) (by assumption) (by simp), cellc (Tch.of_below (bs := []) hb2) (by assumption) (by simp)⟩)) (first | (go_at_call 167; refine (s_l15Same (Slc.grow (HF0.out.grow ((Below.refl _ _).alloc (Nat.le_refl _) _)) (by go_split_ands; assumption)) (g0.grow (HBu.out.trans (Below.mono (by go_split_ands; assumption) HBu.out.size)))).mono ?_; rintro e w4 ⟨he, hb2⟩; rw [HSM.out] at he; subst he))
  have hp : Below (w3.alloc (.cells #[.slice (some ⟨g, 0, none⟩) d.Lines.length c3] 106)).heap.size (w3.alloc (.cells #[.slice (some ⟨g, 0, none⟩) d.Lines.length c3] 106)) w4 := by go_split_ands; assumption
  replace BX1 := Bx.below hp (by omega) BX1; replace BX2 := Bx.below hp (by omega) BX2; replace BX3 := Bx.below hp hU9 BX3
  replace HOu := hid (HOu.out.grow hp); replace HBu := hid (HBu.out.trans (hp.mono HBu.out.size))
  clear hp hb2
  obtain ⟨p3, hp3⟩ : ∃ p3, p3 = (some ⟨g, 0, none⟩ : Option Addr) := ⟨_, rfl⟩
  rw [← hp3] at BX3 HOu ⊢
  clear hp3 cx
  go_wp2_with fail
  have NB := hid (fun b hb => HL3.out b hb)
  have nA : w3.heap.size ∉ b3 := fun hm => by have := (NB.out _ hm).2; omega
  have nL : w.heap.size + 1 ∉ b3 := fun hm => by have := (NB.out _ hm).1; omega
  have n2 : w.heap.size + 1 + 1 ∉ b3 := fun hm => by have := (NB.out _ hm).1; omega
  have hU3 : w3.heap.size < w4.heap.size := BX3.f.lt
  have HX1 := hid BX1; have HX2 := hid BX2; have HX3 := hid BX3
  have q0 := BX1.out 0; have q1 := BX1.out 1; have q3 := BX3.out 0
  try simp only [List.getElem?_toArray, List.getElem?_cons_zero, List.getElem?_cons_succ] at q0 q1 q3
  refine late_start (fun W => Tch b3 w4 W ∧ W.cell? ⟨w3.heap.size, 0, none⟩ = some (.slice p3 d.Lines.length c3) ∧ W.cell? ⟨w.heap.size + 1, 0, none⟩ = some (.slice a1 l.Text.length k1) ∧ W.cell? ⟨w.heap.size + 1, 1, none⟩ = some (.int .i64 l.At)) 7 (by kernel_rfl) ?_ (fun hS => ?_)
  · exact ⟨(Tch.refl _ _).drew, HX3.out.out 0, HX1.out.out 0, HX1.out.out 1⟩
  refine late_take (i := 0) (v := ?_) rfl (by kernel_rfl) (fun _ _ _ h => h) (by rfl) ?_ (by assumption) ?_
  rotate_left
  · (intro w9 hS9; (try dsimp only at hS9); (try go_split_ands); go_simp <;> with_reducible rfl)
  try simp only [Act.put, List.setIfInBounds_toArray, List.set_cons_zero, List.set_cons_succ]
  refine late_take (i := 1) (v := ?_) rfl (by kernel_rfl) (fun _ _ _ h => h) (by rfl) ?_ (by assumption) ?_
  rotate_left
  · (intro w9 hS9; (try dsimp only at hS9); (try go_split_ands); go_simp <;> with_reducible rfl)
  try simp only [Act.put, List.setIfInBounds_toArray, List.set_cons_zero, List.set_cons_succ]
  refine late_take (i := 2) (v := ?_) rfl (by kernel_rfl) (fun _ _ _ h => h) (by rfl) ?_ (by assumption) ?_
  rotate_left
  · (intro w9 hS9; (try dsimp only at hS9); (try go_split_ands); go_simp <;> with_reducible rfl)
  try simp only [Act.put, List.setIfInBounds_toArray, List.set_cons_zero, List.set_cons_succ]
  refine late_one (i := 3) rfl (by kernel_rfl) (fun K9 hK9 => ?_)
  go_simp
  refine (s_l15Line (grow H2.out HBu.out.drew) hle).mono ?_
  rintro e wa ⟨v, b1, rfl, hO1, hb1⟩
  obtain ⟨p1, c1, rfl⟩ := hO1.slice
  obtain ⟨b1x, hb1x, hOw⟩ := hO1.own
  have hW : Below w4.heap.size w4 wa := ((Below.refl _ _).drew).trans (hb1.mono (by simp))
  have HOw := hid hOw
  have L1 : Hid (∀ b ∈ b1x, w4.heap.size ≤ b ∧ b < wa.heap.size) := hid (fun b hb => hO1.lts b (hb1x b hb))
  clear hO1 hOw hb1x
  go_wp2_with fail
  refine hK9.out _ _ (fun _ => ?_) (fun hS9 => ?_)
  · (try dsimp only); exact ⟨keepc hS.1 (Tch.of_below (bs := []) hb1) (fun x hx => by cases hx), cellc (Tch.of_below (bs := []) hb1) hS.2.1 (by simp), cellc (Tch.of_below (bs := []) hb1) hS.2.2.1 (by simp), cellc (Tch.of_below (bs := []) hb1) hS.2.2.2 (by simp)⟩
  replace hS := hS9 (by decide)
  clear hK9 K9 hS9
  try simp only [Act.put, List.setIfInBounds_toArray, List.set_cons_zero, List.set_cons_succ]
  refine late_one (i := 4) rfl (by kernel_rfl) (fun K9 hK9 => ?_)
  go_simp
  refine hK9.out _ _ (fun _ => ?_) (fun hS9 => ?_)
  · (try dsimp only); exact ⟨keepc hS.1 ((Tch.refl [] _).alloc _) (fun x hx => by cases hx), cellc ((Tch.refl [] _).alloc _) hS.2.1 (by simp), cellc ((Tch.refl [] _).alloc _) hS.2.2.1 (by simp), cellc ((Tch.refl [] _).alloc _) hS.2.2.2 (by simp)⟩
  replace hS := hS9 (by decide)
  clear hK9 K9 hS9
  try simp only [Act.put, List.setIfInBounds_toArray, List.set_cons_zero, List.set_cons_succ]
  refine late_one (i := 5) rfl (by kernel_rfl) (fun K9 hK9 => ?_)
  refine step_append rfl _ _ 104 rfl 81 i0 (.agg #[.slice none 0 0, .int .i64 0]) 32 Try.underlying104 hi hz0 hz1 hz2 rfl (lo := w2.heap.size) (bs := b3) (xs := d.Lines) rfl ?own (b2 := b1x) (ys := [l]) rfl ?src ?nd ?f2 ?q2 ?q3 ?q4 ?_
  case own => exact (HOu.out.grow hW).alloc _
  case src => exact src_new (mk_Line (d := l) (pt_slice.1 HOw.out.1) g1) rfl _ _
  case nd => exact HOw.out.2.1
  case f2 => exact fun b hb => ⟨by have := (L1.out b hb).1; omega, (HOw.out.2.2 b hb).2.keep (Below.heap_alloc _ _ _ (L1.out b hb).2), fun hm => by have := (L1.out b hb).1; have := (NB.out b hm).2; omega⟩
  case q2 => simp; omega
  case q3 => simp; omega
  case q4 => have := hW.size; simp; omega
  intro p5 c5 w5 b5 hO5 hT5 hm5
  simp only [List.length_cons, List.length_nil, Nat.zero_add] at hO5 ⊢
  refine hK9.out _ _ (fun _ => ?_) (fun hS9 => ?_)
  · (try dsimp only); exact ⟨keepc hS.1 hT5 (fun x hx => .inl hx), cellc hT5 hS.2.1 nA, cellc hT5 hS.2.2.1 nL, cellc hT5 hS.2.2.2 nL⟩
  replace hS := hS9 (by decide)
  clear hK9 K9 hS9
  try simp only [Act.put, List.setIfInBounds_toArray, List.set_cons_zero, List.set_cons_succ]
  refine late_take (i := 6) (v := ?_) rfl (by kernel_rfl) (fun _ _ _ h => h) (by rfl) ?_ (by assumption) ?_
  rotate_left
  · (intro w9 hS9; (try dsimp only at hS9); (try go_split_ands); go_simp <;> with_reducible rfl)
  try simp only [Act.put, List.setIfInBounds_toArray, List.set_cons_zero, List.set_cons_succ]
  refine late_one (i := 7) rfl (by kernel_rfl) (fun K9 hK9 => ?_)
  have hT := hS.1
  have e1 := hS.2.1
  have hF := HX3.out.f.keep (hT.block _ hU3 nA)
  have hf := hF.frozen 0
  have B2x := HX2.out.keep (hT.block (w.heap.size + 1 + 1) (by omega) n2)
  have B2xo := B2x.out; have B2xf := B2x.fr
  have hz5 := hT.size
  have HB5 : Hid (Below w.heap.size w w5) := hid (HBu.out.trans (hT.below HBu.out.size (fun x hx => by have := (NB.out x hx).1; omega)))
  have HO5 := hid hO5
  have L5 : Hid (∀ b ∈ b5, b ≠ w3.heap.size ∧ b ≠ w.heap.size + 1 + 1) := hid fun b hb => by
    have h9 := (hO5.lts b hb).1
    refine ⟨?_, by omega⟩
    rintro rfl
    rcases hm5 _ hb with h | h | h
    · exact nA h
    · have := (L1.out _ h).1; omega
    · have := hW.size; simp at h; omega
  obtain ⟨b6, hb6, hOw6⟩ := hO5.own
  have HW6 := hid hOw6
  clear hO5 hT5 hm5 hT hS hF hOw6 hb1 hW q0 q1 q3 BX1 BX2 BX3
  go_simp
  refine hK9.out _ _ (fun h => absurd rfl h) (fun _ => ?_)
  clear hK9 K9
  try simp only [Act.put, List.setIfInBounds_toArray, List.set_cons_zero, List.set_cons_succ]
  refine late_done (by kernel_rfl) ?_ _
  by_cases h20 : 20 < d.Lines.length + 1
  · obtain ⟨p6, bS, hcut, hbS, hnS, hS6⟩ := HW6.out.slc.cut_l 104 Try.underlying104 hi hz1 1 (by omega) (by simp; try omega)
    simp only [Int.toNat_one, Nat.add_sub_cancel, List.length_append, List.length_cons, List.length_nil, Nat.zero_add] at hcut hS6
    have HS6 := hid (HW6.out.cutS hbS hnS hS6)
    have hbS2 := hid hbS
    clear hS6 hbS hnS
    have Hnew : Hid (undoNew d l = (d.Lines ++ [l]).drop 1) := hid (by simp [undoNew, h20])
    have hn20e : ((d.Lines.length : Int) == 20) = true := by
      have h9 : d.Lines.length = 20 := by omega
      rw [h9]; rfl
    go_wp2
    refine bodyPost_ret (v := .tuple #[.agg #[.slice p6 d.Lines.length (c5 - 1)], .bool true]) (by simp [results, Try.results124, go_sem, B2xo]) rfl ?_
    refine ⟨[.slice p6 d.Lines.length (c5 - 1)], bS, by rw [HZ.out.1], ?_, ?_⟩
    · rw [HZ.out.2, HSL.out]
      refine Own.mono (lo := w2.heap.size) ?_ (by omega)
      refine own_Undo (d := { Lines := undoNew d l }) ?_
      rw [show ({ Lines := undoNew d l } : UndoD).Lines = (d.Lines ++ [l]).drop 1 from Hnew.out]
      repeat (first | exact HS6.out | refine Own.setCell' _ ?_ (fun b hb => by have := L5.out b (hb6 b (hbS2.out b hb)); simp; omega))
    · repeat (first | exact HB5.out | refine Below.setCell ?_ (by simp; try omega) _)
  · have Hnew : Hid (undoNew d l = d.Lines ++ [l]) := hid (by simp [undoNew, h20])
    have hn20e : ((d.Lines.length : Int) == 20) = false := by rw [beq_eq_false_iff_ne]; omega
    go_wp2
    refine bodyPost_ret (v := .tuple #[.agg #[.slice p5 (d.Lines.length + 1) c5], .bool true]) (by simp [results, Try.results124, go_sem, B2xo]) rfl ?_
    refine ⟨[.slice p5 (d.Lines.length + 1) c5], b6, by rw [HZ.out.1], ?_, ?_⟩
    · rw [HZ.out.2, HSL.out]
      refine Own.mono (lo := w2.heap.size) ?_ (by omega)
      refine own_Undo (d := { Lines := undoNew d l }) ?_
      rw [show ({ Lines := undoNew d l } : UndoD).Lines = d.Lines ++ [l] from Hnew.out]
      repeat (first | exact (by simpa using HW6.out) | refine Own.setCell' _ ?_ (fun b hb => by have := L5.out b (hb6 b hb); simp; omega))
    · repeat (first | exact HB5.out | refine Below.setCell ?_ (by simp; try omega) _)
end Go.Proofs.Ytdfpjchneofndaa
