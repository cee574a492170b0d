/- Taking a line (printed by genundo.py). -/
import Derived.Test.YtdfpjchneofndaaUndoC
import Derived.Test.YtdfpjchneofndaaRune
import Derived.Test.YtdfpjchneofndaaLst
import Derived.Test.YtdfpjchneofndaaLate
import Derived.Test.YtdfpjchneofndaaSame
import Derived.Lib.MinMax
set_option linter.unusedSimpArgs false
set_option linter.unusedVariables false
namespace Go.Proofs.Ytdfpjchneofndaa
open Go.RowKit Go.G6
set_option maxHeartbeats 1600000
set_option maxRecDepth 10000
set_option maxHeartbeats 4000000 in
theorem i_UndoTake {w : World} {bs : List Nat} {cs : List Value} {d : UndoD} (h : Rep.pt w bs cs d) :
    Calls Try.prog 60 #[.agg cs.toArray] w (RetAAB w (undoTakeU d) (undoTakeL d) (.bool (undoTakeOk d))) := by
  have H := hid h
  obtain ⟨a0, l0, k0, rfl, h0⟩ := open_Undo h
  obtain rfl := h0.len_eq
  have hmx := h0.max
  clear h
  obtain ⟨i0, hi, hz0, hz1, hz2⟩ := info_parts info_Line
  cases hk : undoOk d
  · have HZ : Hid (undoTakeOk d = false ∧ undoTakeU d = undo0 ∧ undoTakeL d = line0) := hid (by simp [undoTakeU, undoTakeL, undoTakeOk, hk])
    have Hk := hid hk; clear hk
    go_enter Try.func60, Try.ntmps60
    go_wp2_with fail
    refine (i_UndoOk (grow H.out ?_)).mono ?_
    · exact ((((Below.refl _ _).alloc (Nat.le_refl _) _).alloc (by simp) _).alloc (by simp; omega) _)
    rintro e w1 ⟨rfl, hb⟩
    have B0 : Bx w1 (w.heap.size) _ := Bx.below (b := w.heap.size) hb (by first | omega | (simp; done) | (simp; omega)) (by repeat (first  | (apply Bx.new; (focus (first | (simp; done) | (simp; omega) | omega))) | (apply Bx.alloc; rotate_left; (focus (first | (simp; done) | (simp; omega) | omega))) | (apply Bx.setOther; rotate_left; (focus (first | (simp; done) | (simp; omega) | omega))) | apply Bx.setSame))
    have B0o := B0.out
    have B0f := B0.fr
    have B1 : Bx w1 (w.heap.size + 1) _ := Bx.below (b := w.heap.size + 1) hb (by first | omega | (simp; done) | (simp; omega)) (by repeat (first  | (apply Bx.new; (focus (first | (simp; done) | (simp; omega) | omega))) | (apply Bx.alloc; rotate_left; (focus (first | (simp; done) | (simp; omega) | omega))) | (apply Bx.setOther; rotate_left; (focus (first | (simp; done) | (simp; omega) | omega))) | apply Bx.setSame))
    have B1o := B1.out
    have B1f := B1.fr
    have B2 : Bx w1 (w.heap.size + 1 + 1) _ := Bx.below (b := w.heap.size + 1 + 1) hb (by first | omega | (simp; done) | (simp; omega)) (by repeat (first  | (apply Bx.new; (focus (first | (simp; done) | (simp; omega) | omega))) | (apply Bx.alloc; rotate_left; (focus (first | (simp; done) | (simp; omega) | omega))) | (apply Bx.setOther; rotate_left; (focus (first | (simp; done) | (simp; omega) | omega))) | apply Bx.setSame))
    have B2o := B2.out
    have B2f := B2.fr
    have HB := hid (below_call ((((Below.refl _ _).alloc (Nat.le_refl _) _).alloc (by simp) _).alloc (by simp; omega) _) hb)
    have hs1 : w.heap.size + 3 ≤ w1.heap.size := by have := hb.size; simpa using this
    clear hb
    rw [Hk.out]
    go_wp2
    refine bodyPost_ret (v := .tuple #[.agg #[.slice none 0 0], .agg #[.slice none 0 0, .int .i64 0], .bool false]) (by simp [results, Try.results60, go_sem, B1o, B2o]) rfl ?_
    refine ⟨[.slice none 0 0], [], [.slice none 0 0, .int .i64 0], [], by rw [HZ.out.1], ?_, ?_, by simp, ?_⟩
    · rw [HZ.out.2.1]; exact own_Undo (d := undo0) (own_nil _ _)
    · rw [HZ.out.2.2]; exact own_Line (d := line0) (own_nil _ _) (by simp [I64, line0])
    · repeat (first | exact HB.out | refine Below.setCell ?_ (by simp; try omega) _)
  have Hq := hid (undoOk_bounds hk)
  by_cases h00 : d.Lines.length = 0
  · have HZ : Hid (undoTakeOk d = false ∧ undoTakeU d = undo0 ∧ undoTakeL d = line0) := hid (by simp [undoTakeU, undoTakeL, undoTakeOk, h00])
    have he2 : ((d.Lines.length : Int) == 0) = true := by rw [h00]; rfl
    have Hk := hid hk; clear hk h00
    go_enter Try.func60, Try.ntmps60
    go_wp2_with fail
    refine (i_UndoOk (grow H.out ?_)).mono ?_
    · exact ((((Below.refl _ _).alloc (Nat.le_refl _) _).alloc (by simp) _).alloc (by simp; omega) _)
    rintro e w1 ⟨rfl, hb⟩
    have B0 : Bx w1 (w.heap.size) _ := Bx.below (b := w.heap.size) hb (by first | omega | (simp; done) | (simp; omega)) (by repeat (first  | (apply Bx.new; (focus (first | (simp; done) | (simp; omega) | omega))) | (apply Bx.alloc; rotate_left; (focus (first | (simp; done) | (simp; omega) | omega))) | (apply Bx.setOther; rotate_left; (focus (first | (simp; done) | (simp; omega) | omega))) | apply Bx.setSame))
    have B0o := B0.out
    have B0f := B0.fr
    have B1 : Bx w1 (w.heap.size + 1) _ := Bx.below (b := w.heap.size + 1) hb (by first | omega | (simp; done) | (simp; omega)) (by repeat (first  | (apply Bx.new; (focus (first | (simp; done) | (simp; omega) | omega))) | (apply Bx.alloc; rotate_left; (focus (first | (simp; done) | (simp; omega) | omega))) | (apply Bx.setOther; rotate_left; (focus (first | (simp; done) | (simp; omega) | omega))) | apply Bx.setSame))
    have B1o := B1.out
    have B1f := B1.fr
    have B2 : Bx w1 (w.heap.size + 1 + 1) _ := Bx.below (b := w.heap.size + 1 + 1) hb (by first | omega | (simp; done) | (simp; omega)) (by repeat (first  | (apply Bx.new; (focus (first | (simp; done) | (simp; omega) | omega))) | (apply Bx.alloc; rotate_left; (focus (first | (simp; done) | (simp; omega) | omega))) | (apply Bx.setOther; rotate_left; (focus (first | (simp; done) | (simp; omega) | omega))) | apply Bx.setSame))
    have B2o := B2.out
    have B2f := B2.fr
    have HB := hid (below_call ((((Below.refl _ _).alloc (Nat.le_refl _) _).alloc (by simp) _).alloc (by simp; omega) _) hb)
    have hs1 : w.heap.size + 3 ≤ w1.heap.size := by have := hb.size; simpa using this
    clear hb
    rw [Hk.out]
    go_wp2
    refine bodyPost_ret (v := .tuple #[.agg #[.slice none 0 0], .agg #[.slice none 0 0, .int .i64 0], .bool false]) (by simp [results, Try.results60, go_sem, B1o, B2o]) rfl ?_
    refine ⟨[.slice none 0 0], [], [.slice none 0 0, .int .i64 0], [], by rw [HZ.out.1], ?_, ?_, by simp, ?_⟩
    · rw [HZ.out.2.1]; exact own_Undo (d := undo0) (own_nil _ _)
    · rw [HZ.out.2.2]; exact own_Line (d := line0) (own_nil _ _) (by simp [I64, line0])
    · repeat (first | exact HB.out | refine Below.setCell ?_ (by simp; try omega) _)
  obtain ⟨m, hm⟩ : ∃ m, d.Lines.length = m + 1 := ⟨d.Lines.length - 1, by omega⟩
  have hlt : m < d.Lines.length := by omega
  have HZ : Hid (undoTakeOk d = true ∧ undoTakeU d = { Lines := d.Lines.take m } ∧ undoTakeL d = d.Lines[m]) := hid (undoTake_at hk hm)
  have he2 : ((d.Lines.length : Int) == 0) = false := by rw [beq_eq_false_iff_ne]; omega
  have Hk := hid hk; clear hk h00
  have hn20 := Hq.out.1
  have hsub : wrap64 ((d.Lines.length : Int) - 1) = (m : Int) := by rw [IntWalk.wrap64_in _ (by omega)]; omega
  have hsub2 : IntKind.i64.wrap ((d.Lines.length : Int) - 1) = (m : Int) := by rw [wrapI (by omega)]; omega
  have hm1 : (0 : Int) ≤ (m : Int) := by omega
  have hm2 : (m : Int) < (d.Lines.length : Int) := by omega
  have hle : d.Lines[m].Text.length ≤ 16777216 := by have := Hq.out.2.2 _ (List.getElem_mem hlt); omega
  have Hm := hid hm; clear hm
  obtain ⟨a', bS, hcut, _, _, hS⟩ := h0.cut_h 104 Try.underlying104 hi hz1 (m : Int) hm1 (by omega)
  simp only [Int.toNat_natCast] at hcut hS
  have HS := hid hS; clear hS
  obtain ⟨b, off, cs, bs', rfl, hbw, hp, _, hA⟩ := h0.elem m hlt
  obtain ⟨a1, l1, k1, rfl, g0, g1⟩ := open_Line hp
  obtain rfl := g0.len_eq
  have HE := hid hp
  have c0 : w.cell? ⟨b, off + m * 2, none⟩ = some _ := hA 0 _ rfl
  have c1 : w.cell? ⟨b, off + m * 2 + 1, none⟩ = some _ := hA 1 _ rfl
  clear hA hp g0
  have hcnt : Cnt.cnt ({ Lines := d.Lines.take m } : UndoD) ≤ 16777216 := by
    have h1 : d.Lines.length + nL Cnt.cnt d.Lines ≤ 16777216 := Hq.out.2.1
    have h2 := nL_take_le Cnt.cnt d.Lines m
    show (d.Lines.take m).length + nL Cnt.cnt (d.Lines.take m) ≤ _
    rw [List.length_take]; omega
  go_enter Try.func60, Try.ntmps60
  go_wp2_with fail
  refine (i_UndoOk (grow H.out ?_)).mono ?_
  · exact ((((Below.refl _ _).alloc (Nat.le_refl _) _).alloc (by simp) _).alloc (by simp; omega) _)
  rintro e w1 ⟨rfl, hb⟩
  have B0 : Bx w1 (w.heap.size) _ := Bx.below (b := w.heap.size) hb (by first | omega | (simp; done) | (simp; omega)) (by repeat (first  | (apply Bx.new; (focus (first | (simp; done) | (simp; omega) | omega))) | (apply Bx.alloc; rotate_left; (focus (first | (simp; done) | (simp; omega) | omega))) | (apply Bx.setOther; rotate_left; (focus (first | (simp; done) | (simp; omega) | omega))) | apply Bx.setSame))
  have B0o := B0.out
  have B0f := B0.fr
  have B1 : Bx w1 (w.heap.size + 1) _ := Bx.below (b := w.heap.size + 1) hb (by first | omega | (simp; done) | (simp; omega)) (by repeat (first  | (apply Bx.new; (focus (first | (simp; done) | (simp; omega) | omega))) | (apply Bx.alloc; rotate_left; (focus (first | (simp; done) | (simp; omega) | omega))) | (apply Bx.setOther; rotate_left; (focus (first | (simp; done) | (simp; omega) | omega))) | apply Bx.setSame))
  have B1o := B1.out
  have B1f := B1.fr
  have B2 : Bx w1 (w.heap.size + 1 + 1) _ := Bx.below (b := w.heap.size + 1 + 1) hb (by first | omega | (simp; done) | (simp; omega)) (by repeat (first  | (apply Bx.new; (focus (first | (simp; done) | (simp; omega) | omega))) | (apply Bx.alloc; rotate_left; (focus (first | (simp; done) | (simp; omega) | omega))) | (apply Bx.setOther; rotate_left; (focus (first | (simp; done) | (simp; omega) | omega))) | apply Bx.setSame))
  have B2o := B2.out
  have B2f := B2.fr
  have HB := hid (below_call ((((Below.refl _ _).alloc (Nat.le_refl _) _).alloc (by simp) _).alloc (by simp; omega) _) hb)
  have hs1 : w.heap.size + 3 ≤ w1.heap.size := by have := hb.size; simpa using this
  clear hb
  rw [Hk.out]
  go_wp2_with fail
  refine (i_copyUndo (d := { Lines := d.Lines.take m }) (mk_Undo (d := { Lines := d.Lines.take m }) (HS.out.grow HB.out)) hcnt).mono ?_
  rintro e w2 ⟨v2, b2, rfl, hO2, hb⟩
  obtain ⟨p2, c2, rfl⟩ := hO2.slice
  have hlm : (d.Lines.take m).length = m := by rw [List.length_take]; omega
  rw [hlm] at hO2 ⊢
  clear hlm
  replace B0 : Bx w2 (w.heap.size) _ := Bx.below (b := w.heap.size) hb (by first | omega | (simp; done) | (simp; omega)) (by repeat (first  | exact B0 | exact B1 | exact B2 | (apply Bx.new; (focus (first | (simp; done) | (simp; omega) | omega))) | (apply Bx.alloc; rotate_left; (focus (first | (simp; done) | (simp; omega) | omega))) | (apply Bx.setOther; rotate_left; (focus (first | (simp; done) | (simp; omega) | omega))) | apply Bx.setSame))
  replace B0o := B0.out
  replace B0f := B0.fr
  replace B1 : Bx w2 (w.heap.size + 1) _ := Bx.below (b := w.heap.size + 1) hb (by first | omega | (simp; done) | (simp; omega)) (by repeat (first  | exact B0 | exact B1 | exact B2 | (apply Bx.new; (focus (first | (simp; done) | (simp; omega) | omega))) | (apply Bx.alloc; rotate_left; (focus (first | (simp; done) | (simp; omega) | omega))) | (apply Bx.setOther; rotate_left; (focus (first | (simp; done) | (simp; omega) | omega))) | apply Bx.setSame))
  replace B1o := B1.out
  replace B1f := B1.fr
  replace B2 : Bx w2 (w.heap.size + 1 + 1) _ := Bx.below (b := w.heap.size + 1 + 1) hb (by first | omega | (simp; done) | (simp; omega)) (by repeat (first  | exact B0 | exact B1 | exact B2 | (apply Bx.new; (focus (first | (simp; done) | (simp; omega) | omega))) | (apply Bx.alloc; rotate_left; (focus (first | (simp; done) | (simp; omega) | omega))) | (apply Bx.setOther; rotate_left; (focus (first | (simp; done) | (simp; omega) | omega))) | apply Bx.setSame))
  replace B2o := B2.out
  replace B2f := B2.fr
  have HB2 := hid (below_call HB.out hb)
  have hs2 : w1.heap.size ≤ w2.heap.size := hb.size
  clear hb
  have HO2 := hid hO2; clear hO2
  have HBu := hid (HB2.out.alloc HB2.out.size (.cells #[.slice p2 m c2] 106))
  have BX1 : Bx (w2.alloc (.cells #[.slice p2 m c2] 106)) (w.heap.size + 1) _ := B1.alloc (by omega) _
  have BX2 : Bx (w2.alloc (.cells #[.slice p2 m c2] 106)) (w.heap.size + 1 + 1) _ := B2.alloc (by omega) _
  have e3 : (w2.alloc (.cells #[.slice p2 m c2] 106)).cell? ⟨w2.heap.size, 0, none⟩ = some (.slice p2 m c2) := World.cell?_alloc_new _ _ _ 0
  have e0 : (w2.alloc (.cells #[.slice p2 m c2] 106)).cell? ⟨w.heap.size, 0, none⟩ = some (.slice (some ⟨b, off, none⟩) d.Lines.length k0) := (B0.alloc (by omega) _).out 0
  have e1 := (HBu.out.cell (p := ⟨b, off + m * 2, none⟩) hbw).trans c0
  have e2 := (HBu.out.cell (p := ⟨b, off + m * 2 + 1, none⟩) hbw).trans c1
  clear c0 c1
  go_wp2_with fail
  go_region_held3 (fun W => Below w.heap.size w W ∧ W.cell? ⟨w2.heap.size, 0, none⟩ = some (.slice p2 m c2) ∧ W.cell? ⟨w.heap.size, 0, none⟩ = some (.slice (some ⟨b, off, none⟩) d.Lines.length k0) ∧ W.cell? ⟨b, off + m * 2, none⟩ = some (.slice a1 d.Lines[m].Text.length k1) ∧ W.cell? ⟨b, off + m * 2 + 1, none⟩ = some (.int .i64 d.Lines[m].At)) (first | exact ⟨HBu.out.drew, e3, e0, e1, e2⟩ | assumption | (go_split_ands; exact ⟨Below.trans (by assumption) (Below.mono hb2 (Below.size (by assumption))), cellc (Tch.of_below (bs := []) hb2) (by assumption) (by simp), cellc (Tch.of_below (bs := []) hb2) (by assumption) (by simp), cellc (Tch.of_below (bs := []) hb2) (by assumption) (by simp), cellc (Tch.of_below (bs := []) hb2) (by assumption) (by simp)⟩) | exact held4_set _ (held4_set _ (by assumption) (by first | (simp; done) | (simp; omega)) (by first | (simp; done) | (simp; omega)) (by first | (simp; done) | (simp; omega)) (by first | (simp; done) | (simp; omega)) (by first | (simp; done) | (simp; omega))) (by first | (simp; done) | (simp; omega)) (by first | (simp; done) | (simp; omega)) (by first | (simp; done) | (simp; omega)) (by first | (simp; done) | (simp; omega)) (by first | (simp; done) | (simp; omega)) | exact held4_set _ (by assumption) (by first | (simp; done) | (simp; omega)) (by first | (simp; done) | (simp; omega)) (by first | (simp; done) | (simp; omega)) (by first | (simp; done) | (simp; omega)) (by first | (simp; done) | (simp; omega))) (first | (go_at_call 128; refine (i_copyLine (grow HE.out (by go_split_ands; assumption)) hle).mono ?_; rintro e w3 ⟨v3, b3, rfl, hO3, hb2⟩; obtain ⟨p3, c3, rfl⟩ := hO3.slice; have HO3 := hid hO3; have qB1 := Bx.below hb2 (by simp; omega) BX1.drew; have qB2 := Bx.below hb2 (by simp; omega) BX2.drew; have HP2 := hid (((HO2.out.alloc (.cells #[.slice p2 m c2] 106)).drew).grow hb2); have HB3 := hid (HBu.out.drew.trans (hb2.mono HBu.out.size)); clear hO3; have q1 := qB1.out; have q1f := qB1.fr; have q2 := qB2.out; have q2f := qB2.fr))
  all_goals
    have L2 := hid HP2.out.lts; have L3 := hid HO3.out.lts
    go_wp2
    refine bodyPost_ret (v := .tuple #[.agg #[.slice p2 m c2], .agg #[.slice p3 d.Lines[m].Text.length c3, .int .i64 d.Lines[m].At], .bool true]) (by simp [results, Try.results60, go_sem, q1, q2]) rfl ?_
    obtain ⟨b2x, hb2x, hOw2⟩ := HP2.out.own
    obtain ⟨b3x, hb3x, hOw3⟩ := HO3.out.own
    have L2b := HO2.out.lts
    refine ⟨[.slice p2 m c2], b2x, [.slice p3 d.Lines[m].Text.length c3, .int .i64 d.Lines[m].At], b3x, by rw [HZ.out.1], ?_, ?_, ?_, ?_⟩
    · rw [HZ.out.2.1]
      refine Own.mono (lo := w1.heap.size) ?_ (by omega)
      refine own_Undo (d := { Lines := d.Lines.take m }) ?_
      repeat (first | exact hOw2 | refine Own.setCell' _ ?_ (fun b hb => by have := L2.out b (hb2x b hb); simp; omega))
    · rw [HZ.out.2.2]
      refine Own.mono (lo := w1.heap.size) ?_ (by omega)
      refine own_Line (d := d.Lines[m]) ?_ g1
      refine Own.mono (lo := _) ?_ (show w1.heap.size ≤ w2.heap.size + 1 by omega)
      repeat (first | exact hOw3.mono (by simp) | refine Own.setCell' _ ?_ (fun b hb => by have := L3.out b (hb3x b hb); simp at this; simp; omega))
    · intro b h2 h3
      have := L2b b (hb2x b h2); have := L3.out b (hb3x b h3); simp at this; omega
    · repeat (first | exact HB3.out | refine Below.setCell ?_ (by simp; try omega) _)
end Go.Proofs.Ytdfpjchneofndaa
