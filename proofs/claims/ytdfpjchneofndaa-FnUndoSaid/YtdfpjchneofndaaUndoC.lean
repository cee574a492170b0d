/- Copies of lists of lines (printed by genundo.py). -/
import Derived.Test.YtdfpjchneofndaaUndo
import Derived.Test.YtdfpjchneofndaaRune
import Derived.Test.YtdfpjchneofndaaLst
import Derived.Test.YtdfpjchneofndaaLate
import Derived.Test.YtdfpjchneofndaaSame
import Derived.Lib.MinMax
set_option linter.unusedSimpArgs false
set_option linter.unusedVariables false
namespace Go.Proofs.Ytdfpjchneofndaa
open Go.RowKit Go.G6
set_option maxHeartbeats 1600000
set_option maxRecDepth 10000
set_option maxHeartbeats 3000000 in
theorem i_copyUndo {w : World} {bs : List Nat} {cs : List Value} {d : UndoD} (h : Rep.pt w bs cs d) (hn : Cnt.cnt d ≤ 16777216) :
    Calls Try.prog 126 #[.agg cs.toArray] w fun e w' => ∃ v bs', e = .returned (.agg #[v]) ∧ OwnL w.heap.size w' 81 v bs' d.Lines ∧ Below w.heap.size w w' := by
  obtain ⟨a0, l0, k0, rfl, h0⟩ := open_Undo h
  obtain rfl := h0.len_eq
  have hn1 : d.Lines.length + nL Cnt.cnt d.Lines ≤ 16777216 := hn
  obtain ⟨i0, hi, hz0, hz1, hz2⟩ := info_parts info_Line
  clear h
  go_enter Try.func126, Try.ntmps126
  go_wp2_with fail
  go_loopw [9] (fun i wr => ∃ (k : Nat) (p : Option Addr) (c : Nat) (b2 : List Nat), k ≤ d.Lines.length ∧ i = .int .i64 k ∧ OwnL (w.heap.size + 3) wr 81 (.slice p k c) b2 (d.Lines.take k) ∧ Bx wr (w.heap.size + 1) #[.slice none 0 0] ∧ Bx wr (w.heap.size + 1 + 1) #[.slice p k c] ∧ Below w.heap.size w wr ∧ w.heap.size + 3 ≤ wr.heap.size) (fun i _ => d.Lines.length - (intOf i).toNat)
  case atStart => exact ⟨0, none, 0, [], Nat.zero_le _, rfl, OwnL.nil _ _ _, (Bx.new _ _ _ (by simp)).alloc (by simp) _, Bx.new _ _ _ (by simp), (((Below.refl _ _).alloc (by simp) _).alloc (by simp) _).alloc (by simp; omega) _, by simp⟩
  case round =>
    obtain ⟨k, p, c, b2, hk, rfl, hO, hB1, hB2, hb, hz⟩ := hrel
    have HO := hid hO; have HB1 := hid hB1; have HB2 := hid hB2; have HB := hid hb
    clear hO hB1
    have B2o := hB2.out; have B2f := hB2.fr; clear hB2
    by_cases hlt : k < d.Lines.length
    · skip
      obtain ⟨b, off, cs, bs', rfl, hbw, hp, _, hA⟩ := (h0.grow hb).elem k hlt
      have HP := hid hp
      obtain ⟨a1, l1, k1, rfl, g0, g1⟩ := open_Line hp
      obtain rfl := g0.len_eq
      have G0 := hid g0
      have c0 : wr.cell? ⟨b, off + k * 2, none⟩ = some _ := hA 0 _ rfl
      have c1 : wr.cell? ⟨b, off + k * 2 + 1, none⟩ = some _ := hA 1 _ rfl
      clear hb hA hp g0
      have hle : d.Lines[k].Text.length ≤ 16777216 := by
        have h1 := nL_mem_le Cnt.cnt d.Lines k hlt
        have h2 : Cnt.cnt d.Lines[k] = d.Lines[k].Text.length := cnt_ints _
        omega
      go_wp2_with fail
      have hlts := HO.out.lts
      have n1 : w.heap.size + 1 + 1 ∉ b2 := fun hm => by have := (hlts _ hm).1; omega
      have n2 : wr.heap.size ∉ b2 := fun hm => by have := (hlts _ hm).2; omega
      have d1 : wr.cell? ⟨w.heap.size + 1 + 1, 0, none⟩ = some (.slice p k c) := B2o 0
      have d20 : (wr.alloc (.cells #[.slice a1 d.Lines[k].Text.length k1, .int .i64 d.Lines[k].At] 81)).cell? ⟨wr.heap.size, 0, none⟩ = some (.slice a1 d.Lines[k].Text.length k1) := World.cell?_alloc_new _ _ _ 0
      have d21 : (wr.alloc (.cells #[.slice a1 d.Lines[k].Text.length k1, .int .i64 d.Lines[k].At] 81)).cell? ⟨wr.heap.size, 1, none⟩ = some (.int .i64 d.Lines[k].At) := World.cell?_alloc_new _ _ _ 1
      refine late_start (fun W => Tch b2 (wr.alloc (.cells #[.slice a1 d.Lines[k].Text.length k1, .int .i64 d.Lines[k].At] 81)) W ∧ W.cell? ⟨w.heap.size + 1 + 1, 0, none⟩ = some (.slice p k c) ∧ W.cell? ⟨wr.heap.size, 0, none⟩ = some (.slice a1 d.Lines[k].Text.length k1) ∧ W.cell? ⟨wr.heap.size, 1, none⟩ = some (.int .i64 d.Lines[k].At)) 7 (by kernel_rfl) ?_ (fun hS => ?_)
      · exact ⟨(Tch.refl _ _).drew, (World.cell?_alloc_lt _ _ ⟨w.heap.size + 1 + 1, 0, none⟩ (by show w.heap.size + 1 + 1 < _; omega)).trans d1, d20, d21⟩
      refine late_take (i := 0) (v := ?_) rfl (by kernel_rfl) (fun _ _ _ h => h) (by rfl) ?_ (by assumption) ?_
      rotate_left
      · (intro w9 hS9; (try dsimp only at hS9); (try go_split_ands); go_simp <;> with_reducible rfl)
      try simp only [Act.put, List.setIfInBounds_toArray, List.set_cons_zero, List.set_cons_succ]
      refine late_take (i := 1) (v := ?_) rfl (by kernel_rfl) (fun _ _ _ h => h) (by rfl) ?_ (by assumption) ?_
      rotate_left
      · (intro w9 hS9; (try dsimp only at hS9); (try go_split_ands); go_simp <;> with_reducible rfl)
      try simp only [Act.put, List.setIfInBounds_toArray, List.set_cons_zero, List.set_cons_succ]
      refine late_take (i := 2) (v := ?_) rfl (by kernel_rfl) (fun _ _ _ h => h) (by rfl) ?_ (by assumption) ?_
      rotate_left
      · (intro w9 hS9; (try dsimp only at hS9); (try go_split_ands); go_simp <;> with_reducible rfl)
      try simp only [Act.put, List.setIfInBounds_toArray, List.set_cons_zero, List.set_cons_succ]
      refine late_one (i := 3) rfl (by kernel_rfl) (fun K9 hK9 => ?_)
      go_simp
      refine (i_copyLine (grow HP.out (((Below.refl _ _).alloc (Nat.le_refl _) _).drew)) hle).mono ?_
      rintro e wa ⟨v, b1, rfl, hO1, hb1⟩
      obtain ⟨p1, c1, rfl⟩ := hO1.slice
      obtain ⟨b1x, hb1x, hOw⟩ := hO1.own
      have hW : Below wr.heap.size wr wa := (((Below.refl _ _).alloc (Nat.le_refl _) _).drew).trans (hb1.mono (by simp))
      have HOw := hid hOw
      have L1 := hid (fun b hb => hO1.lts b (hb1x b hb))
      clear hO1 hOw hb1x
      go_wp2_with fail
      refine hK9.out _ _ (fun _ => ?_) (fun hS9 => ?_)
      · (try dsimp only); exact ⟨keepc hS.1 (Tch.of_below (bs := []) hb1) (fun x hx => by cases hx), cellc (Tch.of_below (bs := []) hb1) hS.2.1 (by simp), cellc (Tch.of_below (bs := []) hb1) hS.2.2.1 (by simp), cellc (Tch.of_below (bs := []) hb1) hS.2.2.2 (by simp)⟩
      replace hS := hS9 (by decide)
      clear hK9 K9 hS9
      try simp only [Act.put, List.setIfInBounds_toArray, List.set_cons_zero, List.set_cons_succ]
      refine late_one (i := 4) rfl (by kernel_rfl) (fun K9 hK9 => ?_)
      go_simp
      refine hK9.out _ _ (fun _ => ?_) (fun hS9 => ?_)
      · (try dsimp only); exact ⟨keepc hS.1 ((Tch.refl [] _).alloc _) (fun x hx => by cases hx), cellc ((Tch.refl [] _).alloc _) hS.2.1 (by simp), cellc ((Tch.refl [] _).alloc _) hS.2.2.1 (by simp), cellc ((Tch.refl [] _).alloc _) hS.2.2.2 (by simp)⟩
      replace hS := hS9 (by decide)
      clear hK9 K9 hS9
      try simp only [Act.put, List.setIfInBounds_toArray, List.set_cons_zero, List.set_cons_succ]
      refine late_one (i := 5) rfl (by kernel_rfl) (fun K9 hK9 => ?_)
      refine step_append rfl _ _ 104 rfl 81 i0 (.agg #[.slice none 0 0, .int .i64 0]) 32 Try.underlying104 hi hz0 hz1 hz2 rfl (lo := w.heap.size + 3) (bs := b2) (xs := d.Lines.take k) rfl ?own (b2 := b1x) (ys := [d.Lines[k]]) rfl ?src ?nd ?f2 ?q2 ?q3 ?q4 ?_
      case own => exact (HO.out.grow hW).alloc _
      case src => exact src_new (mk_Line (d := d.Lines[k]) (pt_slice.1 HOw.out.1) g1) rfl _ _
      case nd => exact HOw.out.2.1
      case f2 => exact fun b hb => ⟨by have q1 := (L1.out b hb).1; (try simp at q1); omega, (HOw.out.2.2 b hb).2.keep (Below.heap_alloc _ _ _ (Rep.lt HOw.out.1 b hb)), fun hm => by have q1 := (L1.out b hb).1; have q2 := (hlts b hm).2; (try simp at q1); omega⟩
      case q2 => simp; omega
      case q3 => simp; omega
      case q4 => have := hW.size; simp; omega
      intro p2 c2 w2 b3 hO2 hT2 hm2
      have hl : (d.Lines.take k).length + [d.Lines[k]].length = k + 1 := by simp; omega
      rw [hl] at hO2 ⊢
      rw [← List.take_succ_eq_append_getElem hlt] at hO2
      refine hK9.out _ _ (fun _ => ?_) (fun hS9 => ?_)
      · (try dsimp only); exact ⟨keepc hS.1 hT2 (fun x hx => .inl hx), cellc hT2 hS.2.1 n1, cellc hT2 hS.2.2.1 n2, cellc hT2 hS.2.2.2 n2⟩
      replace hS := hS9 (by decide)
      clear hK9 K9 hS9
      try simp only [Act.put, List.setIfInBounds_toArray, List.set_cons_zero, List.set_cons_succ]
      refine late_take (i := 6) (v := ?_) rfl (by kernel_rfl) (fun _ _ _ h => h) (by rfl) ?_ (by assumption) ?_
      rotate_left
      · (intro w9 hS9; (try dsimp only at hS9); (try go_split_ands); go_simp <;> with_reducible rfl)
      try simp only [Act.put, List.setIfInBounds_toArray, List.set_cons_zero, List.set_cons_succ]
      refine late_one (i := 7) rfl (by kernel_rfl) (fun K9 hK9 => ?_)
      have hT := hS.1
      have e1 := hS.2.1
      have hF : Fr w2 (w.heap.size + 1 + 1) := (HB2.out.f.keep (Below.heap_alloc _ _ _ (by omega))).keep (hT.block _ (by simp; omega) n1)
      have hf := hF.frozen 0
      have HO2 := hid hO2; have HT := hid hT
      clear hT2 hm2 hO2 hS hT
      go_simp
      refine hK9.out _ _ (fun h => absurd rfl h) (fun _ => ?_)
      clear hK9 K9
      try simp only [Act.put, List.setIfInBounds_toArray, List.set_cons_zero, List.set_cons_succ]
      refine late_done (by kernel_rfl) ?_ _
      have HX1 := hid (HB1.out.keep ((HT.out.block (w.heap.size + 1) (by simp; omega) (fun hm => by have := (hlts _ hm).1; omega)).trans (Below.heap_alloc _ _ _ (by omega))))
      have HX2 := hid (HB2.out.keep ((HT.out.block (w.heap.size + 1 + 1) (by simp; omega) n1).trans (Below.heap_alloc _ _ _ (by omega))))
      have HB3 := hid ((HB.out.alloc (by have := HB.out.size; omega) (.cells #[.slice a1 d.Lines[k].Text.length k1, .int .i64 d.Lines[k].At] 81)).trans (HT.out.below (by simp; omega) (fun x hx => by have := (hlts x hx).1; omega)))
      have hz2 := HT.out.size
      simp at hz2
      clear hlts n1 n2 d1 d20 d21 HT hF e1 hf B2o B2f
      go_wp2
      refine ⟨⟨k + 1, p2, c2, b3, by omega, rfl, HO2.out.setLow (by show w.heap.size + 1 + 1 < _; omega) _, HX1.out.setOther (by simp) _, HX2.out.setSame 0 _, HB3.out.setCell (by show w.heap.size ≤ w.heap.size + 1 + 1; omega) _, by simp; omega⟩, by simp [intOf]; omega⟩
    · obtain rfl : k = d.Lines.length := by omega
      have B1o := HB1.out.out; have B1f := HB1.out.fr
      clear hb
      go_wp2
      refine bodyPost_ret (v := .agg #[.slice p d.Lines.length c]) (by simp [results, Try.results126, go_sem, B1o]) rfl ?_
      have hO := HO.out
      rw [List.take_length] at hO
      exact ⟨_, b2, rfl, (hO.setLow (by show w.heap.size + 1 < _; omega) _).mono (by omega), HB.out.setCell (by simp) _⟩
set_option maxHeartbeats 3000000 in
theorem s_l15Lines {w : World} {bs : List Nat} {cs : List Value} {d : UndoD} (h : Rep.pt w bs cs d) (hn : Cnt.cnt d ≤ 16777216) :
    Calls Try.prog 166 #[.agg cs.toArray] w fun e w' => ∃ v bs', e = .returned (.agg #[v]) ∧ OwnL w.heap.size w' 81 v bs' d.Lines ∧ Below w.heap.size w w' := by
  obtain ⟨a0, l0, k0, rfl, h0⟩ := open_Undo h
  obtain rfl := h0.len_eq
  have hn1 : d.Lines.length + nL Cnt.cnt d.Lines ≤ 16777216 := hn
  obtain ⟨i0, hi, hz0, hz1, hz2⟩ := info_parts info_Line
  clear h
  go_enter Try.func166, Try.ntmps166
  go_wp2_with fail
  go_loopw [10] (fun i wr => ∃ (k : Nat) (p : Option Addr) (c : Nat) (b2 : List Nat), k ≤ d.Lines.length ∧ i = .int .i64 k ∧ OwnL (w.heap.size + 3) wr 81 (.slice p k c) b2 (d.Lines.take k) ∧ Bx wr (w.heap.size + 1) #[.slice none 0 0] ∧ Bx wr (w.heap.size + 1 + 1) #[.slice p k c] ∧ Below w.heap.size w wr ∧ w.heap.size + 3 ≤ wr.heap.size) (fun i _ => d.Lines.length - (intOf i).toNat)
  case atStart => exact ⟨0, none, 0, [], Nat.zero_le _, rfl, OwnL.nil _ _ _, (Bx.new _ _ _ (by simp)).alloc (by simp) _, Bx.new _ _ _ (by simp), (((Below.refl _ _).alloc (by simp) _).alloc (by simp) _).alloc (by simp; omega) _, by simp⟩
  case round =>
    obtain ⟨k, p, c, b2, hk, rfl, hO, hB1, hB2, hb, hz⟩ := hrel
    have HO := hid hO; have HB1 := hid hB1; have HB2 := hid hB2; have HB := hid hb
    clear hO hB1
    have B2o := hB2.out; have B2f := hB2.fr; clear hB2
    by_cases hlt : k < d.Lines.length
    · skip
      obtain ⟨b, off, cs, bs', rfl, hbw, hp, _, hA⟩ := (h0.grow hb).elem k hlt
      have HP := hid hp
      obtain ⟨a1, l1, k1, rfl, g0, g1⟩ := open_Line hp
      obtain rfl := g0.len_eq
      have G0 := hid g0
      have c0 : wr.cell? ⟨b, off + k * 2, none⟩ = some _ := hA 0 _ rfl
      have c1 : wr.cell? ⟨b, off + k * 2 + 1, none⟩ = some _ := hA 1 _ rfl
      clear hb hA hp g0
      have hle : d.Lines[k].Text.length ≤ 16777216 := by
        have h1 := nL_mem_le Cnt.cnt d.Lines k hlt
        have h2 : Cnt.cnt d.Lines[k] = d.Lines[k].Text.length := cnt_ints _
        omega
      go_wp2_with fail
      have hlts := HO.out.lts
      have n1 : w.heap.size + 1 + 1 ∉ b2 := fun hm => by have := (hlts _ hm).1; omega
      have n2 : wr.heap.size ∉ b2 := fun hm => by have := (hlts _ hm).2; omega
      have d1 : wr.cell? ⟨w.heap.size + 1 + 1, 0, none⟩ = some (.slice p k c) := B2o 0
      have d20 : (wr.alloc (.cells #[.slice a1 d.Lines[k].Text.length k1, .int .i64 d.Lines[k].At] 81)).cell? ⟨wr.heap.size, 0, none⟩ = some (.slice a1 d.Lines[k].Text.length k1) := World.cell?_alloc_new _ _ _ 0
      have d21 : (wr.alloc (.cells #[.slice a1 d.Lines[k].Text.length k1, .int .i64 d.Lines[k].At] 81)).cell? ⟨wr.heap.size, 1, none⟩ = some (.int .i64 d.Lines[k].At) := World.cell?_alloc_new _ _ _ 1
      refine late_start (fun W => Tch b2 (wr.alloc (.cells #[.slice a1 d.Lines[k].Text.length k1, .int .i64 d.Lines[k].At] 81)) W ∧ W.cell? ⟨w.heap.size + 1 + 1, 0, none⟩ = some (.slice p k c) ∧ W.cell? ⟨wr.heap.size, 0, none⟩ = some (.slice a1 d.Lines[k].Text.length k1) ∧ W.cell? ⟨wr.heap.size, 1, none⟩ = some (.int .i64 d.Lines[k].At)) 7 (by kernel_rfl) ?_ (fun hS => ?_)
      · exact ⟨(Tch.refl _ _).drew, (World.cell?_alloc_lt _ _ ⟨w.heap.size + 1 + 1, 0, none⟩ (by show w.heap.size + 1 + 1 < _; omega)).trans d1, d20, d21⟩
      refine late_take (i := 0) (v := ?_) rfl (by kernel_rfl) (fun _ _ _ h => h) (by rfl) ?_ (by assumption) ?_
      rotate_left
      · (intro w9 hS9; (try dsimp only at hS9); (try go_split_ands); go_simp <;> with_reducible rfl)
      try simp only [Act.put, List.setIfInBounds_toArray, List.set_cons_zero, List.set_cons_succ]
      refine late_take (i := 1) (v := ?_) rfl (by kernel_rfl) (fun _ _ _ h => h) (by rfl) ?_ (by assumption) ?_
      rotate_left
      · (intro w9 hS9; (try dsimp only at hS9); (try go_split_ands); go_simp <;> with_reducible rfl)
      try simp only [Act.put, List.setIfInBounds_toArray, List.set_cons_zero, List.set_cons_succ]
      refine late_take (i := 2) (v := ?_) rfl (by kernel_rfl) (fun _ _ _ h => h) (by rfl) ?_ (by assumption) ?_
      rotate_left
      · (intro w9 hS9; (try dsimp only at hS9); (try go_split_ands); go_simp <;> with_reducible rfl)
      try simp only [Act.put, List.setIfInBounds_toArray, List.set_cons_zero, List.set_cons_succ]
      refine late_one (i := 3) rfl (by kernel_rfl) (fun K9 hK9 => ?_)
      go_simp
      refine (s_l15Line (grow HP.out (((Below.refl _ _).alloc (Nat.le_refl _) _).drew)) hle).mono ?_
      rintro e wa ⟨v, b1, rfl, hO1, hb1⟩
      obtain ⟨p1, c1, rfl⟩ := hO1.slice
      obtain ⟨b1x, hb1x, hOw⟩ := hO1.own
      have hW : Below wr.heap.size wr wa := (((Below.refl _ _).alloc (Nat.le_refl _) _).drew).trans (hb1.mono (by simp))
      have HOw := hid hOw
      have L1 := hid (fun b hb => hO1.lts b (hb1x b hb))
      clear hO1 hOw hb1x
      go_wp2_with fail
      refine hK9.out _ _ (fun _ => ?_) (fun hS9 => ?_)
      · (try dsimp only); exact ⟨keepc hS.1 (Tch.of_below (bs := []) hb1) (fun x hx => by cases hx), cellc (Tch.of_below (bs := []) hb1) hS.2.1 (by simp), cellc (Tch.of_below (bs := []) hb1) hS.2.2.1 (by simp), cellc (Tch.of_below (bs := []) hb1) hS.2.2.2 (by simp)⟩
      replace hS := hS9 (by decide)
      clear hK9 K9 hS9
      try simp only [Act.put, List.setIfInBounds_toArray, List.set_cons_zero, List.set_cons_succ]
      refine late_one (i := 4) rfl (by kernel_rfl) (fun K9 hK9 => ?_)
      go_simp
      refine hK9.out _ _ (fun _ => ?_) (fun hS9 => ?_)
      · (try dsimp only); exact ⟨keepc hS.1 ((Tch.refl [] _).alloc _) (fun x hx => by cases hx), cellc ((Tch.refl [] _).alloc _) hS.2.1 (by simp), cellc ((Tch.refl [] _).alloc _) hS.2.2.1 (by simp), cellc ((Tch.refl [] _).alloc _) hS.2.2.2 (by simp)⟩
      replace hS := hS9 (by decide)
      clear hK9 K9 hS9
      try simp only [Act.put, List.setIfInBounds_toArray, List.set_cons_zero, List.set_cons_succ]
      refine late_one (i := 5) rfl (by kernel_rfl) (fun K9 hK9 => ?_)
      refine step_append rfl _ _ 104 rfl 81 i0 (.agg #[.slice none 0 0, .int .i64 0]) 32 Try.underlying104 hi hz0 hz1 hz2 rfl (lo := w.heap.size + 3) (bs := b2) (xs := d.Lines.take k) rfl ?own (b2 := b1x) (ys := [d.Lines[k]]) rfl ?src ?nd ?f2 ?q2 ?q3 ?q4 ?_
      case own => exact (HO.out.grow hW).alloc _
      case src => exact src_new (mk_Line (d := d.Lines[k]) (pt_slice.1 HOw.out.1) g1) rfl _ _
      case nd => exact HOw.out.2.1
      case f2 => exact fun b hb => ⟨by have q1 := (L1.out b hb).1; (try simp at q1); omega, (HOw.out.2.2 b hb).2.keep (Below.heap_alloc _ _ _ (Rep.lt HOw.out.1 b hb)), fun hm => by have q1 := (L1.out b hb).1; have q2 := (hlts b hm).2; (try simp at q1); omega⟩
      case q2 => simp; omega
      case q3 => simp; omega
      case q4 => have := hW.size; simp; omega
      intro p2 c2 w2 b3 hO2 hT2 hm2
      have hl : (d.Lines.take k).length + [d.Lines[k]].length = k + 1 := by simp; omega
      rw [hl] at hO2 ⊢
      rw [← List.take_succ_eq_append_getElem hlt] at hO2
      refine hK9.out _ _ (fun _ => ?_) (fun hS9 => ?_)
      · (try dsimp only); exact ⟨keepc hS.1 hT2 (fun x hx => .inl hx), cellc hT2 hS.2.1 n1, cellc hT2 hS.2.2.1 n2, cellc hT2 hS.2.2.2 n2⟩
      replace hS := hS9 (by decide)
      clear hK9 K9 hS9
      try simp only [Act.put, List.setIfInBounds_toArray, List.set_cons_zero, List.set_cons_succ]
      refine late_take (i := 6) (v := ?_) rfl (by kernel_rfl) (fun _ _ _ h => h) (by rfl) ?_ (by assumption) ?_
      rotate_left
      · (intro w9 hS9; (try dsimp only at hS9); (try go_split_ands); go_simp <;> with_reducible rfl)
      try simp only [Act.put, List.setIfInBounds_toArray, List.set_cons_zero, List.set_cons_succ]
      refine late_one (i := 7) rfl (by kernel_rfl) (fun K9 hK9 => ?_)
      have hT := hS.1
      have e1 := hS.2.1
      have hF : Fr w2 (w.heap.size + 1 + 1) := (HB2.out.f.keep (Below.heap_alloc _ _ _ (by omega))).keep (hT.block _ (by simp; omega) n1)
      have hf := hF.frozen 0
      have HO2 := hid hO2; have HT := hid hT
      clear hT2 hm2 hO2 hS hT
      go_simp
      refine hK9.out _ _ (fun h => absurd rfl h) (fun _ => ?_)
      clear hK9 K9
      try simp only [Act.put, List.setIfInBounds_toArray, List.set_cons_zero, List.set_cons_succ]
      refine late_done (by kernel_rfl) ?_ _
      have HX1 := hid (HB1.out.keep ((HT.out.block (w.heap.size + 1) (by simp; omega) (fun hm => by have := (hlts _ hm).1; omega)).trans (Below.heap_alloc _ _ _ (by omega))))
      have HX2 := hid (HB2.out.keep ((HT.out.block (w.heap.size + 1 + 1) (by simp; omega) n1).trans (Below.heap_alloc _ _ _ (by omega))))
      have HB3 := hid ((HB.out.alloc (by have := HB.out.size; omega) (.cells #[.slice a1 d.Lines[k].Text.length k1, .int .i64 d.Lines[k].At] 81)).trans (HT.out.below (by simp; omega) (fun x hx => by have := (hlts x hx).1; omega)))
      have hz2 := HT.out.size
      simp at hz2
      clear hlts n1 n2 d1 d20 d21 HT hF e1 hf B2o B2f
      go_wp2
      refine ⟨⟨k + 1, p2, c2, b3, by omega, rfl, HO2.out.setLow (by show w.heap.size + 1 + 1 < _; omega) _, HX1.out.setOther (by simp) _, HX2.out.setSame 0 _, HB3.out.setCell (by show w.heap.size ≤ w.heap.size + 1 + 1; omega) _, by simp; omega⟩, by simp [intOf]; omega⟩
    · obtain rfl : k = d.Lines.length := by omega
      have B1o := HB1.out.out; have B1f := HB1.out.fr
      clear hb
      go_wp2
      refine bodyPost_ret (v := .agg #[.slice p d.Lines.length c]) (by simp [results, Try.results166, go_sem, B1o]) rfl ?_
      have hO := HO.out
      rw [List.take_length] at hO
      exact ⟨_, b2, rfl, (hO.setLow (by show w.heap.size + 1 < _; omega) _).mono (by omega), HB.out.setCell (by simp) _⟩
end Go.Proofs.Ytdfpjchneofndaa
