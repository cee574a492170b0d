/- Copies of rings (printed by genring.py). -/
import Derived.Test.YtgcdgkiefbbhkaaRing
import Derived.Test.YtgcdgkiefbbhkaaRune
import Derived.Test.YtgcdgkiefbbhkaaLst
import Derived.Test.YtgcdgkiefbbhkaaLate
import Derived.Lib.MinMax
set_option linter.unusedSimpArgs false
set_option linter.unusedVariables false
namespace Go.Proofs.Ytgcdgkiefbbhkaa
open Go.RowKit Go.G6
set_option maxHeartbeats 1600000
set_option maxRecDepth 10000
set_option maxHeartbeats 3000000 in
theorem i_copyRing {w : World} {bs : List Nat} {cs : List Value} {d : RingD} (h : Rep.pt w bs cs d) (hn : Cnt.cnt d ≤ 16777216) :
    Calls Try.prog 58 #[.agg cs.toArray] w fun e w' => ∃ v bs', e = .returned (.agg #[v]) ∧ OwnL w.heap.size w' 74 v bs' d.Pieces ∧ Below w.heap.size w w' := by
  obtain ⟨a0, l0, k0, rfl, h0⟩ := open_Ring h
  obtain rfl := h0.len_eq
  have hn1 : d.Pieces.length + nL Cnt.cnt d.Pieces ≤ 16777216 := hn
  obtain ⟨i0, hi, hz0, hz1, hz2⟩ := info_parts info_Piece
  clear h
  go_enter Try.func58, Try.ntmps58
  go_wp2_with fail
  go_loopw [9] (fun i wr => ∃ (k : Nat) (p : Option Addr) (c : Nat) (b2 : List Nat), k ≤ d.Pieces.length ∧ i = .int .i64 k ∧ OwnL (w.heap.size + 3) wr 74 (.slice p k c) b2 (d.Pieces.take k) ∧ Bx wr (w.heap.size + 1) #[.slice none 0 0] ∧ Bx wr (w.heap.size + 1 + 1) #[.slice p k c] ∧ Below w.heap.size w wr ∧ w.heap.size + 3 ≤ wr.heap.size) (fun i _ => d.Pieces.length - (intOf i).toNat)
  case atStart => exact ⟨0, none, 0, [], Nat.zero_le _, rfl, OwnL.nil _ _ _, (Bx.new _ _ _ (by simp)).alloc (by simp) _, Bx.new _ _ _ (by simp), (((Below.refl _ _).alloc (by simp) _).alloc (by simp) _).alloc (by simp; omega) _, by simp⟩
  case round =>
    obtain ⟨k, p, c, b2, hk, rfl, hO, hB1, hB2, hb, hz⟩ := hrel
    have HO := hid hO; have HB1 := hid hB1; have HB2 := hid hB2; have HB := hid hb
    clear hO hB1
    have B2o := hB2.out; have B2f := hB2.fr; clear hB2
    by_cases hlt : k < d.Pieces.length
    · skip
      obtain ⟨b, off, cs, bs', rfl, hbw, hp, _, hA⟩ := (h0.grow hb).elem k hlt
      have HP := hid hp
      obtain ⟨a1, l1, k1, rfl, g0⟩ := open_Piece hp
      obtain rfl := g0.len_eq
      have G0 := hid g0
      have c0 : wr.cell? ⟨b, off + k, none⟩ = some _ := (by have q := hA 0 _ rfl; rw [show off + k * Rep.size PieceD + 0 = off + k from (by show off + k * 1 + 0 = off + k; omega)] at q; exact q)
      clear hb hA hp g0
      have hle : d.Pieces[k].Text.length ≤ 16777216 := by
        have h1 := nL_mem_le Cnt.cnt d.Pieces k hlt
        have h2 : Cnt.cnt d.Pieces[k] = d.Pieces[k].Text.length := cnt_ints _
        omega
      go_wp2_with fail
      have hlts := HO.out.lts
      have n1 : w.heap.size + 1 + 1 ∉ b2 := fun hm => by have := (hlts _ hm).1; omega
      have n2 : wr.heap.size ∉ b2 := fun hm => by have := (hlts _ hm).2; omega
      have d1 : wr.cell? ⟨w.heap.size + 1 + 1, 0, none⟩ = some (.slice p k c) := B2o 0
      have d20 : (wr.alloc (.cells #[.slice a1 d.Pieces[k].Text.length k1] 74)).cell? ⟨wr.heap.size, 0, none⟩ = some (.slice a1 d.Pieces[k].Text.length k1) := World.cell?_alloc_new _ _ _ 0
      refine late_start (fun W => Tch b2 (wr.alloc (.cells #[.slice a1 d.Pieces[k].Text.length k1] 74)) W ∧ W.cell? ⟨w.heap.size + 1 + 1, 0, none⟩ = some (.slice p k c) ∧ W.cell? ⟨wr.heap.size, 0, none⟩ = some (.slice a1 d.Pieces[k].Text.length k1)) 9 (by kernel_rfl) ?_ (fun hS => ?_)
      · exact ⟨(Tch.refl _ _).drew, (World.cell?_alloc_lt _ _ ⟨w.heap.size + 1 + 1, 0, none⟩ (by show w.heap.size + 1 + 1 < _; omega)).trans d1, d20⟩
      refine late_take (i := 0) (v := ?_) rfl (by kernel_rfl) (fun _ _ _ h => h) (by rfl) ?_ (by assumption) ?_
      rotate_left
      · (intro w9 hS9; (try dsimp only at hS9); (try go_split_ands); go_simp <;> with_reducible rfl)
      try simp only [Act.put, List.setIfInBounds_toArray, List.set_cons_zero, List.set_cons_succ]
      refine late_take (i := 1) (v := ?_) rfl (by kernel_rfl) (fun _ _ _ h => h) (by rfl) ?_ (by assumption) ?_
      rotate_left
      · (intro w9 hS9; (try dsimp only at hS9); (try go_split_ands); go_simp <;> with_reducible rfl)
      try simp only [Act.put, List.setIfInBounds_toArray, List.set_cons_zero, List.set_cons_succ]
      refine late_take (i := 2) (v := ?_) rfl (by kernel_rfl) (fun _ _ _ h => h) (by rfl) ?_ (by assumption) ?_
      rotate_left
      · (intro w9 hS9; (try dsimp only at hS9); (try go_split_ands); go_simp <;> with_reducible rfl)
      try simp only [Act.put, List.setIfInBounds_toArray, List.set_cons_zero, List.set_cons_succ]
      refine late_take (i := 3) (v := ?_) rfl (by kernel_rfl) (fun _ _ _ h => h) (by rfl) ?_ (by assumption) ?_
      rotate_left
      · (intro w9 hS9; (try dsimp only at hS9); (try go_split_ands); go_simp <;> with_reducible rfl)
      try simp only [Act.put, List.setIfInBounds_toArray, List.set_cons_zero, List.set_cons_succ]
      refine late_one (i := 4) rfl (by kernel_rfl) (fun K9 hK9 => ?_)
      go_simp
      refine (i_copyInts (G0.out.grow (((Below.refl _ _).alloc (Nat.le_refl _) _).drew)) hle).mono ?_
      rintro e wa ⟨v, b1, rfl, hO1, hb1⟩
      obtain ⟨p1, c1, rfl⟩ := hO1.slice
      obtain ⟨b1x, hb1x, hOw⟩ := hO1.own
      have hW : Below wr.heap.size wr wa := (((Below.refl _ _).alloc (Nat.le_refl _) _).drew).trans (hb1.mono (by simp))
      have HOw := hid hOw
      have L1 := hid (fun b hb => hO1.lts b (hb1x b hb))
      clear hO1 hOw hb1x
      go_wp2_with fail
      refine hK9.out _ _ (fun _ => ?_) (fun hS9 => ?_)
      · (try dsimp only); exact ⟨keepc hS.1 (Tch.of_below (bs := []) hb1) (fun x hx => by cases hx), cellc (Tch.of_below (bs := []) hb1) hS.2.1 (by simp), cellc (Tch.of_below (bs := []) hb1) hS.2.2 (by simp)⟩
      replace hS := hS9 (by decide)
      clear hK9 K9 hS9
      try simp only [Act.put, List.setIfInBounds_toArray, List.set_cons_zero, List.set_cons_succ]
      refine late_take (i := 5) (v := ?_) rfl (by kernel_rfl) (fun _ _ _ h => h) (by rfl) ?_ (by assumption) ?_
      rotate_left
      · (intro w9 hS9; (try dsimp only at hS9); (try go_split_ands); go_simp <;> with_reducible rfl)
      try simp only [Act.put, List.setIfInBounds_toArray, List.set_cons_zero, List.set_cons_succ]
      refine late_one (i := 6) rfl (by kernel_rfl) (fun K9 hK9 => ?_)
      go_simp
      refine hK9.out _ _ (fun _ => ?_) (fun hS9 => ?_)
      · (try dsimp only); exact ⟨keepc hS.1 ((Tch.refl [] _).alloc _) (fun x hx => by cases hx), cellc ((Tch.refl [] _).alloc _) hS.2.1 (by simp), cellc ((Tch.refl [] _).alloc _) hS.2.2 (by simp)⟩
      replace hS := hS9 (by decide)
      clear hK9 K9 hS9
      try simp only [Act.put, List.setIfInBounds_toArray, List.set_cons_zero, List.set_cons_succ]
      refine late_one (i := 7) rfl (by kernel_rfl) (fun K9 hK9 => ?_)
      refine step_append rfl _ _ 56 rfl 74 i0 (.agg #[.slice none 0 0]) 24 Try.underlying56 hi hz0 hz1 hz2 rfl (lo := w.heap.size + 3) (bs := b2) (xs := d.Pieces.take k) rfl ?own (b2 := b1x) (ys := [d.Pieces[k]]) rfl ?src ?nd ?f2 ?q2 ?q3 ?q4 ?_
      case own => exact (HO.out.grow hW).alloc _
      case src => exact src_new (mk_Piece (d := d.Pieces[k]) (pt_slice.1 HOw.out.1)) rfl _ _
      case nd => exact HOw.out.2.1
      case f2 => exact fun b hb => ⟨by have q1 := (L1.out b hb).1; (try simp at q1); omega, (HOw.out.2.2 b hb).2.keep (Below.heap_alloc _ _ _ (Rep.lt HOw.out.1 b hb)), fun hm => by have q1 := (L1.out b hb).1; have q2 := (hlts b hm).2; (try simp at q1); omega⟩
      case q2 => simp; omega
      case q3 => simp; omega
      case q4 => have := hW.size; simp; omega
      intro p2 c2 w2 b3 hO2 hT2 hm2
      have hl : (d.Pieces.take k).length + [d.Pieces[k]].length = k + 1 := by simp; omega
      rw [hl] at hO2 ⊢
      rw [← List.take_succ_eq_append_getElem hlt] at hO2
      refine hK9.out _ _ (fun _ => ?_) (fun hS9 => ?_)
      · (try dsimp only); exact ⟨keepc hS.1 hT2 (fun x hx => .inl hx), cellc hT2 hS.2.1 n1, cellc hT2 hS.2.2 n2⟩
      replace hS := hS9 (by decide)
      clear hK9 K9 hS9
      try simp only [Act.put, List.setIfInBounds_toArray, List.set_cons_zero, List.set_cons_succ]
      refine late_take (i := 8) (v := ?_) rfl (by kernel_rfl) (fun _ _ _ h => h) (by rfl) ?_ (by assumption) ?_
      rotate_left
      · (intro w9 hS9; (try dsimp only at hS9); (try go_split_ands); go_simp <;> with_reducible rfl)
      try simp only [Act.put, List.setIfInBounds_toArray, List.set_cons_zero, List.set_cons_succ]
      refine late_one (i := 9) rfl (by kernel_rfl) (fun K9 hK9 => ?_)
      have hT := hS.1
      have e1 := hS.2.1
      have hF : Fr w2 (w.heap.size + 1 + 1) := (HB2.out.f.keep (Below.heap_alloc _ _ _ (by omega))).keep (hT.block _ (by simp; omega) n1)
      have hf := hF.frozen 0
      have HO2 := hid hO2; have HT := hid hT
      clear hT2 hm2 hO2 hS hT
      go_simp
      refine hK9.out _ _ (fun h => absurd rfl h) (fun _ => ?_)
      clear hK9 K9
      try simp only [Act.put, List.setIfInBounds_toArray, List.set_cons_zero, List.set_cons_succ]
      refine late_done (by kernel_rfl) ?_ _
      have HX1 := hid (HB1.out.keep ((HT.out.block (w.heap.size + 1) (by simp; omega) (fun hm => by have := (hlts _ hm).1; omega)).trans (Below.heap_alloc _ _ _ (by omega))))
      have HX2 := hid (HB2.out.keep ((HT.out.block (w.heap.size + 1 + 1) (by simp; omega) n1).trans (Below.heap_alloc _ _ _ (by omega))))
      have HB3 := hid ((HB.out.alloc (by have := HB.out.size; omega) (.cells #[.slice a1 d.Pieces[k].Text.length k1] 74)).trans (HT.out.below (by simp; omega) (fun x hx => by have := (hlts x hx).1; omega)))
      have hz2 := HT.out.size
      simp at hz2
      clear hlts n1 n2 d1 d20 HT hF e1 hf B2o B2f
      go_wp2
      refine ⟨⟨k + 1, p2, c2, b3, by omega, rfl, HO2.out.setLow (by show w.heap.size + 1 + 1 < _; omega) _, HX1.out.setOther (by simp) _, HX2.out.setSame 0 _, HB3.out.setCell (by show w.heap.size ≤ w.heap.size + 1 + 1; omega) _, by simp; omega⟩, by simp [intOf]; omega⟩
    · obtain rfl : k = d.Pieces.length := by omega
      have B1o := HB1.out.out; have B1f := HB1.out.fr
      clear hb
      go_wp2
      refine bodyPost_ret (v := .agg #[.slice p d.Pieces.length c]) (by simp [results, Try.results58, go_sem, B1o]) rfl ?_
      have hO := HO.out
      rw [List.take_length] at hO
      exact ⟨_, b2, rfl, (hO.setLow (by show w.heap.size + 1 < _; omega) _).mono (by omega), HB.out.setCell (by simp) _⟩
set_option maxHeartbeats 3000000 in
theorem s_l15Copy {w : World} {bs : List Nat} {cs : List Value} {d : RingD} (h : Rep.pt w bs cs d) (hn : Cnt.cnt d ≤ 16777216) :
    Calls Try.prog 54 #[.agg cs.toArray] w fun e w' => ∃ v bs', e = .returned (.agg #[v]) ∧ OwnL w.heap.size w' 74 v bs' d.Pieces ∧ Below w.heap.size w w' := by
  obtain ⟨a0, l0, k0, rfl, h0⟩ := open_Ring h
  obtain rfl := h0.len_eq
  have hn1 : d.Pieces.length + nL Cnt.cnt d.Pieces ≤ 16777216 := hn
  obtain ⟨i0, hi, hz0, hz1, hz2⟩ := info_parts info_Piece
  obtain ⟨j0, hj, hy0, hy1, hy2⟩ := info_parts info_int
  clear h
  go_enter Try.func54, Try.ntmps54
  go_wp2_with fail
  go_loopw [10] (fun i wr => ∃ (k : Nat) (p : Option Addr) (c : Nat) (b2 : List Nat), k ≤ d.Pieces.length ∧ i = .int .i64 k ∧ OwnL (w.heap.size + 3) wr 74 (.slice p k c) b2 (d.Pieces.take k) ∧ Bx wr (w.heap.size + 1) #[.slice none 0 0] ∧ Bx wr (w.heap.size + 1 + 1) #[.slice p k c] ∧ Below w.heap.size w wr ∧ w.heap.size + 3 ≤ wr.heap.size) (fun i _ => d.Pieces.length - (intOf i).toNat)
  case atStart => exact ⟨0, none, 0, [], Nat.zero_le _, rfl, OwnL.nil _ _ _, (Bx.new _ _ _ (by simp)).alloc (by simp) _, Bx.new _ _ _ (by simp), (((Below.refl _ _).alloc (by simp) _).alloc (by simp) _).alloc (by simp; omega) _, by simp⟩
  case round =>
    obtain ⟨k, p, c, b2, hk, rfl, hO, hB1, hB2, hb, hz⟩ := hrel
    have HO := hid hO; have HB1 := hid hB1; have HB2 := hid hB2; have HB := hid hb
    clear hO hB1
    have B2o := hB2.out; have B2f := hB2.fr; clear hB2
    by_cases hlt : k < d.Pieces.length
    · skip
      obtain ⟨b, off, cs, bs', rfl, hbw, hp, _, hA⟩ := (h0.grow hb).elem k hlt
      have HP := hid hp
      obtain ⟨a1, l1, k1, rfl, g0⟩ := open_Piece hp
      obtain rfl := g0.len_eq
      have G0 := hid g0
      have c0 : wr.cell? ⟨b, off + k, none⟩ = some _ := (by have q := hA 0 _ rfl; rw [show off + k * Rep.size PieceD + 0 = off + k from (by show off + k * 1 + 0 = off + k; omega)] at q; exact q)
      clear hb hA hp g0
      have hle : d.Pieces[k].Text.length ≤ 16777216 := by
        have h1 := nL_mem_le Cnt.cnt d.Pieces k hlt
        have h2 : Cnt.cnt d.Pieces[k] = d.Pieces[k].Text.length := cnt_ints _
        omega
      go_wp2_with fail
      have hlts := HO.out.lts
      have n1 : w.heap.size + 1 + 1 ∉ b2 := fun hm => by have := (hlts _ hm).1; omega
      have n2 : wr.heap.size ∉ b2 := fun hm => by have := (hlts _ hm).2; omega
      have d1 : wr.cell? ⟨w.heap.size + 1 + 1, 0, none⟩ = some (.slice p k c) := B2o 0
      have d20 : (wr.alloc (.cells #[.slice a1 d.Pieces[k].Text.length k1] 74)).cell? ⟨wr.heap.size, 0, none⟩ = some (.slice a1 d.Pieces[k].Text.length k1) := World.cell?_alloc_new _ _ _ 0
      refine late_start (fun W => Tch b2 (wr.alloc (.cells #[.slice a1 d.Pieces[k].Text.length k1] 74)) W ∧ W.cell? ⟨w.heap.size + 1 + 1, 0, none⟩ = some (.slice p k c) ∧ W.cell? ⟨wr.heap.size, 0, none⟩ = some (.slice a1 d.Pieces[k].Text.length k1)) 10 (by kernel_rfl) ?_ (fun hS => ?_)
      · exact ⟨(Tch.refl _ _).drew, (World.cell?_alloc_lt _ _ ⟨w.heap.size + 1 + 1, 0, none⟩ (by show w.heap.size + 1 + 1 < _; omega)).trans d1, d20⟩
      refine late_take (i := 0) (v := ?_) rfl (by kernel_rfl) (fun _ _ _ h => h) (by rfl) ?_ (by assumption) ?_
      rotate_left
      · (intro w9 hS9; (try dsimp only at hS9); (try go_split_ands); go_simp <;> with_reducible rfl)
      try simp only [Act.put, List.setIfInBounds_toArray, List.set_cons_zero, List.set_cons_succ]
      refine late_take (i := 1) (v := ?_) rfl (by kernel_rfl) (fun _ _ _ h => h) (by rfl) ?_ (by assumption) ?_
      rotate_left
      · (intro w9 hS9; (try dsimp only at hS9); (try go_split_ands); go_simp <;> with_reducible rfl)
      try simp only [Act.put, List.setIfInBounds_toArray, List.set_cons_zero, List.set_cons_succ]
      refine late_take (i := 3) (v := ?_) rfl (by kernel_rfl) (fun _ _ _ h => h) (by rfl) ?_ (by assumption) ?_
      rotate_left
      · (intro w9 hS9; (try dsimp only at hS9); (try go_split_ands); go_simp <;> with_reducible rfl)
      try simp only [Act.put, List.setIfInBounds_toArray, List.set_cons_zero, List.set_cons_succ]
      refine late_take (i := 4) (v := ?_) rfl (by kernel_rfl) (fun _ _ _ h => h) (by rfl) ?_ (by assumption) ?_
      rotate_left
      · (intro w9 hS9; (try dsimp only at hS9); (try go_split_ands); go_simp <;> with_reducible rfl)
      try simp only [Act.put, List.setIfInBounds_toArray, List.set_cons_zero, List.set_cons_succ]
      refine late_one (i := 2) rfl (by kernel_rfl) (fun K9 hK9 => ?_)
      go_simp
      refine hK9.out _ _ (fun _ => ?_) (fun hS9 => ?_)
      · (try dsimp only); exact ⟨keepc hS.1 ((Tch.refl [] _).alloc _) (fun x hx => by cases hx), cellc ((Tch.refl [] _).alloc _) hS.2.1 (by simp), cellc ((Tch.refl [] _).alloc _) hS.2.2 (by simp)⟩
      replace hS := hS9 (by decide)
      clear hK9 K9 hS9
      try simp only [Act.put, List.setIfInBounds_toArray, List.set_cons_zero, List.set_cons_succ]
      refine late_one (i := 5) rfl (by kernel_rfl) (fun K9 hK9 => ?_)
      refine step_append rfl _ _ 54 rfl 3 j0 (.int .i64 0) 8 Try.underlying54 hj hy0 hy1 hy2 rfl (lo := wr.heap.size + 1) (bs := [wr.heap.size + 1]) (xs := ([] : List Int)) rfl ?own (b2 := []) (ys := d.Pieces[k].Text) rfl ?src List.nodup_nil ?f2 ?q2 ?q3 ?q4 ?_
      case own => first | exact OwnL.drew (ownL_empty (α := Int) (by simp) (by simp)) | exact ownL_empty (α := Int) (by first | rfl | simp) (by first | exact Nat.le_refl _ | simp)
      case src => first | exact (G0.out.grow ((((Below.refl _ _).alloc (Nat.le_refl _) _).alloc (by simp) _).drew)).src | exact (G0.out.grow ((((Below.refl _ _).alloc (Nat.le_refl _) _).drew).alloc (by simp) _)).src
      case f2 => simp
      case q2 => simp; omega
      case q3 => simp; omega
      case q4 => simp
      intro p1 c1 wa b1 hO1 hT1 hm1
      try simp only [List.nil_append] at hO1
      try simp only [List.length_nil, Nat.zero_add] at hO1
      try simp only [List.length_nil, Nat.zero_add]
      obtain ⟨b1x, hb1x, hOw⟩ := hO1.own
      have hW : Below wr.heap.size wr wa := by
        first | exact ((((Below.refl _ _).alloc (Nat.le_refl _) _).alloc (by simp) _).drew).trans (hT1.below (by simp; try omega) (by simp; try omega)) | exact ((((Below.refl _ _).alloc (Nat.le_refl _) _).drew).alloc (by simp) _).trans (hT1.below (by simp; try omega) (by simp; try omega))
      have HOw := hid hOw
      have L1 := hid (fun b hb => hO1.lts b (hb1x b hb))
      clear hO1 hOw hb1x hm1
      refine hK9.out _ _ (fun _ => ?_) (fun hS9 => ?_)
      · (try dsimp only); exact ⟨keepc hS.1 hT1 (fun x hx => .inr (by simp at hx; simp; omega)), cellc hT1 hS.2.1 (by simp; omega), cellc hT1 hS.2.2 (by simp)⟩
      replace hS := hS9 (by decide)
      clear hK9 K9 hS9
      try simp only [Act.put, List.setIfInBounds_toArray, List.set_cons_zero, List.set_cons_succ]
      refine late_take (i := 6) (v := ?_) rfl (by kernel_rfl) (fun _ _ _ h => h) (by rfl) ?_ (by assumption) ?_
      rotate_left
      · (intro w9 hS9; (try dsimp only at hS9); (try go_split_ands); go_simp <;> with_reducible rfl)
      try simp only [Act.put, List.setIfInBounds_toArray, List.set_cons_zero, List.set_cons_succ]
      refine late_one (i := 7) rfl (by kernel_rfl) (fun K9 hK9 => ?_)
      go_simp
      refine hK9.out _ _ (fun _ => ?_) (fun hS9 => ?_)
      · (try dsimp only); exact ⟨keepc hS.1 ((Tch.refl [] _).alloc _) (fun x hx => by cases hx), cellc ((Tch.refl [] _).alloc _) hS.2.1 (by simp), cellc ((Tch.refl [] _).alloc _) hS.2.2 (by simp)⟩
      replace hS := hS9 (by decide)
      clear hK9 K9 hS9
      try simp only [Act.put, List.setIfInBounds_toArray, List.set_cons_zero, List.set_cons_succ]
      refine late_one (i := 8) rfl (by kernel_rfl) (fun K9 hK9 => ?_)
      refine step_append rfl _ _ 56 rfl 74 i0 (.agg #[.slice none 0 0]) 24 Try.underlying56 hi hz0 hz1 hz2 rfl (lo := w.heap.size + 3) (bs := b2) (xs := d.Pieces.take k) rfl ?own (b2 := b1x) (ys := [d.Pieces[k]]) rfl ?src ?nd ?f2 ?q2 ?q3 ?q4 ?_
      case own => exact (HO.out.grow hW).alloc _
      case src => exact src_new (mk_Piece (d := d.Pieces[k]) (pt_slice.1 HOw.out.1)) rfl _ _
      case nd => exact HOw.out.2.1
      case f2 => exact fun b hb => ⟨by have q1 := (L1.out b hb).1; (try simp at q1); omega, (HOw.out.2.2 b hb).2.keep (Below.heap_alloc _ _ _ (Rep.lt HOw.out.1 b hb)), fun hm => by have q1 := (L1.out b hb).1; have q2 := (hlts b hm).2; (try simp at q1); omega⟩
      case q2 => simp; omega
      case q3 => simp; omega
      case q4 => have := hW.size; simp; omega
      intro p2 c2 w2 b3 hO2 hT2 hm2
      have hl : (d.Pieces.take k).length + [d.Pieces[k]].length = k + 1 := by simp; omega
      rw [hl] at hO2 ⊢
      rw [← List.take_succ_eq_append_getElem hlt] at hO2
      refine hK9.out _ _ (fun _ => ?_) (fun hS9 => ?_)
      · (try dsimp only); exact ⟨keepc hS.1 hT2 (fun x hx => .inl hx), cellc hT2 hS.2.1 n1, cellc hT2 hS.2.2 n2⟩
      replace hS := hS9 (by decide)
      clear hK9 K9 hS9
      try simp only [Act.put, List.setIfInBounds_toArray, List.set_cons_zero, List.set_cons_succ]
      refine late_take (i := 9) (v := ?_) rfl (by kernel_rfl) (fun _ _ _ h => h) (by rfl) ?_ (by assumption) ?_
      rotate_left
      · (intro w9 hS9; (try dsimp only at hS9); (try go_split_ands); go_simp <;> with_reducible rfl)
      try simp only [Act.put, List.setIfInBounds_toArray, List.set_cons_zero, List.set_cons_succ]
      refine late_one (i := 10) rfl (by kernel_rfl) (fun K9 hK9 => ?_)
      have hT := hS.1
      have e1 := hS.2.1
      have hF : Fr w2 (w.heap.size + 1 + 1) := (HB2.out.f.keep (Below.heap_alloc _ _ _ (by omega))).keep (hT.block _ (by simp; omega) n1)
      have hf := hF.frozen 0
      have HO2 := hid hO2; have HT := hid hT
      clear hT2 hm2 hO2 hS hT
      go_simp
      refine hK9.out _ _ (fun h => absurd rfl h) (fun _ => ?_)
      clear hK9 K9
      try simp only [Act.put, List.setIfInBounds_toArray, List.set_cons_zero, List.set_cons_succ]
      refine late_done (by kernel_rfl) ?_ _
      have HX1 := hid (HB1.out.keep ((HT.out.block (w.heap.size + 1) (by simp; omega) (fun hm => by have := (hlts _ hm).1; omega)).trans (Below.heap_alloc _ _ _ (by omega))))
      have HX2 := hid (HB2.out.keep ((HT.out.block (w.heap.size + 1 + 1) (by simp; omega) n1).trans (Below.heap_alloc _ _ _ (by omega))))
      have HB3 := hid ((HB.out.alloc (by have := HB.out.size; omega) (.cells #[.slice a1 d.Pieces[k].Text.length k1] 74)).trans (HT.out.below (by simp; omega) (fun x hx => by have := (hlts x hx).1; omega)))
      have hz2 := HT.out.size
      simp at hz2
      clear hlts n1 n2 d1 d20 HT hF e1 hf B2o B2f
      go_wp2
      refine ⟨⟨k + 1, p2, c2, b3, by omega, rfl, HO2.out.setLow (by show w.heap.size + 1 + 1 < _; omega) _, HX1.out.setOther (by simp) _, HX2.out.setSame 0 _, HB3.out.setCell (by show w.heap.size ≤ w.heap.size + 1 + 1; omega) _, by simp; omega⟩, by simp [intOf]; omega⟩
    · obtain rfl : k = d.Pieces.length := by omega
      have B1o := HB1.out.out; have B1f := HB1.out.fr
      clear hb
      go_wp2
      refine bodyPost_ret (v := .agg #[.slice p d.Pieces.length c]) (by simp [results, Try.results54, go_sem, B1o]) rfl ?_
      have hO := HO.out
      rw [List.take_length] at hO
      exact ⟨_, b2, rfl, (hO.setLow (by show w.heap.size + 1 < _; omega) _).mono (by omega), HB.out.setCell (by simp) _⟩
end Go.Proofs.Ytgcdgkiefbbhkaa
