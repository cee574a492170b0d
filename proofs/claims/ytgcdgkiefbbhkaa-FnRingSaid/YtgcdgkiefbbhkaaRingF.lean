/- Copies of rings whose texts are rows of their own. -/
import Derived.Test.YtgcdgkiefbbhkaaRingC
set_option linter.unusedSimpArgs false
set_option linter.unusedVariables false
namespace Go.G6
open Go.RowKit Rep
theorem OwnL.nodup {α : Type} [Rep α] {lo : Nat} {w : World} {e : TypeId} {v : Value} {bs : List Nat} {xs : List α} (h : OwnL lo w e v bs xs) : bs.Nodup := by
  obtain ⟨_, _, _, _, _, hn, _⟩ := h; exact hn
theorem OwnL.fr {α : Type} [Rep α] {lo : Nat} {w : World} {e : TypeId} {v : Value} {bs : List Nat} {xs : List α} (h : OwnL lo w e v bs xs) : ∀ b ∈ bs, Fr w b := by
  obtain ⟨_, _, _, _, _, _, hf⟩ := h; exact fun b hb => (hf b hb).2
theorem OwnL.raise {α : Type} [Rep α] {lo lo' : Nat} {w : World} {e : TypeId} {v : Value} {bs : List Nat} {xs : List α} (h : OwnL lo w e v bs xs) (hl : ∀ b ∈ bs, lo' ≤ b) : OwnL lo' w e v bs xs := by
  obtain ⟨cells, bss, hR, hE, rfl, hn, hf⟩ := h
  refine ⟨cells, bss, ⟨hR.1, ?_⟩, hE, rfl, hn, fun b hb => ⟨hl b hb, (hf b hb).2⟩⟩
  rcases hR.2 with h0 | ⟨g, cap, cur, rfl, hg, rest⟩
  · exact .inl h0
  · exact .inr ⟨g, cap, cur, rfl, hl g (by simp [Value.ownBlock]), rest⟩
/-- A piece whose text is a row of its own. -/
structure PieceF (e : TypeId) where
  Text : List Int
def PF (e : TypeId) (p : PieceD) : PieceF e := ⟨p.Text⟩
instance (e : TypeId) : Rep (PieceF e) where
  size := 1
  pos := by decide
  pt w bs cs p := ∃ v, cs = [v] ∧ OwnL 0 w e v bs p.Text
  len := by rintro w bs cs p ⟨v, rfl, _⟩; rfl
  one := by
    rintro w bs cs p ⟨v, rfl, h⟩ u hu
    obtain ⟨a, c, rfl⟩ := h.slice
    simp at hu; subst hu; rfl
  lt := by rintro w bs cs p ⟨v, rfl, h⟩ b hb; exact (h.lts b hb).2
  keep := by rintro w w' bs cs p ⟨v, rfl, h⟩ hk; exact ⟨v, rfl, h.keep hk⟩
theorem pf_mk {e : TypeId} {w : World} {bs : List Nat} {v : Value} {p : PieceD} (h : OwnL 0 w e v bs p.Text) : pt w bs [v] (PF e p) := ⟨v, rfl, h⟩
end Go.G6
namespace Go.Proofs.Ytgcdgkiefbbhkaa
open Go.RowKit Go.G6
set_option maxHeartbeats 1600000
set_option maxRecDepth 10000
set_option maxHeartbeats 3000000 in
theorem i_copyRingF {w : World} {bs : List Nat} {cs : List Value} {d : RingD} (h : Rep.pt w bs cs d) (hn : Cnt.cnt d ≤ 16777216) :
    Calls Try.prog 58 #[.agg cs.toArray] w fun e w' => ∃ v bs', e = .returned (.agg #[v]) ∧ OwnL w.heap.size w' 74 v bs' (d.Pieces.map (PF 3)) ∧ Below w.heap.size w w' := by
  obtain ⟨a0, l0, k0, rfl, h0⟩ := open_Ring h
  obtain rfl := h0.len_eq
  have hn1 : d.Pieces.length + nL Cnt.cnt d.Pieces ≤ 16777216 := hn
  obtain ⟨i0, hi, hz0, hz1, hz2⟩ := info_parts info_Piece
  clear h
  go_enter Try.func58, Try.ntmps58
  go_wp2_with fail
  go_loopw [9] (fun i wr => ∃ (k : Nat) (p : Option Addr) (c : Nat) (b2 : List Nat), k ≤ d.Pieces.length ∧ i = .int .i64 k ∧ OwnL (w.heap.size + 3) wr 74 (.slice p k c) b2 ((d.Pieces.take k).map (PF 3)) ∧ Bx wr (w.heap.size + 1) #[.slice none 0 0] ∧ Bx wr (w.heap.size + 1 + 1) #[.slice p k c] ∧ Below w.heap.size w wr ∧ w.heap.size + 3 ≤ wr.heap.size) (fun i _ => d.Pieces.length - (intOf i).toNat)
  case atStart => exact ⟨0, none, 0, [], Nat.zero_le _, rfl, OwnL.nil _ _ _, (Bx.new _ _ _ (by simp)).alloc (by simp) _, Bx.new _ _ _ (by simp), (((Below.refl _ _).alloc (by simp) _).alloc (by simp) _).alloc (by simp; omega) _, by simp⟩
  case round =>
    obtain ⟨k, p, c, b2, hk, rfl, hO, hB1, hB2, hb, hz⟩ := hrel
    have HO := hid hO; have HB1 := hid hB1; have HB2 := hid hB2; have HB := hid hb
    clear hO hB1
    have B2o := hB2.out; have B2f := hB2.fr; clear hB2
    by_cases hlt : k < d.Pieces.length
    · skip
      obtain ⟨b, off, cs, bs', rfl, hbw, hp, _, hA⟩ := (h0.grow hb).elem k hlt
      have HP := hid hp
      obtain ⟨a1, l1, k1, rfl, g0⟩ := open_Piece hp
      obtain rfl := g0.len_eq
      have G0 := hid g0
      have c0 : wr.cell? ⟨b, off + k, none⟩ = some _ := (by have q := hA 0 _ rfl; rw [show off + k * Rep.size PieceD + 0 = off + k from (by show off + k * 1 + 0 = off + k; omega)] at q; exact q)
      clear hb hA hp g0
      have hle : d.Pieces[k].Text.length ≤ 16777216 := by
        have h1 := nL_mem_le Cnt.cnt d.Pieces k hlt
        have h2 : Cnt.cnt d.Pieces[k] = d.Pieces[k].Text.length := cnt_ints _
        omega
      go_wp2_with fail
      have hlts := HO.out.lts
      have n1 : w.heap.size + 1 + 1 ∉ b2 := fun hm => by have := (hlts _ hm).1; omega
      have n2 : wr.heap.size ∉ b2 := fun hm => by have := (hlts _ hm).2; omega
      have d1 : wr.cell? ⟨w.heap.size + 1 + 1, 0, none⟩ = some (.slice p k c) := B2o 0
      have d20 : (wr.alloc (.cells #[.slice a1 d.Pieces[k].Text.length k1] 74)).cell? ⟨wr.heap.size, 0, none⟩ = some (.slice a1 d.Pieces[k].Text.length k1) := World.cell?_alloc_new _ _ _ 0
      refine late_start (fun W => Tch b2 (wr.alloc (.cells #[.slice a1 d.Pieces[k].Text.length k1] 74)) W ∧ W.cell? ⟨w.heap.size + 1 + 1, 0, none⟩ = some (.slice p k c) ∧ W.cell? ⟨wr.heap.size, 0, none⟩ = some (.slice a1 d.Pieces[k].Text.length k1)) 9 (by kernel_rfl) ?_ (fun hS => ?_)
      · exact ⟨(Tch.refl _ _).drew, (World.cell?_alloc_lt _ _ ⟨w.heap.size + 1 + 1, 0, none⟩ (by show w.heap.size + 1 + 1 < _; omega)).trans d1, d20⟩
      refine late_take (i := 0) (v := ?_) rfl (by kernel_rfl) (fun _ _ _ h => h) (by rfl) ?_ (by assumption) ?_
      rotate_left
      · (intro w9 hS9; (try dsimp only at hS9); (try go_split_ands); go_simp <;> with_reducible rfl)
      try simp only [Act.put, List.setIfInBounds_toArray, List.set_cons_zero, List.set_cons_succ]
      refine late_take (i := 1) (v := ?_) rfl (by kernel_rfl) (fun _ _ _ h => h) (by rfl) ?_ (by assumption) ?_
      rotate_left
      · (intro w9 hS9; (try dsimp only at hS9); (try go_split_ands); go_simp <;> with_reducible rfl)
      try simp only [Act.put, List.setIfInBounds_toArray, List.set_cons_zero, List.set_cons_succ]
      refine late_take (i := 2) (v := ?_) rfl (by kernel_rfl) (fun _ _ _ h => h) (by rfl) ?_ (by assumption) ?_
      rotate_left
      · (intro w9 hS9; (try dsimp only at hS9); (try go_split_ands); go_simp <;> with_reducible rfl)
      try simp only [Act.put, List.setIfInBounds_toArray, List.set_cons_zero, List.set_cons_succ]
      refine late_take (i := 3) (v := ?_) rfl (by kernel_rfl) (fun _ _ _ h => h) (by rfl) ?_ (by assumption) ?_
      rotate_left
      · (intro w9 hS9; (try dsimp only at hS9); (try go_split_ands); go_simp <;> with_reducible rfl)
      try simp only [Act.put, List.setIfInBounds_toArray, List.set_cons_zero, List.set_cons_succ]
      refine late_one (i := 4) rfl (by kernel_rfl) (fun K9 hK9 => ?_)
      go_simp
      refine (i_copyInts (G0.out.grow (((Below.refl _ _).alloc (Nat.le_refl _) _).drew)) hle).mono ?_
      rintro e wa ⟨v, b1, rfl, hO1, hb1⟩
      obtain ⟨p1, c1, rfl⟩ := hO1.slice
      have hW : Below wr.heap.size wr wa := (((Below.refl _ _).alloc (Nat.le_refl _) _).drew).trans (hb1.mono (by simp))
      have HO1 := hid hO1
      have L1 := hid (fun b hb => hO1.lts b hb)
      clear hO1
      go_wp2_with fail
      refine hK9.out _ _ (fun _ => ?_) (fun hS9 => ?_)
      · (try dsimp only); exact ⟨keepc hS.1 (Tch.of_below (bs := []) hb1) (fun x hx => by cases hx), cellc (Tch.of_below (bs := []) hb1) hS.2.1 (by simp), cellc (Tch.of_below (bs := []) hb1) hS.2.2 (by simp)⟩
      replace hS := hS9 (by decide)
      clear hK9 K9 hS9
      try simp only [Act.put, List.setIfInBounds_toArray, List.set_cons_zero, List.set_cons_succ]
      refine late_take (i := 5) (v := ?_) rfl (by kernel_rfl) (fun _ _ _ h => h) (by rfl) ?_ (by assumption) ?_
      rotate_left
      · (intro w9 hS9; (try dsimp only at hS9); (try go_split_ands); go_simp <;> with_reducible rfl)
      try simp only [Act.put, List.setIfInBounds_toArray, List.set_cons_zero, List.set_cons_succ]
      refine late_one (i := 6) rfl (by kernel_rfl) (fun K9 hK9 => ?_)
      go_simp
      refine hK9.out _ _ (fun _ => ?_) (fun hS9 => ?_)
      · (try dsimp only); exact ⟨keepc hS.1 ((Tch.refl [] _).alloc _) (fun x hx => by cases hx), cellc ((Tch.refl [] _).alloc _) hS.2.1 (by simp), cellc ((Tch.refl [] _).alloc _) hS.2.2 (by simp)⟩
      replace hS := hS9 (by decide)
      clear hK9 K9 hS9
      try simp only [Act.put, List.setIfInBounds_toArray, List.set_cons_zero, List.set_cons_succ]
      refine late_one (i := 7) rfl (by kernel_rfl) (fun K9 hK9 => ?_)
      refine step_append rfl _ _ 56 rfl 74 i0 (.agg #[.slice none 0 0]) 24 Try.underlying56 hi hz0 hz1 hz2 rfl (lo := w.heap.size + 3) (bs := b2) (xs := (d.Pieces.take k).map (PF 3)) rfl ?own (b2 := b1) (ys := [PF 3 d.Pieces[k]]) rfl ?src ?nd ?f2 ?q2 ?q3 ?q4 ?_
      case own => exact (HO.out.grow hW).alloc _
      case src => exact src_new (cs := [_]) (pf_mk (HO1.out.mono (Nat.zero_le _))) rfl _ _
      case nd => exact HO1.out.nodup
      case f2 => exact fun b hb => ⟨by have q1 := (L1.out b hb).1; (try simp at q1); omega, (HO1.out.fr b hb).keep (Below.heap_alloc _ _ _ (L1.out b hb).2), fun hm => by have q1 := (L1.out b hb).1; have q2 := (hlts b hm).2; (try simp at q1); omega⟩
      case q2 => simp; omega
      case q3 => simp; omega
      case q4 => have := hW.size; simp; omega
      intro p2 c2 w2 b3 hO2 hT2 hm2
      have hl : ((d.Pieces.take k).map (PF 3)).length + [PF 3 d.Pieces[k]].length = k + 1 := by simp; omega
      rw [hl] at hO2 ⊢
      rw [show (d.Pieces.take k).map (PF 3) ++ [PF 3 d.Pieces[k]] = (d.Pieces.take (k + 1)).map (PF 3) by rw [List.take_succ_eq_append_getElem hlt, List.map_append]; rfl] at hO2
      refine hK9.out _ _ (fun _ => ?_) (fun hS9 => ?_)
      · (try dsimp only); exact ⟨keepc hS.1 hT2 (fun x hx => .inl hx), cellc hT2 hS.2.1 n1, cellc hT2 hS.2.2 n2⟩
      replace hS := hS9 (by decide)
      clear hK9 K9 hS9
      try simp only [Act.put, List.setIfInBounds_toArray, List.set_cons_zero, List.set_cons_succ]
      refine late_take (i := 8) (v := ?_) rfl (by kernel_rfl) (fun _ _ _ h => h) (by rfl) ?_ (by assumption) ?_
      rotate_left
      · (intro w9 hS9; (try dsimp only at hS9); (try go_split_ands); go_simp <;> with_reducible rfl)
      try simp only [Act.put, List.setIfInBounds_toArray, List.set_cons_zero, List.set_cons_succ]
      refine late_one (i := 9) rfl (by kernel_rfl) (fun K9 hK9 => ?_)
      have hT := hS.1
      have e1 := hS.2.1
      have hF : Fr w2 (w.heap.size + 1 + 1) := (HB2.out.f.keep (Below.heap_alloc _ _ _ (by omega))).keep (hT.block _ (by simp; omega) n1)
      have hf := hF.frozen 0
      have HO2 := hid hO2; have HT := hid hT
      clear hT2 hm2 hO2 hS hT
      go_simp
      refine hK9.out _ _ (fun h => absurd rfl h) (fun _ => ?_)
      clear hK9 K9
      try simp only [Act.put, List.setIfInBounds_toArray, List.set_cons_zero, List.set_cons_succ]
      refine late_done (by kernel_rfl) ?_ _
      have HX1 := hid (HB1.out.keep ((HT.out.block (w.heap.size + 1) (by simp; omega) (fun hm => by have := (hlts _ hm).1; omega)).trans (Below.heap_alloc _ _ _ (by omega))))
      have HX2 := hid (HB2.out.keep ((HT.out.block (w.heap.size + 1 + 1) (by simp; omega) n1).trans (Below.heap_alloc _ _ _ (by omega))))
      have HB3 := hid ((HB.out.alloc (by have := HB.out.size; omega) (.cells #[.slice a1 d.Pieces[k].Text.length k1] 74)).trans (HT.out.below (by simp; omega) (fun x hx => by have := (hlts x hx).1; omega)))
      have hz2 := HT.out.size
      simp at hz2
      clear hlts n1 n2 d1 d20 HT hF e1 hf B2o B2f
      go_wp2
      refine ⟨⟨k + 1, p2, c2, b3, by omega, rfl, HO2.out.setLow (by show w.heap.size + 1 + 1 < _; omega) _, HX1.out.setOther (by simp) _, HX2.out.setSame 0 _, HB3.out.setCell (by show w.heap.size ≤ w.heap.size + 1 + 1; omega) _, by simp; omega⟩, by simp [intOf]; omega⟩
    · obtain rfl : k = d.Pieces.length := by omega
      have B1o := HB1.out.out; have B1f := HB1.out.fr
      clear hb
      go_wp2
      refine bodyPost_ret (v := .agg #[.slice p d.Pieces.length c]) (by simp [results, Try.results58, go_sem, B1o]) rfl ?_
      have hO := HO.out
      rw [List.take_length] at hO
      exact ⟨_, b2, rfl, (hO.setLow (by show w.heap.size + 1 < _; omega) _).mono (by omega), HB.out.setCell (by simp) _⟩
end Go.Proofs.Ytgcdgkiefbbhkaa
