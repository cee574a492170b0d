/- Adding to a ring: the program (printed by genringput.py). -/
import Derived.Test.YtgcdgkiefbbhkaaRingP
import Derived.Test.YtgcdgkiefbbhkaaRune
import Derived.Test.YtgcdgkiefbbhkaaLst
import Derived.Test.YtgcdgkiefbbhkaaLate
import Derived.Lib.MinMax
set_option linter.unusedSimpArgs false
set_option linter.unusedVariables false
namespace Go.G6
open Go.RowKit Rep
/-- What the last statement finds: the result's box, the copy's box, the list in it. -/
def RpSt (lo B1 B8 : Nat) (w W : World) (v : Value) (l : List PieceD) : Prop :=
  Bx W B1 #[.slice none 0 0] ∧ Bx W B8 #[v] ∧ (∃ b, Own lo W b [v] (⟨l⟩ : RingD)) ∧ Below w.heap.size w W ∧ B1 < W.heap.size ∧ B8 < W.heap.size
end Go.G6
namespace Go.Proofs.Ytgcdgkiefbbhkaa
open Go.RowKit Go.G6
set_option maxHeartbeats 4000000
set_option maxRecDepth 10000
theorem i_RingPut {w : World} {bs bs2 : List Nat} {cs : List Value} {d : RingD} {a : Option Addr} {l c : Nat} {t : List Int} (h : Rep.pt w bs cs d) (h2 : Slc w bs2 a l c t) (how : Int) (_hh : I64 how) :
    Calls Try.prog 20 #[.agg cs.toArray, .slice a l c, .int .i64 how] w (RetAB w (ringPut d t how) (.bool (ringPutOk d t how))) := by
  have H := hid h
  obtain ⟨a0, l0, k0, rfl, h0⟩ := open_Ring h
  obtain rfl := h0.len_eq
  obtain rfl := h2.len_eq
  have htm := h2.max
  have H2 := hid h2
  clear h h2
  obtain ⟨i0, hi, hz0, hz1, hz2⟩ := info_parts info_Piece
  obtain ⟨j0, hj, hy0, hy1, hy2⟩ := info_parts info_int
  cases hk : ringOk d
  · have HZ : Hid (ringPutOk d t how = false ∧ ringPut d t how = ring0) := hid (by simp [ringPut, ringPutOk, hk])
    have Hk := hid hk; clear hk
    go_enter Try.func20, Try.ntmps20
    go_wp2_with fail
    refine (i_RingOk (grow H.out ?_)).mono ?_
    · exact (((Below.refl _ _).alloc (Nat.le_refl _) _).alloc (by simp) _)
    rintro e w1 ⟨rfl, hb⟩
    have B0 : Bx w1 (w.heap.size) _ := Bx.below (b := w.heap.size) hb (by first | omega | (simp; done) | (simp; omega)) (by repeat (first  | (apply Bx.new; (focus (first | (simp; done) | (simp; omega) | omega))) | (apply Bx.alloc; rotate_left; (focus (first | (simp; done) | (simp; omega) | omega))) | (apply Bx.setOther; rotate_left; (focus (first | (simp; done) | (simp; omega) | omega))) | apply Bx.setSame))
    have B0o := B0.out
    have B0f := B0.fr
    have B1 : Bx w1 (w.heap.size + 1) _ := Bx.below (b := w.heap.size + 1) hb (by first | omega | (simp; done) | (simp; omega)) (by repeat (first  | (apply Bx.new; (focus (first | (simp; done) | (simp; omega) | omega))) | (apply Bx.alloc; rotate_left; (focus (first | (simp; done) | (simp; omega) | omega))) | (apply Bx.setOther; rotate_left; (focus (first | (simp; done) | (simp; omega) | omega))) | apply Bx.setSame))
    have B1o := B1.out
    have B1f := B1.fr
    have HB := hid (below_call (((Below.refl _ _).alloc (Nat.le_refl _) _).alloc (by simp) _) hb)
    have hs1 : w.heap.size + 2 ≤ w1.heap.size := by have := hb.size; simpa using this
    clear hb
    rw [Hk.out]
    go_wp2
    refine bodyPost_ret (v := .tuple #[.agg #[.slice none 0 0], .bool false]) (by simp [results, Try.results20, go_sem, B1o]) rfl ?_
    refine ⟨[.slice none 0 0], [], by rw [HZ.out.1], ?_, HB.out.setCell (by simp) _⟩
    rw [HZ.out.2]; exact own_Ring (d := ring0) (own_nil _ _)
  have Hk := hid hk
  cases hn : inB how 0 2
  · have HZ : Hid (ringPutOk d t how = false ∧ ringPut d t how = ring0) := hid (by simp [ringPut, ringPutOk, hn])
    have Hn := hid hn; clear hk hn
    go_enter Try.func20, Try.ntmps20
    go_wp2_with fail
    refine (i_RingOk (grow H.out ?_)).mono ?_
    · exact (((Below.refl _ _).alloc (Nat.le_refl _) _).alloc (by simp) _)
    rintro e w1 ⟨rfl, hb⟩
    have B0 : Bx w1 (w.heap.size) _ := Bx.below (b := w.heap.size) hb (by first | omega | (simp; done) | (simp; omega)) (by repeat (first  | (apply Bx.new; (focus (first | (simp; done) | (simp; omega) | omega))) | (apply Bx.alloc; rotate_left; (focus (first | (simp; done) | (simp; omega) | omega))) | (apply Bx.setOther; rotate_left; (focus (first | (simp; done) | (simp; omega) | omega))) | apply Bx.setSame))
    have B0o := B0.out
    have B0f := B0.fr
    have B1 : Bx w1 (w.heap.size + 1) _ := Bx.below (b := w.heap.size + 1) hb (by first | omega | (simp; done) | (simp; omega)) (by repeat (first  | (apply Bx.new; (focus (first | (simp; done) | (simp; omega) | omega))) | (apply Bx.alloc; rotate_left; (focus (first | (simp; done) | (simp; omega) | omega))) | (apply Bx.setOther; rotate_left; (focus (first | (simp; done) | (simp; omega) | omega))) | apply Bx.setSame))
    have B1o := B1.out
    have B1f := B1.fr
    have HB := hid (below_call (((Below.refl _ _).alloc (Nat.le_refl _) _).alloc (by simp) _) hb)
    have hs1 : w.heap.size + 2 ≤ w1.heap.size := by have := hb.size; simpa using this
    clear hb
    rw [Hk.out]
    go_wp2_with (first | (go_at_call 44; refine (i_in _ _ _ _).mono ?_; rintro e w' ⟨rfl, rfl⟩; rw [Hn.out]))
    refine bodyPost_ret (v := .tuple #[.agg #[.slice none 0 0], .bool false]) (by simp [results, Try.results20, go_sem, B1o]) rfl ?_
    refine ⟨[.slice none 0 0], [], by rw [HZ.out.1], ?_, HB.out.setCell (by simp) _⟩
    rw [HZ.out.2]; exact own_Ring (d := ring0) (own_nil _ _)
  have Hn := hid hn
  cases ht : pieceTyped t
  · have HZ : Hid (ringPutOk d t how = false ∧ ringPut d t how = ring0) := hid (by simp [ringPut, ringPutOk, ht])
    have Ht : Hid ((decide (t.length ≤ 400) && allTyped t) = false) := hid ht; clear hk hn ht
    go_enter Try.func20, Try.ntmps20
    go_wp2_with fail
    refine (i_RingOk (grow H.out ?_)).mono ?_
    · exact (((Below.refl _ _).alloc (Nat.le_refl _) _).alloc (by simp) _)
    rintro e w1 ⟨rfl, hb⟩
    have B0 : Bx w1 (w.heap.size) _ := Bx.below (b := w.heap.size) hb (by first | omega | (simp; done) | (simp; omega)) (by repeat (first  | (apply Bx.new; (focus (first | (simp; done) | (simp; omega) | omega))) | (apply Bx.alloc; rotate_left; (focus (first | (simp; done) | (simp; omega) | omega))) | (apply Bx.setOther; rotate_left; (focus (first | (simp; done) | (simp; omega) | omega))) | apply Bx.setSame))
    have B0o := B0.out
    have B0f := B0.fr
    have B1 : Bx w1 (w.heap.size + 1) _ := Bx.below (b := w.heap.size + 1) hb (by first | omega | (simp; done) | (simp; omega)) (by repeat (first  | (apply Bx.new; (focus (first | (simp; done) | (simp; omega) | omega))) | (apply Bx.alloc; rotate_left; (focus (first | (simp; done) | (simp; omega) | omega))) | (apply Bx.setOther; rotate_left; (focus (first | (simp; done) | (simp; omega) | omega))) | apply Bx.setSame))
    have B1o := B1.out
    have B1f := B1.fr
    have HB := hid (below_call (((Below.refl _ _).alloc (Nat.le_refl _) _).alloc (by simp) _) hb)
    have hs1 : w.heap.size + 2 ≤ w1.heap.size := by have := hb.size; simpa using this
    clear hb
    rw [Hk.out]
    go_wp2_with (first | (go_at_call 44; refine (i_in _ _ _ _).mono ?_; rintro e w' ⟨rfl, rfl⟩; rw [Hn.out]) | (go_at_call 57; refine (i_areAdmissible (H2.out.grow HB.out)).mono ?_; rintro e w' ⟨rfl, rfl⟩; rw [Ht.out]))
    refine bodyPost_ret (v := .tuple #[.agg #[.slice none 0 0], .bool false]) (by simp [results, Try.results20, go_sem, B1o]) rfl ?_
    refine ⟨[.slice none 0 0], [], by rw [HZ.out.1], ?_, HB.out.setCell (by simp) _⟩
    rw [HZ.out.2]; exact own_Ring (d := ring0) (own_nil _ _)
  have Ht : Hid ((decide (t.length ≤ 400) && allTyped t) = true) := hid ht
  have Hq := hid (ringOk_bounds hk)
  have Hf := hid (ringFst_len hk)
  have HZ : Hid (ringPutOk d t how = true ∧ ringPut d t how = ⟨ringPutL d t how⟩) := hid (by
    have h1 : ringPutOk d t how = true := by simp [ringPutOk, hk, hn, ht]
    exact ⟨h1, by unfold ringPut; rw [if_pos h1]⟩)
  have ht4 : t.length ≤ 400 := pieceTyped_len ht
  have hhow := hid (show 0 ≤ how ∧ how ≤ 2 by simpa [inB] using hn)
  clear hk hn ht
  go_enter Try.func20, Try.ntmps20
  go_wp2_with fail
  refine (i_RingOk (grow H.out ?_)).mono ?_
  · exact (((Below.refl _ _).alloc (Nat.le_refl _) _).alloc (by simp) _)
  rintro e w1 ⟨rfl, hb⟩
  have B0 : Bx w1 (w.heap.size) _ := Bx.below (b := w.heap.size) hb (by first | omega | (simp; done) | (simp; omega)) (by repeat (first  | (apply Bx.new; (focus (first | (simp; done) | (simp; omega) | omega))) | (apply Bx.alloc; rotate_left; (focus (first | (simp; done) | (simp; omega) | omega))) | (apply Bx.setOther; rotate_left; (focus (first | (simp; done) | (simp; omega) | omega))) | apply Bx.setSame))
  have B0o := B0.out
  have B0f := B0.fr
  have B1 : Bx w1 (w.heap.size + 1) _ := Bx.below (b := w.heap.size + 1) hb (by first | omega | (simp; done) | (simp; omega)) (by repeat (first  | (apply Bx.new; (focus (first | (simp; done) | (simp; omega) | omega))) | (apply Bx.alloc; rotate_left; (focus (first | (simp; done) | (simp; omega) | omega))) | (apply Bx.setOther; rotate_left; (focus (first | (simp; done) | (simp; omega) | omega))) | apply Bx.setSame))
  have B1o := B1.out
  have B1f := B1.fr
  have HB := hid (below_call (((Below.refl _ _).alloc (Nat.le_refl _) _).alloc (by simp) _) hb)
  have hs1 : w.heap.size + 2 ≤ w1.heap.size := by have := hb.size; simpa using this
  clear hb
  rw [Hk.out]
  go_wp2_with (first | (go_at_call 44; refine (i_in _ _ _ _).mono ?_; rintro e w' ⟨rfl, rfl⟩; rw [Hn.out]) | (go_at_call 57; refine (i_areAdmissible (H2.out.grow HB.out)).mono ?_; rintro e w' ⟨rfl, rfl⟩; rw [Ht.out]))
  refine (i_copyRingF (grow H.out HB.out) Hq.out.2.1).mono ?_
  rintro e w2 ⟨v2, b2, rfl, hO2, hb⟩
  replace B1 : Bx w2 (w.heap.size + 1) _ := Bx.below (b := w.heap.size + 1) hb (by first | omega | (simp; done) | (simp; omega)) (by repeat (first  | exact B0 | exact B1 | (apply Bx.new; (focus (first | (simp; done) | (simp; omega) | omega))) | (apply Bx.alloc; rotate_left; (focus (first | (simp; done) | (simp; omega) | omega))) | (apply Bx.setOther; rotate_left; (focus (first | (simp; done) | (simp; omega) | omega))) | apply Bx.setSame))
  replace B1o := B1.out
  replace B1f := B1.fr
  have HB2 := hid (below_call HB.out hb)
  have hs2 : w1.heap.size ≤ w2.heap.size := hb.size
  clear hb
  have hO2' := hO2
  obtain ⟨p2, c2, rfl⟩ := hO2.slice
  rw [List.length_map] at hO2' ⊢
  have HO2 := hid hO2'
  clear hO2 hO2'
  by_cases hz : t.length = 0
  · have HE : Hid (ringPutL d t how = d.Pieces) := hid (by unfold ringPutL; rw [if_pos (List.eq_nil_of_length_eq_zero hz)])
    obtain ⟨bq0, hoq0, _⟩ := HO2.out.forget
    obtain ⟨bq, hoq, hsq⟩ := own_ring_of hoq0
    have hsz := fun b hb9 => (hoq0.lts b (hsq b hb9)).2
    have HST : Hid (RpSt w1.heap.size (w.heap.size + 1) w2.heap.size w (w2.alloc (.cells #[.slice p2 d.Pieces.length c2] 58)) (.slice p2 d.Pieces.length c2) d.Pieces) := hid ⟨B1.alloc (by omega) _, Bx.new _ _ _ rfl, ⟨bq, hoq.alloc _⟩, HB2.out.alloc HB2.out.size _, by simp; omega, by simp⟩
    have hzi : ((t.length : Int) == 0) = true := by rw [hz]; rfl
    have hw1n : ¬ w.heap.size + 1 = w2.heap.size := by omega
    clear hoq hsq hoq0 hsz
    obtain ⟨hx1, hx8, ⟨bf, hof⟩, hxb, hxl1, hxl8⟩ := HST.out
    have X1o := hx1.out; have X1f := hx1.fr; have X8o := hx8.out; have X8f := hx8.fr
    have HG := hid hof; have HBF := hid hxb
    have HLF := hid (fun b (hb9 : b ∈ bf) => (hof.2.2 b hb9).1)
    clear hx1 hx8 hof hxb
    go_wp2
    refine bodyPost_ret (v := .tuple #[.agg #[.slice p2 d.Pieces.length c2], .bool true]) (by simp [results, Try.results20, go_sem, X1o, X8o]) rfl ?_
    refine ⟨[.slice p2 d.Pieces.length c2], bf, by rw [HZ.out.1], ?_, HBF.out.setCell (by simp) _⟩
    rw [HZ.out.2, HE.out]
    exact (HG.out.setCell' _ (fun b hb9 => by have := HLF.out b hb9; simp; omega)).mono (by omega)
  have hzi : ((t.length : Int) == 0) = false := by rw [beq_eq_false_iff_ne]; omega
  have htn : t ≠ [] := by rintro rfl; exact hz rfl
  have hEn := hid (show ringIsNew d t how = true → ringPutL d t how = ringNewL d t from fun h => by unfold ringPutL; rw [if_neg htn, if_pos h])
  have HEn := hid (show ringIsNew d t how = false → ringPutL d t how = d.Pieces.set 0 ⟨if how = 1 then ringFst d ++ t else t ++ ringFst d⟩ from fun h => by unfold ringPutL; rw [if_neg htn, if_neg (by simp [h])])
  clear htn hz
  by_cases hL : d.Pieces.length = 0
  · have HE := hid (hEn.out (by simp [ringIsNew, hL]))
    have hLb : ((d.Pieces.length : Int) == 0) = true := by rw [hL]; rfl
    clear hL
    cases hq0 : (how == 0)
    · skip
      go_wp2_with fail
      refine late_genw (fun W3 hW3 => ?_)
      have HB83 := hid (show Bx W3 w2.heap.size #[.slice p2 d.Pieces.length c2] by rw [hW3]; exact Bx.new _ _ _ rfl)
      have HB13 := hid (show Bx W3 (w.heap.size + 1) #[.slice none 0 0] by rw [hW3]; exact B1.alloc (by omega) _)
      have HB3 := hid (show Below w.heap.size w W3 by rw [hW3]; exact HB2.out.alloc HB2.out.size _)
      have HW23 := hid (show Below w2.heap.size w2 W3 by rw [hW3]; exact (Below.refl _ _).alloc (Nat.le_refl _) _)
      have hz3 : W3.heap.size = w2.heap.size + 1 := by rw [hW3]; simp
      have c8 : W3.cell? ⟨w2.heap.size, 0, none⟩ = some (.slice p2 d.Pieces.length c2) := HB83.out.out 0
      clear hW3
      obtain ⟨bq0, hoq0, _⟩ := HO2.out.forget
      obtain ⟨bq, hsq, hOq⟩ := hoq0.own
      obtain ⟨b9, hSrc, hs9, hn9⟩ := (pt_slice.1 hOq.1).srcs
      have HS := hid hSrc
      have HN9 := hid (hn9 hOq.2.1)
      have HF9 := hid (fun b (hb9 : b ∈ b9) => (⟨(hOq.2.2 b (hs9 b hb9)).1, (hOq.2.2 b (hs9 b hb9)).2, (hoq0.lts b (hsq b (hs9 b hb9))).2⟩ : w1.heap.size ≤ b ∧ Fr w2 b ∧ b < w2.heap.size))
      clear hoq0 hsq hOq hSrc hs9 hn9
      refine late_start (fun W => Below W3.heap.size W3 W ∧ W.cell? ⟨w2.heap.size, 0, none⟩ = some (.slice p2 d.Pieces.length c2)) 8 (by kernel_rfl) ?_ (fun hS => ?_)
      · exact ⟨(Below.refl _ _).drew, c8⟩
      refine late_take (i := 0) (v := ?_) rfl (by kernel_rfl) (fun _ _ _ h => h) (by rfl) ?_ (by assumption) ?_
      rotate_left
      · (intro w9 hS9; (try dsimp only at hS9); (try go_split_ands); go_simp <;> with_reducible rfl)
      try simp only [Act.put, List.setIfInBounds_toArray, List.set_cons_zero, List.set_cons_succ]
      refine late_take (i := 4) (v := ?_) rfl (by kernel_rfl) (fun _ _ _ h => h) (by rfl) ?_ (by assumption) ?_
      rotate_left
      · (intro w9 hS9; (try dsimp only at hS9); (try go_split_ands); go_simp <;> with_reducible rfl)
      try simp only [Act.put, List.setIfInBounds_toArray, List.set_cons_zero, List.set_cons_succ]
      refine late_take (i := 5) (v := ?_) rfl (by kernel_rfl) (fun _ _ _ h => h) (by rfl) ?_ (by assumption) ?_
      rotate_left
      · (intro w9 hS9; (try dsimp only at hS9); (try go_split_ands); go_simp <;> with_reducible rfl)
      try simp only [Act.put, List.setIfInBounds_toArray, List.set_cons_zero, List.set_cons_succ]
      refine late_one (i := 1) rfl (by kernel_rfl) (fun K9 hK9 => ?_)
      go_simp
      refine (i_copyInts (H2.out.grow (HB3.out.drew)) (by omega)).mono ?_
      rintro e w4 ⟨v4, b4, rfl, hO4, hb4⟩
      obtain ⟨p4, c4, rfl⟩ := hO4.slice
      obtain ⟨b4x, hb4x, hOw4⟩ := hO4.own
      have hz4 : W3.heap.size ≤ w4.heap.size := hb4.size
      have HOw4 := hid (show Own w1.heap.size w4 b4x [.slice p4 t.length c4] t from hOw4.mono (by show w1.heap.size ≤ W3.heap.size; omega))
      have L4 := hid (fun b (hb9 : b ∈ b4x) => hO4.lts b (hb4x b hb9))
      have hb34 := hid (show Below W3.heap.size W3 w4 from ((Below.refl _ _).drew).trans hb4)
      clear hO4 hb4x hOw4 hb4
      go_wp2_with fail
      refine hK9.out _ _ (fun _ => ?_) (fun hS9 => ?_)
      · (try dsimp only); exact ⟨hb34.out, (hb34.out.cell (World.block_lt_of_cell? _ _ c8)).trans c8⟩
      replace hS := hS9 (by decide)
      clear hK9 K9 hS9
      try simp only [Act.put, List.setIfInBounds_toArray, List.set_cons_zero, List.set_cons_succ]
      refine late_take (i := 2) (v := ?_) rfl (by kernel_rfl) (fun _ _ _ h => h) (by rfl) ?_ (by assumption) ?_
      rotate_left
      · (intro w9 hS9; (try dsimp only at hS9); (try go_split_ands); go_simp <;> with_reducible rfl)
      try simp only [Act.put, List.setIfInBounds_toArray, List.set_cons_zero, List.set_cons_succ]
      refine late_one (i := 3) rfl (by kernel_rfl) (fun K9 hK9 => ?_)
      go_simp
      refine hK9.out _ _ (fun _ => ?_) (fun hS9 => ?_)
      · (try dsimp only); exact ⟨hS.1.alloc hS.1.size _, (World.cell?_alloc_lt _ _ ⟨w2.heap.size, 0, none⟩ (World.block_lt_of_cell? _ _ hS.2)).trans hS.2⟩
      replace hS := hS9 (by decide)
      clear hK9 K9 hS9
      try simp only [Act.put, List.setIfInBounds_toArray, List.set_cons_zero, List.set_cons_succ]
      refine late_one (i := 6) rfl (by kernel_rfl) (fun K9 hK9 => ?_)
      refine step_append rfl _ _ 56 rfl 74 i0 (.agg #[.slice none 0 0]) 24 Try.underlying56 hi hz0 hz1 hz2 rfl (lo := w1.heap.size) (bs := w4.heap.size :: b4x) (xs := [(⟨t⟩ : PieceD)]) rfl ?own (b2 := b9) (ys := d.Pieces) rfl ?src HN9.out ?f2 ?q2 ?q3 ?q4 ?_
      case own => exact ownL_one (cs := [_]) (own_Piece (d := (⟨t⟩ : PieceD)) HOw4.out) rfl (by omega) _
      case src => exact HS.out.grow (HW23.out.trans ((hb34.out.mono (by omega)).alloc (by omega) _))
      case f2 => exact fun b hb => ⟨(HF9.out b hb).1, (HF9.out b hb).2.1.keep ((HW23.out.trans ((hb34.out.mono (by omega)).alloc (by omega) _)).block b (HF9.out b hb).2.2), fun hm => by
          have q1 := (HF9.out b hb).2.2
          rcases List.mem_cons.1 hm with rfl | hm
          · omega
          · have := (L4.out _ hm).1; simp at this; omega⟩
      case q2 => have := Hq.out.1; simp; omega
      case q3 => have := Hq.out.1; simp; omega
      case q4 => simp; omega
      intro p6 c6 w6 b6 hO6 hT6 hm6
      simp only [List.length_cons, List.length_nil, Nat.zero_add] at hO6 ⊢
      have n8 : w2.heap.size ∉ w4.heap.size :: b4x := fun hm => by
        rcases List.mem_cons.1 hm with hm | hm
        · omega
        · have := (L4.out _ hm).1; simp at this; omega
      have hb46 : Below W3.heap.size W3 w6 := (hb34.out.alloc hz4 _).trans (hT6.below (by simp; omega) (fun b hb => by
        rcases List.mem_cons.1 hb with rfl | hm
        · omega
        · have := (L4.out _ hm).1; simp at this; omega))
      refine hK9.out _ _ (fun _ => ?_) (fun hS9 => ?_)
      · (try dsimp only); exact ⟨hb46, cellc hT6 hS.2 n8⟩
      replace hS := hS9 (by decide)
      clear hK9 K9 hS9
      try simp only [Act.put, List.setIfInBounds_toArray, List.set_cons_zero, List.set_cons_succ]
      refine late_take (i := 7) (v := ?_) rfl (by kernel_rfl) (fun _ _ _ h => h) (by rfl) ?_ (by assumption) ?_
      rotate_left
      · (intro w9 hS9; (try dsimp only at hS9); (try go_split_ands); go_simp <;> with_reducible rfl)
      try simp only [Act.put, List.setIfInBounds_toArray, List.set_cons_zero, List.set_cons_succ]
      refine late_one (i := 8) rfl (by kernel_rfl) (fun K9 hK9 => ?_)
      have HX8 := hid (HB83.out.below hS.1 (by omega))
      have HX1 := hid (HB13.out.below hS.1 (by omega))
      have HB6 := hid (HB3.out.trans (hS.1.mono HB3.out.size))
      have HO6 := hid hO6
      have L6 := hid (fun b (hb : b ∈ b6) => show b ≠ w2.heap.size from by
        rintro rfl
        rcases hm6 _ hb with h | h | h
        · exact n8 h
        · have := (HF9.out _ h).2.2; omega
        · simp at h; omega)
      have e1 := hS.2
      have hf := HX8.out.fr 0
      clear hO6 hT6 hm6 hS hb46 n8
      go_simp
      refine hK9.out _ _ (fun h => absurd rfl h) (fun _ => ?_)
      clear hK9 K9
      try simp only [Act.put, List.setIfInBounds_toArray, List.set_cons_zero, List.set_cons_succ]
      refine late_done (by kernel_rfl) ?_ _
      clear e1 hf
      obtain ⟨n, hn⟩ : ∃ n, n = 1 + d.Pieces.length := ⟨_, rfl⟩
      rw [← hn] at HO6 ⊢
      refine late_genw (fun W7 hW7 => ?_)
      have HX87 := hid (show Bx W7 w2.heap.size #[.slice p6 n c6] by rw [hW7]; exact HX8.out.setSame 0 _)
      have HX17 := hid (show Bx W7 (w.heap.size + 1) #[.slice none 0 0] by rw [hW7]; exact HX1.out.setOther (by simp; omega) _)
      have HB7 := hid (show Below w.heap.size w W7 by rw [hW7]; exact HB6.out.setCell (by simp; omega) _)
      have HO7 := hid (show OwnL w1.heap.size W7 74 (.slice p6 n c6) b6 ([(⟨t⟩ : PieceD)] ++ d.Pieces) by rw [hW7]; exact HO6.out.setCell (fun b hb => L6.out b hb) _)
      clear hW7 HX8 HX1 HB6 HO6
      obtain ⟨b7, hs7, hOw7⟩ := HO7.out.own
      have hn7 : n ≤ 7 := by have := Hq.out.1; omega
      have hmn : 0 ≤ min (n : Int) 6 ∧ min (n : Int) 6 ≤ n := by omega
      have hn0 : n = ([(⟨t⟩ : PieceD)] ++ d.Pieces).length := by simp; omega
      obtain ⟨a7, b8, hrun7, hb8, hn8, hS8⟩ := (pt_slice.1 hOw7.1).cut_h (P := Try.prog) 56 Try.underlying56 hi hz1 (min (n : Int) 6) hmn.1 (by omega)
      have HG := hid (own_Ring (d := ⟨_⟩) (hOw7.cutS hb8 hn8 hS8))
      have HTK := hid (show ([(⟨t⟩ : PieceD)] ++ d.Pieces).take (min (n : Int) 6).toNat = ringNewL d t by
        show (⟨t⟩ :: d.Pieces).take _ = (⟨t⟩ :: d.Pieces).take 6
        by_cases h6 : n ≤ 6
        · rw [List.take_of_length_le (by simp; omega), List.take_of_length_le (by simp; omega)]
        · rw [show (min (n : Int) 6).toNat = 6 by omega])
      have HLF := hid (fun b (hb9 : b ∈ b8) => show w1.heap.size ≤ b ∧ b ≠ w2.heap.size from ⟨(HO7.out.lts b (hs7 b (hb8 b hb9))).1, L6.out b (hs7 b (hb8 b hb9))⟩)
      have HMN := hid hmn
      have X1o := HX17.out.out; have X1f := HX17.out.fr; have X8o := HX87.out.out; have X8f := HX87.out.fr
      obtain ⟨u, hu⟩ : ∃ u, u = (min (n : Int) 6).toNat := ⟨_, rfl⟩
      rw [← hu] at hrun7 HG HTK
      have hzs1 : ¬ w.heap.size + 1 = w2.heap.size := by omega
      have hzs2 : ¬ w2.heap.size = w.heap.size + 1 := by omega
      clear hOw7 hb8 hn8 hS8 hmn hn0 hu hn
      go_wp2
      refine bodyPost_ret (v := .tuple #[.agg #[.slice a7 u c6], .bool true]) (by simp [results, Try.results20, go_sem, X1o, X8o, hzs1, hzs2]) rfl ?_
      refine ⟨[.slice a7 u c6], b8, by rw [HZ.out.1], ?_, (HB7.out.setCell (by simp; omega) _).setCell (by simp) _⟩
      rw [HZ.out.2, HE.out, ← HTK.out]
      exact ((HG.out.setCell' _ (fun b hb9 => by have := HLF.out b hb9; simp; omega)).setCell' _ (fun b hb9 => by have := HLF.out b hb9; simp; omega)).mono (by omega)
    · skip
      go_wp2_with fail
      refine late_genw (fun W3 hW3 => ?_)
      have HB83 := hid (show Bx W3 w2.heap.size #[.slice p2 d.Pieces.length c2] by rw [hW3]; exact Bx.new _ _ _ rfl)
      have HB13 := hid (show Bx W3 (w.heap.size + 1) #[.slice none 0 0] by rw [hW3]; exact B1.alloc (by omega) _)
      have HB3 := hid (show Below w.heap.size w W3 by rw [hW3]; exact HB2.out.alloc HB2.out.size _)
      have HW23 := hid (show Below w2.heap.size w2 W3 by rw [hW3]; exact (Below.refl _ _).alloc (Nat.le_refl _) _)
      have hz3 : W3.heap.size = w2.heap.size + 1 := by rw [hW3]; simp
      have c8 : W3.cell? ⟨w2.heap.size, 0, none⟩ = some (.slice p2 d.Pieces.length c2) := HB83.out.out 0
      clear hW3
      obtain ⟨bq0, hoq0, _⟩ := HO2.out.forget
      obtain ⟨bq, hsq, hOq⟩ := hoq0.own
      obtain ⟨b9, hSrc, hs9, hn9⟩ := (pt_slice.1 hOq.1).srcs
      have HS := hid hSrc
      have HN9 := hid (hn9 hOq.2.1)
      have HF9 := hid (fun b (hb9 : b ∈ b9) => (⟨(hOq.2.2 b (hs9 b hb9)).1, (hOq.2.2 b (hs9 b hb9)).2, (hoq0.lts b (hsq b (hs9 b hb9))).2⟩ : w1.heap.size ≤ b ∧ Fr w2 b ∧ b < w2.heap.size))
      clear hoq0 hsq hOq hSrc hs9 hn9
      refine late_start (fun W => Below W3.heap.size W3 W ∧ W.cell? ⟨w2.heap.size, 0, none⟩ = some (.slice p2 d.Pieces.length c2)) 8 (by kernel_rfl) ?_ (fun hS => ?_)
      · exact ⟨(Below.refl _ _).drew, c8⟩
      refine late_take (i := 0) (v := ?_) rfl (by kernel_rfl) (fun _ _ _ h => h) (by rfl) ?_ (by assumption) ?_
      rotate_left
      · (intro w9 hS9; (try dsimp only at hS9); (try go_split_ands); go_simp <;> with_reducible rfl)
      try simp only [Act.put, List.setIfInBounds_toArray, List.set_cons_zero, List.set_cons_succ]
      refine late_take (i := 4) (v := ?_) rfl (by kernel_rfl) (fun _ _ _ h => h) (by rfl) ?_ (by assumption) ?_
      rotate_left
      · (intro w9 hS9; (try dsimp only at hS9); (try go_split_ands); go_simp <;> with_reducible rfl)
      try simp only [Act.put, List.setIfInBounds_toArray, List.set_cons_zero, List.set_cons_succ]
      refine late_take (i := 5) (v := ?_) rfl (by kernel_rfl) (fun _ _ _ h => h) (by rfl) ?_ (by assumption) ?_
      rotate_left
      · (intro w9 hS9; (try dsimp only at hS9); (try go_split_ands); go_simp <;> with_reducible rfl)
      try simp only [Act.put, List.setIfInBounds_toArray, List.set_cons_zero, List.set_cons_succ]
      refine late_one (i := 1) rfl (by kernel_rfl) (fun K9 hK9 => ?_)
      go_simp
      refine (i_copyInts (H2.out.grow (HB3.out.drew)) (by omega)).mono ?_
      rintro e w4 ⟨v4, b4, rfl, hO4, hb4⟩
      obtain ⟨p4, c4, rfl⟩ := hO4.slice
      obtain ⟨b4x, hb4x, hOw4⟩ := hO4.own
      have hz4 : W3.heap.size ≤ w4.heap.size := hb4.size
      have HOw4 := hid (show Own w1.heap.size w4 b4x [.slice p4 t.length c4] t from hOw4.mono (by show w1.heap.size ≤ W3.heap.size; omega))
      have L4 := hid (fun b (hb9 : b ∈ b4x) => hO4.lts b (hb4x b hb9))
      have hb34 := hid (show Below W3.heap.size W3 w4 from ((Below.refl _ _).drew).trans hb4)
      clear hO4 hb4x hOw4 hb4
      go_wp2_with fail
      refine hK9.out _ _ (fun _ => ?_) (fun hS9 => ?_)
      · (try dsimp only); exact ⟨hb34.out, (hb34.out.cell (World.block_lt_of_cell? _ _ c8)).trans c8⟩
      replace hS := hS9 (by decide)
      clear hK9 K9 hS9
      try simp only [Act.put, List.setIfInBounds_toArray, List.set_cons_zero, List.set_cons_succ]
      refine late_take (i := 2) (v := ?_) rfl (by kernel_rfl) (fun _ _ _ h => h) (by rfl) ?_ (by assumption) ?_
      rotate_left
      · (intro w9 hS9; (try dsimp only at hS9); (try go_split_ands); go_simp <;> with_reducible rfl)
      try simp only [Act.put, List.setIfInBounds_toArray, List.set_cons_zero, List.set_cons_succ]
      refine late_one (i := 3) rfl (by kernel_rfl) (fun K9 hK9 => ?_)
      go_simp
      refine hK9.out _ _ (fun _ => ?_) (fun hS9 => ?_)
      · (try dsimp only); exact ⟨hS.1.alloc hS.1.size _, (World.cell?_alloc_lt _ _ ⟨w2.heap.size, 0, none⟩ (World.block_lt_of_cell? _ _ hS.2)).trans hS.2⟩
      replace hS := hS9 (by decide)
      clear hK9 K9 hS9
      try simp only [Act.put, List.setIfInBounds_toArray, List.set_cons_zero, List.set_cons_succ]
      refine late_one (i := 6) rfl (by kernel_rfl) (fun K9 hK9 => ?_)
      refine step_append rfl _ _ 56 rfl 74 i0 (.agg #[.slice none 0 0]) 24 Try.underlying56 hi hz0 hz1 hz2 rfl (lo := w1.heap.size) (bs := w4.heap.size :: b4x) (xs := [(⟨t⟩ : PieceD)]) rfl ?own (b2 := b9) (ys := d.Pieces) rfl ?src HN9.out ?f2 ?q2 ?q3 ?q4 ?_
      case own => exact ownL_one (cs := [_]) (own_Piece (d := (⟨t⟩ : PieceD)) HOw4.out) rfl (by omega) _
      case src => exact HS.out.grow (HW23.out.trans ((hb34.out.mono (by omega)).alloc (by omega) _))
      case f2 => exact fun b hb => ⟨(HF9.out b hb).1, (HF9.out b hb).2.1.keep ((HW23.out.trans ((hb34.out.mono (by omega)).alloc (by omega) _)).block b (HF9.out b hb).2.2), fun hm => by
          have q1 := (HF9.out b hb).2.2
          rcases List.mem_cons.1 hm with rfl | hm
          · omega
          · have := (L4.out _ hm).1; simp at this; omega⟩
      case q2 => have := Hq.out.1; simp; omega
      case q3 => have := Hq.out.1; simp; omega
      case q4 => simp; omega
      intro p6 c6 w6 b6 hO6 hT6 hm6
      simp only [List.length_cons, List.length_nil, Nat.zero_add] at hO6 ⊢
      have n8 : w2.heap.size ∉ w4.heap.size :: b4x := fun hm => by
        rcases List.mem_cons.1 hm with hm | hm
        · omega
        · have := (L4.out _ hm).1; simp at this; omega
      have hb46 : Below W3.heap.size W3 w6 := (hb34.out.alloc hz4 _).trans (hT6.below (by simp; omega) (fun b hb => by
        rcases List.mem_cons.1 hb with rfl | hm
        · omega
        · have := (L4.out _ hm).1; simp at this; omega))
      refine hK9.out _ _ (fun _ => ?_) (fun hS9 => ?_)
      · (try dsimp only); exact ⟨hb46, cellc hT6 hS.2 n8⟩
      replace hS := hS9 (by decide)
      clear hK9 K9 hS9
      try simp only [Act.put, List.setIfInBounds_toArray, List.set_cons_zero, List.set_cons_succ]
      refine late_take (i := 7) (v := ?_) rfl (by kernel_rfl) (fun _ _ _ h => h) (by rfl) ?_ (by assumption) ?_
      rotate_left
      · (intro w9 hS9; (try dsimp only at hS9); (try go_split_ands); go_simp <;> with_reducible rfl)
      try simp only [Act.put, List.setIfInBounds_toArray, List.set_cons_zero, List.set_cons_succ]
      refine late_one (i := 8) rfl (by kernel_rfl) (fun K9 hK9 => ?_)
      have HX8 := hid (HB83.out.below hS.1 (by omega))
      have HX1 := hid (HB13.out.below hS.1 (by omega))
      have HB6 := hid (HB3.out.trans (hS.1.mono HB3.out.size))
      have HO6 := hid hO6
      have L6 := hid (fun b (hb : b ∈ b6) => show b ≠ w2.heap.size from by
        rintro rfl
        rcases hm6 _ hb with h | h | h
        · exact n8 h
        · have := (HF9.out _ h).2.2; omega
        · simp at h; omega)
      have e1 := hS.2
      have hf := HX8.out.fr 0
      clear hO6 hT6 hm6 hS hb46 n8
      go_simp
      refine hK9.out _ _ (fun h => absurd rfl h) (fun _ => ?_)
      clear hK9 K9
      try simp only [Act.put, List.setIfInBounds_toArray, List.set_cons_zero, List.set_cons_succ]
      refine late_done (by kernel_rfl) ?_ _
      clear e1 hf
      obtain ⟨n, hn⟩ : ∃ n, n = 1 + d.Pieces.length := ⟨_, rfl⟩
      rw [← hn] at HO6 ⊢
      refine late_genw (fun W7 hW7 => ?_)
      have HX87 := hid (show Bx W7 w2.heap.size #[.slice p6 n c6] by rw [hW7]; exact HX8.out.setSame 0 _)
      have HX17 := hid (show Bx W7 (w.heap.size + 1) #[.slice none 0 0] by rw [hW7]; exact HX1.out.setOther (by simp; omega) _)
      have HB7 := hid (show Below w.heap.size w W7 by rw [hW7]; exact HB6.out.setCell (by simp; omega) _)
      have HO7 := hid (show OwnL w1.heap.size W7 74 (.slice p6 n c6) b6 ([(⟨t⟩ : PieceD)] ++ d.Pieces) by rw [hW7]; exact HO6.out.setCell (fun b hb => L6.out b hb) _)
      clear hW7 HX8 HX1 HB6 HO6
      obtain ⟨b7, hs7, hOw7⟩ := HO7.out.own
      have hn7 : n ≤ 7 := by have := Hq.out.1; omega
      have hmn : 0 ≤ min (n : Int) 6 ∧ min (n : Int) 6 ≤ n := by omega
      have hn0 : n = ([(⟨t⟩ : PieceD)] ++ d.Pieces).length := by simp; omega
      obtain ⟨a7, b8, hrun7, hb8, hn8, hS8⟩ := (pt_slice.1 hOw7.1).cut_h (P := Try.prog) 56 Try.underlying56 hi hz1 (min (n : Int) 6) hmn.1 (by omega)
      have HG := hid (own_Ring (d := ⟨_⟩) (hOw7.cutS hb8 hn8 hS8))
      have HTK := hid (show ([(⟨t⟩ : PieceD)] ++ d.Pieces).take (min (n : Int) 6).toNat = ringNewL d t by
        show (⟨t⟩ :: d.Pieces).take _ = (⟨t⟩ :: d.Pieces).take 6
        by_cases h6 : n ≤ 6
        · rw [List.take_of_length_le (by simp; omega), List.take_of_length_le (by simp; omega)]
        · rw [show (min (n : Int) 6).toNat = 6 by omega])
      have HLF := hid (fun b (hb9 : b ∈ b8) => show w1.heap.size ≤ b ∧ b ≠ w2.heap.size from ⟨(HO7.out.lts b (hs7 b (hb8 b hb9))).1, L6.out b (hs7 b (hb8 b hb9))⟩)
      have HMN := hid hmn
      have X1o := HX17.out.out; have X1f := HX17.out.fr; have X8o := HX87.out.out; have X8f := HX87.out.fr
      obtain ⟨u, hu⟩ : ∃ u, u = (min (n : Int) 6).toNat := ⟨_, rfl⟩
      rw [← hu] at hrun7 HG HTK
      have hzs1 : ¬ w.heap.size + 1 = w2.heap.size := by omega
      have hzs2 : ¬ w2.heap.size = w.heap.size + 1 := by omega
      clear hOw7 hb8 hn8 hS8 hmn hn0 hu hn
      go_wp2
      refine bodyPost_ret (v := .tuple #[.agg #[.slice a7 u c6], .bool true]) (by simp [results, Try.results20, go_sem, X1o, X8o, hzs1, hzs2]) rfl ?_
      refine ⟨[.slice a7 u c6], b8, by rw [HZ.out.1], ?_, (HB7.out.setCell (by simp; omega) _).setCell (by simp) _⟩
      rw [HZ.out.2, HE.out, ← HTK.out]
      exact ((HG.out.setCell' _ (fun b hb9 => by have := HLF.out b hb9; simp; omega)).setCell' _ (fun b hb9 => by have := HLF.out b hb9; simp; omega)).mono (by omega)
  have hLb : ((d.Pieces.length : Int) == 0) = false := by rw [beq_eq_false_iff_ne]; omega
  have hL0 : 0 < d.Pieces.length := by omega
  have hL0i : (0 : Int) < (d.Pieces.length : Int) := by omega
  have hL6 : d.Pieces.length ≤ 6 := Hq.out.1
  obtain ⟨g, cap, bi, cs0, hv, hgb, hlo, hglt, hgF, hbi, hOw0, hA0, hset⟩ := HO2.out.setE 0 (by simp; omega)
  simp only [Value.slice.injEq] at hv
  obtain ⟨rfl, hv2, hv3⟩ := hv
  obtain rfl : c2 = cap := hv3
  clear hv2
  obtain ⟨v0, rfl, hOI⟩ := hOw0.1
  have hT0 : (((d.Pieces.map (PF 3))[0]'(by simp; omega)).Text) = ringFst d := by rw [ringFst_get hL0, List.getElem_map]; rfl
  rw [hT0] at hOI
  have Hset := hid hset
  have Hbi := hid hbi
  have Hlob := hid (fun b (hb9 : b ∈ bi) => (hOw0.2.2 b hb9).1)
  obtain ⟨T0, hTT⟩ : ∃ T0, T0 = ringFst d := ⟨_, rfl⟩
  rw [← hTT] at hOI Hf HEn
  have hsum := hid (show ringIsNew d t how = true ↔ (how = 0 ∨ 400 < T0.length + t.length) by
    rw [hTT]; unfold ringIsNew
    simp only [Bool.or_eq_true, decide_eq_true_eq]; omega)
  obtain ⟨p0, c0, rfl⟩ := hOI.slice
  have HOI := hid (hOI.raise Hlob.out)
  have cg : w2.cell? ⟨g, 0, none⟩ = some (.slice p0 T0.length c0) := by have q := hA0 0 _ rfl; simpa using q
  have HGF := hid hgF
  have hT4 : T0.length ≤ 400 := Hf.out
  have hglt2 : ¬ g = w2.heap.size := by omega
  have hwt : wrap64 ((T0.length : Int) + (t.length : Int)) = (T0.length : Int) + (t.length : Int) := IntWalk.wrap64_in _ (by omega)
  have HWT := hid hwt; clear hwt
  have hgB1 : g ≠ w.heap.size + 1 := by omega
  have HnG := hid (show g ∉ bi from fun hm => (Hbi.out g hm).2 rfl)
  have Hbz := hid (fun b (hb9 : b ∈ bi) => (HO2.out.lts b (Hbi.out b hb9).1).2)
  clear hset hbi hOw0 hA0 hgF hOI hT0 hTT hL hgb
  cases hq0 : (how == 0)
  rotate_left
  · have HE := hid (hEn.out (hsum.out.2 (.inl (by simpa using hq0))))
    go_wp2_with fail
    refine late_genw (fun W3 hW3 => ?_)
    have HB83 := hid (show Bx W3 w2.heap.size #[.slice (some ⟨g, 0, none⟩) d.Pieces.length c2] by rw [hW3]; exact Bx.new _ _ _ rfl)
    have HB13 := hid (show Bx W3 (w.heap.size + 1) #[.slice none 0 0] by rw [hW3]; exact B1.alloc (by omega) _)
    have HB3 := hid (show Below w.heap.size w W3 by rw [hW3]; exact HB2.out.alloc HB2.out.size _)
    have HW23 := hid (show Below w2.heap.size w2 W3 by rw [hW3]; exact (Below.refl _ _).alloc (Nat.le_refl _) _)
    have hz3 : W3.heap.size = w2.heap.size + 1 := by rw [hW3]; simp
    have c8 : W3.cell? ⟨w2.heap.size, 0, none⟩ = some (.slice (some ⟨g, 0, none⟩) d.Pieces.length c2) := HB83.out.out 0
    clear hW3
    obtain ⟨bq0, hoq0, _⟩ := HO2.out.forget
    obtain ⟨bq, hsq, hOq⟩ := hoq0.own
    obtain ⟨b9, hSrc, hs9, hn9⟩ := (pt_slice.1 hOq.1).srcs
    have HS := hid hSrc
    have HN9 := hid (hn9 hOq.2.1)
    have HF9 := hid (fun b (hb9 : b ∈ b9) => (⟨(hOq.2.2 b (hs9 b hb9)).1, (hOq.2.2 b (hs9 b hb9)).2, (hoq0.lts b (hsq b (hs9 b hb9))).2⟩ : w1.heap.size ≤ b ∧ Fr w2 b ∧ b < w2.heap.size))
    clear hoq0 hsq hOq hSrc hs9 hn9
    refine late_start (fun W => Below W3.heap.size W3 W ∧ W.cell? ⟨w2.heap.size, 0, none⟩ = some (.slice (some ⟨g, 0, none⟩) d.Pieces.length c2)) 8 (by kernel_rfl) ?_ (fun hS => ?_)
    · exact ⟨(Below.refl _ _).drew, c8⟩
    refine late_take (i := 0) (v := ?_) rfl (by kernel_rfl) (fun _ _ _ h => h) (by rfl) ?_ (by assumption) ?_
    rotate_left
    · (intro w9 hS9; (try dsimp only at hS9); (try go_split_ands); go_simp <;> with_reducible rfl)
    try simp only [Act.put, List.setIfInBounds_toArray, List.set_cons_zero, List.set_cons_succ]
    refine late_take (i := 4) (v := ?_) rfl (by kernel_rfl) (fun _ _ _ h => h) (by rfl) ?_ (by assumption) ?_
    rotate_left
    · (intro w9 hS9; (try dsimp only at hS9); (try go_split_ands); go_simp <;> with_reducible rfl)
    try simp only [Act.put, List.setIfInBounds_toArray, List.set_cons_zero, List.set_cons_succ]
    refine late_take (i := 5) (v := ?_) rfl (by kernel_rfl) (fun _ _ _ h => h) (by rfl) ?_ (by assumption) ?_
    rotate_left
    · (intro w9 hS9; (try dsimp only at hS9); (try go_split_ands); go_simp <;> with_reducible rfl)
    try simp only [Act.put, List.setIfInBounds_toArray, List.set_cons_zero, List.set_cons_succ]
    refine late_one (i := 1) rfl (by kernel_rfl) (fun K9 hK9 => ?_)
    go_simp
    refine (i_copyInts (H2.out.grow (HB3.out.drew)) (by omega)).mono ?_
    rintro e w4 ⟨v4, b4, rfl, hO4, hb4⟩
    obtain ⟨p4, c4, rfl⟩ := hO4.slice
    obtain ⟨b4x, hb4x, hOw4⟩ := hO4.own
    have hz4 : W3.heap.size ≤ w4.heap.size := hb4.size
    have HOw4 := hid (show Own w1.heap.size w4 b4x [.slice p4 t.length c4] t from hOw4.mono (by show w1.heap.size ≤ W3.heap.size; omega))
    have L4 := hid (fun b (hb9 : b ∈ b4x) => hO4.lts b (hb4x b hb9))
    have hb34 := hid (show Below W3.heap.size W3 w4 from ((Below.refl _ _).drew).trans hb4)
    clear hO4 hb4x hOw4 hb4
    go_wp2_with fail
    refine hK9.out _ _ (fun _ => ?_) (fun hS9 => ?_)
    · (try dsimp only); exact ⟨hb34.out, (hb34.out.cell (World.block_lt_of_cell? _ _ c8)).trans c8⟩
    replace hS := hS9 (by decide)
    clear hK9 K9 hS9
    try simp only [Act.put, List.setIfInBounds_toArray, List.set_cons_zero, List.set_cons_succ]
    refine late_take (i := 2) (v := ?_) rfl (by kernel_rfl) (fun _ _ _ h => h) (by rfl) ?_ (by assumption) ?_
    rotate_left
    · (intro w9 hS9; (try dsimp only at hS9); (try go_split_ands); go_simp <;> with_reducible rfl)
    try simp only [Act.put, List.setIfInBounds_toArray, List.set_cons_zero, List.set_cons_succ]
    refine late_one (i := 3) rfl (by kernel_rfl) (fun K9 hK9 => ?_)
    go_simp
    refine hK9.out _ _ (fun _ => ?_) (fun hS9 => ?_)
    · (try dsimp only); exact ⟨hS.1.alloc hS.1.size _, (World.cell?_alloc_lt _ _ ⟨w2.heap.size, 0, none⟩ (World.block_lt_of_cell? _ _ hS.2)).trans hS.2⟩
    replace hS := hS9 (by decide)
    clear hK9 K9 hS9
    try simp only [Act.put, List.setIfInBounds_toArray, List.set_cons_zero, List.set_cons_succ]
    refine late_one (i := 6) rfl (by kernel_rfl) (fun K9 hK9 => ?_)
    refine step_append rfl _ _ 56 rfl 74 i0 (.agg #[.slice none 0 0]) 24 Try.underlying56 hi hz0 hz1 hz2 rfl (lo := w1.heap.size) (bs := w4.heap.size :: b4x) (xs := [(⟨t⟩ : PieceD)]) rfl ?own (b2 := b9) (ys := d.Pieces) rfl ?src HN9.out ?f2 ?q2 ?q3 ?q4 ?_
    case own => exact ownL_one (cs := [_]) (own_Piece (d := (⟨t⟩ : PieceD)) HOw4.out) rfl (by omega) _
    case src => exact HS.out.grow (HW23.out.trans ((hb34.out.mono (by omega)).alloc (by omega) _))
    case f2 => exact fun b hb => ⟨(HF9.out b hb).1, (HF9.out b hb).2.1.keep ((HW23.out.trans ((hb34.out.mono (by omega)).alloc (by omega) _)).block b (HF9.out b hb).2.2), fun hm => by
        have q1 := (HF9.out b hb).2.2
        rcases List.mem_cons.1 hm with rfl | hm
        · omega
        · have := (L4.out _ hm).1; simp at this; omega⟩
    case q2 => have := Hq.out.1; simp; omega
    case q3 => have := Hq.out.1; simp; omega
    case q4 => simp; omega
    intro p6 c6 w6 b6 hO6 hT6 hm6
    simp only [List.length_cons, List.length_nil, Nat.zero_add] at hO6 ⊢
    have n8 : w2.heap.size ∉ w4.heap.size :: b4x := fun hm => by
      rcases List.mem_cons.1 hm with hm | hm
      · omega
      · have := (L4.out _ hm).1; simp at this; omega
    have hb46 : Below W3.heap.size W3 w6 := (hb34.out.alloc hz4 _).trans (hT6.below (by simp; omega) (fun b hb => by
      rcases List.mem_cons.1 hb with rfl | hm
      · omega
      · have := (L4.out _ hm).1; simp at this; omega))
    refine hK9.out _ _ (fun _ => ?_) (fun hS9 => ?_)
    · (try dsimp only); exact ⟨hb46, cellc hT6 hS.2 n8⟩
    replace hS := hS9 (by decide)
    clear hK9 K9 hS9
    try simp only [Act.put, List.setIfInBounds_toArray, List.set_cons_zero, List.set_cons_succ]
    refine late_take (i := 7) (v := ?_) rfl (by kernel_rfl) (fun _ _ _ h => h) (by rfl) ?_ (by assumption) ?_
    rotate_left
    · (intro w9 hS9; (try dsimp only at hS9); (try go_split_ands); go_simp <;> with_reducible rfl)
    try simp only [Act.put, List.setIfInBounds_toArray, List.set_cons_zero, List.set_cons_succ]
    refine late_one (i := 8) rfl (by kernel_rfl) (fun K9 hK9 => ?_)
    have HX8 := hid (HB83.out.below hS.1 (by omega))
    have HX1 := hid (HB13.out.below hS.1 (by omega))
    have HB6 := hid (HB3.out.trans (hS.1.mono HB3.out.size))
    have HO6 := hid hO6
    have L6 := hid (fun b (hb : b ∈ b6) => show b ≠ w2.heap.size from by
      rintro rfl
      rcases hm6 _ hb with h | h | h
      · exact n8 h
      · have := (HF9.out _ h).2.2; omega
      · simp at h; omega)
    have e1 := hS.2
    have hf := HX8.out.fr 0
    clear hO6 hT6 hm6 hS hb46 n8
    go_simp
    refine hK9.out _ _ (fun h => absurd rfl h) (fun _ => ?_)
    clear hK9 K9
    try simp only [Act.put, List.setIfInBounds_toArray, List.set_cons_zero, List.set_cons_succ]
    refine late_done (by kernel_rfl) ?_ _
    clear e1 hf
    obtain ⟨n, hn⟩ : ∃ n, n = 1 + d.Pieces.length := ⟨_, rfl⟩
    rw [← hn] at HO6 ⊢
    refine late_genw (fun W7 hW7 => ?_)
    have HX87 := hid (show Bx W7 w2.heap.size #[.slice p6 n c6] by rw [hW7]; exact HX8.out.setSame 0 _)
    have HX17 := hid (show Bx W7 (w.heap.size + 1) #[.slice none 0 0] by rw [hW7]; exact HX1.out.setOther (by simp; omega) _)
    have HB7 := hid (show Below w.heap.size w W7 by rw [hW7]; exact HB6.out.setCell (by simp; omega) _)
    have HO7 := hid (show OwnL w1.heap.size W7 74 (.slice p6 n c6) b6 ([(⟨t⟩ : PieceD)] ++ d.Pieces) by rw [hW7]; exact HO6.out.setCell (fun b hb => L6.out b hb) _)
    clear hW7 HX8 HX1 HB6 HO6
    obtain ⟨b7, hs7, hOw7⟩ := HO7.out.own
    have hn7 : n ≤ 7 := by have := Hq.out.1; omega
    have hmn : 0 ≤ min (n : Int) 6 ∧ min (n : Int) 6 ≤ n := by omega
    have hn0 : n = ([(⟨t⟩ : PieceD)] ++ d.Pieces).length := by simp; omega
    obtain ⟨a7, b8, hrun7, hb8, hn8, hS8⟩ := (pt_slice.1 hOw7.1).cut_h (P := Try.prog) 56 Try.underlying56 hi hz1 (min (n : Int) 6) hmn.1 (by omega)
    have HG := hid (own_Ring (d := ⟨_⟩) (hOw7.cutS hb8 hn8 hS8))
    have HTK := hid (show ([(⟨t⟩ : PieceD)] ++ d.Pieces).take (min (n : Int) 6).toNat = ringNewL d t by
      show (⟨t⟩ :: d.Pieces).take _ = (⟨t⟩ :: d.Pieces).take 6
      by_cases h6 : n ≤ 6
      · rw [List.take_of_length_le (by simp; omega), List.take_of_length_le (by simp; omega)]
      · rw [show (min (n : Int) 6).toNat = 6 by omega])
    have HLF := hid (fun b (hb9 : b ∈ b8) => show w1.heap.size ≤ b ∧ b ≠ w2.heap.size from ⟨(HO7.out.lts b (hs7 b (hb8 b hb9))).1, L6.out b (hs7 b (hb8 b hb9))⟩)
    have HMN := hid hmn
    have X1o := HX17.out.out; have X1f := HX17.out.fr; have X8o := HX87.out.out; have X8f := HX87.out.fr
    obtain ⟨u, hu⟩ : ∃ u, u = (min (n : Int) 6).toNat := ⟨_, rfl⟩
    rw [← hu] at hrun7 HG HTK
    have hzs1 : ¬ w.heap.size + 1 = w2.heap.size := by omega
    have hzs2 : ¬ w2.heap.size = w.heap.size + 1 := by omega
    clear hOw7 hb8 hn8 hS8 hmn hn0 hu hn
    go_wp2
    refine bodyPost_ret (v := .tuple #[.agg #[.slice a7 u c6], .bool true]) (by simp [results, Try.results20, go_sem, X1o, X8o, hzs1, hzs2]) rfl ?_
    refine ⟨[.slice a7 u c6], b8, by rw [HZ.out.1], ?_, (HB7.out.setCell (by simp; omega) _).setCell (by simp) _⟩
    rw [HZ.out.2, HE.out, ← HTK.out]
    exact ((HG.out.setCell' _ (fun b hb9 => by have := HLF.out b hb9; simp; omega)).setCell' _ (fun b hb9 => by have := HLF.out b hb9; simp; omega)).mono (by omega)
  have hq0n : ¬ how = 0 := by simpa using hq0
  by_cases hgt : 400 < (T0.length : Int) + (t.length : Int)
  · have HE := hid (hEn.out (hsum.out.2 (.inr (by omega))))
    go_wp2_with fail
    refine late_genw (fun W3 hW3 => ?_)
    have HB83 := hid (show Bx W3 w2.heap.size #[.slice (some ⟨g, 0, none⟩) d.Pieces.length c2] by rw [hW3]; exact Bx.new _ _ _ rfl)
    have HB13 := hid (show Bx W3 (w.heap.size + 1) #[.slice none 0 0] by rw [hW3]; exact B1.alloc (by omega) _)
    have HB3 := hid (show Below w.heap.size w W3 by rw [hW3]; exact HB2.out.alloc HB2.out.size _)
    have HW23 := hid (show Below w2.heap.size w2 W3 by rw [hW3]; exact (Below.refl _ _).alloc (Nat.le_refl _) _)
    have hz3 : W3.heap.size = w2.heap.size + 1 := by rw [hW3]; simp
    have c8 : W3.cell? ⟨w2.heap.size, 0, none⟩ = some (.slice (some ⟨g, 0, none⟩) d.Pieces.length c2) := HB83.out.out 0
    clear hW3
    obtain ⟨bq0, hoq0, _⟩ := HO2.out.forget
    obtain ⟨bq, hsq, hOq⟩ := hoq0.own
    obtain ⟨b9, hSrc, hs9, hn9⟩ := (pt_slice.1 hOq.1).srcs
    have HS := hid hSrc
    have HN9 := hid (hn9 hOq.2.1)
    have HF9 := hid (fun b (hb9 : b ∈ b9) => (⟨(hOq.2.2 b (hs9 b hb9)).1, (hOq.2.2 b (hs9 b hb9)).2, (hoq0.lts b (hsq b (hs9 b hb9))).2⟩ : w1.heap.size ≤ b ∧ Fr w2 b ∧ b < w2.heap.size))
    clear hoq0 hsq hOq hSrc hs9 hn9
    refine late_start (fun W => Below W3.heap.size W3 W ∧ W.cell? ⟨w2.heap.size, 0, none⟩ = some (.slice (some ⟨g, 0, none⟩) d.Pieces.length c2)) 8 (by kernel_rfl) ?_ (fun hS => ?_)
    · exact ⟨(Below.refl _ _).drew, c8⟩
    refine late_take (i := 0) (v := ?_) rfl (by kernel_rfl) (fun _ _ _ h => h) (by rfl) ?_ (by assumption) ?_
    rotate_left
    · (intro w9 hS9; (try dsimp only at hS9); (try go_split_ands); go_simp <;> with_reducible rfl)
    try simp only [Act.put, List.setIfInBounds_toArray, List.set_cons_zero, List.set_cons_succ]
    refine late_take (i := 4) (v := ?_) rfl (by kernel_rfl) (fun _ _ _ h => h) (by rfl) ?_ (by assumption) ?_
    rotate_left
    · (intro w9 hS9; (try dsimp only at hS9); (try go_split_ands); go_simp <;> with_reducible rfl)
    try simp only [Act.put, List.setIfInBounds_toArray, List.set_cons_zero, List.set_cons_succ]
    refine late_take (i := 5) (v := ?_) rfl (by kernel_rfl) (fun _ _ _ h => h) (by rfl) ?_ (by assumption) ?_
    rotate_left
    · (intro w9 hS9; (try dsimp only at hS9); (try go_split_ands); go_simp <;> with_reducible rfl)
    try simp only [Act.put, List.setIfInBounds_toArray, List.set_cons_zero, List.set_cons_succ]
    refine late_one (i := 1) rfl (by kernel_rfl) (fun K9 hK9 => ?_)
    go_simp
    refine (i_copyInts (H2.out.grow (HB3.out.drew)) (by omega)).mono ?_
    rintro e w4 ⟨v4, b4, rfl, hO4, hb4⟩
    obtain ⟨p4, c4, rfl⟩ := hO4.slice
    obtain ⟨b4x, hb4x, hOw4⟩ := hO4.own
    have hz4 : W3.heap.size ≤ w4.heap.size := hb4.size
    have HOw4 := hid (show Own w1.heap.size w4 b4x [.slice p4 t.length c4] t from hOw4.mono (by show w1.heap.size ≤ W3.heap.size; omega))
    have L4 := hid (fun b (hb9 : b ∈ b4x) => hO4.lts b (hb4x b hb9))
    have hb34 := hid (show Below W3.heap.size W3 w4 from ((Below.refl _ _).drew).trans hb4)
    clear hO4 hb4x hOw4 hb4
    go_wp2_with fail
    refine hK9.out _ _ (fun _ => ?_) (fun hS9 => ?_)
    · (try dsimp only); exact ⟨hb34.out, (hb34.out.cell (World.block_lt_of_cell? _ _ c8)).trans c8⟩
    replace hS := hS9 (by decide)
    clear hK9 K9 hS9
    try simp only [Act.put, List.setIfInBounds_toArray, List.set_cons_zero, List.set_cons_succ]
    refine late_take (i := 2) (v := ?_) rfl (by kernel_rfl) (fun _ _ _ h => h) (by rfl) ?_ (by assumption) ?_
    rotate_left
    · (intro w9 hS9; (try dsimp only at hS9); (try go_split_ands); go_simp <;> with_reducible rfl)
    try simp only [Act.put, List.setIfInBounds_toArray, List.set_cons_zero, List.set_cons_succ]
    refine late_one (i := 3) rfl (by kernel_rfl) (fun K9 hK9 => ?_)
    go_simp
    refine hK9.out _ _ (fun _ => ?_) (fun hS9 => ?_)
    · (try dsimp only); exact ⟨hS.1.alloc hS.1.size _, (World.cell?_alloc_lt _ _ ⟨w2.heap.size, 0, none⟩ (World.block_lt_of_cell? _ _ hS.2)).trans hS.2⟩
    replace hS := hS9 (by decide)
    clear hK9 K9 hS9
    try simp only [Act.put, List.setIfInBounds_toArray, List.set_cons_zero, List.set_cons_succ]
    refine late_one (i := 6) rfl (by kernel_rfl) (fun K9 hK9 => ?_)
    refine step_append rfl _ _ 56 rfl 74 i0 (.agg #[.slice none 0 0]) 24 Try.underlying56 hi hz0 hz1 hz2 rfl (lo := w1.heap.size) (bs := w4.heap.size :: b4x) (xs := [(⟨t⟩ : PieceD)]) rfl ?own (b2 := b9) (ys := d.Pieces) rfl ?src HN9.out ?f2 ?q2 ?q3 ?q4 ?_
    case own => exact ownL_one (cs := [_]) (own_Piece (d := (⟨t⟩ : PieceD)) HOw4.out) rfl (by omega) _
    case src => exact HS.out.grow (HW23.out.trans ((hb34.out.mono (by omega)).alloc (by omega) _))
    case f2 => exact fun b hb => ⟨(HF9.out b hb).1, (HF9.out b hb).2.1.keep ((HW23.out.trans ((hb34.out.mono (by omega)).alloc (by omega) _)).block b (HF9.out b hb).2.2), fun hm => by
        have q1 := (HF9.out b hb).2.2
        rcases List.mem_cons.1 hm with rfl | hm
        · omega
        · have := (L4.out _ hm).1; simp at this; omega⟩
    case q2 => have := Hq.out.1; simp; omega
    case q3 => have := Hq.out.1; simp; omega
    case q4 => simp; omega
    intro p6 c6 w6 b6 hO6 hT6 hm6
    simp only [List.length_cons, List.length_nil, Nat.zero_add] at hO6 ⊢
    have n8 : w2.heap.size ∉ w4.heap.size :: b4x := fun hm => by
      rcases List.mem_cons.1 hm with hm | hm
      · omega
      · have := (L4.out _ hm).1; simp at this; omega
    have hb46 : Below W3.heap.size W3 w6 := (hb34.out.alloc hz4 _).trans (hT6.below (by simp; omega) (fun b hb => by
      rcases List.mem_cons.1 hb with rfl | hm
      · omega
      · have := (L4.out _ hm).1; simp at this; omega))
    refine hK9.out _ _ (fun _ => ?_) (fun hS9 => ?_)
    · (try dsimp only); exact ⟨hb46, cellc hT6 hS.2 n8⟩
    replace hS := hS9 (by decide)
    clear hK9 K9 hS9
    try simp only [Act.put, List.setIfInBounds_toArray, List.set_cons_zero, List.set_cons_succ]
    refine late_take (i := 7) (v := ?_) rfl (by kernel_rfl) (fun _ _ _ h => h) (by rfl) ?_ (by assumption) ?_
    rotate_left
    · (intro w9 hS9; (try dsimp only at hS9); (try go_split_ands); go_simp <;> with_reducible rfl)
    try simp only [Act.put, List.setIfInBounds_toArray, List.set_cons_zero, List.set_cons_succ]
    refine late_one (i := 8) rfl (by kernel_rfl) (fun K9 hK9 => ?_)
    have HX8 := hid (HB83.out.below hS.1 (by omega))
    have HX1 := hid (HB13.out.below hS.1 (by omega))
    have HB6 := hid (HB3.out.trans (hS.1.mono HB3.out.size))
    have HO6 := hid hO6
    have L6 := hid (fun b (hb : b ∈ b6) => show b ≠ w2.heap.size from by
      rintro rfl
      rcases hm6 _ hb with h | h | h
      · exact n8 h
      · have := (HF9.out _ h).2.2; omega
      · simp at h; omega)
    have e1 := hS.2
    have hf := HX8.out.fr 0
    clear hO6 hT6 hm6 hS hb46 n8
    go_simp
    refine hK9.out _ _ (fun h => absurd rfl h) (fun _ => ?_)
    clear hK9 K9
    try simp only [Act.put, List.setIfInBounds_toArray, List.set_cons_zero, List.set_cons_succ]
    refine late_done (by kernel_rfl) ?_ _
    clear e1 hf
    obtain ⟨n, hn⟩ : ∃ n, n = 1 + d.Pieces.length := ⟨_, rfl⟩
    rw [← hn] at HO6 ⊢
    refine late_genw (fun W7 hW7 => ?_)
    have HX87 := hid (show Bx W7 w2.heap.size #[.slice p6 n c6] by rw [hW7]; exact HX8.out.setSame 0 _)
    have HX17 := hid (show Bx W7 (w.heap.size + 1) #[.slice none 0 0] by rw [hW7]; exact HX1.out.setOther (by simp; omega) _)
    have HB7 := hid (show Below w.heap.size w W7 by rw [hW7]; exact HB6.out.setCell (by simp; omega) _)
    have HO7 := hid (show OwnL w1.heap.size W7 74 (.slice p6 n c6) b6 ([(⟨t⟩ : PieceD)] ++ d.Pieces) by rw [hW7]; exact HO6.out.setCell (fun b hb => L6.out b hb) _)
    clear hW7 HX8 HX1 HB6 HO6
    obtain ⟨b7, hs7, hOw7⟩ := HO7.out.own
    have hn7 : n ≤ 7 := by have := Hq.out.1; omega
    have hmn : 0 ≤ min (n : Int) 6 ∧ min (n : Int) 6 ≤ n := by omega
    have hn0 : n = ([(⟨t⟩ : PieceD)] ++ d.Pieces).length := by simp; omega
    obtain ⟨a7, b8, hrun7, hb8, hn8, hS8⟩ := (pt_slice.1 hOw7.1).cut_h (P := Try.prog) 56 Try.underlying56 hi hz1 (min (n : Int) 6) hmn.1 (by omega)
    have HG := hid (own_Ring (d := ⟨_⟩) (hOw7.cutS hb8 hn8 hS8))
    have HTK := hid (show ([(⟨t⟩ : PieceD)] ++ d.Pieces).take (min (n : Int) 6).toNat = ringNewL d t by
      show (⟨t⟩ :: d.Pieces).take _ = (⟨t⟩ :: d.Pieces).take 6
      by_cases h6 : n ≤ 6
      · rw [List.take_of_length_le (by simp; omega), List.take_of_length_le (by simp; omega)]
      · rw [show (min (n : Int) 6).toNat = 6 by omega])
    have HLF := hid (fun b (hb9 : b ∈ b8) => show w1.heap.size ≤ b ∧ b ≠ w2.heap.size from ⟨(HO7.out.lts b (hs7 b (hb8 b hb9))).1, L6.out b (hs7 b (hb8 b hb9))⟩)
    have HMN := hid hmn
    have X1o := HX17.out.out; have X1f := HX17.out.fr; have X8o := HX87.out.out; have X8f := HX87.out.fr
    obtain ⟨u, hu⟩ : ∃ u, u = (min (n : Int) 6).toNat := ⟨_, rfl⟩
    rw [← hu] at hrun7 HG HTK
    have hzs1 : ¬ w.heap.size + 1 = w2.heap.size := by omega
    have hzs2 : ¬ w2.heap.size = w.heap.size + 1 := by omega
    clear hOw7 hb8 hn8 hS8 hmn hn0 hu hn
    go_wp2
    refine bodyPost_ret (v := .tuple #[.agg #[.slice a7 u c6], .bool true]) (by simp [results, Try.results20, go_sem, X1o, X8o, hzs1, hzs2]) rfl ?_
    refine ⟨[.slice a7 u c6], b8, by rw [HZ.out.1], ?_, (HB7.out.setCell (by simp; omega) _).setCell (by simp) _⟩
    rw [HZ.out.2, HE.out, ← HTK.out]
    exact ((HG.out.setCell' _ (fun b hb9 => by have := HLF.out b hb9; simp; omega)).setCell' _ (fun b hb9 => by have := HLF.out b hb9; simp; omega)).mono (by omega)
  have HE0 := hid (HEn.out (by
    by_cases hb9 : ringIsNew d t how = true
    · exfalso
      rcases hsum.out.1 hb9 with h | h
      · exact hq0n h
      · omega
    · simpa using hb9))
  clear hq0n HEn hEn hsum
  cases hq1 : (how == 1)
  · have HE : Hid (ringPutL d t how = d.Pieces.set 0 ⟨t ++ T0⟩) := hid (by rw [HE0.out, if_neg (by simpa using hq1)])
    clear HE0
    go_wp2_with fail
    refine late_genw (fun W3 hW3 => ?_)
    have HB83 := hid (show Bx W3 w2.heap.size #[.slice (some ⟨g, 0, none⟩) d.Pieces.length c2] by rw [hW3]; exact Bx.new _ _ _ rfl)
    have HB13 := hid (show Bx W3 (w.heap.size + 1) #[.slice none 0 0] by rw [hW3]; exact B1.alloc (by omega) _)
    have HB3 := hid (show Below w.heap.size w W3 by rw [hW3]; exact HB2.out.alloc HB2.out.size _)
    have HW23 := hid (show Below w2.heap.size w2 W3 by rw [hW3]; exact (Below.refl _ _).alloc (Nat.le_refl _) _)
    have hz3 : W3.heap.size = w2.heap.size + 1 := by rw [hW3]; simp
    have c8 : W3.cell? ⟨w2.heap.size, 0, none⟩ = some (.slice (some ⟨g, 0, none⟩) d.Pieces.length c2) := HB83.out.out 0
    have cg3 : W3.cell? ⟨g, 0, none⟩ = some (.slice p0 T0.length c0) := (HW23.out.cell (p := ⟨g, 0, none⟩) hglt).trans cg
    have n8 : w2.heap.size ∉ bi := fun hm => by have := Hbz.out _ hm; omega
    have n1 : w.heap.size + 1 ∉ bi := fun hm => by have := Hlob.out _ hm; omega
    clear hW3
    refine late_start (fun W => Tch bi W3 W ∧ W.cell? ⟨w2.heap.size, 0, none⟩ = some (.slice (some ⟨g, 0, none⟩) d.Pieces.length c2) ∧ W.cell? ⟨g, 0, none⟩ = some (.slice p0 T0.length c0)) 12 (by kernel_rfl) ?_ (fun hS => ?_)
    · exact ⟨(Tch.refl _ _).drew, c8, cg3⟩
    refine late_take (i := 0) (v := ?_) rfl (by kernel_rfl) (fun _ _ _ h => h) (by rfl) ?_ (by assumption) ?_
    rotate_left
    · (intro w9 hS9; (try dsimp only at hS9); (try go_split_ands); go_simp <;> with_reducible rfl)
    try simp only [Act.put, List.setIfInBounds_toArray, List.set_cons_zero, List.set_cons_succ]
    refine late_take (i := 1) (v := ?_) rfl (by kernel_rfl) (fun _ _ _ h => h) (by rfl) ?_ (by assumption) ?_
    rotate_left
    · (intro w9 hS9; (try dsimp only at hS9); (try go_split_ands); go_simp <;> with_reducible rfl)
    try simp only [Act.put, List.setIfInBounds_toArray, List.set_cons_zero, List.set_cons_succ]
    refine late_take (i := 2) (v := ?_) rfl (by kernel_rfl) (fun _ _ _ h => h) (by rfl) ?_ (by assumption) ?_
    rotate_left
    · (intro w9 hS9; (try dsimp only at hS9); (try go_split_ands); go_simp <;> with_reducible rfl)
    try simp only [Act.put, List.setIfInBounds_toArray, List.set_cons_zero, List.set_cons_succ]
    refine late_take (i := 4) (v := ?_) rfl (by kernel_rfl) (fun _ _ _ h => h) (by rfl) ?_ (by assumption) ?_
    rotate_left
    · (intro w9 hS9; (try dsimp only at hS9); (try go_split_ands); go_simp <;> with_reducible rfl)
    try simp only [Act.put, List.setIfInBounds_toArray, List.set_cons_zero, List.set_cons_succ]
    refine late_take (i := 5) (v := ?_) rfl (by kernel_rfl) (fun _ _ _ h => h) (by rfl) ?_ (by assumption) ?_
    rotate_left
    · (intro w9 hS9; (try dsimp only at hS9); (try go_split_ands); go_simp <;> with_reducible rfl)
    try simp only [Act.put, List.setIfInBounds_toArray, List.set_cons_zero, List.set_cons_succ]
    refine late_take (i := 6) (v := ?_) rfl (by kernel_rfl) (fun _ _ _ h => h) (by rfl) ?_ (by assumption) ?_
    rotate_left
    · (intro w9 hS9; (try dsimp only at hS9); (try go_split_ands); go_simp <;> with_reducible rfl)
    try simp only [Act.put, List.setIfInBounds_toArray, List.set_cons_zero, List.set_cons_succ]
    refine late_take (i := 7) (v := ?_) rfl (by kernel_rfl) (fun _ _ _ h => h) (by rfl) ?_ (by assumption) ?_
    rotate_left
    · (intro w9 hS9; (try dsimp only at hS9); (try go_split_ands); go_simp <;> with_reducible rfl)
    try simp only [Act.put, List.setIfInBounds_toArray, List.set_cons_zero, List.set_cons_succ]
    refine late_take (i := 8) (v := ?_) rfl (by kernel_rfl) (fun _ _ _ h => h) (by rfl) ?_ (by assumption) ?_
    rotate_left
    · (intro w9 hS9; (try dsimp only at hS9); (try go_split_ands); go_simp <;> with_reducible rfl)
    try simp only [Act.put, List.setIfInBounds_toArray, List.set_cons_zero, List.set_cons_succ]
    refine late_one (i := 3) rfl (by kernel_rfl) (fun K9 hK9 => ?_)
    go_simp
    refine (i_copyInts (H2.out.grow (HB3.out.drew)) (by omega)).mono ?_
    rintro e w4 ⟨v4, b4, rfl, hO4, hb4⟩
    obtain ⟨p4, c4, rfl⟩ := hO4.slice
    have hz4 : W3.heap.size ≤ w4.heap.size := hb4.size
    have HO4 := hid (show OwnL W3.heap.size w4 3 (.slice p4 t.length c4) b4 t from hO4)
    have hb34 := hid (show Below W3.heap.size W3 w4 from ((Below.refl _ _).drew).trans hb4)
    clear hO4
    go_wp2_with fail
    refine hK9.out _ _ (fun _ => ?_) (fun hS9 => ?_)
    · (try dsimp only); exact ⟨keepc hS.1 (Tch.of_below (bs := []) hb4) (fun x hx => by cases hx), cellc (Tch.of_below (bs := []) hb4) hS.2.1 (by simp), cellc (Tch.of_below (bs := []) hb4) hS.2.2 (by simp)⟩
    replace hS := hS9 (by decide)
    clear hK9 K9 hS9
    try simp only [Act.put, List.setIfInBounds_toArray, List.set_cons_zero, List.set_cons_succ]
    clear hb4
    refine late_one (i := 9) rfl (by kernel_rfl) (fun K9 hK9 => ?_)
    obtain ⟨bT, _, hOT⟩ := (HOI.out.grow (HW23.out.trans (hb34.out.mono (by omega)))).own
    have HST0 := hid (pt_slice.1 hOT.1)
    clear hOT
    refine step_append rfl _ _ 54 rfl 3 j0 (.int .i64 0) 8 Try.underlying54 hj hy0 hy1 hy2 rfl (lo := W3.heap.size) (bs := b4) (xs := t) rfl ?own (b2 := []) (ys := T0) rfl ?src List.nodup_nil ?f2 ?q2 ?q3 ?q4 ?_
    case own => exact HO4.out
    case src => exact HST0.out.src
    case f2 => simp
    case q2 => omega
    case q3 => omega
    case q4 => exact hz4
    intro p6 c6 w6 b6 hO6' hT6 hm6
    have hO6 := hO6'.mono (show w1.heap.size ≤ W3.heap.size by omega)
    have L4 := hid (fun b (hb9 : b ∈ b4) => (HO4.out.lts b hb9).1)
    have hb6 : ∀ b ∈ b6, b ∉ b2 ∨ b ∈ bi := fun b hb => .inl (fun h9 => by
      have q := (HO2.out.lts b h9).2
      rcases hm6 b hb with h | h | h
      · have := L4.out b h; omega
      · cases h
      · omega)
    have n84 : w2.heap.size ∉ b4 := fun hm => by have := L4.out _ hm; omega
    have ng4 : g ∉ b4 := fun hm => by have := L4.out _ hm; omega
    refine hK9.out _ _ (fun _ => ?_) (fun hS9 => ?_)
    · (try dsimp only); exact ⟨keepc hS.1 hT6 (fun x hx => .inr (L4.out x hx)), cellc hT6 hS.2.1 n84, cellc hT6 hS.2.2 ng4⟩
    replace hS := hS9 (by decide)
    clear hK9 K9 hS9
    try simp only [Act.put, List.setIfInBounds_toArray, List.set_cons_zero, List.set_cons_succ]
    refine late_one (i := 10) rfl (by kernel_rfl) (fun K9 hK9 => ?_)
    go_simp
    refine hK9.out _ _ (fun _ => ?_) (fun hS9 => ?_)
    · (try dsimp only); exact hS
    replace hS := hS9 (by decide)
    clear hK9 K9 hS9
    try simp only [Act.put, List.setIfInBounds_toArray, List.set_cons_zero, List.set_cons_succ]
    refine late_take (i := 11) (v := ?_) rfl (by kernel_rfl) (fun _ _ _ h => h) (by rfl) ?_ (by assumption) ?_
    rotate_left
    · (intro w9 hS9; (try dsimp only at hS9); (try go_split_ands); go_simp <;> with_reducible rfl)
    try simp only [Act.put, List.setIfInBounds_toArray, List.set_cons_zero, List.set_cons_succ]
    refine late_one (i := 12) rfl (by kernel_rfl) (fun K9 hK9 => ?_)
    have hT := hS.1
    have e1 := hS.2.2
    have hk6 : ∀ k, k < w2.heap.size → k ∉ bi → w6.heap[k]? = w2.heap[k]? := fun k hk9 hn9 => (hT.block k (by omega) hn9).trans (HW23.out.block k hk9)
    have hfr : Fr w6 g := HGF.out.keep (hk6 g hglt HnG.out)
    have hf := hfr.frozen 0
    obtain ⟨bN, hON, _⟩ := Hset.out w6 (fun k hk9 hn9 => hk6 k (HO2.out.lts k hk9).2 hn9) b6 [.slice p6 (t.length + T0.length) c6] (PF 3 ⟨t ++ T0⟩) ⟨pf_mk (p := (⟨t ++ T0⟩ : PieceD)) (hO6.mono (Nat.zero_le _)), hO6.nodup, fun b hb => ⟨(hO6.lts b hb).1, hO6.fr b hb⟩⟩ hb6
    have HON := hid (show OwnL w1.heap.size (w6.setCell ⟨g, 0, none⟩ (.slice p6 (t.length + T0.length) c6)) 74 (.slice (some ⟨g, 0, none⟩) d.Pieces.length c2) bN ((d.Pieces.set 0 (⟨t ++ T0⟩ : PieceD)).map (PF 3)) by rw [List.map_set]; simpa [World.setCells] using hON)
    have HX16 := hid (HB13.out.keep (hT.block (w.heap.size + 1) (by omega) n1))
    have HX86 := hid (HB83.out.keep (hT.block w2.heap.size (by omega) n8))
    have HB6 := hid (HB3.out.trans (hT.below HB3.out.size (fun x hx => by have := Hlob.out x hx; omega)))
    have hz6 : W3.heap.size ≤ w6.heap.size := hT.size
    clear hO6 hT6 hm6 hS hT hk6 hfr hON hb6
    go_simp
    refine hK9.out _ _ (fun h => absurd rfl h) (fun _ => ?_)
    clear hK9 K9
    try simp only [Act.put, List.setIfInBounds_toArray, List.set_cons_zero, List.set_cons_succ]
    refine late_done (by kernel_rfl) ?_ _
    clear e1 hf
    refine late_genw (fun W7 hW7 => ?_)
    have HST : Hid (RpSt w1.heap.size (w.heap.size + 1) w2.heap.size w W7 (.slice (some ⟨g, 0, none⟩) d.Pieces.length c2) (d.Pieces.set 0 (⟨t ++ T0⟩ : PieceD))) := hid (by
      obtain ⟨bq0, hoq0, hsq0⟩ := HON.out.forget
      obtain ⟨bq, hoq, hsq⟩ := own_ring_of hoq0
      rw [hW7]
      refine ⟨HX16.out.setOther (by simp; omega) _, HX86.out.setOther (by simp; omega) _, ⟨bq, hoq⟩, HB6.out.setCell (by simp; omega) _, by simp; omega, by simp; omega⟩)
    clear hW7 HX16 HX86 HB6 HON
    obtain ⟨hx1, hx8, ⟨bf, hof⟩, hxb, hxl1, hxl8⟩ := HST.out
    have X1o := hx1.out; have X1f := hx1.fr; have X8o := hx8.out; have X8f := hx8.fr
    have HG := hid hof; have HBF := hid hxb
    have HLF := hid (fun b (hb9 : b ∈ bf) => (hof.2.2 b hb9).1)
    clear hx1 hx8 hof hxb
    go_wp2
    refine bodyPost_ret (v := .tuple #[.agg #[.slice (some ⟨g, 0, none⟩) d.Pieces.length c2], .bool true]) (by simp [results, Try.results20, go_sem, X1o, X8o]) rfl ?_
    refine ⟨[.slice (some ⟨g, 0, none⟩) d.Pieces.length c2], bf, by rw [HZ.out.1], ?_, HBF.out.setCell (by simp) _⟩
    rw [HZ.out.2, HE.out]
    exact (HG.out.setCell' _ (fun b hb9 => by have := HLF.out b hb9; simp; omega)).mono (by omega)
  · have HE : Hid (ringPutL d t how = d.Pieces.set 0 ⟨T0 ++ t⟩) := hid (by rw [HE0.out, if_pos (by simpa using hq1)])
    clear HE0
    go_wp2_with fail
    refine late_genw (fun W3 hW3 => ?_)
    have HB83 := hid (show Bx W3 w2.heap.size #[.slice (some ⟨g, 0, none⟩) d.Pieces.length c2] by rw [hW3]; exact Bx.new _ _ _ rfl)
    have HB13 := hid (show Bx W3 (w.heap.size + 1) #[.slice none 0 0] by rw [hW3]; exact B1.alloc (by omega) _)
    have HB3 := hid (show Below w.heap.size w W3 by rw [hW3]; exact HB2.out.alloc HB2.out.size _)
    have HW23 := hid (show Below w2.heap.size w2 W3 by rw [hW3]; exact (Below.refl _ _).alloc (Nat.le_refl _) _)
    have hz3 : W3.heap.size = w2.heap.size + 1 := by rw [hW3]; simp
    have c8 : W3.cell? ⟨w2.heap.size, 0, none⟩ = some (.slice (some ⟨g, 0, none⟩) d.Pieces.length c2) := HB83.out.out 0
    have cg3 : W3.cell? ⟨g, 0, none⟩ = some (.slice p0 T0.length c0) := (HW23.out.cell (p := ⟨g, 0, none⟩) hglt).trans cg
    have n8 : w2.heap.size ∉ bi := fun hm => by have := Hbz.out _ hm; omega
    have n1 : w.heap.size + 1 ∉ bi := fun hm => by have := Hlob.out _ hm; omega
    clear hW3
    refine late_start (fun W => Tch bi W3 W ∧ W.cell? ⟨w2.heap.size, 0, none⟩ = some (.slice (some ⟨g, 0, none⟩) d.Pieces.length c2) ∧ W.cell? ⟨g, 0, none⟩ = some (.slice p0 T0.length c0)) 11 (by kernel_rfl) ?_ (fun hS => ?_)
    · exact ⟨(Tch.refl _ _).drew, c8, cg3⟩
    refine late_take (i := 0) (v := ?_) rfl (by kernel_rfl) (fun _ _ _ h => h) (by rfl) ?_ (by assumption) ?_
    rotate_left
    · (intro w9 hS9; (try dsimp only at hS9); (try go_split_ands); go_simp <;> with_reducible rfl)
    try simp only [Act.put, List.setIfInBounds_toArray, List.set_cons_zero, List.set_cons_succ]
    refine late_take (i := 1) (v := ?_) rfl (by kernel_rfl) (fun _ _ _ h => h) (by rfl) ?_ (by assumption) ?_
    rotate_left
    · (intro w9 hS9; (try dsimp only at hS9); (try go_split_ands); go_simp <;> with_reducible rfl)
    try simp only [Act.put, List.setIfInBounds_toArray, List.set_cons_zero, List.set_cons_succ]
    refine late_take (i := 2) (v := ?_) rfl (by kernel_rfl) (fun _ _ _ h => h) (by rfl) ?_ (by assumption) ?_
    rotate_left
    · (intro w9 hS9; (try dsimp only at hS9); (try go_split_ands); go_simp <;> with_reducible rfl)
    try simp only [Act.put, List.setIfInBounds_toArray, List.set_cons_zero, List.set_cons_succ]
    refine late_take (i := 3) (v := ?_) rfl (by kernel_rfl) (fun _ _ _ h => h) (by rfl) ?_ (by assumption) ?_
    rotate_left
    · (intro w9 hS9; (try dsimp only at hS9); (try go_split_ands); go_simp <;> with_reducible rfl)
    try simp only [Act.put, List.setIfInBounds_toArray, List.set_cons_zero, List.set_cons_succ]
    refine late_take (i := 4) (v := ?_) rfl (by kernel_rfl) (fun _ _ _ h => h) (by rfl) ?_ (by assumption) ?_
    rotate_left
    · (intro w9 hS9; (try dsimp only at hS9); (try go_split_ands); go_simp <;> with_reducible rfl)
    try simp only [Act.put, List.setIfInBounds_toArray, List.set_cons_zero, List.set_cons_succ]
    refine late_take (i := 5) (v := ?_) rfl (by kernel_rfl) (fun _ _ _ h => h) (by rfl) ?_ (by assumption) ?_
    rotate_left
    · (intro w9 hS9; (try dsimp only at hS9); (try go_split_ands); go_simp <;> with_reducible rfl)
    try simp only [Act.put, List.setIfInBounds_toArray, List.set_cons_zero, List.set_cons_succ]
    refine late_take (i := 6) (v := ?_) rfl (by kernel_rfl) (fun _ _ _ h => h) (by rfl) ?_ (by assumption) ?_
    rotate_left
    · (intro w9 hS9; (try dsimp only at hS9); (try go_split_ands); go_simp <;> with_reducible rfl)
    try simp only [Act.put, List.setIfInBounds_toArray, List.set_cons_zero, List.set_cons_succ]
    refine late_one (i := 7) rfl (by kernel_rfl) (fun K9 hK9 => ?_)
    go_simp
    refine hK9.out _ _ (fun _ => ?_) (fun hS9 => ?_)
    · (try dsimp only); exact hS
    replace hS := hS9 (by decide)
    clear hK9 K9 hS9
    try simp only [Act.put, List.setIfInBounds_toArray, List.set_cons_zero, List.set_cons_succ]
    refine late_one (i := 8) rfl (by kernel_rfl) (fun K9 hK9 => ?_)
    refine step_append rfl _ _ 54 rfl 3 j0 (.int .i64 0) 8 Try.underlying54 hj hy0 hy1 hy2 rfl (lo := w1.heap.size) (bs := bi) (xs := T0) rfl ?own (b2 := []) (ys := t) rfl ?src List.nodup_nil ?f2 ?q2 ?q3 ?q4 ?_
    case own => exact (HOI.out.grow HW23.out).drew
    case src => exact (H2.out.grow (HB3.out.drew)).src
    case f2 => simp
    case q2 => omega
    case q3 => omega
    case q4 => show w1.heap.size ≤ W3.heap.size; omega
    intro p6 c6 w6 b6 hO6 hT6 hm6
    have hb6 : ∀ b ∈ b6, b ∉ b2 ∨ b ∈ bi := fun b hb => by
      rcases hm6 b hb with h | h | h
      · exact .inr h
      · cases h
      · exact .inl (fun h9 => by have := (HO2.out.lts b h9).2; have h : W3.heap.size ≤ b := h; omega)
    refine hK9.out _ _ (fun _ => ?_) (fun hS9 => ?_)
    · (try dsimp only); exact ⟨keepc hS.1 hT6 (fun x hx => .inl hx), cellc hT6 hS.2.1 n8, cellc hT6 hS.2.2 HnG.out⟩
    replace hS := hS9 (by decide)
    clear hK9 K9 hS9
    try simp only [Act.put, List.setIfInBounds_toArray, List.set_cons_zero, List.set_cons_succ]
    refine late_one (i := 9) rfl (by kernel_rfl) (fun K9 hK9 => ?_)
    go_simp
    refine hK9.out _ _ (fun _ => ?_) (fun hS9 => ?_)
    · (try dsimp only); exact hS
    replace hS := hS9 (by decide)
    clear hK9 K9 hS9
    try simp only [Act.put, List.setIfInBounds_toArray, List.set_cons_zero, List.set_cons_succ]
    refine late_take (i := 10) (v := ?_) rfl (by kernel_rfl) (fun _ _ _ h => h) (by rfl) ?_ (by assumption) ?_
    rotate_left
    · (intro w9 hS9; (try dsimp only at hS9); (try go_split_ands); go_simp <;> with_reducible rfl)
    try simp only [Act.put, List.setIfInBounds_toArray, List.set_cons_zero, List.set_cons_succ]
    refine late_one (i := 11) rfl (by kernel_rfl) (fun K9 hK9 => ?_)
    have hT := hS.1
    have e1 := hS.2.2
    have hk6 : ∀ k, k < w2.heap.size → k ∉ bi → w6.heap[k]? = w2.heap[k]? := fun k hk9 hn9 => (hT.block k (by omega) hn9).trans (HW23.out.block k hk9)
    have hfr : Fr w6 g := HGF.out.keep (hk6 g hglt HnG.out)
    have hf := hfr.frozen 0
    obtain ⟨bN, hON, _⟩ := Hset.out w6 (fun k hk9 hn9 => hk6 k (HO2.out.lts k hk9).2 hn9) b6 [.slice p6 (T0.length + t.length) c6] (PF 3 ⟨T0 ++ t⟩) ⟨pf_mk (p := (⟨T0 ++ t⟩ : PieceD)) (hO6.mono (Nat.zero_le _)), hO6.nodup, fun b hb => ⟨(hO6.lts b hb).1, hO6.fr b hb⟩⟩ hb6
    have HON := hid (show OwnL w1.heap.size (w6.setCell ⟨g, 0, none⟩ (.slice p6 (T0.length + t.length) c6)) 74 (.slice (some ⟨g, 0, none⟩) d.Pieces.length c2) bN ((d.Pieces.set 0 (⟨T0 ++ t⟩ : PieceD)).map (PF 3)) by rw [List.map_set]; simpa [World.setCells] using hON)
    have HX16 := hid (HB13.out.keep (hT.block (w.heap.size + 1) (by omega) n1))
    have HX86 := hid (HB83.out.keep (hT.block w2.heap.size (by omega) n8))
    have HB6 := hid (HB3.out.trans (hT.below HB3.out.size (fun x hx => by have := Hlob.out x hx; omega)))
    have hz6 : W3.heap.size ≤ w6.heap.size := hT.size
    clear hO6 hT6 hm6 hS hT hk6 hfr hON hb6
    go_simp
    refine hK9.out _ _ (fun h => absurd rfl h) (fun _ => ?_)
    clear hK9 K9
    try simp only [Act.put, List.setIfInBounds_toArray, List.set_cons_zero, List.set_cons_succ]
    refine late_done (by kernel_rfl) ?_ _
    clear e1 hf
    refine late_genw (fun W7 hW7 => ?_)
    have HST : Hid (RpSt w1.heap.size (w.heap.size + 1) w2.heap.size w W7 (.slice (some ⟨g, 0, none⟩) d.Pieces.length c2) (d.Pieces.set 0 (⟨T0 ++ t⟩ : PieceD))) := hid (by
      obtain ⟨bq0, hoq0, hsq0⟩ := HON.out.forget
      obtain ⟨bq, hoq, hsq⟩ := own_ring_of hoq0
      rw [hW7]
      refine ⟨HX16.out.setOther (by simp; omega) _, HX86.out.setOther (by simp; omega) _, ⟨bq, hoq⟩, HB6.out.setCell (by simp; omega) _, by simp; omega, by simp; omega⟩)
    clear hW7 HX16 HX86 HB6 HON
    obtain ⟨hx1, hx8, ⟨bf, hof⟩, hxb, hxl1, hxl8⟩ := HST.out
    have X1o := hx1.out; have X1f := hx1.fr; have X8o := hx8.out; have X8f := hx8.fr
    have HG := hid hof; have HBF := hid hxb
    have HLF := hid (fun b (hb9 : b ∈ bf) => (hof.2.2 b hb9).1)
    clear hx1 hx8 hof hxb
    go_wp2
    refine bodyPost_ret (v := .tuple #[.agg #[.slice (some ⟨g, 0, none⟩) d.Pieces.length c2], .bool true]) (by simp [results, Try.results20, go_sem, X1o, X8o]) rfl ?_
    refine ⟨[.slice (some ⟨g, 0, none⟩) d.Pieces.length c2], bf, by rw [HZ.out.1], ?_, HBF.out.setCell (by simp) _⟩
    rw [HZ.out.2, HE.out]
    exact (HG.out.setCell' _ (fun b hb9 => by have := HLF.out b hb9; simp; omega)).mono (by omega)
end Go.Proofs.Ytgcdgkiefbbhkaa
