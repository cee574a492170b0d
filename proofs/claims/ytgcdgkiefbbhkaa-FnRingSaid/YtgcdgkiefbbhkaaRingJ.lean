/- Adding to a ring: the reference (printed by genringputs.py). -/
import Derived.Test.YtgcdgkiefbbhkaaRingP
import Derived.Test.YtgcdgkiefbbhkaaRune
import Derived.Test.YtgcdgkiefbbhkaaLst
import Derived.Test.YtgcdgkiefbbhkaaLate
import Derived.Lib.MinMax
import Derived.Deep.DeepCutAuto
set_option linter.unusedSimpArgs false
set_option linter.unusedVariables false
namespace Go.Proofs.Ytgcdgkiefbbhkaa
open Go.RowKit Go.G6
set_option maxHeartbeats 4000000
set_option maxRecDepth 10000
theorem s_RingPut {w : World} {bs bs2 : List Nat} {cs : List Value} {d : RingD} {a : Option Addr} {l c : Nat} {t : List Int} (h : Rep.pt w bs cs d) (h2 : Slc w bs2 a l c t) (how : Int) (_hh : I64 how) :
    Calls Try.prog 17 #[.agg cs.toArray, .slice a l c, .int .i64 how] w (RetAB w (ringPut d t how) (.bool (ringPutOk d t how))) := by
  have H := hid h
  obtain ⟨a0, l0, k0, rfl, h0⟩ := open_Ring h
  obtain rfl := h0.len_eq
  obtain rfl := h2.len_eq
  have htm := h2.max
  have H2 := hid h2
  have H0 := hid h0
  have hlm := h0.max
  clear h h2 h0
  obtain ⟨i0, hi, hz0, hz1, hz2⟩ := info_parts info_Piece
  obtain ⟨j0, hj, hy0, hy1, hy2⟩ := info_parts info_int
  cases hk : ringOk d
  · have HZ : Hid (ringPutOk d t how = false ∧ ringPut d t how = ring0) := hid (by simp [ringPut, ringPutOk, hk])
    have Hk := hid hk; clear hk
    go_enter Try.func17, Try.ntmps17
    go_wp2_with fail
    refine (s_RingOk (grow H.out ?_)).mono ?_
    · exact (((Below.refl _ _).alloc (Nat.le_refl _) _).alloc (by simp) _)
    rintro e w1 ⟨rfl, hb⟩
    have B0 : Bx w1 (w.heap.size) _ := Bx.below (b := w.heap.size) hb (by first | omega | (simp; done) | (simp; omega)) (by repeat (first  | (apply Bx.new; (focus (first | (simp; done) | (simp; omega) | omega))) | (apply Bx.alloc; rotate_left; (focus (first | (simp; done) | (simp; omega) | omega))) | (apply Bx.setOther; rotate_left; (focus (first | (simp; done) | (simp; omega) | omega))) | apply Bx.setSame))
    have B0o := B0.out
    have B0f := B0.fr
    have B1 : Bx w1 (w.heap.size + 1) _ := Bx.below (b := w.heap.size + 1) hb (by first | omega | (simp; done) | (simp; omega)) (by repeat (first  | (apply Bx.new; (focus (first | (simp; done) | (simp; omega) | omega))) | (apply Bx.alloc; rotate_left; (focus (first | (simp; done) | (simp; omega) | omega))) | (apply Bx.setOther; rotate_left; (focus (first | (simp; done) | (simp; omega) | omega))) | apply Bx.setSame))
    have B1o := B1.out
    have B1f := B1.fr
    have HB := hid (below_call (((Below.refl _ _).alloc (Nat.le_refl _) _).alloc (by simp) _) hb)
    have hs1 : w.heap.size + 2 ≤ w1.heap.size := by have := hb.size; simpa using this
    clear hb
    rw [Hk.out]
    go_wp2
    refine bodyPost_ret (v := .tuple #[.agg #[.slice none 0 0], .bool false]) (by simp [results, Try.results17, go_sem, B1o]) rfl ?_
    refine ⟨[.slice none 0 0], [], by rw [HZ.out.1], ?_, HB.out.setCell (by simp) _⟩
    rw [HZ.out.2]; exact own_Ring (d := ring0) (own_nil _ _)
  have Hk := hid hk
  by_cases hn1 : how < 0
  · have HZ : Hid (ringPutOk d t how = false ∧ ringPut d t how = ring0) := hid (by
      have : inB how 0 2 = false := by unfold inB; simp; omega
      simp [ringPut, ringPutOk, this])
    clear hk
    go_enter Try.func17, Try.ntmps17
    go_wp2_with fail
    refine (s_RingOk (grow H.out ?_)).mono ?_
    · exact (((Below.refl _ _).alloc (Nat.le_refl _) _).alloc (by simp) _)
    rintro e w1 ⟨rfl, hb⟩
    have B0 : Bx w1 (w.heap.size) _ := Bx.below (b := w.heap.size) hb (by first | omega | (simp; done) | (simp; omega)) (by repeat (first  | (apply Bx.new; (focus (first | (simp; done) | (simp; omega) | omega))) | (apply Bx.alloc; rotate_left; (focus (first | (simp; done) | (simp; omega) | omega))) | (apply Bx.setOther; rotate_left; (focus (first | (simp; done) | (simp; omega) | omega))) | apply Bx.setSame))
    have B0o := B0.out
    have B0f := B0.fr
    have B1 : Bx w1 (w.heap.size + 1) _ := Bx.below (b := w.heap.size + 1) hb (by first | omega | (simp; done) | (simp; omega)) (by repeat (first  | (apply Bx.new; (focus (first | (simp; done) | (simp; omega) | omega))) | (apply Bx.alloc; rotate_left; (focus (first | (simp; done) | (simp; omega) | omega))) | (apply Bx.setOther; rotate_left; (focus (first | (simp; done) | (simp; omega) | omega))) | apply Bx.setSame))
    have B1o := B1.out
    have B1f := B1.fr
    have HB := hid (below_call (((Below.refl _ _).alloc (Nat.le_refl _) _).alloc (by simp) _) hb)
    have hs1 : w.heap.size + 2 ≤ w1.heap.size := by have := hb.size; simpa using this
    clear hb
    rw [Hk.out]
    go_wp2
    refine bodyPost_ret (v := .tuple #[.agg #[.slice none 0 0], .bool false]) (by simp [results, Try.results17, go_sem, B1o]) rfl ?_
    refine ⟨[.slice none 0 0], [], by rw [HZ.out.1], ?_, HB.out.setCell (by simp) _⟩
    rw [HZ.out.2]; exact own_Ring (d := ring0) (own_nil _ _)
  by_cases hn2 : 2 < how
  · have HZ : Hid (ringPutOk d t how = false ∧ ringPut d t how = ring0) := hid (by
      have : inB how 0 2 = false := by unfold inB; simp; omega
      simp [ringPut, ringPutOk, this])
    clear hk
    go_enter Try.func17, Try.ntmps17
    go_wp2_with fail
    refine (s_RingOk (grow H.out ?_)).mono ?_
    · exact (((Below.refl _ _).alloc (Nat.le_refl _) _).alloc (by simp) _)
    rintro e w1 ⟨rfl, hb⟩
    have B0 : Bx w1 (w.heap.size) _ := Bx.below (b := w.heap.size) hb (by first | omega | (simp; done) | (simp; omega)) (by repeat (first  | (apply Bx.new; (focus (first | (simp; done) | (simp; omega) | omega))) | (apply Bx.alloc; rotate_left; (focus (first | (simp; done) | (simp; omega) | omega))) | (apply Bx.setOther; rotate_left; (focus (first | (simp; done) | (simp; omega) | omega))) | apply Bx.setSame))
    have B0o := B0.out
    have B0f := B0.fr
    have B1 : Bx w1 (w.heap.size + 1) _ := Bx.below (b := w.heap.size + 1) hb (by first | omega | (simp; done) | (simp; omega)) (by repeat (first  | (apply Bx.new; (focus (first | (simp; done) | (simp; omega) | omega))) | (apply Bx.alloc; rotate_left; (focus (first | (simp; done) | (simp; omega) | omega))) | (apply Bx.setOther; rotate_left; (focus (first | (simp; done) | (simp; omega) | omega))) | apply Bx.setSame))
    have B1o := B1.out
    have B1f := B1.fr
    have HB := hid (below_call (((Below.refl _ _).alloc (Nat.le_refl _) _).alloc (by simp) _) hb)
    have hs1 : w.heap.size + 2 ≤ w1.heap.size := by have := hb.size; simpa using this
    clear hb
    rw [Hk.out]
    go_wp2
    refine bodyPost_ret (v := .tuple #[.agg #[.slice none 0 0], .bool false]) (by simp [results, Try.results17, go_sem, B1o]) rfl ?_
    refine ⟨[.slice none 0 0], [], by rw [HZ.out.1], ?_, HB.out.setCell (by simp) _⟩
    rw [HZ.out.2]; exact own_Ring (d := ring0) (own_nil _ _)
  have hn : inB how 0 2 = true := by unfold inB; simp; omega
  cases ht : pieceTyped t
  · have HZ : Hid (ringPutOk d t how = false ∧ ringPut d t how = ring0) := hid (by simp [ringPut, ringPutOk, ht])
    have Ht : Hid ((decide (t.length ≤ 400) && allTyped t) = false) := hid ht; clear hk hn ht
    go_enter Try.func17, Try.ntmps17
    go_wp2_with fail
    refine (s_RingOk (grow H.out ?_)).mono ?_
    · exact (((Below.refl _ _).alloc (Nat.le_refl _) _).alloc (by simp) _)
    rintro e w1 ⟨rfl, hb⟩
    have B0 : Bx w1 (w.heap.size) _ := Bx.below (b := w.heap.size) hb (by first | omega | (simp; done) | (simp; omega)) (by repeat (first  | (apply Bx.new; (focus (first | (simp; done) | (simp; omega) | omega))) | (apply Bx.alloc; rotate_left; (focus (first | (simp; done) | (simp; omega) | omega))) | (apply Bx.setOther; rotate_left; (focus (first | (simp; done) | (simp; omega) | omega))) | apply Bx.setSame))
    have B0o := B0.out
    have B0f := B0.fr
    have B1 : Bx w1 (w.heap.size + 1) _ := Bx.below (b := w.heap.size + 1) hb (by first | omega | (simp; done) | (simp; omega)) (by repeat (first  | (apply Bx.new; (focus (first | (simp; done) | (simp; omega) | omega))) | (apply Bx.alloc; rotate_left; (focus (first | (simp; done) | (simp; omega) | omega))) | (apply Bx.setOther; rotate_left; (focus (first | (simp; done) | (simp; omega) | omega))) | apply Bx.setSame))
    have B1o := B1.out
    have B1f := B1.fr
    have HB := hid (below_call (((Below.refl _ _).alloc (Nat.le_refl _) _).alloc (by simp) _) hb)
    have hs1 : w.heap.size + 2 ≤ w1.heap.size := by have := hb.size; simpa using this
    clear hb
    rw [Hk.out]
    go_wp2_with fail
    refine (s_l15Piece (H2.out.grow HB.out)).mono ?_
    rintro e wp ⟨rfl, hwp⟩
    have hb : Below w1.heap.size w1 wp := hwp ▸ Below.refl _ _
    clear hwp
    rw [Ht.out]
    have HBp := hid (HB.out.trans (hb.mono HB.out.size))
    have hsp : w1.heap.size ≤ wp.heap.size := hb.size
    have Q0 := hid (B0.below hb (by omega)); have Q1 := hid (B1.below hb (by omega))
    clear hb B0 B1 B0o B0f B1o B1f
    have B0o := Q0.out.out; have B0f := Q0.out.fr; have B1o := Q1.out.out; have B1f := Q1.out.fr
    go_wp2
    refine bodyPost_ret (v := .tuple #[.agg #[.slice none 0 0], .bool false]) (by simp [results, Try.results17, go_sem, B1o]) rfl ?_
    refine ⟨[.slice none 0 0], [], by rw [HZ.out.1], ?_, HBp.out.setCell (by simp) _⟩
    rw [HZ.out.2]; exact own_Ring (d := ring0) (own_nil _ _)
  have Ht : Hid ((decide (t.length ≤ 400) && allTyped t) = true) := hid ht
  have Hq := hid (ringOk_bounds hk)
  have Hf := hid (ringFst_len hk)
  have HZ : Hid (ringPutOk d t how = true ∧ ringPut d t how = ⟨ringPutL d t how⟩) := hid (by
    have h1 : ringPutOk d t how = true := by simp [ringPutOk, hk, hn, ht]
    exact ⟨h1, by unfold ringPut; rw [if_pos h1]⟩)
  have ht4 : t.length ≤ 400 := pieceTyped_len ht
  clear hk hn ht
  go_enter Try.func17, Try.ntmps17
  go_wp2_with fail
  refine (s_RingOk (grow H.out ?_)).mono ?_
  · exact (((Below.refl _ _).alloc (Nat.le_refl _) _).alloc (by simp) _)
  rintro e w1 ⟨rfl, hb⟩
  have B0 : Bx w1 (w.heap.size) _ := Bx.below (b := w.heap.size) hb (by first | omega | (simp; done) | (simp; omega)) (by repeat (first  | (apply Bx.new; (focus (first | (simp; done) | (simp; omega) | omega))) | (apply Bx.alloc; rotate_left; (focus (first | (simp; done) | (simp; omega) | omega))) | (apply Bx.setOther; rotate_left; (focus (first | (simp; done) | (simp; omega) | omega))) | apply Bx.setSame))
  have B0o := B0.out
  have B0f := B0.fr
  have B1 : Bx w1 (w.heap.size + 1) _ := Bx.below (b := w.heap.size + 1) hb (by first | omega | (simp; done) | (simp; omega)) (by repeat (first  | (apply Bx.new; (focus (first | (simp; done) | (simp; omega) | omega))) | (apply Bx.alloc; rotate_left; (focus (first | (simp; done) | (simp; omega) | omega))) | (apply Bx.setOther; rotate_left; (focus (first | (simp; done) | (simp; omega) | omega))) | apply Bx.setSame))
  have B1o := B1.out
  have B1f := B1.fr
  have HB := hid (below_call (((Below.refl _ _).alloc (Nat.le_refl _) _).alloc (by simp) _) hb)
  have hs1 : w.heap.size + 2 ≤ w1.heap.size := by have := hb.size; simpa using this
  clear hb
  rw [Hk.out]
  go_wp2_with fail
  refine (s_l15Piece (H2.out.grow HB.out)).mono ?_
  rintro e wp ⟨rfl, hwp⟩
  have hb : Below w1.heap.size w1 wp := hwp ▸ Below.refl _ _
  clear hwp
  rw [Ht.out]
  have HBp := hid (HB.out.trans (hb.mono HB.out.size))
  have hsp : w1.heap.size ≤ wp.heap.size := hb.size
  have Q0 := hid (B0.below hb (by omega)); have Q1 := hid (B1.below hb (by omega))
  clear hb B0 B1 B0o B0f B1o B1f
  have B0o := Q0.out.out; have B0f := Q0.out.fr; have B1o := Q1.out.out; have B1f := Q1.out.fr
  go_wp2_with fail
  refine (s_l15Copy (grow H.out HBp.out) Hq.out.2.1).mono ?_
  rintro e w2 ⟨v2, b2, rfl, hO2, hb⟩
  have hs2 : wp.heap.size ≤ w2.heap.size := hb.size
  have B0 := Q0.out.below hb (by omega); have B1 := Q1.out.below hb (by omega)
  have HB2 := hid (HBp.out.trans (hb.mono HBp.out.size))
  clear hb B0o B0f B1o B1f Q0 Q1
  have B0o := B0.out; have B0f := B0.fr; have B1o := B1.out; have B1f := B1.fr
  obtain ⟨p2, c2, rfl⟩ := hO2.slice
  go_upto_region 4 with fail
  refine late_genw (fun W3 hW3 => ?_)
  have HO3 := hid (show OwnL w1.heap.size W3 74 (.slice p2 d.Pieces.length c2) b2 d.Pieces by rw [hW3]; exact (hO2.mono hsp).alloc _)
  have Q8 := hid (show Bx W3 w2.heap.size #[.slice p2 d.Pieces.length c2] by rw [hW3]; exact Bx.new _ _ _ rfl)
  have Q0 := hid (show Bx W3 w.heap.size #[.slice a0 d.Pieces.length k0] by rw [hW3]; exact B0.alloc (by omega) _)
  have Q1 := hid (show Bx W3 (w.heap.size + 1) #[.slice none 0 0] by rw [hW3]; exact B1.alloc (by omega) _)
  have HB3 := hid (show Below w.heap.size w W3 by rw [hW3]; exact HB2.out.alloc HB2.out.size _)
  have hz3 : w2.heap.size + 1 ≤ W3.heap.size := by rw [hW3]; simp
  have hz3b : W3.heap.size ≤ w2.heap.size + 1 := by rw [hW3]; simp
  have hw1 : ¬ w.heap.size + 1 = w2.heap.size := by omega
  have hb2 := hid (fun b (hb9 : b ∈ b2) => (hO2.lts b hb9).2)
  clear hO2 hW3 B0 B1 B0o B0f B1o B1f
  have B0o := Q0.out.out; have B0f := Q0.out.fr; have B1o := Q1.out.out; have B1f := Q1.out.fr; have B8o := Q8.out.out; have B8f := Q8.out.fr
  by_cases hz : t.length = 0
  · have HE : Hid (ringPutL d t how = d.Pieces) := hid (by unfold ringPutL; rw [if_pos (List.eq_nil_of_length_eq_zero hz)])
    have hzi : ((t.length : Int) == 0) = true := by rw [hz]; rfl
    clear hz
    obtain ⟨bf, hog, hsub⟩ := own_ring_of HO3.out
    have HG := hid hog
    have HLF := hid (fun b (hb9 : b ∈ bf) => (HO3.out.lts b (hsub b hb9)).1)
    have HBF := hid (show Below w.heap.size w _ from HB3.out)
    clear hog hsub
    go_wp2
    refine bodyPost_ret (v := .tuple #[.agg #[.slice p2 d.Pieces.length c2], .bool true]) (by simp [results, Try.results17, go_sem, B1o, B8o]) rfl ?_
    refine ⟨[.slice p2 d.Pieces.length c2], bf, by rw [HZ.out.1], ?_, HBF.out.setCell (by simp) _⟩
    rw [HZ.out.2, HE.out]
    exact (HG.out.setCell' _ (fun b hb9 => by have := HLF.out b hb9; simp; omega)).mono (by omega)
  have hzi : ((t.length : Int) == 0) = false := by rw [beq_eq_false_iff_ne]; omega
  have htn : t ≠ [] := by rintro rfl; exact hz rfl
  have hEn := hid (show ringIsNew d t how = true → ringPutL d t how = ringNewL d t from fun h => by unfold ringPutL; rw [if_neg htn, if_pos h])
  have HEn := hid (show ringIsNew d t how = false → ringPutL d t how = d.Pieces.set 0 ⟨if how = 1 then ringFst d ++ t else t ++ ringFst d⟩ from fun h => by unfold ringPutL; rw [if_neg htn, if_neg (by simp [h])])
  clear htn hz
  cases hq0 : (how == 0)
  rotate_left
  · obtain rfl : how = 0 := by simpa using hq0
    have HE0 := hid (hEn.out (by simp [ringIsNew]))
    clear hEn HEn hq0 hn1 hn2
    go_wp2_with fail
    obtain ⟨bq, hsq, hOq⟩ := HO3.out.own
    obtain ⟨b9, hSrc, hs9, hn9⟩ := (pt_slice.1 hOq.1).srcs
    have HS := hid hSrc
    have HN9 := hid (hn9 hOq.2.1)
    have HF9 := hid (fun b (hb9 : b ∈ b9) => (⟨(hOq.2.2 b (hs9 b hb9)).1, (hOq.2.2 b (hs9 b hb9)).2, (HO3.out.lts b (hsq b (hs9 b hb9))).2⟩ : w1.heap.size ≤ b ∧ Fr W3 b ∧ b < W3.heap.size))
    clear hsq hOq hSrc hs9 hn9
    have c8 : W3.cell? ⟨w2.heap.size, 0, none⟩ = some (.slice p2 d.Pieces.length c2) := B8o 0
    refine late_start (fun W => Below W3.heap.size W3 W ∧ W.cell? ⟨w2.heap.size, 0, none⟩ = some (.slice p2 d.Pieces.length c2)) 99 (by kernel_rfl) ?_ (fun hS => ?_)
    · exact ⟨(Below.refl _ _).drew, c8⟩
    refine late_take (i := 1) (v := ?_) rfl (by kernel_rfl) (fun _ _ _ h => h) (by rfl) ?_ (by assumption) ?_
    rotate_left
    · (intro w9 hS9; (try dsimp only at hS9); (try go_split_ands); go_simp <;> with_reducible rfl)
    try simp only [Act.put, List.setIfInBounds_toArray, List.set_cons_zero, List.set_cons_succ]
    refine late_take (i := 5) (v := ?_) rfl (by kernel_rfl) (fun _ _ _ h => h) (by rfl) ?_ (by assumption) ?_
    rotate_left
    · (intro w9 hS9; (try dsimp only at hS9); (try go_split_ands); go_simp <;> with_reducible rfl)
    try simp only [Act.put, List.setIfInBounds_toArray, List.set_cons_zero, List.set_cons_succ]
    refine late_take (i := 6) (v := ?_) rfl (by kernel_rfl) (fun _ _ _ h => h) (by rfl) ?_ (by assumption) ?_
    rotate_left
    · (intro w9 hS9; (try dsimp only at hS9); (try go_split_ands); go_simp <;> with_reducible rfl)
    try simp only [Act.put, List.setIfInBounds_toArray, List.set_cons_zero, List.set_cons_succ]
    refine late_one (i := 0) rfl (by kernel_rfl) (fun K9 hK9 => ?_)
    go_simp
    refine hK9.out _ _ (fun _ => ?_) (fun hS9 => ?_)
    · (try dsimp only); exact ⟨hS.1.alloc hS.1.size _, (World.cell?_alloc_lt _ _ ⟨w2.heap.size, 0, none⟩ (World.block_lt_of_cell? _ _ hS.2)).trans hS.2⟩
    replace hS := hS9 (by decide)
    clear hK9 K9 hS9
    try simp only [Act.put, List.setIfInBounds_toArray, List.set_cons_zero, List.set_cons_succ]
    refine late_one (i := 2) rfl (by kernel_rfl) (fun K9 hK9 => ?_)
    refine step_append rfl _ _ 54 rfl 3 j0 (.int .i64 0) 8 Try.underlying54 hj hy0 hy1 hy2 rfl (lo := W3.heap.size) (bs := [W3.heap.size]) (xs := ([] : List Int)) rfl ?own (b2 := []) (ys := t) rfl ?src List.nodup_nil ?f2 ?q2 ?q3 ?q4 ?_
    case own => exact (ownL_empty (α := Int) (w := W3) rfl (Nat.le_refl _)).drew
    case src => exact (H2.out.grow (HB3.out.trans (hS.1.mono HB3.out.size))).src
    case f2 => simp
    case q2 => simp; omega
    case q3 => simp; omega
    case q4 => simp
    intro p4 c4 w4 b4 hO4 hT4 hm4
    try simp only [List.nil_append] at hO4
    try simp only [List.length_nil, Nat.zero_add] at hO4
    try simp only [List.length_nil, Nat.zero_add]
    have hb34 := hid (show Below W3.heap.size W3 w4 from hS.1.trans (hT4.below hS.1.size (by simp)))
    have hz4 : W3.heap.size ≤ w4.heap.size := hb34.out.size
    obtain ⟨b4x, hb4x, hOw4⟩ := hO4.own
    have HOw4 := hid (show Own w1.heap.size w4 b4x [.slice p4 t.length c4] t from hOw4.mono (by omega))
    have L4 := hid (fun b (hb9 : b ∈ b4x) => hO4.lts b (hb4x b hb9))
    clear hO4 hb4x hOw4 hm4
    refine hK9.out _ _ (fun _ => ?_) (fun hS9 => ?_)
    · (try dsimp only); exact ⟨hb34.out, (hb34.out.cell (World.block_lt_of_cell? _ _ c8)).trans c8⟩
    replace hS := hS9 (by decide)
    clear hK9 K9 hS9
    try simp only [Act.put, List.setIfInBounds_toArray, List.set_cons_zero, List.set_cons_succ]
    clear hT4
    refine late_take (i := 3) (v := ?_) rfl (by kernel_rfl) (fun _ _ _ h => h) (by rfl) ?_ (by assumption) ?_
    rotate_left
    · (intro w9 hS9; (try dsimp only at hS9); (try go_split_ands); go_simp <;> with_reducible rfl)
    try simp only [Act.put, List.setIfInBounds_toArray, List.set_cons_zero, List.set_cons_succ]
    refine late_one (i := 4) rfl (by kernel_rfl) (fun K9 hK9 => ?_)
    go_simp
    refine hK9.out _ _ (fun _ => ?_) (fun hS9 => ?_)
    · (try dsimp only); exact ⟨hS.1.alloc hS.1.size _, (World.cell?_alloc_lt _ _ ⟨w2.heap.size, 0, none⟩ (World.block_lt_of_cell? _ _ hS.2)).trans hS.2⟩
    replace hS := hS9 (by decide)
    clear hK9 K9 hS9
    try simp only [Act.put, List.setIfInBounds_toArray, List.set_cons_zero, List.set_cons_succ]
    refine late_one (i := 7) rfl (by kernel_rfl) (fun K9 hK9 => ?_)
    refine step_append rfl _ _ 56 rfl 74 i0 (.agg #[.slice none 0 0]) 24 Try.underlying56 hi hz0 hz1 hz2 rfl (lo := w1.heap.size) (bs := w4.heap.size :: b4x) (xs := [(⟨t⟩ : PieceD)]) rfl ?own (b2 := b9) (ys := d.Pieces) rfl ?src HN9.out ?f2 ?q2 ?q3 ?q4 ?_
    case own => exact ownL_one (cs := [_]) (own_Piece (d := (⟨t⟩ : PieceD)) HOw4.out) rfl (by omega) _
    case src => exact HS.out.grow (hb34.out.alloc (by omega) _)
    case f2 => exact fun b hb => ⟨(HF9.out b hb).1, (HF9.out b hb).2.1.keep ((hb34.out.alloc (by omega) _).block b (HF9.out b hb).2.2), fun hm => by
        have q1 := (HF9.out b hb).2.2
        rcases List.mem_cons.1 hm with rfl | hm
        · omega
        · have := (L4.out _ hm).1; omega⟩
    case q2 => have := Hq.out.1; simp; omega
    case q3 => have := Hq.out.1; simp; omega
    case q4 => simp; omega
    intro p6 c6 w6 b6 hO6 hT6 hm6
    simp only [List.length_cons, List.length_nil, Nat.zero_add] at hO6 ⊢
    have n8 : w2.heap.size ∉ w4.heap.size :: b4x := fun hm => by
      rcases List.mem_cons.1 hm with hm | hm
      · omega
      · have := (L4.out _ hm).1; omega
    have hb46 : Below W3.heap.size W3 w6 := (hb34.out.alloc hz4 _).trans (hT6.below (by simp; omega) (fun b hb => by
      rcases List.mem_cons.1 hb with rfl | hm
      · omega
      · have := (L4.out _ hm).1; omega))
    have HO6 := hid hO6
    refine hK9.out _ _ (fun _ => ?_) (fun hS9 => ?_)
    · (try dsimp only); exact ⟨hb46, (hb46.cell (World.block_lt_of_cell? _ _ c8)).trans c8⟩
    replace hS := hS9 (by decide)
    clear hK9 K9 hS9
    try simp only [Act.put, List.setIfInBounds_toArray, List.set_cons_zero, List.set_cons_succ]
    clear hO6 hT6 hm6
    refine late_one (i := 8) rfl (by kernel_rfl) (fun K9 hK9 => ?_)
    go_simp
    refine hK9.out _ _ (fun _ => ?_) (fun hS9 => ?_)
    · (try dsimp only); exact hS
    replace hS := hS9 (by decide)
    clear hK9 K9 hS9
    try simp only [Act.put, List.setIfInBounds_toArray, List.set_cons_zero, List.set_cons_succ]
    refine late_done (by kernel_rfl) ?_ _
    have X1 := Q1.out.below hb46 (by omega)
    have X1o := X1.out; have X1f := X1.fr
    have HB6 := hid (HB3.out.trans (hb46.mono HB3.out.size))
    clear hS X1 hb46 n8 B0o B0f B1o B1f B8o B8f c8
    obtain ⟨n, hn⟩ : ∃ n, n = 1 + d.Pieces.length := ⟨_, rfl⟩
    rw [← hn] at HO6 ⊢
    have hn7 : n ≤ 7 := by have := Hq.out.1; omega
    by_cases h6 : n ≤ 6
    · have h6i : ¬ (6 : Int) < (n : Int) := by omega
      have HE := hid (show ringPutL d t 0 = [(⟨t⟩ : PieceD)] ++ d.Pieces by rw [HE0.out]; exact List.take_of_length_le (by simp; omega))
      clear h6 hn
      obtain ⟨bf, hog, hsub⟩ := own_ring_of HO6.out
      have HG := hid hog
      have HLF := hid (fun b (hb9 : b ∈ bf) => (HO6.out.lts b (hsub b hb9)).1)
      have HBF := hid (show Below w.heap.size w _ from HB6.out)
      clear hog hsub
      go_wp2
      refine bodyPost_ret (v := .tuple #[.agg #[.slice p6 n c6], .bool true]) (by simp [results, Try.results17, go_sem, X1o]) rfl ?_
      refine ⟨[.slice p6 n c6], bf, by rw [HZ.out.1], ?_, HBF.out.setCell (by simp) _⟩
      rw [HZ.out.2, HE.out]
      exact (HG.out.setCell' _ (fun b hb9 => by have := HLF.out b hb9; simp; omega)).mono (by omega)
    · obtain rfl : n = 7 := by omega
      have HE := hid (show ringPutL d t 0 = ([(⟨t⟩ : PieceD)] ++ d.Pieces).take (6 : Int).toNat by rw [HE0.out]; rfl)
      obtain ⟨b7, hs7, hOw7⟩ := HO6.out.own
      obtain ⟨a7, bf, hrun7, hb8, hn8, hS8⟩ := (pt_slice.1 hOw7.1).cut_h (P := Try.prog) 56 Try.underlying56 hi hz1 6 (by omega) (by simp; omega)
      have HG := hid (own_Ring (d := ⟨_⟩) (hOw7.cutS hb8 hn8 hS8))
      have HLF := hid (fun b (hb9 : b ∈ bf) => show w1.heap.size ≤ b from (HO6.out.lts b (hs7 b (hb8 b hb9))).1)
      have HBF := hid (show Below w.heap.size w _ from HB6.out)
      clear h6 hn hs7 hOw7 hb8 hn8 hS8
      go_wp2
      refine bodyPost_ret (v := .tuple #[.agg #[.slice a7 6 c6], .bool true]) (by simp [results, Try.results17, go_sem, X1o]) rfl ?_
      refine ⟨[.slice a7 6 c6], bf, by rw [HZ.out.1], ?_, HBF.out.setCell (by simp) _⟩
      rw [HZ.out.2, HE.out]
      exact (HG.out.setCell' _ (fun b hb9 => by have := HLF.out b hb9; simp; omega)).mono (by omega)
  have hq0n : ¬ how = 0 := by simpa using hq0
  by_cases hL : d.Pieces.length = 0
  · have HE0 := hid (hEn.out (by simp [ringIsNew, hL]))
    have hLi : ¬ (0 : Int) < (d.Pieces.length : Int) := by omega
    clear hEn HEn hL
    go_wp2_with fail
    obtain ⟨bq, hsq, hOq⟩ := HO3.out.own
    obtain ⟨b9, hSrc, hs9, hn9⟩ := (pt_slice.1 hOq.1).srcs
    have HS := hid hSrc
    have HN9 := hid (hn9 hOq.2.1)
    have HF9 := hid (fun b (hb9 : b ∈ b9) => (⟨(hOq.2.2 b (hs9 b hb9)).1, (hOq.2.2 b (hs9 b hb9)).2, (HO3.out.lts b (hsq b (hs9 b hb9))).2⟩ : w1.heap.size ≤ b ∧ Fr W3 b ∧ b < W3.heap.size))
    clear hsq hOq hSrc hs9 hn9
    have c8 : W3.cell? ⟨w2.heap.size, 0, none⟩ = some (.slice p2 d.Pieces.length c2) := B8o 0
    refine late_start (fun W => Below W3.heap.size W3 W ∧ W.cell? ⟨w2.heap.size, 0, none⟩ = some (.slice p2 d.Pieces.length c2)) 99 (by kernel_rfl) ?_ (fun hS => ?_)
    · exact ⟨(Below.refl _ _).drew, c8⟩
    refine late_take (i := 1) (v := ?_) rfl (by kernel_rfl) (fun _ _ _ h => h) (by rfl) ?_ (by assumption) ?_
    rotate_left
    · (intro w9 hS9; (try dsimp only at hS9); (try go_split_ands); go_simp <;> with_reducible rfl)
    try simp only [Act.put, List.setIfInBounds_toArray, List.set_cons_zero, List.set_cons_succ]
    refine late_take (i := 5) (v := ?_) rfl (by kernel_rfl) (fun _ _ _ h => h) (by rfl) ?_ (by assumption) ?_
    rotate_left
    · (intro w9 hS9; (try dsimp only at hS9); (try go_split_ands); go_simp <;> with_reducible rfl)
    try simp only [Act.put, List.setIfInBounds_toArray, List.set_cons_zero, List.set_cons_succ]
    refine late_take (i := 6) (v := ?_) rfl (by kernel_rfl) (fun _ _ _ h => h) (by rfl) ?_ (by assumption) ?_
    rotate_left
    · (intro w9 hS9; (try dsimp only at hS9); (try go_split_ands); go_simp <;> with_reducible rfl)
    try simp only [Act.put, List.setIfInBounds_toArray, List.set_cons_zero, List.set_cons_succ]
    refine late_one (i := 0) rfl (by kernel_rfl) (fun K9 hK9 => ?_)
    go_simp
    refine hK9.out _ _ (fun _ => ?_) (fun hS9 => ?_)
    · (try dsimp only); exact ⟨hS.1.alloc hS.1.size _, (World.cell?_alloc_lt _ _ ⟨w2.heap.size, 0, none⟩ (World.block_lt_of_cell? _ _ hS.2)).trans hS.2⟩
    replace hS := hS9 (by decide)
    clear hK9 K9 hS9
    try simp only [Act.put, List.setIfInBounds_toArray, List.set_cons_zero, List.set_cons_succ]
    refine late_one (i := 2) rfl (by kernel_rfl) (fun K9 hK9 => ?_)
    refine step_append rfl _ _ 54 rfl 3 j0 (.int .i64 0) 8 Try.underlying54 hj hy0 hy1 hy2 rfl (lo := W3.heap.size) (bs := [W3.heap.size]) (xs := ([] : List Int)) rfl ?own (b2 := []) (ys := t) rfl ?src List.nodup_nil ?f2 ?q2 ?q3 ?q4 ?_
    case own => exact (ownL_empty (α := Int) (w := W3) rfl (Nat.le_refl _)).drew
    case src => exact (H2.out.grow (HB3.out.trans (hS.1.mono HB3.out.size))).src
    case f2 => simp
    case q2 => simp; omega
    case q3 => simp; omega
    case q4 => simp
    intro p4 c4 w4 b4 hO4 hT4 hm4
    try simp only [List.nil_append] at hO4
    try simp only [List.length_nil, Nat.zero_add] at hO4
    try simp only [List.length_nil, Nat.zero_add]
    have hb34 := hid (show Below W3.heap.size W3 w4 from hS.1.trans (hT4.below hS.1.size (by simp)))
    have hz4 : W3.heap.size ≤ w4.heap.size := hb34.out.size
    obtain ⟨b4x, hb4x, hOw4⟩ := hO4.own
    have HOw4 := hid (show Own w1.heap.size w4 b4x [.slice p4 t.length c4] t from hOw4.mono (by omega))
    have L4 := hid (fun b (hb9 : b ∈ b4x) => hO4.lts b (hb4x b hb9))
    clear hO4 hb4x hOw4 hm4
    refine hK9.out _ _ (fun _ => ?_) (fun hS9 => ?_)
    · (try dsimp only); exact ⟨hb34.out, (hb34.out.cell (World.block_lt_of_cell? _ _ c8)).trans c8⟩
    replace hS := hS9 (by decide)
    clear hK9 K9 hS9
    try simp only [Act.put, List.setIfInBounds_toArray, List.set_cons_zero, List.set_cons_succ]
    clear hT4
    refine late_take (i := 3) (v := ?_) rfl (by kernel_rfl) (fun _ _ _ h => h) (by rfl) ?_ (by assumption) ?_
    rotate_left
    · (intro w9 hS9; (try dsimp only at hS9); (try go_split_ands); go_simp <;> with_reducible rfl)
    try simp only [Act.put, List.setIfInBounds_toArray, List.set_cons_zero, List.set_cons_succ]
    refine late_one (i := 4) rfl (by kernel_rfl) (fun K9 hK9 => ?_)
    go_simp
    refine hK9.out _ _ (fun _ => ?_) (fun hS9 => ?_)
    · (try dsimp only); exact ⟨hS.1.alloc hS.1.size _, (World.cell?_alloc_lt _ _ ⟨w2.heap.size, 0, none⟩ (World.block_lt_of_cell? _ _ hS.2)).trans hS.2⟩
    replace hS := hS9 (by decide)
    clear hK9 K9 hS9
    try simp only [Act.put, List.setIfInBounds_toArray, List.set_cons_zero, List.set_cons_succ]
    refine late_one (i := 7) rfl (by kernel_rfl) (fun K9 hK9 => ?_)
    refine step_append rfl _ _ 56 rfl 74 i0 (.agg #[.slice none 0 0]) 24 Try.underlying56 hi hz0 hz1 hz2 rfl (lo := w1.heap.size) (bs := w4.heap.size :: b4x) (xs := [(⟨t⟩ : PieceD)]) rfl ?own (b2 := b9) (ys := d.Pieces) rfl ?src HN9.out ?f2 ?q2 ?q3 ?q4 ?_
    case own => exact ownL_one (cs := [_]) (own_Piece (d := (⟨t⟩ : PieceD)) HOw4.out) rfl (by omega) _
    case src => exact HS.out.grow (hb34.out.alloc (by omega) _)
    case f2 => exact fun b hb => ⟨(HF9.out b hb).1, (HF9.out b hb).2.1.keep ((hb34.out.alloc (by omega) _).block b (HF9.out b hb).2.2), fun hm => by
        have q1 := (HF9.out b hb).2.2
        rcases List.mem_cons.1 hm with rfl | hm
        · omega
        · have := (L4.out _ hm).1; omega⟩
    case q2 => have := Hq.out.1; simp; omega
    case q3 => have := Hq.out.1; simp; omega
    case q4 => simp; omega
    intro p6 c6 w6 b6 hO6 hT6 hm6
    simp only [List.length_cons, List.length_nil, Nat.zero_add] at hO6 ⊢
    have n8 : w2.heap.size ∉ w4.heap.size :: b4x := fun hm => by
      rcases List.mem_cons.1 hm with hm | hm
      · omega
      · have := (L4.out _ hm).1; omega
    have hb46 : Below W3.heap.size W3 w6 := (hb34.out.alloc hz4 _).trans (hT6.below (by simp; omega) (fun b hb => by
      rcases List.mem_cons.1 hb with rfl | hm
      · omega
      · have := (L4.out _ hm).1; omega))
    have HO6 := hid hO6
    refine hK9.out _ _ (fun _ => ?_) (fun hS9 => ?_)
    · (try dsimp only); exact ⟨hb46, (hb46.cell (World.block_lt_of_cell? _ _ c8)).trans c8⟩
    replace hS := hS9 (by decide)
    clear hK9 K9 hS9
    try simp only [Act.put, List.setIfInBounds_toArray, List.set_cons_zero, List.set_cons_succ]
    clear hO6 hT6 hm6
    refine late_one (i := 8) rfl (by kernel_rfl) (fun K9 hK9 => ?_)
    go_simp
    refine hK9.out _ _ (fun _ => ?_) (fun hS9 => ?_)
    · (try dsimp only); exact hS
    replace hS := hS9 (by decide)
    clear hK9 K9 hS9
    try simp only [Act.put, List.setIfInBounds_toArray, List.set_cons_zero, List.set_cons_succ]
    refine late_done (by kernel_rfl) ?_ _
    have X1 := Q1.out.below hb46 (by omega)
    have X1o := X1.out; have X1f := X1.fr
    have HB6 := hid (HB3.out.trans (hb46.mono HB3.out.size))
    clear hS X1 hb46 n8 B0o B0f B1o B1f B8o B8f c8
    obtain ⟨n, hn⟩ : ∃ n, n = 1 + d.Pieces.length := ⟨_, rfl⟩
    rw [← hn] at HO6 ⊢
    have hn7 : n ≤ 7 := by have := Hq.out.1; omega
    by_cases h6 : n ≤ 6
    · have h6i : ¬ (6 : Int) < (n : Int) := by omega
      have HE := hid (show ringPutL d t how = [(⟨t⟩ : PieceD)] ++ d.Pieces by rw [HE0.out]; exact List.take_of_length_le (by simp; omega))
      clear h6 hn
      obtain ⟨bf, hog, hsub⟩ := own_ring_of HO6.out
      have HG := hid hog
      have HLF := hid (fun b (hb9 : b ∈ bf) => (HO6.out.lts b (hsub b hb9)).1)
      have HBF := hid (show Below w.heap.size w _ from HB6.out)
      clear hog hsub
      go_wp2
      refine bodyPost_ret (v := .tuple #[.agg #[.slice p6 n c6], .bool true]) (by simp [results, Try.results17, go_sem, X1o]) rfl ?_
      refine ⟨[.slice p6 n c6], bf, by rw [HZ.out.1], ?_, HBF.out.setCell (by simp) _⟩
      rw [HZ.out.2, HE.out]
      exact (HG.out.setCell' _ (fun b hb9 => by have := HLF.out b hb9; simp; omega)).mono (by omega)
    · obtain rfl : n = 7 := by omega
      have HE := hid (show ringPutL d t how = ([(⟨t⟩ : PieceD)] ++ d.Pieces).take (6 : Int).toNat by rw [HE0.out]; rfl)
      obtain ⟨b7, hs7, hOw7⟩ := HO6.out.own
      obtain ⟨a7, bf, hrun7, hb8, hn8, hS8⟩ := (pt_slice.1 hOw7.1).cut_h (P := Try.prog) 56 Try.underlying56 hi hz1 6 (by omega) (by simp; omega)
      have HG := hid (own_Ring (d := ⟨_⟩) (hOw7.cutS hb8 hn8 hS8))
      have HLF := hid (fun b (hb9 : b ∈ bf) => show w1.heap.size ≤ b from (HO6.out.lts b (hs7 b (hb8 b hb9))).1)
      have HBF := hid (show Below w.heap.size w _ from HB6.out)
      clear h6 hn hs7 hOw7 hb8 hn8 hS8
      go_wp2
      refine bodyPost_ret (v := .tuple #[.agg #[.slice a7 6 c6], .bool true]) (by simp [results, Try.results17, go_sem, X1o]) rfl ?_
      refine ⟨[.slice a7 6 c6], bf, by rw [HZ.out.1], ?_, HBF.out.setCell (by simp) _⟩
      rw [HZ.out.2, HE.out]
      exact (HG.out.setCell' _ (fun b hb9 => by have := HLF.out b hb9; simp; omega)).mono (by omega)
  have hL0 : 0 < d.Pieces.length := by omega
  have hL0i : (0 : Int) < (d.Pieces.length : Int) := by omega
  obtain ⟨ba, oa, csa, bsa, rfl, hba, hpa, _, hAa⟩ := H0.out.elem 0 hL0
  obtain ⟨a1, l1, k1, rfl, g0⟩ := open_Piece hpa
  rw [← ringFst_get hL0] at g0
  obtain rfl := g0.len_eq
  obtain ⟨T0, hTT⟩ : ∃ T0, T0 = ringFst d := ⟨_, rfl⟩
  rw [← hTT] at Hf g0 HEn hAa
  have G0 := hid g0
  have cga : W3.cell? ⟨ba, oa, none⟩ = some (.slice a1 T0.length k1) := by
    have q := hAa 0 _ rfl
    have q2 : w.cell? ⟨ba, oa, none⟩ = some (.slice a1 T0.length k1) := by simpa using q
    exact (HB3.out.cell (p := ⟨ba, oa, none⟩) hba).trans q2
  have hT4 : T0.length ≤ 400 := Hf.out
  have hsum := hid (show ringIsNew d t how = true ↔ (how = 0 ∨ 400 < T0.length + t.length) by
    rw [hTT]; unfold ringIsNew
    simp only [Bool.or_eq_true, decide_eq_true_eq]; omega)
  clear hpa hAa g0 hTT hL hba
  by_cases hgt : (T0.length : Int) + (t.length : Int) ≤ 400
  rotate_left
  · have HE0 := hid (hEn.out (hsum.out.2 (.inr (by omega))))
    clear hEn HEn
    go_wp2_with fail
    obtain ⟨bq, hsq, hOq⟩ := HO3.out.own
    obtain ⟨b9, hSrc, hs9, hn9⟩ := (pt_slice.1 hOq.1).srcs
    have HS := hid hSrc
    have HN9 := hid (hn9 hOq.2.1)
    have HF9 := hid (fun b (hb9 : b ∈ b9) => (⟨(hOq.2.2 b (hs9 b hb9)).1, (hOq.2.2 b (hs9 b hb9)).2, (HO3.out.lts b (hsq b (hs9 b hb9))).2⟩ : w1.heap.size ≤ b ∧ Fr W3 b ∧ b < W3.heap.size))
    clear hsq hOq hSrc hs9 hn9
    have c8 : W3.cell? ⟨w2.heap.size, 0, none⟩ = some (.slice p2 d.Pieces.length c2) := B8o 0
    refine late_start (fun W => Below W3.heap.size W3 W ∧ W.cell? ⟨w2.heap.size, 0, none⟩ = some (.slice p2 d.Pieces.length c2)) 99 (by kernel_rfl) ?_ (fun hS => ?_)
    · exact ⟨(Below.refl _ _).drew, c8⟩
    refine late_take (i := 1) (v := ?_) rfl (by kernel_rfl) (fun _ _ _ h => h) (by rfl) ?_ (by assumption) ?_
    rotate_left
    · (intro w9 hS9; (try dsimp only at hS9); (try go_split_ands); go_simp <;> with_reducible rfl)
    try simp only [Act.put, List.setIfInBounds_toArray, List.set_cons_zero, List.set_cons_succ]
    refine late_take (i := 5) (v := ?_) rfl (by kernel_rfl) (fun _ _ _ h => h) (by rfl) ?_ (by assumption) ?_
    rotate_left
    · (intro w9 hS9; (try dsimp only at hS9); (try go_split_ands); go_simp <;> with_reducible rfl)
    try simp only [Act.put, List.setIfInBounds_toArray, List.set_cons_zero, List.set_cons_succ]
    refine late_take (i := 6) (v := ?_) rfl (by kernel_rfl) (fun _ _ _ h => h) (by rfl) ?_ (by assumption) ?_
    rotate_left
    · (intro w9 hS9; (try dsimp only at hS9); (try go_split_ands); go_simp <;> with_reducible rfl)
    try simp only [Act.put, List.setIfInBounds_toArray, List.set_cons_zero, List.set_cons_succ]
    refine late_one (i := 0) rfl (by kernel_rfl) (fun K9 hK9 => ?_)
    go_simp
    refine hK9.out _ _ (fun _ => ?_) (fun hS9 => ?_)
    · (try dsimp only); exact ⟨hS.1.alloc hS.1.size _, (World.cell?_alloc_lt _ _ ⟨w2.heap.size, 0, none⟩ (World.block_lt_of_cell? _ _ hS.2)).trans hS.2⟩
    replace hS := hS9 (by decide)
    clear hK9 K9 hS9
    try simp only [Act.put, List.setIfInBounds_toArray, List.set_cons_zero, List.set_cons_succ]
    refine late_one (i := 2) rfl (by kernel_rfl) (fun K9 hK9 => ?_)
    refine step_append rfl _ _ 54 rfl 3 j0 (.int .i64 0) 8 Try.underlying54 hj hy0 hy1 hy2 rfl (lo := W3.heap.size) (bs := [W3.heap.size]) (xs := ([] : List Int)) rfl ?own (b2 := []) (ys := t) rfl ?src List.nodup_nil ?f2 ?q2 ?q3 ?q4 ?_
    case own => exact (ownL_empty (α := Int) (w := W3) rfl (Nat.le_refl _)).drew
    case src => exact (H2.out.grow (HB3.out.trans (hS.1.mono HB3.out.size))).src
    case f2 => simp
    case q2 => simp; omega
    case q3 => simp; omega
    case q4 => simp
    intro p4 c4 w4 b4 hO4 hT4 hm4
    try simp only [List.nil_append] at hO4
    try simp only [List.length_nil, Nat.zero_add] at hO4
    try simp only [List.length_nil, Nat.zero_add]
    have hb34 := hid (show Below W3.heap.size W3 w4 from hS.1.trans (hT4.below hS.1.size (by simp)))
    have hz4 : W3.heap.size ≤ w4.heap.size := hb34.out.size
    obtain ⟨b4x, hb4x, hOw4⟩ := hO4.own
    have HOw4 := hid (show Own w1.heap.size w4 b4x [.slice p4 t.length c4] t from hOw4.mono (by omega))
    have L4 := hid (fun b (hb9 : b ∈ b4x) => hO4.lts b (hb4x b hb9))
    clear hO4 hb4x hOw4 hm4
    refine hK9.out _ _ (fun _ => ?_) (fun hS9 => ?_)
    · (try dsimp only); exact ⟨hb34.out, (hb34.out.cell (World.block_lt_of_cell? _ _ c8)).trans c8⟩
    replace hS := hS9 (by decide)
    clear hK9 K9 hS9
    try simp only [Act.put, List.setIfInBounds_toArray, List.set_cons_zero, List.set_cons_succ]
    clear hT4
    refine late_take (i := 3) (v := ?_) rfl (by kernel_rfl) (fun _ _ _ h => h) (by rfl) ?_ (by assumption) ?_
    rotate_left
    · (intro w9 hS9; (try dsimp only at hS9); (try go_split_ands); go_simp <;> with_reducible rfl)
    try simp only [Act.put, List.setIfInBounds_toArray, List.set_cons_zero, List.set_cons_succ]
    refine late_one (i := 4) rfl (by kernel_rfl) (fun K9 hK9 => ?_)
    go_simp
    refine hK9.out _ _ (fun _ => ?_) (fun hS9 => ?_)
    · (try dsimp only); exact ⟨hS.1.alloc hS.1.size _, (World.cell?_alloc_lt _ _ ⟨w2.heap.size, 0, none⟩ (World.block_lt_of_cell? _ _ hS.2)).trans hS.2⟩
    replace hS := hS9 (by decide)
    clear hK9 K9 hS9
    try simp only [Act.put, List.setIfInBounds_toArray, List.set_cons_zero, List.set_cons_succ]
    refine late_one (i := 7) rfl (by kernel_rfl) (fun K9 hK9 => ?_)
    refine step_append rfl _ _ 56 rfl 74 i0 (.agg #[.slice none 0 0]) 24 Try.underlying56 hi hz0 hz1 hz2 rfl (lo := w1.heap.size) (bs := w4.heap.size :: b4x) (xs := [(⟨t⟩ : PieceD)]) rfl ?own (b2 := b9) (ys := d.Pieces) rfl ?src HN9.out ?f2 ?q2 ?q3 ?q4 ?_
    case own => exact ownL_one (cs := [_]) (own_Piece (d := (⟨t⟩ : PieceD)) HOw4.out) rfl (by omega) _
    case src => exact HS.out.grow (hb34.out.alloc (by omega) _)
    case f2 => exact fun b hb => ⟨(HF9.out b hb).1, (HF9.out b hb).2.1.keep ((hb34.out.alloc (by omega) _).block b (HF9.out b hb).2.2), fun hm => by
        have q1 := (HF9.out b hb).2.2
        rcases List.mem_cons.1 hm with rfl | hm
        · omega
        · have := (L4.out _ hm).1; omega⟩
    case q2 => have := Hq.out.1; simp; omega
    case q3 => have := Hq.out.1; simp; omega
    case q4 => simp; omega
    intro p6 c6 w6 b6 hO6 hT6 hm6
    simp only [List.length_cons, List.length_nil, Nat.zero_add] at hO6 ⊢
    have n8 : w2.heap.size ∉ w4.heap.size :: b4x := fun hm => by
      rcases List.mem_cons.1 hm with hm | hm
      · omega
      · have := (L4.out _ hm).1; omega
    have hb46 : Below W3.heap.size W3 w6 := (hb34.out.alloc hz4 _).trans (hT6.below (by simp; omega) (fun b hb => by
      rcases List.mem_cons.1 hb with rfl | hm
      · omega
      · have := (L4.out _ hm).1; omega))
    have HO6 := hid hO6
    refine hK9.out _ _ (fun _ => ?_) (fun hS9 => ?_)
    · (try dsimp only); exact ⟨hb46, (hb46.cell (World.block_lt_of_cell? _ _ c8)).trans c8⟩
    replace hS := hS9 (by decide)
    clear hK9 K9 hS9
    try simp only [Act.put, List.setIfInBounds_toArray, List.set_cons_zero, List.set_cons_succ]
    clear hO6 hT6 hm6
    refine late_one (i := 8) rfl (by kernel_rfl) (fun K9 hK9 => ?_)
    go_simp
    refine hK9.out _ _ (fun _ => ?_) (fun hS9 => ?_)
    · (try dsimp only); exact hS
    replace hS := hS9 (by decide)
    clear hK9 K9 hS9
    try simp only [Act.put, List.setIfInBounds_toArray, List.set_cons_zero, List.set_cons_succ]
    refine late_done (by kernel_rfl) ?_ _
    have X1 := Q1.out.below hb46 (by omega)
    have X1o := X1.out; have X1f := X1.fr
    have HB6 := hid (HB3.out.trans (hb46.mono HB3.out.size))
    clear hS X1 hb46 n8 B0o B0f B1o B1f B8o B8f c8
    obtain ⟨n, hn⟩ : ∃ n, n = 1 + d.Pieces.length := ⟨_, rfl⟩
    rw [← hn] at HO6 ⊢
    have hn7 : n ≤ 7 := by have := Hq.out.1; omega
    by_cases h6 : n ≤ 6
    · have h6i : ¬ (6 : Int) < (n : Int) := by omega
      have HE := hid (show ringPutL d t how = [(⟨t⟩ : PieceD)] ++ d.Pieces by rw [HE0.out]; exact List.take_of_length_le (by simp; omega))
      clear h6 hn
      obtain ⟨bf, hog, hsub⟩ := own_ring_of HO6.out
      have HG := hid hog
      have HLF := hid (fun b (hb9 : b ∈ bf) => (HO6.out.lts b (hsub b hb9)).1)
      have HBF := hid (show Below w.heap.size w _ from HB6.out)
      clear hog hsub
      go_wp2
      refine bodyPost_ret (v := .tuple #[.agg #[.slice p6 n c6], .bool true]) (by simp [results, Try.results17, go_sem, X1o]) rfl ?_
      refine ⟨[.slice p6 n c6], bf, by rw [HZ.out.1], ?_, HBF.out.setCell (by simp) _⟩
      rw [HZ.out.2, HE.out]
      exact (HG.out.setCell' _ (fun b hb9 => by have := HLF.out b hb9; simp; omega)).mono (by omega)
    · obtain rfl : n = 7 := by omega
      have HE := hid (show ringPutL d t how = ([(⟨t⟩ : PieceD)] ++ d.Pieces).take (6 : Int).toNat by rw [HE0.out]; rfl)
      obtain ⟨b7, hs7, hOw7⟩ := HO6.out.own
      obtain ⟨a7, bf, hrun7, hb8, hn8, hS8⟩ := (pt_slice.1 hOw7.1).cut_h (P := Try.prog) 56 Try.underlying56 hi hz1 6 (by omega) (by simp; omega)
      have HG := hid (own_Ring (d := ⟨_⟩) (hOw7.cutS hb8 hn8 hS8))
      have HLF := hid (fun b (hb9 : b ∈ bf) => show w1.heap.size ≤ b from (HO6.out.lts b (hs7 b (hb8 b hb9))).1)
      have HBF := hid (show Below w.heap.size w _ from HB6.out)
      clear h6 hn hs7 hOw7 hb8 hn8 hS8
      go_wp2
      refine bodyPost_ret (v := .tuple #[.agg #[.slice a7 6 c6], .bool true]) (by simp [results, Try.results17, go_sem, X1o]) rfl ?_
      refine ⟨[.slice a7 6 c6], bf, by rw [HZ.out.1], ?_, HBF.out.setCell (by simp) _⟩
      rw [HZ.out.2, HE.out]
      exact (HG.out.setCell' _ (fun b hb9 => by have := HLF.out b hb9; simp; omega)).mono (by omega)
  have HE0 := hid (HEn.out (by
    by_cases hb9 : ringIsNew d t how = true
    · exfalso
      rcases hsum.out.1 hb9 with h | h
      · exact hq0n h
      · omega
    · simpa using hb9))
  clear hEn HEn hsum
  have h16 : T0.length ≤ 16777216 := by omega
  have h17 : t.length ≤ 16777216 := by omega
  go_wp2_with fail
  refine (s_l13Join (G0.out.grow HB3.out) (H2.out.grow HB3.out) (slc_nil W3) h16 h17 (by simp)).mono ?_
  rintro e W4 ⟨v4, b4, rfl, hO4, hb4⟩
  obtain ⟨p4, c4, rfl⟩ := hO4.slice
  have HO4 := hid (show OwnL W3.heap.size W4 3 _ b4 (T0 ++ t) by have := hO4; rw [List.append_nil] at this; exact this)
  have HB34 := hid hb4
  have Q0 := hid (Q0.out.below hb4 (by omega)); have Q1 := hid (Q1.out.below hb4 (by omega)); have Q8 := hid (Q8.out.below hb4 (by omega))
  have cgb : W4.cell? ⟨ba, oa, none⟩ = some (.slice a1 T0.length k1) := (hb4.cell (World.block_lt_of_cell? _ _ cga)).trans cga
  have HB4 := hid (HB3.out.trans (hb4.mono HB3.out.size))
  have hz4 : W3.heap.size ≤ W4.heap.size := hb4.size
  clear hO4 hb4 cga B0o B0f B1o B1f B8o B8f
  have B0o := Q0.out.out; have B0f := Q0.out.fr; have B1o := Q1.out.out; have B1f := Q1.out.fr; have B8o := Q8.out.out; have B8f := Q8.out.fr
  rw [show (T0 ++ t ++ ([] : List Int)).length = (T0 ++ t).length by simp]
  obtain ⟨g, cap, bi, cs0, hv, hgb, hlo, hglt, hgF, hbi, hOw0, hA0, hset⟩ := HO3.out.setE 0 hL0
  simp only [Value.slice.injEq] at hv
  obtain ⟨rfl, hv2, hv3⟩ := hv
  obtain rfl : c2 = cap := hv3
  clear hv2
  obtain ⟨a9, l9, k9, rfl, g9⟩ := open_Piece hOw0.1
  have Hset := hid hset
  have cg3 : W3.cell? ⟨g, 0, none⟩ = some (.slice a9 l9 k9) := by have q := hA0 0 _ rfl; simpa using q
  have HGF := hid hgF
  have hg1 : ¬ g = w.heap.size + 1 := by omega
  have hg8 : ¬ g = w2.heap.size := by have := hb2.out g hgb; omega
  have hg8s : ¬ w2.heap.size = g := fun h => hg8 h.symm
  have hg1s : ¬ w.heap.size + 1 = g := fun h => hg1 h.symm
  clear hset hbi hOw0 hA0 hgF g9 hgb
  by_cases hq2 : how = 2
  rotate_left
  · have hq2b : (how == 2) = false := by rw [beq_eq_false_iff_ne]; exact hq2
    have HE : Hid (ringPutL d t how = d.Pieces.set 0 ⟨T0 ++ t⟩) := hid (by rw [HE0.out, if_pos (by omega)])
    clear HE0 hq2
    have cg : W4.cell? ⟨g, 0, none⟩ = some (.slice a9 l9 k9) := (HB34.out.cell (p := ⟨g, 0, none⟩) hglt).trans cg3
    have hgf : ∀ o, W4.frozen? ⟨g, o, none⟩ = false := (HGF.out.keep (HB34.out.block g hglt)).frozen
    obtain ⟨bj, hbj, hOj⟩ := HO4.out.own
    obtain ⟨pj, cj, hvj⟩ := HO4.out.slice
    obtain ⟨bN, hON, _⟩ := Hset.out W4 (fun k hk9 _ => HB34.out.block k (HO3.out.lts k hk9).2) bj [_] (⟨T0 ++ t⟩ : PieceD) (own_Piece (d := (⟨T0 ++ t⟩ : PieceD)) (hOj.mono (by omega))) (fun b hb9 => .inl (fun h9 => by have := (HO4.out.lts b (hbj b hb9)).1; have := (HO3.out.lts b h9).2; omega))
    have hON9 : OwnL w1.heap.size (W4.setCell ⟨g, 0, none⟩ (.slice p4 (T0.length + t.length) c4)) 74 (.slice (some ⟨g, 0, none⟩) d.Pieces.length c2) bN (d.Pieces.set 0 (⟨T0 ++ t⟩ : PieceD)) := by simpa [World.setCells] using hON
    obtain ⟨bf, hog, hsub⟩ := own_ring_of hON9
    have HG := hid hog
    have HLF := hid (fun b (hb9 : b ∈ bf) => (hON9.lts b (hsub b hb9)).1)
    have HBF := hid (HB4.out.setCell (p := ⟨g, 0, none⟩) (by show w.heap.size ≤ g; omega) (.slice p4 (T0.length + t.length) c4))
    clear hON hON9 hog hsub hOj hbj hvj
    go_wp2
    refine bodyPost_ret (v := .tuple #[.agg #[.slice (some ⟨g, 0, none⟩) d.Pieces.length c2], .bool true]) (by simp [results, Try.results17, go_sem, B1o, B8o, hg1, hg8, hg1s, hg8s]) rfl ?_
    refine ⟨[.slice (some ⟨g, 0, none⟩) d.Pieces.length c2], bf, by rw [HZ.out.1], ?_, HBF.out.setCell (by simp) _⟩
    rw [HZ.out.2, HE.out]
    exact (HG.out.setCell' _ (fun b hb9 => by have := HLF.out b hb9; simp; omega)).mono (by omega)
  · subst hq2
    have HE : Hid (ringPutL d t 2 = d.Pieces.set 0 ⟨t ++ T0⟩) := hid (by rw [HE0.out, if_neg (by omega)])
    clear HE0
    go_wp2_with fail
    refine (s_l13Join (H2.out.grow HB4.out) (G0.out.grow HB4.out) (slc_nil W4) h17 h16 (by simp)).mono ?_
    rintro e W5 ⟨v5, b5, rfl, hO5, hb5⟩
    obtain ⟨p5, c5, rfl⟩ := hO5.slice
    have HO5 := hid (show OwnL W4.heap.size W5 3 _ b5 (t ++ T0) by have := hO5; rw [List.append_nil] at this; exact this)
    have HB35 := hid (HB34.out.trans (hb5.mono hz4))
    have Q0 := hid (Q0.out.below hb5 (by omega)); have Q1 := hid (Q1.out.below hb5 (by omega)); have Q8 := hid (Q8.out.below hb5 (by omega))
    have HB5 := hid (HB4.out.trans (hb5.mono HB4.out.size))
    clear hO5 hb5 cgb B0o B0f B1o B1f B8o B8f
    have B0o := Q0.out.out; have B0f := Q0.out.fr; have B1o := Q1.out.out; have B1f := Q1.out.fr; have B8o := Q8.out.out; have B8f := Q8.out.fr
    rw [show (t ++ T0 ++ ([] : List Int)).length = (t ++ T0).length by simp]
    have cg : W5.cell? ⟨g, 0, none⟩ = some (.slice a9 l9 k9) := (HB35.out.cell (p := ⟨g, 0, none⟩) hglt).trans cg3
    have hgf : ∀ o, W5.frozen? ⟨g, o, none⟩ = false := (HGF.out.keep (HB35.out.block g hglt)).frozen
    obtain ⟨bj, hbj, hOj⟩ := HO5.out.own
    obtain ⟨pj, cj, hvj⟩ := HO5.out.slice
    obtain ⟨bN, hON, _⟩ := Hset.out W5 (fun k hk9 _ => HB35.out.block k (HO3.out.lts k hk9).2) bj [_] (⟨t ++ T0⟩ : PieceD) (own_Piece (d := (⟨t ++ T0⟩ : PieceD)) (hOj.mono (by omega))) (fun b hb9 => .inl (fun h9 => by have := (HO5.out.lts b (hbj b hb9)).1; have := (HO3.out.lts b h9).2; omega))
    have hON9 : OwnL w1.heap.size (W5.setCell ⟨g, 0, none⟩ (.slice p5 (t.length + T0.length) c5)) 74 (.slice (some ⟨g, 0, none⟩) d.Pieces.length c2) bN (d.Pieces.set 0 (⟨t ++ T0⟩ : PieceD)) := by simpa [World.setCells] using hON
    obtain ⟨bf, hog, hsub⟩ := own_ring_of hON9
    have HG := hid hog
    have HLF := hid (fun b (hb9 : b ∈ bf) => (hON9.lts b (hsub b hb9)).1)
    have HBF := hid (HB5.out.setCell (p := ⟨g, 0, none⟩) (by show w.heap.size ≤ g; omega) (.slice p5 (t.length + T0.length) c5))
    clear hON hON9 hog hsub hOj hbj hvj
    go_wp2
    refine bodyPost_ret (v := .tuple #[.agg #[.slice (some ⟨g, 0, none⟩) d.Pieces.length c2], .bool true]) (by simp [results, Try.results17, go_sem, B1o, B8o, hg1, hg8, hg1s, hg8s]) rfl ?_
    refine ⟨[.slice (some ⟨g, 0, none⟩) d.Pieces.length c2], bf, by rw [HZ.out.1], ?_, HBF.out.setCell (by simp) _⟩
    rw [HZ.out.2, HE.out]
    exact (HG.out.setCell' _ (fun b hb9 => by have := HLF.out b hb9; simp; omega)).mono (by omega)
end Go.Proofs.Ytgcdgkiefbbhkaa
