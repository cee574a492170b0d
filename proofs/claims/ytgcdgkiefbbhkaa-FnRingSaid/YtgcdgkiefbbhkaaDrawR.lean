/- Draws: rings (printed by genring2.py). -/
import Derived.Test.YtgcdgkiefbbhkaaDraw
import Derived.Test.YtgcdgkiefbbhkaaRingJ
import Derived.Test.YtgcdgkiefbbhkaaRingL
set_option linter.unusedSimpArgs false
set_option linter.unusedVariables false
namespace Go.G6
open Go Go.RowKit Rep
/-- A ring that is drawn: its box, the cursor. -/
def RgSt (w W : World) (B p : Nat) (xs : List UInt8) (N2 N3 : Nat) (a : Option Addr) (l c : Nat) (us : List PieceD) : Prop :=
  Bx W N2 #[.slice none 0 0] ∧ Bx W N3 #[.slice a l c] ∧ (∃ bs, Slc W bs a l c us ∧ ∀ b ∈ bs, N3 < b) ∧ Cur B W p xs ∧ Tch [p] w W ∧ N2 < N3 ∧ N3 < W.heap.size ∧ B ≤ N2 ∧ p < B ∧ w.heap.size ≤ N2
theorem RgSt.draw {w W W' : World} {B p : Nat} {xs : List UInt8} {N2 N3 : Nat} {a : Option Addr} {l c : Nat} {us : List PieceD} (h : RgSt w W B p xs N2 N3 a l c us) (hc : Cur B W' p xs) (hT : Tch [p] W W') : RgSt w W' B p xs N2 N3 a l c us := by
  obtain ⟨h1, h2, ⟨bs, h3, h4⟩, h5, h6, h7, h8, h9, h10, h11⟩ := h
  refine ⟨Bx.tch hT (by omega) (by simp; omega) h1, Bx.tch hT h8 (by simp; omega) h2, ⟨bs, ?_, h4⟩, hc, h6.trans hT, h7, Nat.lt_of_lt_of_le h8 hT.size, h9, h10, h11⟩
  exact pt_slice.1 (pt_tch (pt_slice.2 h3) hT (fun b hb hm => by have := h4 b hb; simp at hm; omega))
theorem RgSt.drew {w W : World} {B p : Nat} {xs : List UInt8} {N2 N3 : Nat} {a : Option Addr} {l c : Nat} {us : List PieceD} (h : RgSt w W B p xs N2 N3 a l c us) : RgSt w W.drew B p xs N2 N3 a l c us :=
  h.draw (h.2.2.2.1.grow ⟨rfl, rfl, rfl, Nat.le_refl _, fun _ _ => rfl⟩) ⟨rfl, rfl, rfl, Nat.le_refl _, fun _ _ _ => rfl⟩
theorem RgSt.below {w W W' : World} {B p : Nat} {xs : List UInt8} {N2 N3 : Nat} {a : Option Addr} {l c : Nat} {us : List PieceD} (h : RgSt w W B p xs N2 N3 a l c us) (hb : Below W.heap.size W W') : RgSt w W' B p xs N2 N3 a l c us :=
  h.draw (h.2.2.2.1.grow hb) (Tch.of_below hb)
theorem RgSt.store {w W : World} {B p : Nat} {xs : List UInt8} {N2 N3 : Nat} {a a' : Option Addr} {l c l' c' : Nat} {us us' : List PieceD} {bs' : List Nat} (h : RgSt w W B p xs N2 N3 a l c us) (hs : Slc W bs' a' l' c' us') (hb : ∀ b ∈ bs', N3 < b) : RgSt w (W.setCell ⟨N3, 0, none⟩ (.slice a' l' c')) B p xs N2 N3 a' l' c' us' := by
  obtain ⟨h1, h2, _, h5, h6, h7, h8, h9, h10, h11⟩ := h
  refine ⟨h1.setOther (by simp; omega) _, h2.setSame 0 _, ⟨bs', ?_, hb⟩, ?_, h6.setNew (by simp; omega) _, h7, by simpa using h8, h9, h10, h11⟩
  · exact hs.setc (fun b hb9 => by have := hb b hb9; simp; omega) _
  · exact Cur.tchUp h5 ((Tch.refl [N3] W).setCell (by simp) _) (by simp; omega)
end Go.G6
namespace Go.Proofs.Ytgcdgkiefbbhkaa
open Go.RowKit Go.G6
set_option maxHeartbeats 1600000
set_option maxRecDepth 10000
theorem s_l15Ring {B p : Nat} {w : World} {xs : List UInt8} (hc : Cur B w p xs) :
    Calls Try.prog 64 #[.pointer (some ⟨p, 0, none⟩)] w fun e w' => ∃ (bs : List Nat) (a : Option Addr) (l c : Nat) (us : List PieceD), e = .returned (.agg #[.slice a l c]) ∧ Slc w' bs a l c us ∧ (∀ b ∈ bs, w.heap.size ≤ b) ∧ ringOk ⟨us⟩ = true ∧ Cur B w' p xs ∧ Tch [p] w w' := by
  have hp := hc.lt
  have hB := hc.le
  have HC := hid hc; clear hc
  go_enter Try.func64, Try.ntmps64
  go_upto_region 2 with fail
  refine late_genw (fun w2 hw2 => ?_)
  have R2 := hid (show RgSt w w2 B p xs w.heap.size (w.heap.size + 1) none 0 0 [] by
    rw [hw2]
    refine ⟨(Bx.new _ _ _ rfl).alloc (by simp) _, Bx.new _ _ _ (by simp), ⟨[], slc_nil _, by simp⟩, ?_, ((Tch.refl _ _).alloc _).alloc _, by omega, by simp, hB, hp, Nat.le_refl _⟩
    exact HC.out.grow (((Below.refl _ _).alloc (Nat.le_refl _) _).alloc (by simp) _))
  clear hw2 HC
  go_wp2_with fail
  refine (s_l01Below R2.out.2.2.2.1 8 (by omega) (by omega)).mono ?_
  rintro e w3 ⟨n, hn, rfl, hc1, hT⟩
  have R3 := hid (R2.out.draw hc1 hT)
  clear hc1 hT R2
  go_wp2_with fail
  go_loopw [4] (fun i wr => ∃ (k : Nat) (a : Option Addr) (l c : Nat) (us : List PieceD), i = .int .i64 (k : Int) ∧ k ≤ 8 ∧ ringOk ⟨us⟩ = true ∧ RgSt w wr B p xs w.heap.size (w.heap.size + 1) a l c us) (fun i _ => (intOf i).toNat)
  case atStart => exact ⟨n, none, 0, 0, [], rfl, by omega, rfl, R3.out⟩
  case round =>
    clear R3
    obtain ⟨k, a, l, c, us, rfl, hk8, hU, hR⟩ := hrel
    have HR := hid hR; have HU := hid hU
    clear hR hU
    have y0 := HR.out.2.1.out
    by_cases hk : k = 0
    · subst hk
      have x0 := HR.out.1.out; have x0f := HR.out.1.fr
      go_wp2
      refine bodyPost_ret (v := .agg #[.slice a l c]) (by simp [results, Try.results64, go_sem, x0, y0]) rfl ?_
      obtain ⟨h1, h2, ⟨bs, h3, h4⟩, h5, h6, h7, h8, h9, h10, h11⟩ := HR.out
      refine ⟨bs, a, l, c, us, rfl, h3.setc (fun b hb9 => by have := h4 b hb9; simp; omega) _, fun b hb9 => by have := h4 b hb9; omega, HU.out, ?_, h6.setNew (by simp) _⟩
      exact Cur.tchUp h5 ((Tch.refl [w.heap.size] wr).setCell (by simp) _) (by simp; omega)
    obtain ⟨k, rfl⟩ : ∃ j, k = j + 1 := ⟨k - 1, by omega⟩
    have hk0 : (0 : Int) < ((k + 1 : Nat) : Int) := by omega
    go_wp2_with fail
    refine late_start (fun _ => True) 99 (by kernel_rfl) ?_ (fun hS => ?_)
    · trivial
    refine late_genw (fun wA hwA => ?_)
    have RA := hid (show RgSt w wA B p xs w.heap.size (w.heap.size + 1) a l c us by rw [hwA]; exact HR.out.drew)
    clear hwA HR y0
    refine late_take (i := 1) (v := ?_) rfl (by kernel_rfl) (fun _ _ _ h => h) (by rfl) ?_ (by assumption) ?_
    rotate_left
    · (intro w9 hS9; (try dsimp only at hS9); (try go_split_ands); go_simp <;> with_reducible rfl)
    try simp only [Act.put, List.setIfInBounds_toArray, List.set_cons_zero, List.set_cons_succ]
    refine late_take (i := 3) (v := ?_) rfl (by kernel_rfl) (fun _ _ _ h => h) (by rfl) ?_ (by assumption) ?_
    rotate_left
    · (intro w9 hS9; (try dsimp only at hS9); (try go_split_ands); go_simp <;> with_reducible rfl)
    try simp only [Act.put, List.setIfInBounds_toArray, List.set_cons_zero, List.set_cons_succ]
    refine late_two (i := 0) (j := 2) rfl rfl (by kernel_rfl) (fun K9 hK9 => ?_) (fun K9 hK9 => ?_)
    · skip
      have y0 := RA.out.2.1.out
      go_simp
      refine hK9.out _ _ (fun _ => ?_) (fun hS9 => ?_)
      · (try dsimp only); (try trivial)
      replace hS := hS9 (by decide)
      clear hK9 K9 hS9
      try simp only [Act.put, List.setIfInBounds_toArray, List.set_cons_zero, List.set_cons_succ]
      clear y0
      refine late_one (i := 2) rfl (by kernel_rfl) (fun K9 hK9 => ?_)
      go_simp
      refine (s_l13Runes RA.out.2.2.2.1 5 (by omega)).mono ?_
      rintro e wB ⟨v, b1, ts, rfl, hO, hty, hl, hc2, hT⟩
      obtain ⟨pa, pc, bx, rfl, hbx, hSy⟩ := hO.slc
      have RB := hid (RA.out.draw hc2 hT)
      have TS := hid hSy
      have TB := hid (fun b (hb : b ∈ bx) => (hO.lts b (hbx b hb)).1)
      have HPT : Hid (pieceTyped ts = true) := hid (by simp only [pieceTyped, Bool.and_eq_true, decide_eq_true_eq]; exact ⟨by omega, List.all_eq_true.2 hty⟩)
      have hpa : p < wA.heap.size := by have := RA.out.2.2.2.2.2.2.1; have := RA.out.2.2.2.2.2.2.2.1; omega
      clear hO hty hc2 hT hbx hSy
      go_wp2_with fail
      refine hK9.out _ _ (fun _ => ?_) (fun hS9 => ?_)
      · (try dsimp only); (try trivial)
      replace hS := hS9 (by decide)
      clear hK9 K9 hS9
      try simp only [Act.put, List.setIfInBounds_toArray, List.set_cons_zero, List.set_cons_succ]
      refine late_one (i := 4) rfl (by kernel_rfl) (fun K9 hK9 => ?_)
      go_simp
      refine (s_l01Below RB.out.2.2.2.1 3 (by omega) (by omega)).mono ?_
      rintro e wC ⟨q, hq, rfl, hc5, hT5⟩
      have RC := hid (RB.out.draw hc5 hT5)
      have TC := hid (pt_slice.1 (pt_tch (pt_slice.2 TS.out) hT5 (fun b hb hm => by have := TB.out b hb; simp at hm; omega)))
      clear hc5 hT5
      go_wp2_with fail
      refine hK9.out _ _ (fun _ => ?_) (fun hS9 => ?_)
      · (try dsimp only); (try trivial)
      replace hS := hS9 (by decide)
      clear hK9 K9 hS9
      try simp only [Act.put, List.setIfInBounds_toArray, List.set_cons_zero, List.set_cons_succ]
      have hadd := ringPut_ok (d := ⟨us⟩) HU.out HPT.out (how := (q : Int)) (by omega)
      have HA := hid hadd
      clear hadd
      refine late_one (i := 5) rfl (by kernel_rfl) (fun K9 hK9 => ?_)
      go_simp
      obtain ⟨bq, hq1, hq2⟩ := RC.out.2.2.1
      obtain rfl := hq1.len_eq
      refine (s_RingPut (mk_Ring (d := ⟨us⟩) hq1) TC.out (q : Int) (by unfold I64; omega)).mono ?_
      rintro e wD ⟨cs6, b6, rfl, hO, hb⟩
      rw [HA.out.1]
      obtain ⟨a6, l6, k6, rfl, s6⟩ := open_Ring hO.1
      have hsc : w.heap.size + 1 < wC.heap.size := RC.out.2.2.2.2.2.2.1
      have RD := hid ((RC.out.below hb).store s6 (fun b hb9 => by have := (hO.2.2 b hb9).1; omega))
      have y6 := (RC.out.below hb).2.1.out; have y6f := (RC.out.below hb).2.1.fr
      clear hO hb s6 hq1 hq2
      go_wp2_with fail
      refine hK9.out _ _ (fun _ => ?_) (fun hS9 => ?_)
      · (try dsimp only); (try trivial)
      replace hS := hS9 (by decide)
      clear hK9 K9 hS9
      try simp only [Act.put, List.setIfInBounds_toArray, List.set_cons_zero, List.set_cons_succ]
      refine late_take (i := 6) (v := ?_) rfl (by kernel_rfl) (fun _ _ _ h => h) (by rfl) ?_ (by assumption) ?_
      rotate_left
      · (intro w9 hS9; (try dsimp only at hS9); (try go_split_ands); go_simp <;> with_reducible rfl)
      try simp only [Act.put, List.setIfInBounds_toArray, List.set_cons_zero, List.set_cons_succ]
      refine late_take (i := 7) (v := ?_) rfl (by kernel_rfl) (fun _ _ _ h => h) (by rfl) ?_ (by assumption) ?_
      rotate_left
      · (intro w9 hS9; (try dsimp only at hS9); (try go_split_ands); go_simp <;> with_reducible rfl)
      try simp only [Act.put, List.setIfInBounds_toArray, List.set_cons_zero, List.set_cons_succ]
      refine late_take (i := 8) (v := ?_) rfl (by kernel_rfl) (fun _ _ _ h => h) (by rfl) ?_ (by assumption) ?_
      rotate_left
      · (intro w9 hS9; (try dsimp only at hS9); (try go_split_ands); go_simp <;> with_reducible rfl)
      try simp only [Act.put, List.setIfInBounds_toArray, List.set_cons_zero, List.set_cons_succ]
      refine late_one (i := 9) rfl (by kernel_rfl) (fun K9 hK9 => ?_)
      go_simp
      refine hK9.out _ _ (fun _ => ?_) (fun hS9 => ?_)
      · (try dsimp only); (try trivial)
      replace hS := hS9 (by decide)
      clear hK9 K9 hS9
      try simp only [Act.put, List.setIfInBounds_toArray, List.set_cons_zero, List.set_cons_succ]
      refine late_done (by kernel_rfl) ?_ _
      clear y6 y6f
      go_wp2
      exact ⟨⟨k, a6, l6, k6, _, rfl, by omega, HA.out.2.2, RD.out⟩, by simp [intOf]⟩
    · skip
      go_simp
      refine (s_l13Runes RA.out.2.2.2.1 5 (by omega)).mono ?_
      rintro e wB ⟨v, b1, ts, rfl, hO, hty, hl, hc2, hT⟩
      obtain ⟨pa, pc, bx, rfl, hbx, hSy⟩ := hO.slc
      have RB := hid (RA.out.draw hc2 hT)
      have TS := hid hSy
      have TB := hid (fun b (hb : b ∈ bx) => (hO.lts b (hbx b hb)).1)
      have HPT : Hid (pieceTyped ts = true) := hid (by simp only [pieceTyped, Bool.and_eq_true, decide_eq_true_eq]; exact ⟨by omega, List.all_eq_true.2 hty⟩)
      have hpa : p < wA.heap.size := by have := RA.out.2.2.2.2.2.2.1; have := RA.out.2.2.2.2.2.2.2.1; omega
      clear hO hty hc2 hT hbx hSy
      go_wp2_with fail
      refine hK9.out _ _ (fun _ => ?_) (fun hS9 => ?_)
      · (try dsimp only); (try trivial)
      replace hS := hS9 (by decide)
      clear hK9 K9 hS9
      try simp only [Act.put, List.setIfInBounds_toArray, List.set_cons_zero, List.set_cons_succ]
      refine late_two (i := 0) (j := 4) rfl rfl (by kernel_rfl) (fun K9 hK9 => ?_) (fun K9 hK9 => ?_)
      · skip
        have y0 := RB.out.2.1.out
        go_simp
        refine hK9.out _ _ (fun _ => ?_) (fun hS9 => ?_)
        · (try dsimp only); (try trivial)
        replace hS := hS9 (by decide)
        clear hK9 K9 hS9
        try simp only [Act.put, List.setIfInBounds_toArray, List.set_cons_zero, List.set_cons_succ]
        clear y0
        refine late_one (i := 4) rfl (by kernel_rfl) (fun K9 hK9 => ?_)
        go_simp
        refine (s_l01Below RB.out.2.2.2.1 3 (by omega) (by omega)).mono ?_
        rintro e wC ⟨q, hq, rfl, hc5, hT5⟩
        have RC := hid (RB.out.draw hc5 hT5)
        have TC := hid (pt_slice.1 (pt_tch (pt_slice.2 TS.out) hT5 (fun b hb hm => by have := TB.out b hb; simp at hm; omega)))
        clear hc5 hT5
        go_wp2_with fail
        refine hK9.out _ _ (fun _ => ?_) (fun hS9 => ?_)
        · (try dsimp only); (try trivial)
        replace hS := hS9 (by decide)
        clear hK9 K9 hS9
        try simp only [Act.put, List.setIfInBounds_toArray, List.set_cons_zero, List.set_cons_succ]
        have hadd := ringPut_ok (d := ⟨us⟩) HU.out HPT.out (how := (q : Int)) (by omega)
        have HA := hid hadd
        clear hadd
        refine late_one (i := 5) rfl (by kernel_rfl) (fun K9 hK9 => ?_)
        go_simp
        obtain ⟨bq, hq1, hq2⟩ := RC.out.2.2.1
        obtain rfl := hq1.len_eq
        refine (s_RingPut (mk_Ring (d := ⟨us⟩) hq1) TC.out (q : Int) (by unfold I64; omega)).mono ?_
        rintro e wD ⟨cs6, b6, rfl, hO, hb⟩
        rw [HA.out.1]
        obtain ⟨a6, l6, k6, rfl, s6⟩ := open_Ring hO.1
        have hsc : w.heap.size + 1 < wC.heap.size := RC.out.2.2.2.2.2.2.1
        have RD := hid ((RC.out.below hb).store s6 (fun b hb9 => by have := (hO.2.2 b hb9).1; omega))
        have y6 := (RC.out.below hb).2.1.out; have y6f := (RC.out.below hb).2.1.fr
        clear hO hb s6 hq1 hq2
        go_wp2_with fail
        refine hK9.out _ _ (fun _ => ?_) (fun hS9 => ?_)
        · (try dsimp only); (try trivial)
        replace hS := hS9 (by decide)
        clear hK9 K9 hS9
        try simp only [Act.put, List.setIfInBounds_toArray, List.set_cons_zero, List.set_cons_succ]
        refine late_take (i := 6) (v := ?_) rfl (by kernel_rfl) (fun _ _ _ h => h) (by rfl) ?_ (by assumption) ?_
        rotate_left
        · (intro w9 hS9; (try dsimp only at hS9); (try go_split_ands); go_simp <;> with_reducible rfl)
        try simp only [Act.put, List.setIfInBounds_toArray, List.set_cons_zero, List.set_cons_succ]
        refine late_take (i := 7) (v := ?_) rfl (by kernel_rfl) (fun _ _ _ h => h) (by rfl) ?_ (by assumption) ?_
        rotate_left
        · (intro w9 hS9; (try dsimp only at hS9); (try go_split_ands); go_simp <;> with_reducible rfl)
        try simp only [Act.put, List.setIfInBounds_toArray, List.set_cons_zero, List.set_cons_succ]
        refine late_take (i := 8) (v := ?_) rfl (by kernel_rfl) (fun _ _ _ h => h) (by rfl) ?_ (by assumption) ?_
        rotate_left
        · (intro w9 hS9; (try dsimp only at hS9); (try go_split_ands); go_simp <;> with_reducible rfl)
        try simp only [Act.put, List.setIfInBounds_toArray, List.set_cons_zero, List.set_cons_succ]
        refine late_one (i := 9) rfl (by kernel_rfl) (fun K9 hK9 => ?_)
        go_simp
        refine hK9.out _ _ (fun _ => ?_) (fun hS9 => ?_)
        · (try dsimp only); (try trivial)
        replace hS := hS9 (by decide)
        clear hK9 K9 hS9
        try simp only [Act.put, List.setIfInBounds_toArray, List.set_cons_zero, List.set_cons_succ]
        refine late_done (by kernel_rfl) ?_ _
        clear y6 y6f
        go_wp2
        exact ⟨⟨k, a6, l6, k6, _, rfl, by omega, HA.out.2.2, RD.out⟩, by simp [intOf]⟩
      · skip
        go_simp
        refine (s_l01Below RB.out.2.2.2.1 3 (by omega) (by omega)).mono ?_
        rintro e wC ⟨q, hq, rfl, hc5, hT5⟩
        have RC := hid (RB.out.draw hc5 hT5)
        have TC := hid (pt_slice.1 (pt_tch (pt_slice.2 TS.out) hT5 (fun b hb hm => by have := TB.out b hb; simp at hm; omega)))
        clear hc5 hT5
        go_wp2_with fail
        refine hK9.out _ _ (fun _ => ?_) (fun hS9 => ?_)
        · (try dsimp only); (try trivial)
        replace hS := hS9 (by decide)
        clear hK9 K9 hS9
        try simp only [Act.put, List.setIfInBounds_toArray, List.set_cons_zero, List.set_cons_succ]
        refine late_one (i := 0) rfl (by kernel_rfl) (fun K9 hK9 => ?_)
        have y0 := RC.out.2.1.out
        go_simp
        refine hK9.out _ _ (fun _ => ?_) (fun hS9 => ?_)
        · (try dsimp only); (try trivial)
        replace hS := hS9 (by decide)
        clear hK9 K9 hS9
        try simp only [Act.put, List.setIfInBounds_toArray, List.set_cons_zero, List.set_cons_succ]
        clear y0
        have hadd := ringPut_ok (d := ⟨us⟩) HU.out HPT.out (how := (q : Int)) (by omega)
        have HA := hid hadd
        clear hadd
        refine late_one (i := 5) rfl (by kernel_rfl) (fun K9 hK9 => ?_)
        go_simp
        obtain ⟨bq, hq1, hq2⟩ := RC.out.2.2.1
        obtain rfl := hq1.len_eq
        refine (s_RingPut (mk_Ring (d := ⟨us⟩) hq1) TC.out (q : Int) (by unfold I64; omega)).mono ?_
        rintro e wD ⟨cs6, b6, rfl, hO, hb⟩
        rw [HA.out.1]
        obtain ⟨a6, l6, k6, rfl, s6⟩ := open_Ring hO.1
        have hsc : w.heap.size + 1 < wC.heap.size := RC.out.2.2.2.2.2.2.1
        have RD := hid ((RC.out.below hb).store s6 (fun b hb9 => by have := (hO.2.2 b hb9).1; omega))
        have y6 := (RC.out.below hb).2.1.out; have y6f := (RC.out.below hb).2.1.fr
        clear hO hb s6 hq1 hq2
        go_wp2_with fail
        refine hK9.out _ _ (fun _ => ?_) (fun hS9 => ?_)
        · (try dsimp only); (try trivial)
        replace hS := hS9 (by decide)
        clear hK9 K9 hS9
        try simp only [Act.put, List.setIfInBounds_toArray, List.set_cons_zero, List.set_cons_succ]
        refine late_take (i := 6) (v := ?_) rfl (by kernel_rfl) (fun _ _ _ h => h) (by rfl) ?_ (by assumption) ?_
        rotate_left
        · (intro w9 hS9; (try dsimp only at hS9); (try go_split_ands); go_simp <;> with_reducible rfl)
        try simp only [Act.put, List.setIfInBounds_toArray, List.set_cons_zero, List.set_cons_succ]
        refine late_take (i := 7) (v := ?_) rfl (by kernel_rfl) (fun _ _ _ h => h) (by rfl) ?_ (by assumption) ?_
        rotate_left
        · (intro w9 hS9; (try dsimp only at hS9); (try go_split_ands); go_simp <;> with_reducible rfl)
        try simp only [Act.put, List.setIfInBounds_toArray, List.set_cons_zero, List.set_cons_succ]
        refine late_take (i := 8) (v := ?_) rfl (by kernel_rfl) (fun _ _ _ h => h) (by rfl) ?_ (by assumption) ?_
        rotate_left
        · (intro w9 hS9; (try dsimp only at hS9); (try go_split_ands); go_simp <;> with_reducible rfl)
        try simp only [Act.put, List.setIfInBounds_toArray, List.set_cons_zero, List.set_cons_succ]
        refine late_one (i := 9) rfl (by kernel_rfl) (fun K9 hK9 => ?_)
        go_simp
        refine hK9.out _ _ (fun _ => ?_) (fun hS9 => ?_)
        · (try dsimp only); (try trivial)
        replace hS := hS9 (by decide)
        clear hK9 K9 hS9
        try simp only [Act.put, List.setIfInBounds_toArray, List.set_cons_zero, List.set_cons_succ]
        refine late_done (by kernel_rfl) ?_ _
        clear y6 y6f
        go_wp2
        exact ⟨⟨k, a6, l6, k6, _, rfl, by omega, HA.out.2.2, RD.out⟩, by simp [intOf]⟩
theorem s_MakeRing {w : World} {bs : List Nat} {a : Option Addr} {len cap : Nat} {xs : List UInt8} (h : Slc w bs a len cap xs) :
    Calls Try.prog 26 #[.slice a len cap] w fun e w' => ∃ (b1 : List Nat) (a1 : Option Addr) (l1 k1 : Nat) (us : List PieceD) (b2 : List Nat) (a2 : Option Addr) (k2 : Nat) (ts : List Int), e = .returned (.tuple #[.agg #[.slice a1 l1 k1], .slice a2 ts.length k2]) ∧ Slc w' b1 a1 l1 k1 us ∧ ringOk ⟨us⟩ = true ∧ Slc w' b2 a2 ts.length k2 ts ∧ pieceTyped ts = true ∧ ts ≠ [] ∧ ts.length ≤ 6 ∧ Below w.heap.size w w' := by
  have HS := hid h; clear h
  obtain ⟨j0, hj, hy0, hy1, hy2⟩ := info_parts info_int
  go_enter Try.func26, Try.ntmps26
  go_wp2_with fail
  refine (s_l01New (HS.out.grow ((Below.refl _ _).alloc (Nat.le_refl _) _))).mono ?_
  rintro e w1 ⟨p, hp0, rfl, hc1, hb⟩
  have hp1 : w.heap.size + 1 ≤ p := by simpa using hp0
  have HB := hid (below_call ((Below.refl _ _).alloc (Nat.le_refl _) _) hb)
  have X := hid (Bx.below (b := w.heap.size) hb (by simp) (Bx.new w #[.slice none 0 0] 58 rfl))
  have HC1 := hid hc1
  have hpw := hc1.lt
  clear hb hc1 HS hp0
  obtain ⟨B, hB⟩ : ∃ B, B = w1.heap.size := ⟨_, rfl⟩
  rw [← hB] at HC1
  have hBp : p < B := HC1.out.lt
  go_wp2_with fail
  refine (s_l15Ring HC1.out).mono ?_
  rintro e w2 ⟨bs1, a1, l1, k1, us, rfl, hS1, hbs1, hU, hc2, hT⟩
  have hs2 := hT.size
  have X2 := hid (Bx.tch (b := w.heap.size) hT (by omega) (by simp; omega) X.out)
  have HB2 := hid (HB.out.trans (hT.below HB.out.size (by simp; omega)))
  have S2 := hid hS1; have BS := hid hbs1; have HU := hid hU; have C2 := hid hc2
  clear hS1 hbs1 hU hc2 hT X HB HC1
  go_upto_region 3 with fail
  refine late_genw (fun w3 hw3 => ?_)
  have hbb : Below w2.heap.size w2 w3 := by rw [hw3]; exact (Below.refl _ _).alloc (Nat.le_refl _) _
  have y3 : w3.cell? ⟨w2.heap.size, 0, none⟩ = some (.slice a1 l1 k1) := by rw [hw3]; exact World.cell?_alloc_new _ _ _ 0
  have X3 := hid (Bx.below hbb X2.out.f.lt X2.out)
  have HB3 := hid (HB2.out.trans (hbb.mono HB2.out.size))
  have S3 := hid (S2.out.grow hbb)
  have C3 := hid (C2.out.grow hbb)
  have hs3 : w2.heap.size < w3.heap.size := by rw [hw3]; simp
  clear hw3 hbb X2 HB2 S2 C2
  go_wp2_with fail
  refine late_start (fun W => W.cell? ⟨w2.heap.size, 0, none⟩ = some (.slice a1 l1 k1)) 99 (by kernel_rfl) ?_ (fun hS => ?_)
  · exact y3
  refine late_genw (fun wA hwA => ?_)
  rw [← hwA] at hS
  have y4 : wA.cell? ⟨w2.heap.size, 0, none⟩ = some (.slice a1 l1 k1) := hS
  have hzA : w2.heap.size < wA.heap.size := World.block_lt_of_cell? _ _ y4
  have XA := hid (show Bx wA w.heap.size #[.slice none 0 0] by rw [hwA]; exact X3.out.drew)
  have HBA := hid (show Below w.heap.size w wA by rw [hwA]; exact HB3.out.drew)
  have SA := hid (show Slc wA bs1 a1 l1 k1 us by rw [hwA]; exact S3.out.keepL (fun _ _ => rfl))
  have CA := hid (show Cur B wA p xs by rw [hwA]; exact C3.out.grow ⟨rfl, rfl, rfl, Nat.le_refl _, fun _ _ => rfl⟩)
  clear hwA X3 HB3 S3 C3 y3
  refine late_take (i := 0) (v := ?_) rfl (by kernel_rfl) (fun _ _ _ h => h) (by rfl) ?_ (by assumption) ?_
  rotate_left
  · (intro w9 hS9; (try dsimp only at hS9); (try go_split_ands); go_simp <;> with_reducible rfl)
  try simp only [Act.put, List.setIfInBounds_toArray, List.set_cons_zero, List.set_cons_succ]
  refine late_take (i := 1) (v := ?_) rfl (by kernel_rfl) (fun _ _ _ h => h) (by rfl) ?_ (by assumption) ?_
  rotate_left
  · (intro w9 hS9; (try dsimp only at hS9); (try go_split_ands); go_simp <;> with_reducible rfl)
  try simp only [Act.put, List.setIfInBounds_toArray, List.set_cons_zero, List.set_cons_succ]
  refine late_two (i := 2) (j := 3) rfl rfl (by kernel_rfl) (fun K9 hK9 => ?_) (fun K9 hK9 => ?_)
  · go_simp
    refine (s_l13Runes CA.out 5 (by omega)).mono ?_
    rintro e wB ⟨v, b1, ts, rfl, hO, hty, hl, hc2, hT⟩
    obtain ⟨pa, pc, rfl⟩ := hO.slice
    have O := hid hO; have HTY := hid hty; have hzB := hT.size
    have XB := hid (Bx.tch (b := w.heap.size) hT (by omega) (by simp; omega) XA.out)
    have HBB := hid (HBA.out.trans (hT.below HBA.out.size (by simp; omega)))
    have SB := hid (pt_slice.1 (pt_tch (pt_slice.2 SA.out) hT (fun b hb9 hm => by have := BS.out b hb9; simp at hm; omega)))
    have SLT := hid (fun b (hb9 : b ∈ bs1) => SA.out.lts b hb9)
    have yB := cellc hT y4 (by simp; omega)
    clear hO hty hc2 hT CA XA HBA SA
    go_wp2_with fail
    refine hK9.out _ _ (fun _ => ?_) (fun hS9 => ?_)
    · (try dsimp only); exact yB
    replace hS := hS9 (by decide)
    clear hK9 K9 hS9
    try simp only [Act.put, List.setIfInBounds_toArray, List.set_cons_zero, List.set_cons_succ]
    refine late_one (i := 3) rfl (by kernel_rfl) (fun K9 hK9 => ?_)
    go_simp
    refine hK9.out _ _ (fun _ => ?_) (fun hS9 => ?_)
    · (try dsimp only); exact (World.cell?_alloc_lt _ _ ⟨w2.heap.size, 0, none⟩ (World.block_lt_of_cell? _ _ hS)).trans hS
    replace hS := hS9 (by decide)
    clear hK9 K9 hS9
    try simp only [Act.put, List.setIfInBounds_toArray, List.set_cons_zero, List.set_cons_succ]
    refine late_one (i := 4) rfl (by kernel_rfl) (fun K9 hK9 => ?_)
    refine step_append rfl _ _ 54 rfl 3 j0 (.int .i64 0) 8 Try.underlying54 hj hy0 hy1 hy2 rfl (lo := wA.heap.size) (bs := b1) (xs := ts) rfl ?own (b2 := []) (ys := [122]) rfl ?src List.nodup_nil ?f2 ?q2 ?q3 ?q4 ?_
    case own => exact O.out.alloc _
    case src => exact src_new (b2 := []) (cs := [.int .i64 122]) (y := (122 : Int)) (show Rep.pt wB [] [.int .i64 122] (122 : Int) from ⟨rfl, rfl, by unfold I64; omega⟩) rfl _ _
    case f2 => simp
    case q2 => simp; omega
    case q3 => simp; omega
    case q4 => simp; omega
    intro p4 c4 wD b4 hO4 hT4 hm4
    simp only [List.length_cons, List.length_nil, Nat.zero_add] at hO4 ⊢
    have hzD := hT4.size
    have LB := hid (fun b (hb9 : b ∈ b1) => (O.out.lts b hb9).1)
    have yD := cellc hT4 hS (fun hm => by have := LB.out _ hm; (try simp at this); omega)
    refine hK9.out _ _ (fun _ => ?_) (fun hS9 => ?_)
    · (try dsimp only); exact yD
    replace hS := hS9 (by decide)
    clear hK9 K9 hS9
    try simp only [Act.put, List.setIfInBounds_toArray, List.set_cons_zero, List.set_cons_succ]
    refine late_one (i := 5) rfl (by kernel_rfl) (fun K9 hK9 => ?_)
    have XD := Bx.tch (b := w.heap.size) hT4 (by simp; omega) (fun hm => by have := LB.out _ hm; (try simp at this); omega) (XB.out.alloc (by omega) _)
    have xo := XD.out; have xf := XD.fr
    have HBD := hid ((HBB.out.alloc HBB.out.size _).trans (hT4.below (HBB.out.alloc HBB.out.size _).size (fun b hb9 => by have := LB.out b hb9; (try simp at this); omega)))
    have SD := hid (pt_slice.1 (pt_tch (pt_slice.2 (SB.out.grow ((Below.refl _ _).alloc (Nat.le_refl _) _))) hT4 (fun b hb9 hm => by have := LB.out b hm; have := (SLT.out b hb9).2; omega)))
    have HO4 := hid hO4
    have L4 := hid (fun b (hb9 : b ∈ b4) => show b ≠ w.heap.size from by have := (hO4.lts b hb9).1; (try simp at this); omega)
    clear hO4 hT4 hm4 XD
    go_simp
    refine hK9.out _ _ (fun _ => ?_) (fun hS9 => ?_)
    · (try dsimp only); exact (World.cell?_setCell_far _ _ _ _ (by simp; omega)).trans yD
    replace hS := hS9 (by decide)
    clear hK9 K9 hS9
    try simp only [Act.put, List.setIfInBounds_toArray, List.set_cons_zero, List.set_cons_succ]
    refine late_one (i := 6) rfl (by kernel_rfl) (fun K9 hK9 => ?_)
    go_simp
    refine hK9.out _ _ (fun _ => ?_) (fun hS9 => ?_)
    · (try dsimp only); exact hS
    replace hS := hS9 (by decide)
    clear hK9 K9 hS9
    try simp only [Act.put, List.setIfInBounds_toArray, List.set_cons_zero, List.set_cons_succ]
    refine late_done (by kernel_rfl) ?_ _
    clear hS yD
    go_wp2
    refine bodyPost_ret (v := .tuple #[.agg #[.slice a1 l1 k1], .slice p4 (ts.length + 1) c4]) (by simp [results, Try.results26, go_sem, xo]) rfl ?_
    obtain ⟨bz, hz1, hz2⟩ := HO4.out.own
    have hzs := pt_slice.1 hz2.1
    refine ⟨bs1, a1, l1, k1, us, bz, p4, c4, ts ++ [122], by simp, SD.out.setc (fun b hb9 => by have := BS.out b hb9; simp; omega) _, HU.out, ?_, ?_, by simp, by simp; omega, HBD.out.setCell (by simp) _⟩
    · rw [List.length_append]; exact Slc.setc (by simpa using hzs) (fun b hb9 => L4.out b (hz1 b hb9)) _
    · simp only [pieceTyped, Bool.and_eq_true, decide_eq_true_eq]
      refine ⟨by simp; omega, List.all_eq_true.2 fun y hy => ?_⟩
      rcases List.mem_append.1 hy with h9 | h9
      · exact HTY.out y h9
      · simp at h9; subst h9; rfl
  · go_simp
    refine hK9.out _ _ (fun _ => ?_) (fun hS9 => ?_)
    · (try dsimp only); exact (World.cell?_alloc_lt _ _ ⟨w2.heap.size, 0, none⟩ (World.block_lt_of_cell? _ _ hS)).trans hS
    replace hS := hS9 (by decide)
    clear hK9 K9 hS9
    try simp only [Act.put, List.setIfInBounds_toArray, List.set_cons_zero, List.set_cons_succ]
    refine late_genw (fun wB hwB => ?_)
    rw [← hwB] at hS
    have hbb : Below wA.heap.size wA wB := by rw [hwB]; exact (Below.refl _ _).alloc (Nat.le_refl _) _
    have hn9 : wB.cell? ⟨wA.heap.size, 0, none⟩ = some (Scal.val (122 : Int)) := by rw [hwB]; exact World.cell?_alloc_new _ _ _ 0
    have hzB : wA.heap.size < wB.heap.size := by rw [hwB]; simp
    have XB := hid (Bx.below hbb XA.out.f.lt XA.out)
    have HBB := hid (HBA.out.trans (hbb.mono HBA.out.size))
    have SB := hid (SA.out.grow hbb)
    have CB := hid (CA.out.grow hbb)
    have yB : wB.cell? ⟨w2.heap.size, 0, none⟩ = some (.slice a1 l1 k1) := hS
    have SLT := hid (fun b (hb9 : b ∈ bs1) => SA.out.lts b hb9)
    clear hwB hbb XA HBA SA CA
    refine late_one (i := 2) rfl (by kernel_rfl) (fun K9 hK9 => ?_)
    go_simp
    refine (s_l13Runes CB.out 5 (by omega)).mono ?_
    rintro e wC ⟨v, b1, ts, rfl, hO, hty, hl, hc2, hT⟩
    obtain ⟨pa, pc, rfl⟩ := hO.slice
    have O := hid hO; have HTY := hid hty; have hzC := hT.size
    have XC := hid (Bx.tch (b := w.heap.size) hT (by omega) (by simp; omega) XB.out)
    have HBC := hid (HBB.out.trans (hT.below HBB.out.size (by simp; omega)))
    have SC := hid (pt_slice.1 (pt_tch (pt_slice.2 SB.out) hT (fun b hb9 hm => by have := BS.out b hb9; simp at hm; omega)))
    have yC := cellc hT yB (by simp; omega)
    have nC := cellc hT hn9 (by simp; omega)
    have NC := hid nC
    clear hO hty hc2 hT CB XB HBB SB hn9 nC
    go_wp2_with fail
    refine hK9.out _ _ (fun _ => ?_) (fun hS9 => ?_)
    · (try dsimp only); exact yC
    replace hS := hS9 (by decide)
    clear hK9 K9 hS9
    try simp only [Act.put, List.setIfInBounds_toArray, List.set_cons_zero, List.set_cons_succ]
    refine late_one (i := 4) rfl (by kernel_rfl) (fun K9 hK9 => ?_)
    refine step_append rfl _ _ 54 rfl 3 j0 (.int .i64 0) 8 Try.underlying54 hj hy0 hy1 hy2 rfl (lo := wB.heap.size) (bs := b1) (xs := ts) rfl ?own (b2 := []) (ys := [122]) rfl ?src List.nodup_nil ?f2 ?q2 ?q3 ?q4 ?_
    case own => exact O.out
    case src => exact src_cell NC.out (by show I64 122; unfold I64; omega)
    case f2 => simp
    case q2 => simp; omega
    case q3 => simp; omega
    case q4 => omega
    intro p4 c4 wD b4 hO4 hT4 hm4
    simp only [List.length_cons, List.length_nil, Nat.zero_add] at hO4 ⊢
    have hzD := hT4.size
    have LB := hid (fun b (hb9 : b ∈ b1) => (O.out.lts b hb9).1)
    have yD := cellc hT4 hS (fun hm => by have := LB.out _ hm; (try simp at this); omega)
    refine hK9.out _ _ (fun _ => ?_) (fun hS9 => ?_)
    · (try dsimp only); exact yD
    replace hS := hS9 (by decide)
    clear hK9 K9 hS9
    try simp only [Act.put, List.setIfInBounds_toArray, List.set_cons_zero, List.set_cons_succ]
    refine late_one (i := 5) rfl (by kernel_rfl) (fun K9 hK9 => ?_)
    have XD := Bx.tch (b := w.heap.size) hT4 (by omega) (fun hm => by have := LB.out _ hm; (try simp at this); omega) (XC.out)
    have xo := XD.out; have xf := XD.fr
    have HBD := hid (HBC.out.trans (hT4.below HBC.out.size (fun b hb9 => by have := LB.out b hb9; (try simp at this); omega)))
    have SD := hid (pt_slice.1 (pt_tch (pt_slice.2 (SC.out)) hT4 (fun b hb9 hm => by have := LB.out b hm; have := (SLT.out b hb9).2; omega)))
    have HO4 := hid hO4
    have L4 := hid (fun b (hb9 : b ∈ b4) => show b ≠ w.heap.size from by have := (hO4.lts b hb9).1; (try simp at this); omega)
    clear hO4 hT4 hm4 XD
    go_simp
    refine hK9.out _ _ (fun _ => ?_) (fun hS9 => ?_)
    · (try dsimp only); exact (World.cell?_setCell_far _ _ _ _ (by simp; omega)).trans yD
    replace hS := hS9 (by decide)
    clear hK9 K9 hS9
    try simp only [Act.put, List.setIfInBounds_toArray, List.set_cons_zero, List.set_cons_succ]
    refine late_one (i := 6) rfl (by kernel_rfl) (fun K9 hK9 => ?_)
    go_simp
    refine hK9.out _ _ (fun _ => ?_) (fun hS9 => ?_)
    · (try dsimp only); exact hS
    replace hS := hS9 (by decide)
    clear hK9 K9 hS9
    try simp only [Act.put, List.setIfInBounds_toArray, List.set_cons_zero, List.set_cons_succ]
    refine late_done (by kernel_rfl) ?_ _
    clear hS yD
    go_wp2
    refine bodyPost_ret (v := .tuple #[.agg #[.slice a1 l1 k1], .slice p4 (ts.length + 1) c4]) (by simp [results, Try.results26, go_sem, xo]) rfl ?_
    obtain ⟨bz, hz1, hz2⟩ := HO4.out.own
    have hzs := pt_slice.1 hz2.1
    refine ⟨bs1, a1, l1, k1, us, bz, p4, c4, ts ++ [122], by simp, SD.out.setc (fun b hb9 => by have := BS.out b hb9; simp; omega) _, HU.out, ?_, ?_, by simp, by simp; omega, HBD.out.setCell (by simp) _⟩
    · rw [List.length_append]; exact Slc.setc (by simpa using hzs) (fun b hb9 => L4.out b (hz1 b hb9)) _
    · simp only [pieceTyped, Bool.and_eq_true, decide_eq_true_eq]
      refine ⟨by simp; omega, List.all_eq_true.2 fun y hy => ?_⟩
      rcases List.mem_append.1 hy with h9 | h9
      · exact HTY.out y h9
      · simp at h9; subst h9; rfl
end Go.Proofs.Ytgcdgkiefbbhkaa
