/- FnRing: what is put into a ring is on top; turned round it is as it was. -/
import Derived.Test.YtgcdgkiefbbhkaaDrawR
import Derived.Test.YtgcdgkiefbbhkaaRingI
import Derived.Test.YtgcdgkiefbbhkaaRingT
import Derived.Test.YtgcdgkiefbbhkaaSameI
set_option linter.unusedSimpArgs false
set_option linter.unusedVariables false
namespace Go.Proofs.Ytgcdgkiefbbhkaa
open Go.RowKit Go.G6
set_option maxHeartbeats 8000000
set_option maxRecDepth 10000
theorem lawFnRing {w : World} {bs_0 : List Nat} {a0_0 : Option Addr} {l0_0 k0_0 : Nat} {d_0 : List UInt8} (g_0 : Slc w bs_0 a0_0 l0_0 k0_0 d_0) :
    Calls Try.prog 6 #[.slice a0_0 l0_0 k0_0] w fun e w' => e = .returned (.bool true) ∧ Below w.heap.size w w' := by
  obtain rfl := g_0.len_eq
  have hm_0 := g_0.max
  have G_0 := hid g_0; clear g_0
  go_enter Try.func6, Try.ntmps6
  by_cases hn_0 : (d_0.length : Int) ≤ 1048576
  rotate_left
  · go_wp2
    go_ret
    exact ⟨rfl, Below.refl _ _⟩
  go_wp2_with fail
  refine (s_MakeRing G_0.out).mono ?_
  rintro e w1 ⟨b0, a0, l0, k0, us, b2, a2, k2, ts, rfl, hS, hU, hT, hpt, hne, hl, hb⟩
  obtain rfl := hS.len_eq
  obtain ⟨j0, hj, hy0, hy1, hy2⟩ := info_parts info_int
  have hu6 : us.length ≤ 6 := (ringOk_iff.1 hU).2
  obtain ⟨P, Q, r1, r2, r3, r4, r5, r6, r7, r8, r9, r10⟩ := ring_law hU hpt hne (by omega)
  have hzw := hb.size
  have HB := hid hb; have S0 := hid hS; have S2 := hid hT; have HU := hid hU
  have R1 := hid r1; have R2 := hid r2; have R3 := hid r3; have R4 := hid r4; have R5 := hid r5; have R6 := hid r6
  have SLT := hid (fun b (hb9 : b ∈ b0) => hS.lts b hb9)
  have TLT := hid (fun b (hb9 : b ∈ b2) => hT.lts b hb9)
  have htm := hT.max
  clear hS hU hT hpt hb r1 r2 r3 r4 r5 r6 r9 r10 hne
  go_upto_region 4 with fail
  refine late_genw (fun w2 hw2 => ?_)
  have hb : Below w1.heap.size w1 w2 := by rw [hw2]; exact (Below.refl _ _).alloc (Nat.le_refl _) _
  have B3 := hid (show Bx w2 w1.heap.size #[.slice a0 us.length k0] by rw [hw2]; exact Bx.new _ _ _ rfl)
  replace S0 := hid (S0.out.grow hb); replace S2 := hid (S2.out.grow hb); replace HB := hid (HB.out.trans (hb.mono HB.out.size))
  have hz12 : w1.heap.size < w2.heap.size := by rw [hw2]; simp
  clear hw2 hb
  have x3 := B3.out.out
  go_upto_region 6 with fail
  clear x3
  refine late_genw (fun w3 hw3 => ?_)
  have hb : Below w2.heap.size w2 w3 := by rw [hw3]; exact (Below.refl _ _).alloc (Nat.le_refl _) _
  have B6 := hid (show Bx w3 w2.heap.size #[.slice a0 us.length k0] by rw [hw3]; exact Bx.new _ _ _ rfl)
  replace B3 := hid (Bx.below hb B3.out.f.lt B3.out)
  replace S0 := hid (S0.out.grow hb); replace S2 := hid (S2.out.grow hb); replace HB := hid (HB.out.trans (hb.mono HB.out.size))
  have hz23 : w2.heap.size < w3.heap.size := by rw [hw3]; simp
  clear hw3 hb
  go_wp2_with fail
  go_loopw [7] (fun i wr => ∃ (k : Nat) (a6 : Option Addr) (c6 : Nat) (b6 : List Nat), k ≤ us.length ∧ i = .int .i64 (k : Int) ∧ Bx wr w2.heap.size #[.slice a6 us.length c6] ∧ Slc wr b6 a6 us.length c6 (rot us k) ∧ (∀ b ∈ b6, b ≠ w2.heap.size) ∧ Tch [w2.heap.size] w3 wr) (fun i _ => us.length - (intOf i).toNat)
  case atStart => exact ⟨0, a0, k0, b0, Nat.zero_le _, rfl, B6.out, by rw [rot_zero]; exact S0.out, fun b hb => by have := (SLT.out b hb).2; omega, Tch.refl _ _⟩
  case round =>
    obtain ⟨k, a6, c6, b6, hk, rfl, hB6, hS6, hb6, hT6⟩ := hrel
    clear B6
    have B6 := hid hB6; have S6 := hid hS6; have L6 := hid hb6; have T6 := hid hT6
    clear hB6 hS6 hb6 hT6
    by_cases hlt : k < us.length
    · have hki : (k : Int) < (us.length : Int) := by omega
      have x6 := B6.out.out; have x6f := B6.out.fr
      go_wp2_with fail
      refine (i_RingTurn (mk_Ring (d := ⟨rot us k⟩) S6.out)).mono ?_
      rintro e w4 ⟨cs4, b4, rfl, hO, hb⟩
      rw [rot_step HU.out hlt] at hO
      obtain ⟨a4, l4, c4, rfl, s4⟩ := open_Ring hO.1
      obtain rfl := s4.len_eq
      have s4' : Slc w4 b4 a4 us.length c4 (rot us (k + 1)) := by have := s4; rw [show (⟨rot us (k + 1)⟩ : RingD).Pieces.length = us.length from rot_len _ _] at this; exact this
      rw [show (⟨rot us (k + 1)⟩ : RingD).Pieces.length = us.length from rot_len _ _]
      have S4 := hid s4'
      have L4 := hid (fun b (hb9 : b ∈ b4) => (hO.2.2 b hb9).1)
      have hzr : w2.heap.size < wr.heap.size := B6.out.f.lt
      have B64 := hid (Bx.below hb hzr B6.out)
      have T64 := hid (T6.out.trans (Tch.of_below hb))
      clear hO hb s4 s4' x6 x6f B6 S6 T6
      have x6 := B64.out.out; have x6f := B64.out.fr
      go_wp2
      refine ⟨⟨k + 1, a4, c4, b4, by omega, by go_num, B64.out.setSame 0 _, S4.out.setc (fun b hb9 => by have := L4.out b hb9; simp; omega) _, fun b hb9 => by have := L4.out b hb9; omega, T64.out.setCell (by simp) _⟩, by simp [intOf]; omega⟩
    · obtain rfl : k = us.length := by omega
      have hS6 := S6.out
      rw [rot_all] at hS6
      replace S6 := hid hS6
      have hzr := T6.out.size
      replace B3 := hid (Bx.tch (b := w1.heap.size) T6.out (by omega) (by simp; omega) B3.out)
      replace S0 := hid (S0.out.tch T6.out (fun b hb9 hm => by have := (SLT.out b hb9).2; simp at hm; omega))
      replace S2 := hid (S2.out.tch T6.out (fun b hb9 hm => by have := (TLT.out b hb9).2; simp at hm; omega))
      replace HB := hid (HB.out.trans (T6.out.below HB.out.size (fun b hb9 => by have := HB.out.size; simp at hb9; omega)))
      clear hS6 T6 hlt hk
      have x6 := B6.out.out
      go_wp2_with fail
      clear x6
      refine (i_RingOk (mk_Ring (d := ⟨us⟩) S6.out)).mono ?_
      rintro e w5 ⟨rfl, hb⟩
      rw [HU.out]
      replace B3 := hid (Bx.below hb B3.out.f.lt B3.out); replace B6 := hid (Bx.below hb B6.out.f.lt B6.out)
      replace S0 := hid (S0.out.grow hb); replace S2 := hid (S2.out.grow hb); replace S6 := hid (S6.out.grow hb); replace HB := hid (HB.out.trans (hb.mono HB.out.size))
      clear hb
      have x3 := B3.out.out; have x6 := B6.out.out
      go_wp2_with fail
      clear x3 x6
      go_loopw [46] (fun i wr => ∃ k : Nat, k ≤ us.length ∧ i = .int .i64 (k : Int) ∧ Below w5.heap.size w5 wr) (fun i _ => us.length - (intOf i).toNat)
      case atStart => exact ⟨0, Nat.zero_le _, rfl, Below.refl _ _⟩
      case round =>
        obtain ⟨k, hk, rfl, hb⟩ := hrel
        replace B3 := hid (Bx.below hb B3.out.f.lt B3.out); replace B6 := hid (Bx.below hb B6.out.f.lt B6.out)
        replace S0 := hid (S0.out.grow hb); replace S2 := hid (S2.out.grow hb); replace S6 := hid (S6.out.grow hb); replace HB := hid (HB.out.trans (hb.mono HB.out.size))
        have HW5 := hid hb
        clear hb
        by_cases hlt : k < us.length
        · have hki : (k : Int) < (us.length : Int) := by omega
          obtain ⟨g1, o1, c1, bb1, rfl, hg1, hp1, _, hA1⟩ := S0.out.elem k hlt
          obtain ⟨g2, o2, c2, bb2, rfl, hg2, hp2, _, hA2⟩ := S6.out.elem k hlt
          obtain ⟨p1, n1, m1, rfl, t1⟩ := open_Piece hp1
          obtain ⟨p2, n2, m2, rfl, t2⟩ := open_Piece hp2
          have e1 : wr.cell? ⟨g1, o1 + k, none⟩ = some (.slice p1 n1 m1) := by have q := hA1 0 _ rfl; rw [show o1 + k * Rep.size PieceD + 0 = o1 + k from (by show o1 + k * 1 + 0 = o1 + k; omega)] at q; exact q
          have e2 : wr.cell? ⟨g2, o2 + k, none⟩ = some (.slice p2 n2 m2) := by have q := hA2 0 _ rfl; rw [show o2 + k * Rep.size PieceD + 0 = o2 + k from (by show o2 + k * 1 + 0 = o2 + k; omega)] at q; exact q
          have T1 := hid t1; have T2 := hid t2; have HD := hid (show Below wr.heap.size wr wr.drew from (Below.refl _ _).drew)
          clear t1 t2 hA1 hA2 hp1 hp2
          have y3 : wr.cell? ⟨w1.heap.size, 0, none⟩ = some (.slice (some ⟨g1, o1, none⟩) us.length k0) := B3.out.out 0
          have y6 : wr.cell? ⟨w2.heap.size, 0, none⟩ = some (.slice (some ⟨g2, o2, none⟩) us.length c6) := B6.out.out 0
          go_upto_region 15 with fail
          refine late_start (fun W => W.cell? ⟨w1.heap.size, 0, none⟩ = some (.slice (some ⟨g1, o1, none⟩) us.length k0) ∧ W.cell? ⟨w2.heap.size, 0, none⟩ = some (.slice (some ⟨g2, o2, none⟩) us.length c6) ∧ W.cell? ⟨g1, o1 + k, none⟩ = some (.slice p1 n1 m1) ∧ W.cell? ⟨g2, o2 + k, none⟩ = some (.slice p2 n2 m2)) 99 (by kernel_rfl) ?_ (fun hS => ?_)
          · exact ⟨y3, y6, e1, e2⟩
          clear y3 y6 e1 e2
          refine late_take (i := 0) (v := ?_) rfl (by kernel_rfl) (fun _ _ _ h => h) (by rfl) ?_ (by assumption) ?_
          rotate_left
          · (intro w9 hS9; (try dsimp only at hS9); (try go_split_ands); go_simp <;> with_reducible rfl)
          try simp only [Act.put, List.setIfInBounds_toArray, List.set_cons_zero, List.set_cons_succ]
          refine late_take (i := 1) (v := ?_) rfl (by kernel_rfl) (fun _ _ _ h => h) (by rfl) ?_ (by assumption) ?_
          rotate_left
          · (intro w9 hS9; (try dsimp only at hS9); (try go_split_ands); go_simp <;> with_reducible rfl)
          try simp only [Act.put, List.setIfInBounds_toArray, List.set_cons_zero, List.set_cons_succ]
          refine late_take (i := 2) (v := ?_) rfl (by kernel_rfl) (fun _ _ _ h => h) (by rfl) ?_ (by assumption) ?_
          rotate_left
          · (intro w9 hS9; (try dsimp only at hS9); (try go_split_ands); go_simp <;> with_reducible rfl)
          try simp only [Act.put, List.setIfInBounds_toArray, List.set_cons_zero, List.set_cons_succ]
          refine late_take (i := 3) (v := ?_) rfl (by kernel_rfl) (fun _ _ _ h => h) (by rfl) ?_ (by assumption) ?_
          rotate_left
          · (intro w9 hS9; (try dsimp only at hS9); (try go_split_ands); go_simp <;> with_reducible rfl)
          try simp only [Act.put, List.setIfInBounds_toArray, List.set_cons_zero, List.set_cons_succ]
          refine late_take (i := 4) (v := ?_) rfl (by kernel_rfl) (fun _ _ _ h => h) (by rfl) ?_ (by assumption) ?_
          rotate_left
          · (intro w9 hS9; (try dsimp only at hS9); (try go_split_ands); go_simp <;> with_reducible rfl)
          try simp only [Act.put, List.setIfInBounds_toArray, List.set_cons_zero, List.set_cons_succ]
          refine late_take (i := 5) (v := ?_) rfl (by kernel_rfl) (fun _ _ _ h => h) (by rfl) ?_ (by assumption) ?_
          rotate_left
          · (intro w9 hS9; (try dsimp only at hS9); (try go_split_ands); go_simp <;> with_reducible rfl)
          try simp only [Act.put, List.setIfInBounds_toArray, List.set_cons_zero, List.set_cons_succ]
          refine late_take (i := 6) (v := ?_) rfl (by kernel_rfl) (fun _ _ _ h => h) (by rfl) ?_ (by assumption) ?_
          rotate_left
          · (intro w9 hS9; (try dsimp only at hS9); (try go_split_ands); go_simp <;> with_reducible rfl)
          try simp only [Act.put, List.setIfInBounds_toArray, List.set_cons_zero, List.set_cons_succ]
          refine late_take (i := 7) (v := ?_) rfl (by kernel_rfl) (fun _ _ _ h => h) (by rfl) ?_ (by assumption) ?_
          rotate_left
          · (intro w9 hS9; (try dsimp only at hS9); (try go_split_ands); go_simp <;> with_reducible rfl)
          try simp only [Act.put, List.setIfInBounds_toArray, List.set_cons_zero, List.set_cons_succ]
          refine late_take (i := 8) (v := ?_) rfl (by kernel_rfl) (fun _ _ _ h => h) (by rfl) ?_ (by assumption) ?_
          rotate_left
          · (intro w9 hS9; (try dsimp only at hS9); (try go_split_ands); go_simp <;> with_reducible rfl)
          try simp only [Act.put, List.setIfInBounds_toArray, List.set_cons_zero, List.set_cons_succ]
          refine late_take (i := 9) (v := ?_) rfl (by kernel_rfl) (fun _ _ _ h => h) (by rfl) ?_ (by assumption) ?_
          rotate_left
          · (intro w9 hS9; (try dsimp only at hS9); (try go_split_ands); go_simp <;> with_reducible rfl)
          try simp only [Act.put, List.setIfInBounds_toArray, List.set_cons_zero, List.set_cons_succ]
          refine late_take (i := 10) (v := ?_) rfl (by kernel_rfl) (fun _ _ _ h => h) (by rfl) ?_ (by assumption) ?_
          rotate_left
          · (intro w9 hS9; (try dsimp only at hS9); (try go_split_ands); go_simp <;> with_reducible rfl)
          try simp only [Act.put, List.setIfInBounds_toArray, List.set_cons_zero, List.set_cons_succ]
          refine late_take (i := 11) (v := ?_) rfl (by kernel_rfl) (fun _ _ _ h => h) (by rfl) ?_ (by assumption) ?_
          rotate_left
          · (intro w9 hS9; (try dsimp only at hS9); (try go_split_ands); go_simp <;> with_reducible rfl)
          try simp only [Act.put, List.setIfInBounds_toArray, List.set_cons_zero, List.set_cons_succ]
          refine late_one (i := 12) rfl (by kernel_rfl) (fun K9 hK9 => ?_)
          go_simp
          refine (l_sameInts (Slc.grow T1.out HD.out) (Slc.grow T2.out HD.out)).mono ?_
          rintro e w8 ⟨rfl, hb2⟩
          have hb8 : Below wr.heap.size wr w8 := HD.out.trans hb2
          go_wp2_with fail
          refine hK9.out _ _ (fun _ => ?_) (fun hS9 => ?_)
          · (try dsimp only); exact ⟨(hb2.cell (World.block_lt_of_cell? _ _ hS.1)).trans hS.1, (hb2.cell (World.block_lt_of_cell? _ _ hS.2.1)).trans hS.2.1, (hb2.cell (World.block_lt_of_cell? _ _ hS.2.2.1)).trans hS.2.2.1, (hb2.cell (World.block_lt_of_cell? _ _ hS.2.2.2)).trans hS.2.2.2⟩
          replace hS := hS9 (by decide)
          clear hK9 K9 hS9
          try simp only [Act.put, List.setIfInBounds_toArray, List.set_cons_zero, List.set_cons_succ]
          clear hb2
          refine late_one (i := 13) rfl (by kernel_rfl) (fun K9 hK9 => ?_)
          go_simp
          refine hK9.out _ _ (fun _ => ?_) (fun hS9 => ?_)
          · (try dsimp only); exact hS
          replace hS := hS9 (by decide)
          clear hK9 K9 hS9
          try simp only [Act.put, List.setIfInBounds_toArray, List.set_cons_zero, List.set_cons_succ]
          refine late_done (by kernel_rfl) ?_ _
          clear hS
          go_wp2
          exact ⟨⟨k + 1, by omega, by go_num, HW5.out.trans (hb8.mono HW5.out.size)⟩, by simp [intOf]; omega⟩
        · have hki : ¬ (k : Int) < (us.length : Int) := by omega
          obtain rfl : k = us.length := by omega
          clear hlt hk
          have x3 := B3.out.out
          go_wp2_with fail
          clear x3
          refine (i_RingPut (mk_Ring (d := ⟨us⟩) S0.out) S2.out 0 (by simp [I64])).mono ?_
          rintro e w6 ⟨cs6, b6', rfl, hO, hb⟩
          rw [R1.out]
          rw [R2.out] at hO
          obtain ⟨a9, l9, c9, rfl, s9⟩ := open_Ring hO.1
          obtain rfl := s9.len_eq
          have S9 := hid s9
          replace S2 := hid (S2.out.grow hb); replace HB := hid (HB.out.trans (hb.mono HB.out.size))
          clear hO hb s9
          go_upto_region 19 with fail
          refine late_genw (fun w7 hw7 => ?_)
          have hb : Below w6.heap.size w6 w7 := by rw [hw7]; exact (Below.refl _ _).alloc (Nat.le_refl _) _
          have B9 := hid (show Bx w7 w6.heap.size #[.slice a9 P.Pieces.length c9] by rw [hw7]; exact Bx.new _ _ _ rfl)
          replace S2 := hid (S2.out.grow hb); replace S9 := hid (S9.out.grow hb); replace HB := hid (HB.out.trans (hb.mono HB.out.size))
          clear hw7 hb
          have x9 := B9.out.out
          go_wp2_with fail
          clear x9
          refine (i_RingPut (mk_Ring (d := P) S9.out) S2.out 2 (by simp [I64])).mono ?_
          rintro e w8 ⟨cs8, b8, rfl, hO, hb⟩
          rw [R3.out]
          rw [R4.out] at hO
          obtain ⟨a11, l11, c11, rfl, s11⟩ := open_Ring hO.1
          obtain rfl := s11.len_eq
          have S11 := hid s11
          replace B9 := hid (Bx.below hb B9.out.f.lt B9.out)
          replace S2 := hid (S2.out.grow hb); replace S9 := hid (S9.out.grow hb); replace HB := hid (HB.out.trans (hb.mono HB.out.size))
          clear hO hb s11
          go_upto_region 20 with fail
          refine late_genw (fun w9 hw9 => ?_)
          have hb : Below w8.heap.size w8 w9 := by rw [hw9]; exact (Below.refl _ _).alloc (Nat.le_refl _) _
          have B11 := hid (show Bx w9 w8.heap.size #[.slice a11 Q.Pieces.length c11] by rw [hw9]; exact Bx.new _ _ _ rfl)
          replace B9 := hid (Bx.below hb B9.out.f.lt B9.out)
          replace S2 := hid (S2.out.grow hb); replace S9 := hid (S9.out.grow hb); replace S11 := hid (S11.out.grow hb); replace HB := hid (HB.out.trans (hb.mono HB.out.size))
          clear hw9 hb
          go_wp2_with (at_builtin; refine wp_append rfl _ _ 54 rfl 3 j0 (.int .i64 0) 8 Try.underlying54 hj hy0 hy1 hy2 rfl (lo := w9.heap.size) (bs := [w9.heap.size]) (xs := ([] : List Int)) rfl ?own (b2 := []) (ys := ts) rfl ?src List.nodup_nil ?q1 ?q2 ?q3 ?q4 ?_)
          case own => exact ownL_empty rfl (Nat.le_refl _)
          case src => exact (S2.out.grow ((Below.refl _ _).alloc (Nat.le_refl _) _)).src
          case q1 => simp
          case q2 => simp; omega
          case q3 => simp; omega
          case q4 => simp
          intro p12 c12 w12 b12 hO12 hT12 hm12
          try simp only [List.nil_append, List.length_nil, Nat.zero_add] at hO12
          try simp only [List.nil_append, List.length_nil, Nat.zero_add]
          have hb12 : Below w9.heap.size w9 w12 := ((Below.refl _ _).alloc (Nat.le_refl _) _).trans (hT12.below (by simp) (by simp))
          have HO12 := hid hO12; have HB12 := hid hb12
          clear hO12 hT12 hm12 hb12
          go_wp2_with (at_builtin; refine wp_append rfl _ _ 54 rfl 3 j0 (.int .i64 0) 8 Try.underlying54 hj hy0 hy1 hy2 rfl (lo := w9.heap.size) (bs := b12) (xs := ts) rfl ?own (b2 := []) (ys := ts) rfl ?src List.nodup_nil ?q1 ?q2 ?q3 ?q4 ?_)
          case own => exact HO12.out
          case src => exact (S2.out.grow HB12.out).src
          case q1 => simp
          case q2 => omega
          case q3 => omega
          case q4 => exact HB12.out.size
          intro p13 c13 w13 b13 hO13 hT13 hm13
          have hb : Below w9.heap.size w9 w13 := HB12.out.trans (hT13.below HB12.out.size (fun b hb9 => (HO12.out.lts b hb9).1))
          obtain ⟨b14, _, hO14⟩ := hO13.own
          have S13 := hid (pt_slice.1 hO14.1)
          obtain ⟨n13, hn13⟩ : ∃ n, n = ts.length + ts.length := ⟨_, rfl⟩
          rw [← hn13] at S13 ⊢
          have Hn13 := hid hn13
          replace B9 := hid (Bx.below hb B9.out.f.lt B9.out); replace B11 := hid (Bx.below hb B11.out.f.lt B11.out)
          replace S2 := hid (S2.out.grow hb); replace S9 := hid (S9.out.grow hb); replace S11 := hid (S11.out.grow hb); replace HB := hid (HB.out.trans (hb.mono HB.out.size))
          clear hO13 hT13 hm13 hb hO14 HO12 HB12 hn13
          have x9 := B9.out.out
          go_wp2_with fail
          clear x9
          refine (i_RingTopS (mk_Ring (d := P) S9.out)).mono ?_
          rintro e w15 ⟨a15, l15, c15, b15, rfl, hO, hb⟩
          rw [R5.out] at hO
          have S15 := hid (hO.slc)
          replace B9 := hid (Bx.below hb B9.out.f.lt B9.out); replace B11 := hid (Bx.below hb B11.out.f.lt B11.out)
          replace S2 := hid (S2.out.grow hb); replace S11 := hid (S11.out.grow hb); replace S13 := hid (S13.out.grow hb); replace HB := hid (HB.out.trans (hb.mono HB.out.size))
          clear hO hb S9
          go_wp2_with fail
          refine (l_sameInts S15.out S2.out).mono ?_
          rintro e w16 ⟨rfl, hb⟩
          replace B9 := hid (Bx.below hb B9.out.f.lt B9.out); replace B11 := hid (Bx.below hb B11.out.f.lt B11.out)
          replace S11 := hid (S11.out.grow hb); replace S13 := hid (S13.out.grow hb); replace HB := hid (HB.out.trans (hb.mono HB.out.size))
          clear hb S15 S2
          have x11 := B11.out.out
          go_wp2_with fail
          clear x11
          refine (i_RingTopS (mk_Ring (d := Q) S11.out)).mono ?_
          rintro e w17 ⟨a17, l17, c17, b17, rfl, hO, hb⟩
          rw [R6.out] at hO
          have S17 := hid (hO.slc)
          replace B9 := hid (Bx.below hb B9.out.f.lt B9.out)
          replace S13 := hid (S13.out.grow hb); replace HB := hid (HB.out.trans (hb.mono HB.out.size))
          clear hO hb S11 B11
          go_wp2_with fail
          refine (l_sameInts S17.out S13.out).mono ?_
          rintro e w18 ⟨rfl, hb⟩
          replace B9 := hid (Bx.below hb B9.out.f.lt B9.out)
          replace HB := hid (HB.out.trans (hb.mono HB.out.size))
          clear hb S17 S13
          have x9 := B9.out.out
          have q7 : (P.Pieces.length : Int) ≤ 6 := by omega
          have q8 : (us.length : Int) ≤ (P.Pieces.length : Int) := by omega
          go_wp2
          go_ret
          exact ⟨rfl, HB.out⟩
end Go.Proofs.Ytgcdgkiefbbhkaa
