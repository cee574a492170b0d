/- The law on UndoPut. -/
import Derived.Test.YtndhhongkigikaaHelpR
import Derived.Test.YtndhhongkigikaaUndoP
import Derived.Test.YtndhhongkigikaaUndoQ
import Derived.Deep.RegionHeld3
import Derived.Deep.DeepCutAuto
set_option linter.unusedSimpArgs false
set_option linter.unusedVariables false
namespace Go.Proofs.Ytndhhongkigikaa
open Go.RowKit Go.G6
set_option maxRecDepth 10000
theorem boxN {w : World} {b : Nat} {c : Array Value} {t : TypeId} (hb : b = w.heap.size) : Box (w.alloc (.cells c t)) b c := by subst hb; exact box_new _ _ _
set_option maxHeartbeats 4000000 in
theorem lawUndoPut {w : World} {bs_0 : List Nat} {cs_0 : List Value} {d_0 : UndoD} {bs_1 : List Nat} {cs_1 : List Value} {d_1 : LineD} (g_0 : Rep.pt w bs_0 cs_0 d_0) (g_1 : Rep.pt w bs_1 cs_1 d_1) :
    Calls Try.prog 4 #[.agg cs_0.toArray, .agg cs_1.toArray] w fun e w' => e = .returned (.bool true) ∧ Below w.heap.size w w' := by
  have G_0 := hid g_0
  obtain ⟨a0_0, l0_0, k0_0, rfl, h0_0⟩ := open_Undo g_0
  clear g_0
  have G_1 := hid g_1
  obtain ⟨a0_1, l0_1, k0_1, rfl, h0_1, h1_1⟩ := open_Line g_1
  clear g_1
  go_enter Try.func4, Try.ntmps4
  have Hb : Hid (Below w.heap.size w w) := hid (Below.refl _ _)
  go_wp2_with fail
  refine (szUndo (1048576) (grow G_0.out ?_) (by omega) (by omega)).mono ?_
  · (repeat (first | exact Hb.out | refine Below.alloc ?_ (by have := Hb.out.size; first | omega | (simp; done) | (simp; omega)) _))
  rintro e w1 ⟨rfl, hb⟩
  have hz1 := hb.size; try simp at hz1
  have hp : Below w.heap.size w w1 := below_call (by repeat (first | exact Below.refl _ _ | refine Below.alloc ?_ (by first | omega | (simp; done) | (simp; omega)) _)) hb
  have B_0 : Box w1 (w.heap.size) #[.slice a0_0 l0_0 k0_0] := Box.below hb (by first | omega | (simp; done) | (simp; omega)) (by repeat (first | exact B_0 | (apply boxN; (focus (first | omega | (simp; done) | (simp; omega)))) | (apply Box.alloc; rotate_left; (focus (first | omega | (simp; done) | (simp; omega))))))
  have L_0 : w.heap.size < w1.heap.size := (by first | omega | (simp; done) | (simp; omega))
  have B_1 : Box w1 (w.heap.size + 1) #[.slice a0_1 l0_1 k0_1, .int .i64 d_1.At] := Box.below hb (by first | omega | (simp; done) | (simp; omega)) (by repeat (first | exact B_1 | (apply boxN; (focus (first | omega | (simp; done) | (simp; omega)))) | (apply Box.alloc; rotate_left; (focus (first | omega | (simp; done) | (simp; omega))))))
  have L_1 : w.heap.size + 1 < w1.heap.size := (by first | omega | (simp; done) | (simp; omega))
  replace Hb := hid (Hb.out.trans (hp.mono Hb.out.size))
  clear hb hp
  by_cases hn_0 : (Cnt.cnt d_0 : Int) ≤ 1048576
  rotate_left
  · rw [szr_neg (by omega)]
    go_wp2
    go_ret
    exact ⟨rfl, Hb.out⟩
  rw [szr_pos hn_0]
  have HN_0 : Hid (Cnt.cnt d_0 ≤ 1048576) := hid (by omega)
  try unfold Box at B_0
  try unfold Box at B_1
  go_wp2_with fail
  refine (szLine ((1048576 - (Cnt.cnt d_0 : Int))) (grow G_1.out ?_) (by omega) (by omega)).mono ?_
  · (repeat (first | exact Hb.out | refine Below.alloc ?_ (by have := Hb.out.size; first | omega | (simp; done) | (simp; omega)) _))
  rintro e w2 ⟨rfl, hb⟩
  have hz2 := hb.size; try simp at hz2
  have hp : Below w1.heap.size w1 w2 := below_call (by repeat (first | exact Below.refl _ _ | refine Below.alloc ?_ (by first | omega | (simp; done) | (simp; omega)) _)) hb
  replace B_0 : Box w2 (w.heap.size) #[.slice a0_0 l0_0 k0_0] := Box.below hb (by first | omega | (simp; done) | (simp; omega)) (by repeat (first | exact B_0 | (apply boxN; (focus (first | omega | (simp; done) | (simp; omega)))) | (apply Box.alloc; rotate_left; (focus (first | omega | (simp; done) | (simp; omega))))))
  replace L_0 : w.heap.size < w2.heap.size := (by first | omega | (simp; done) | (simp; omega))
  replace B_1 : Box w2 (w.heap.size + 1) #[.slice a0_1 l0_1 k0_1, .int .i64 d_1.At] := Box.below hb (by first | omega | (simp; done) | (simp; omega)) (by repeat (first | exact B_1 | (apply boxN; (focus (first | omega | (simp; done) | (simp; omega)))) | (apply Box.alloc; rotate_left; (focus (first | omega | (simp; done) | (simp; omega))))))
  replace L_1 : w.heap.size + 1 < w2.heap.size := (by first | omega | (simp; done) | (simp; omega))
  replace Hb := hid (Hb.out.trans (hp.mono Hb.out.size))
  clear hb hp
  by_cases hn_1 : (Cnt.cnt d_1 : Int) ≤ (1048576 - (Cnt.cnt d_0 : Int))
  rotate_left
  · rw [szr_neg (by omega)]
    go_wp2
    go_ret
    exact ⟨rfl, Hb.out⟩
  rw [szr_pos hn_1]
  have HN_1 : Hid (Cnt.cnt d_1 ≤ 1048576) := hid (by omega)
  try unfold Box at B_0
  try unfold Box at B_1
  go_upto_region 8 with fail
  go_cut [6, 7] (fun v6 v7 W => ∃ (gb : Nat) (bs_w0 : List Nat) (a0_w0 : Option Addr) (l0_w0 k0_w0 : Nat), v6 = .pointer (some ⟨gb, 0, none⟩) ∧ v7 = .bool (undoPutOk d_0 d_1) ∧ Box W gb #[.slice a0_w0 l0_w0 k0_w0] ∧ w2.heap.size ≤ gb ∧ gb < W.heap.size ∧ Slc W bs_w0 a0_w0 l0_w0 k0_w0 ((undoPut d_0 d_1)).Lines ∧ Below w2.heap.size w2 W)
  case first =>
    go_wp2_with fail
    refine late_start (fun W => Below w2.heap.size w2 W ∧ (∀ o, W.cell? ⟨w.heap.size, o, none⟩ = (#[.slice a0_0 l0_0 k0_0] : Array Value)[o]?) ∧ (∀ o, W.cell? ⟨w.heap.size + 1, o, none⟩ = (#[.slice a0_1 l0_1 k0_1, .int .i64 d_1.At] : Array Value)[o]?)) 10 (by kernel_rfl) ?_ (fun hS => ?_)
    · exact ⟨(Below.refl _ _).drew, B_0, B_1⟩
    refine late_genw (fun U0 hU => ?_)
    rw [← hU] at hS
    have hz00 := hS.1.size
    clear hU
    refine late_take (i := 0) (v := ?_) rfl (by kernel_rfl) (fun _ _ _ h => h) (by rfl) ?_ (by assumption) ?_
    rotate_left
    · (intro w9 hS9; (try dsimp only at hS9); (try go_split_ands); go_simp <;> with_reducible rfl)
    try simp only [Act.put, List.setIfInBounds_toArray, List.set_cons_zero, List.set_cons_succ]
    refine late_take (i := 2) (v := ?_) rfl (by kernel_rfl) (fun _ _ _ h => h) (by rfl) ?_ (by assumption) ?_
    rotate_left
    · (intro w9 hS9; (try dsimp only at hS9); (try go_split_ands); go_simp <;> with_reducible rfl)
    try simp only [Act.put, List.setIfInBounds_toArray, List.set_cons_zero, List.set_cons_succ]
    refine late_two (i := 1) (j := 8) rfl rfl (by kernel_rfl) (fun K9 hK9 => ?_) (fun K9 hK9 => ?_)
    · skip
      go_simp
      refine (toUndo (grow G_0.out ?_) (by have := HN_0.out; first | omega | (simp only [cnt_ints, cnt_bytes] at this; omega))).mono ?_
      · exact Hb.out.trans (hS.1.mono Hb.out.size)
      rintro e U1 ⟨cs_t0, bs_t0, rfl, hO_t0, hst⟩
      have hzU1 := hst.size
      go_wp2_with fail
      refine hK9.out _ _ (fun _ => ?_) (fun hS9 => ?_)
      · (try dsimp only); exact ⟨below_via hst hS.1, box_via hst hS.1 L_0 hS.2.1, box_via hst hS.1 L_1 hS.2.2⟩
      replace hS := hS9 (by decide)
      clear hK9 K9 hS9
      try simp only [Act.put, List.setIfInBounds_toArray, List.set_cons_zero, List.set_cons_succ]
      clear hst
      have cd0 : Below U1.heap.size U1 U1 := Below.refl _ _
      have hO_t0 := hid hO_t0
      refine late_two (i := 3) (j := 8) rfl rfl (by kernel_rfl) (fun K9 hK9 => ?_) (fun K9 hK9 => ?_)
      · skip
        go_simp
        refine (toLine (grow G_1.out ?_) (by have := HN_1.out; first | omega | (simp only [cnt_ints, cnt_bytes] at this; omega))).mono ?_
        · exact Hb.out.trans (hS.1.mono Hb.out.size)
        rintro e U2 ⟨cs_t1, bs_t1, rfl, hO_t1, hst⟩
        have hzU2 := hst.size
        go_wp2_with fail
        replace cd0 := below_via hst cd0
        refine hK9.out _ _ (fun _ => ?_) (fun hS9 => ?_)
        · (try dsimp only); exact ⟨below_via hst hS.1, box_via hst hS.1 L_0 hS.2.1, box_via hst hS.1 L_1 hS.2.2⟩
        replace hS := hS9 (by decide)
        clear hK9 K9 hS9
        try simp only [Act.put, List.setIfInBounds_toArray, List.set_cons_zero, List.set_cons_succ]
        clear hst
        have cd1 : Below U2.heap.size U2 U2 := Below.refl _ _
        have hO_t1 := hid hO_t1
        refine late_two (i := 4) (j := 8) rfl rfl (by kernel_rfl) (fun K9 hK9 => ?_) (fun K9 hK9 => ?_)
        · skip
          go_simp
          refine (s_UndoPut (grow hO_t0.out.1 cd0) (grow hO_t1.out.1 cd1)  ).mono ?_
          rintro e U3 ⟨csz, bsz, rfl, hOz, hst⟩
          obtain ⟨a0_w0, l0_w0, k0_w0, rfl, h0_w0⟩ := open_Undo hOz.1
          have hzU3 := hst.size
          go_wp2_with fail
          have hzlt : ∀ b ∈ bsz, b < U3.heap.size := fun b hb => Rep.lt hOz.1 b hb
          replace cd0 := below_via hst cd0
          replace cd1 := below_via hst cd1
          refine hK9.out _ _ (fun _ => ?_) (fun hS9 => ?_)
          · (try dsimp only); exact ⟨below_via hst hS.1, box_via hst hS.1 L_0 hS.2.1, box_via hst hS.1 L_1 hS.2.2⟩
          replace hS := hS9 (by decide)
          clear hK9 K9 hS9
          try simp only [Act.put, List.setIfInBounds_toArray, List.set_cons_zero, List.set_cons_succ]
          clear hst
          have cz : Below U3.heap.size U3 U3 := Below.refl _ _
          refine late_take (i := 5) (v := ?_) rfl (by kernel_rfl) (fun _ _ _ h => h) (by rfl) ?_ (by assumption) ?_
          rotate_left
          · (intro w9 hS9; (try dsimp only at hS9); (try go_split_ands); go_simp <;> with_reducible rfl)
          try simp only [Act.put, List.setIfInBounds_toArray, List.set_cons_zero, List.set_cons_succ]
          refine late_take (i := 6) (v := ?_) rfl (by kernel_rfl) (fun _ _ _ h => h) (by rfl) ?_ (by assumption) ?_
          rotate_left
          · (intro w9 hS9; (try dsimp only at hS9); (try go_split_ands); go_simp <;> with_reducible rfl)
          try simp only [Act.put, List.setIfInBounds_toArray, List.set_cons_zero, List.set_cons_succ]
          refine late_take (i := 7) (v := ?_) rfl (by kernel_rfl) (fun _ _ _ h => h) (by rfl) ?_ (by assumption) ?_
          rotate_left
          · (intro w9 hS9; (try dsimp only at hS9); (try go_split_ands); go_simp <;> with_reducible rfl)
          try simp only [Act.put, List.setIfInBounds_toArray, List.set_cons_zero, List.set_cons_succ]
          refine late_one (i := 8) rfl (by kernel_rfl) (fun K9 hK9 => ?_)
          go_simp
          refine late_gen (fun U4 hU => ?_)
          have hst : Below U3.heap.size U3 U4 := by rw [hU]; exact (Below.refl _ _).alloc (Nat.le_refl _) _
          have hbx : Bx U4 U3.heap.size #[.slice none 0 0] := by rw [hU]; exact Bx.new _ _ _ rfl
          have hgb : U3.heap.size < U4.heap.size := by rw [hU]; simp
          have hgl := hS.1.size
          have hzU4 := hst.size
          clear hU
          replace cd0 := below_via hst cd0
          replace cd1 := below_via hst cd1
          replace cz := below_via hst cz
          refine hK9.out _ _ (fun _ => ?_) (fun hS9 => ?_)
          · (try dsimp only); exact ⟨below_via hst hS.1, box_via hst hS.1 L_0 hS.2.1, box_via hst hS.1 L_1 hS.2.2⟩
          replace hS := hS9 (by decide)
          clear hK9 K9 hS9
          try simp only [Act.put, List.setIfInBounds_toArray, List.set_cons_zero, List.set_cons_succ]
          have LZ : ∀ b ∈ bsz, b ≠ U3.heap.size := fun b hb => Nat.ne_of_lt (hzlt b hb)
          clear hst
          refine late_one (i := 9) rfl (by kernel_rfl) (fun K9 hK9 => ?_)
          have bo := hbx.out; have bf := hbx.fr
          go_simp
          refine hK9.out _ _ (fun _ => ?_) (fun hS9 => ?_)
          · (try dsimp only); exact ⟨Below.setCell (hS.1) (by exact hgl) _, box_set (hS.2.1) (by exact Nat.ne_of_gt (Nat.lt_of_lt_of_le L_0 hgl)) _, box_set (hS.2.2) (by exact Nat.ne_of_gt (Nat.lt_of_lt_of_le L_1 hgl)) _⟩
          replace hS := hS9 (by decide)
          clear hK9 K9 hS9
          try simp only [Act.put, List.setIfInBounds_toArray, List.set_cons_zero, List.set_cons_succ]
          refine late_one (i := 10) rfl (by kernel_rfl) (fun K9 hK9 => ?_)
          go_simp
          refine hK9.out _ _ (fun h => absurd rfl h) (fun _ => ?_)
          clear hK9 K9
          try simp only [Act.put, List.setIfInBounds_toArray, List.set_cons_zero, List.set_cons_succ]
          refine late_done (by kernel_rfl) ?_ _
          go_wp2_with fail
          go_meet
          refine ⟨U3.heap.size, bsz, a0_w0, l0_w0, k0_w0, rfl, rfl, ?_, ?_, ?_, ?_, hS.1⟩
          · first | exact (Bx.setSame hbx 0 _).out | (have q9 := (Bx.setSame hbx 0 _).out; simpa using q9)
          · exact hgl
          · simpa using hgb
          · exact Slc.setc (Slc.grow h0_w0 cz) (fun b hb => LZ b hb) _
        · skip
          go_simp
          refine late_gen (fun U5 hU => ?_)
          have hst : Below U2.heap.size U2 U5 := by rw [hU]; exact (Below.refl _ _).alloc (Nat.le_refl _) _
          have hbx : Bx U5 U2.heap.size #[.slice none 0 0] := by rw [hU]; exact Bx.new _ _ _ rfl
          have hgb : U2.heap.size < U5.heap.size := by rw [hU]; simp
          have hgl := hS.1.size
          have hzU5 := hst.size
          clear hU
          replace cd0 := below_via hst cd0
          replace cd1 := below_via hst cd1
          refine hK9.out _ _ (fun _ => ?_) (fun hS9 => ?_)
          · (try dsimp only); exact ⟨below_via hst hS.1, box_via hst hS.1 L_0 hS.2.1, box_via hst hS.1 L_1 hS.2.2⟩
          replace hS := hS9 (by decide)
          clear hK9 K9 hS9
          try simp only [Act.put, List.setIfInBounds_toArray, List.set_cons_zero, List.set_cons_succ]
          clear hst
          refine late_one (i := 4) rfl (by kernel_rfl) (fun K9 hK9 => ?_)
          go_simp
          refine (s_UndoPut (grow hO_t0.out.1 cd0) (grow hO_t1.out.1 cd1)  ).mono ?_
          rintro e U6 ⟨csz, bsz, rfl, hOz, hst⟩
          obtain ⟨a0_w0, l0_w0, k0_w0, rfl, h0_w0⟩ := open_Undo hOz.1
          have hzU6 := hst.size
          go_wp2_with fail
          have hzlt : ∀ b ∈ bsz, b < U6.heap.size := fun b hb => Rep.lt hOz.1 b hb
          have LZ : ∀ b ∈ bsz, b ≠ U2.heap.size := fun b hb => Nat.ne_of_gt (Nat.lt_of_lt_of_le hgb ((hOz.lts b hb).1))
          replace cd0 := below_via hst cd0
          replace cd1 := below_via hst cd1
          replace hbx := Bx.below hst hgb hbx
          replace hgb : U2.heap.size < U6.heap.size := Nat.lt_of_lt_of_le hgb hst.size
          refine hK9.out _ _ (fun _ => ?_) (fun hS9 => ?_)
          · (try dsimp only); exact ⟨below_via hst hS.1, box_via hst hS.1 L_0 hS.2.1, box_via hst hS.1 L_1 hS.2.2⟩
          replace hS := hS9 (by decide)
          clear hK9 K9 hS9
          try simp only [Act.put, List.setIfInBounds_toArray, List.set_cons_zero, List.set_cons_succ]
          clear hst
          have cz : Below U6.heap.size U6 U6 := Below.refl _ _
          refine late_take (i := 5) (v := ?_) rfl (by kernel_rfl) (fun _ _ _ h => h) (by rfl) ?_ (by assumption) ?_
          rotate_left
          · (intro w9 hS9; (try dsimp only at hS9); (try go_split_ands); go_simp <;> with_reducible rfl)
          try simp only [Act.put, List.setIfInBounds_toArray, List.set_cons_zero, List.set_cons_succ]
          refine late_take (i := 6) (v := ?_) rfl (by kernel_rfl) (fun _ _ _ h => h) (by rfl) ?_ (by assumption) ?_
          rotate_left
          · (intro w9 hS9; (try dsimp only at hS9); (try go_split_ands); go_simp <;> with_reducible rfl)
          try simp only [Act.put, List.setIfInBounds_toArray, List.set_cons_zero, List.set_cons_succ]
          refine late_take (i := 7) (v := ?_) rfl (by kernel_rfl) (fun _ _ _ h => h) (by rfl) ?_ (by assumption) ?_
          rotate_left
          · (intro w9 hS9; (try dsimp only at hS9); (try go_split_ands); go_simp <;> with_reducible rfl)
          try simp only [Act.put, List.setIfInBounds_toArray, List.set_cons_zero, List.set_cons_succ]
          refine late_one (i := 9) rfl (by kernel_rfl) (fun K9 hK9 => ?_)
          have bo := hbx.out; have bf := hbx.fr
          go_simp
          refine hK9.out _ _ (fun _ => ?_) (fun hS9 => ?_)
          · (try dsimp only); exact ⟨Below.setCell (hS.1) (by exact hgl) _, box_set (hS.2.1) (by exact Nat.ne_of_gt (Nat.lt_of_lt_of_le L_0 hgl)) _, box_set (hS.2.2) (by exact Nat.ne_of_gt (Nat.lt_of_lt_of_le L_1 hgl)) _⟩
          replace hS := hS9 (by decide)
          clear hK9 K9 hS9
          try simp only [Act.put, List.setIfInBounds_toArray, List.set_cons_zero, List.set_cons_succ]
          refine late_one (i := 10) rfl (by kernel_rfl) (fun K9 hK9 => ?_)
          go_simp
          refine hK9.out _ _ (fun h => absurd rfl h) (fun _ => ?_)
          clear hK9 K9
          try simp only [Act.put, List.setIfInBounds_toArray, List.set_cons_zero, List.set_cons_succ]
          refine late_done (by kernel_rfl) ?_ _
          go_wp2_with fail
          go_meet
          refine ⟨U2.heap.size, bsz, a0_w0, l0_w0, k0_w0, rfl, rfl, ?_, ?_, ?_, ?_, hS.1⟩
          · first | exact (Bx.setSame hbx 0 _).out | (have q9 := (Bx.setSame hbx 0 _).out; simpa using q9)
          · exact hgl
          · simpa using hgb
          · exact Slc.setc (Slc.grow h0_w0 cz) (fun b hb => LZ b hb) _
      · skip
        go_simp
        refine late_gen (fun U7 hU => ?_)
        have hst : Below U1.heap.size U1 U7 := by rw [hU]; exact (Below.refl _ _).alloc (Nat.le_refl _) _
        have hbx : Bx U7 U1.heap.size #[.slice none 0 0] := by rw [hU]; exact Bx.new _ _ _ rfl
        have hgb : U1.heap.size < U7.heap.size := by rw [hU]; simp
        have hgl := hS.1.size
        have hzU7 := hst.size
        clear hU
        replace cd0 := below_via hst cd0
        refine hK9.out _ _ (fun _ => ?_) (fun hS9 => ?_)
        · (try dsimp only); exact ⟨below_via hst hS.1, box_via hst hS.1 L_0 hS.2.1, box_via hst hS.1 L_1 hS.2.2⟩
        replace hS := hS9 (by decide)
        clear hK9 K9 hS9
        try simp only [Act.put, List.setIfInBounds_toArray, List.set_cons_zero, List.set_cons_succ]
        clear hst
        refine late_one (i := 3) rfl (by kernel_rfl) (fun K9 hK9 => ?_)
        go_simp
        refine (toLine (grow G_1.out ?_) (by have := HN_1.out; first | omega | (simp only [cnt_ints, cnt_bytes] at this; omega))).mono ?_
        · exact Hb.out.trans (hS.1.mono Hb.out.size)
        rintro e U8 ⟨cs_t1, bs_t1, rfl, hO_t1, hst⟩
        have hzU8 := hst.size
        go_wp2_with fail
        replace cd0 := below_via hst cd0
        replace hbx := Bx.below hst hgb hbx
        replace hgb : U1.heap.size < U8.heap.size := Nat.lt_of_lt_of_le hgb hst.size
        refine hK9.out _ _ (fun _ => ?_) (fun hS9 => ?_)
        · (try dsimp only); exact ⟨below_via hst hS.1, box_via hst hS.1 L_0 hS.2.1, box_via hst hS.1 L_1 hS.2.2⟩
        replace hS := hS9 (by decide)
        clear hK9 K9 hS9
        try simp only [Act.put, List.setIfInBounds_toArray, List.set_cons_zero, List.set_cons_succ]
        clear hst
        have cd1 : Below U8.heap.size U8 U8 := Below.refl _ _
        have hO_t1 := hid hO_t1
        refine late_one (i := 4) rfl (by kernel_rfl) (fun K9 hK9 => ?_)
        go_simp
        refine (s_UndoPut (grow hO_t0.out.1 cd0) (grow hO_t1.out.1 cd1)  ).mono ?_
        rintro e U9 ⟨csz, bsz, rfl, hOz, hst⟩
        obtain ⟨a0_w0, l0_w0, k0_w0, rfl, h0_w0⟩ := open_Undo hOz.1
        have hzU9 := hst.size
        go_wp2_with fail
        have hzlt : ∀ b ∈ bsz, b < U9.heap.size := fun b hb => Rep.lt hOz.1 b hb
        have LZ : ∀ b ∈ bsz, b ≠ U1.heap.size := fun b hb => Nat.ne_of_gt (Nat.lt_of_lt_of_le hgb ((hOz.lts b hb).1))
        replace cd0 := below_via hst cd0
        replace cd1 := below_via hst cd1
        replace hbx := Bx.below hst hgb hbx
        replace hgb : U1.heap.size < U9.heap.size := Nat.lt_of_lt_of_le hgb hst.size
        refine hK9.out _ _ (fun _ => ?_) (fun hS9 => ?_)
        · (try dsimp only); exact ⟨below_via hst hS.1, box_via hst hS.1 L_0 hS.2.1, box_via hst hS.1 L_1 hS.2.2⟩
        replace hS := hS9 (by decide)
        clear hK9 K9 hS9
        try simp only [Act.put, List.setIfInBounds_toArray, List.set_cons_zero, List.set_cons_succ]
        clear hst
        have cz : Below U9.heap.size U9 U9 := Below.refl _ _
        refine late_take (i := 5) (v := ?_) rfl (by kernel_rfl) (fun _ _ _ h => h) (by rfl) ?_ (by assumption) ?_
        rotate_left
        · (intro w9 hS9; (try dsimp only at hS9); (try go_split_ands); go_simp <;> with_reducible rfl)
        try simp only [Act.put, List.setIfInBounds_toArray, List.set_cons_zero, List.set_cons_succ]
        refine late_take (i := 6) (v := ?_) rfl (by kernel_rfl) (fun _ _ _ h => h) (by rfl) ?_ (by assumption) ?_
        rotate_left
        · (intro w9 hS9; (try dsimp only at hS9); (try go_split_ands); go_simp <;> with_reducible rfl)
        try simp only [Act.put, List.setIfInBounds_toArray, List.set_cons_zero, List.set_cons_succ]
        refine late_take (i := 7) (v := ?_) rfl (by kernel_rfl) (fun _ _ _ h => h) (by rfl) ?_ (by assumption) ?_
        rotate_left
        · (intro w9 hS9; (try dsimp only at hS9); (try go_split_ands); go_simp <;> with_reducible rfl)
        try simp only [Act.put, List.setIfInBounds_toArray, List.set_cons_zero, List.set_cons_succ]
        refine late_one (i := 9) rfl (by kernel_rfl) (fun K9 hK9 => ?_)
        have bo := hbx.out; have bf := hbx.fr
        go_simp
        refine hK9.out _ _ (fun _ => ?_) (fun hS9 => ?_)
        · (try dsimp only); exact ⟨Below.setCell (hS.1) (by exact hgl) _, box_set (hS.2.1) (by exact Nat.ne_of_gt (Nat.lt_of_lt_of_le L_0 hgl)) _, box_set (hS.2.2) (by exact Nat.ne_of_gt (Nat.lt_of_lt_of_le L_1 hgl)) _⟩
        replace hS := hS9 (by decide)
        clear hK9 K9 hS9
        try simp only [Act.put, List.setIfInBounds_toArray, List.set_cons_zero, List.set_cons_succ]
        refine late_one (i := 10) rfl (by kernel_rfl) (fun K9 hK9 => ?_)
        go_simp
        refine hK9.out _ _ (fun h => absurd rfl h) (fun _ => ?_)
        clear hK9 K9
        try simp only [Act.put, List.setIfInBounds_toArray, List.set_cons_zero, List.set_cons_succ]
        refine late_done (by kernel_rfl) ?_ _
        go_wp2_with fail
        go_meet
        refine ⟨U1.heap.size, bsz, a0_w0, l0_w0, k0_w0, rfl, rfl, ?_, ?_, ?_, ?_, hS.1⟩
        · first | exact (Bx.setSame hbx 0 _).out | (have q9 := (Bx.setSame hbx 0 _).out; simpa using q9)
        · exact hgl
        · simpa using hgb
        · exact Slc.setc (Slc.grow h0_w0 cz) (fun b hb => LZ b hb) _
    · skip
      go_simp
      refine late_gen (fun U10 hU => ?_)
      have hst : Below U0.heap.size U0 U10 := by rw [hU]; exact (Below.refl _ _).alloc (Nat.le_refl _) _
      have hbx : Bx U10 U0.heap.size #[.slice none 0 0] := by rw [hU]; exact Bx.new _ _ _ rfl
      have hgb : U0.heap.size < U10.heap.size := by rw [hU]; simp
      have hgl := hS.1.size
      have hzU10 := hst.size
      clear hU
      refine hK9.out _ _ (fun _ => ?_) (fun hS9 => ?_)
      · (try dsimp only); exact ⟨below_via hst hS.1, box_via hst hS.1 L_0 hS.2.1, box_via hst hS.1 L_1 hS.2.2⟩
      replace hS := hS9 (by decide)
      clear hK9 K9 hS9
      try simp only [Act.put, List.setIfInBounds_toArray, List.set_cons_zero, List.set_cons_succ]
      clear hst
      refine late_one (i := 1) rfl (by kernel_rfl) (fun K9 hK9 => ?_)
      go_simp
      refine (toUndo (grow G_0.out ?_) (by have := HN_0.out; first | omega | (simp only [cnt_ints, cnt_bytes] at this; omega))).mono ?_
      · exact Hb.out.trans (hS.1.mono Hb.out.size)
      rintro e U11 ⟨cs_t0, bs_t0, rfl, hO_t0, hst⟩
      have hzU11 := hst.size
      go_wp2_with fail
      replace hbx := Bx.below hst hgb hbx
      replace hgb : U0.heap.size < U11.heap.size := Nat.lt_of_lt_of_le hgb hst.size
      refine hK9.out _ _ (fun _ => ?_) (fun hS9 => ?_)
      · (try dsimp only); exact ⟨below_via hst hS.1, box_via hst hS.1 L_0 hS.2.1, box_via hst hS.1 L_1 hS.2.2⟩
      replace hS := hS9 (by decide)
      clear hK9 K9 hS9
      try simp only [Act.put, List.setIfInBounds_toArray, List.set_cons_zero, List.set_cons_succ]
      clear hst
      have cd0 : Below U11.heap.size U11 U11 := Below.refl _ _
      have hO_t0 := hid hO_t0
      refine late_one (i := 3) rfl (by kernel_rfl) (fun K9 hK9 => ?_)
      go_simp
      refine (toLine (grow G_1.out ?_) (by have := HN_1.out; first | omega | (simp only [cnt_ints, cnt_bytes] at this; omega))).mono ?_
      · exact Hb.out.trans (hS.1.mono Hb.out.size)
      rintro e U12 ⟨cs_t1, bs_t1, rfl, hO_t1, hst⟩
      have hzU12 := hst.size
      go_wp2_with fail
      replace cd0 := below_via hst cd0
      replace hbx := Bx.below hst hgb hbx
      replace hgb : U0.heap.size < U12.heap.size := Nat.lt_of_lt_of_le hgb hst.size
      refine hK9.out _ _ (fun _ => ?_) (fun hS9 => ?_)
      · (try dsimp only); exact ⟨below_via hst hS.1, box_via hst hS.1 L_0 hS.2.1, box_via hst hS.1 L_1 hS.2.2⟩
      replace hS := hS9 (by decide)
      clear hK9 K9 hS9
      try simp only [Act.put, List.setIfInBounds_toArray, List.set_cons_zero, List.set_cons_succ]
      clear hst
      have cd1 : Below U12.heap.size U12 U12 := Below.refl _ _
      have hO_t1 := hid hO_t1
      refine late_one (i := 4) rfl (by kernel_rfl) (fun K9 hK9 => ?_)
      go_simp
      refine (s_UndoPut (grow hO_t0.out.1 cd0) (grow hO_t1.out.1 cd1)  ).mono ?_
      rintro e U13 ⟨csz, bsz, rfl, hOz, hst⟩
      obtain ⟨a0_w0, l0_w0, k0_w0, rfl, h0_w0⟩ := open_Undo hOz.1
      have hzU13 := hst.size
      go_wp2_with fail
      have hzlt : ∀ b ∈ bsz, b < U13.heap.size := fun b hb => Rep.lt hOz.1 b hb
      have LZ : ∀ b ∈ bsz, b ≠ U0.heap.size := fun b hb => Nat.ne_of_gt (Nat.lt_of_lt_of_le hgb ((hOz.lts b hb).1))
      replace cd0 := below_via hst cd0
      replace cd1 := below_via hst cd1
      replace hbx := Bx.below hst hgb hbx
      replace hgb : U0.heap.size < U13.heap.size := Nat.lt_of_lt_of_le hgb hst.size
      refine hK9.out _ _ (fun _ => ?_) (fun hS9 => ?_)
      · (try dsimp only); exact ⟨below_via hst hS.1, box_via hst hS.1 L_0 hS.2.1, box_via hst hS.1 L_1 hS.2.2⟩
      replace hS := hS9 (by decide)
      clear hK9 K9 hS9
      try simp only [Act.put, List.setIfInBounds_toArray, List.set_cons_zero, List.set_cons_succ]
      clear hst
      have cz : Below U13.heap.size U13 U13 := Below.refl _ _
      refine late_take (i := 5) (v := ?_) rfl (by kernel_rfl) (fun _ _ _ h => h) (by rfl) ?_ (by assumption) ?_
      rotate_left
      · (intro w9 hS9; (try dsimp only at hS9); (try go_split_ands); go_simp <;> with_reducible rfl)
      try simp only [Act.put, List.setIfInBounds_toArray, List.set_cons_zero, List.set_cons_succ]
      refine late_take (i := 6) (v := ?_) rfl (by kernel_rfl) (fun _ _ _ h => h) (by rfl) ?_ (by assumption) ?_
      rotate_left
      · (intro w9 hS9; (try dsimp only at hS9); (try go_split_ands); go_simp <;> with_reducible rfl)
      try simp only [Act.put, List.setIfInBounds_toArray, List.set_cons_zero, List.set_cons_succ]
      refine late_take (i := 7) (v := ?_) rfl (by kernel_rfl) (fun _ _ _ h => h) (by rfl) ?_ (by assumption) ?_
      rotate_left
      · (intro w9 hS9; (try dsimp only at hS9); (try go_split_ands); go_simp <;> with_reducible rfl)
      try simp only [Act.put, List.setIfInBounds_toArray, List.set_cons_zero, List.set_cons_succ]
      refine late_one (i := 9) rfl (by kernel_rfl) (fun K9 hK9 => ?_)
      have bo := hbx.out; have bf := hbx.fr
      go_simp
      refine hK9.out _ _ (fun _ => ?_) (fun hS9 => ?_)
      · (try dsimp only); exact ⟨Below.setCell (hS.1) (by exact hgl) _, box_set (hS.2.1) (by exact Nat.ne_of_gt (Nat.lt_of_lt_of_le L_0 hgl)) _, box_set (hS.2.2) (by exact Nat.ne_of_gt (Nat.lt_of_lt_of_le L_1 hgl)) _⟩
      replace hS := hS9 (by decide)
      clear hK9 K9 hS9
      try simp only [Act.put, List.setIfInBounds_toArray, List.set_cons_zero, List.set_cons_succ]
      refine late_one (i := 10) rfl (by kernel_rfl) (fun K9 hK9 => ?_)
      go_simp
      refine hK9.out _ _ (fun h => absurd rfl h) (fun _ => ?_)
      clear hK9 K9
      try simp only [Act.put, List.setIfInBounds_toArray, List.set_cons_zero, List.set_cons_succ]
      refine late_done (by kernel_rfl) ?_ _
      go_wp2_with fail
      go_meet
      refine ⟨U0.heap.size, bsz, a0_w0, l0_w0, k0_w0, rfl, rfl, ?_, ?_, ?_, ?_, hS.1⟩
      · first | exact (Bx.setSame hbx 0 _).out | (have q9 := (Bx.setSame hbx 0 _).out; simpa using q9)
      · exact hgl
      · simpa using hgb
      · exact Slc.setc (Slc.grow h0_w0 cz) (fun b hb => LZ b hb) _
  case rest =>
    obtain ⟨gb_w0, bs_w0, a0_w0, l0_w0, k0_w0, rfl, rfl, hBb, hgl, hgu, h0_w0, hp⟩ := hcut
    rename World => w3
    have hz3 := hp.size; try simp at hz3
    replace B_0 : Box w3 (w.heap.size) #[.slice a0_0 l0_0 k0_0] := Box.below hp (by omega) B_0
    replace L_0 : w.heap.size < w3.heap.size := by omega
    replace B_1 : Box w3 (w.heap.size + 1) #[.slice a0_1 l0_1 k0_1, .int .i64 d_1.At] := Box.below hp (by omega) B_1
    replace L_1 : w.heap.size + 1 < w3.heap.size := by omega
    replace Hb := hid (Hb.out.trans (hp.mono Hb.out.size))
    have P0_w0 := hid h0_w0
    have R0_w0 : Hid (∀ x ∈ bs_w0, 0 ≤ x ∧ x < w3.heap.size) := hid (P0_w0.out.lts)
    have B_w0 := hBb; have L_w0 := hgu
    clear hp hBb
    try unfold Box at B_w0
    try unfold Box at B_0
    try unfold Box at B_1
    try unfold Box at B_w0
    go_wp2_with fail
    refine (toUndo (grow G_0.out ?_) (by have := HN_0.out; first | omega | (simp only [cnt_ints, cnt_bytes] at this; omega))).mono ?_
    · (repeat (first | exact Hb.out | refine Below.alloc ?_ (by have := Hb.out.size; first | omega | (simp; done) | (simp; omega)) _))
    rintro e w4 ⟨cs_x0, bs_x0, rfl, hO, hb⟩
    have hz4 := hb.size; try simp at hz4
    have hp : Below w3.heap.size w3 w4 := below_call (by repeat (first | exact Below.refl _ _ | refine Below.alloc ?_ (by first | omega | (simp; done) | (simp; omega)) _)) hb
    replace B_0 : Box w4 (w.heap.size) #[.slice a0_0 l0_0 k0_0] := Box.below hb (by first | omega | (simp; done) | (simp; omega)) (by repeat (first | exact B_0 | (apply boxN; (focus (first | omega | (simp; done) | (simp; omega)))) | (apply Box.alloc; rotate_left; (focus (first | omega | (simp; done) | (simp; omega))))))
    replace L_0 : w.heap.size < w4.heap.size := (by first | omega | (simp; done) | (simp; omega))
    replace B_1 : Box w4 (w.heap.size + 1) #[.slice a0_1 l0_1 k0_1, .int .i64 d_1.At] := Box.below hb (by first | omega | (simp; done) | (simp; omega)) (by repeat (first | exact B_1 | (apply boxN; (focus (first | omega | (simp; done) | (simp; omega)))) | (apply Box.alloc; rotate_left; (focus (first | omega | (simp; done) | (simp; omega))))))
    replace L_1 : w.heap.size + 1 < w4.heap.size := (by first | omega | (simp; done) | (simp; omega))
    replace B_w0 : Box w4 (gb_w0) #[.slice a0_w0 l0_w0 k0_w0] := Box.below hb (by first | omega | (simp; done) | (simp; omega)) (by repeat (first | exact B_w0 | (apply boxN; (focus (first | omega | (simp; done) | (simp; omega)))) | (apply Box.alloc; rotate_left; (focus (first | omega | (simp; done) | (simp; omega))))))
    replace L_w0 : gb_w0 < w4.heap.size := (by first | omega | (simp; done) | (simp; omega))
    replace P0_w0 := hid (P0_w0.out.grow hp)
    replace Hb := hid (Hb.out.trans (hp.mono Hb.out.size))
    obtain ⟨a0_x0, l0_x0, k0_x0, rfl, h0_x0⟩ := open_Undo hO.1
    have P0_x0 := hid (parts_Undo hO h0_x0)
    have R0_x0 : Hid (∀ x ∈ bs_x0, w3.heap.size ≤ x ∧ x < w4.heap.size) := hid (fun x hx => by have := P0_x0.out.lts x hx; refine ⟨?_, this.2⟩; have := this.1; first | omega | (simp at this; omega))
    clear hb hp hO
    try unfold Box at B_0
    try unfold Box at B_1
    try unfold Box at B_w0
    go_wp2_with fail
    refine (toLine (grow G_1.out ?_) (by have := HN_1.out; first | omega | (simp only [cnt_ints, cnt_bytes] at this; omega))).mono ?_
    · (repeat (first | exact Hb.out | refine Below.alloc ?_ (by have := Hb.out.size; first | omega | (simp; done) | (simp; omega)) _))
    rintro e w5 ⟨cs_x1, bs_x1, rfl, hO, hb⟩
    have hz5 := hb.size; try simp at hz5
    have hp : Below w4.heap.size w4 w5 := below_call (by repeat (first | exact Below.refl _ _ | refine Below.alloc ?_ (by first | omega | (simp; done) | (simp; omega)) _)) hb
    replace B_0 : Box w5 (w.heap.size) #[.slice a0_0 l0_0 k0_0] := Box.below hb (by first | omega | (simp; done) | (simp; omega)) (by repeat (first | exact B_0 | (apply boxN; (focus (first | omega | (simp; done) | (simp; omega)))) | (apply Box.alloc; rotate_left; (focus (first | omega | (simp; done) | (simp; omega))))))
    replace L_0 : w.heap.size < w5.heap.size := (by first | omega | (simp; done) | (simp; omega))
    replace B_1 : Box w5 (w.heap.size + 1) #[.slice a0_1 l0_1 k0_1, .int .i64 d_1.At] := Box.below hb (by first | omega | (simp; done) | (simp; omega)) (by repeat (first | exact B_1 | (apply boxN; (focus (first | omega | (simp; done) | (simp; omega)))) | (apply Box.alloc; rotate_left; (focus (first | omega | (simp; done) | (simp; omega))))))
    replace L_1 : w.heap.size + 1 < w5.heap.size := (by first | omega | (simp; done) | (simp; omega))
    replace B_w0 : Box w5 (gb_w0) #[.slice a0_w0 l0_w0 k0_w0] := Box.below hb (by first | omega | (simp; done) | (simp; omega)) (by repeat (first | exact B_w0 | (apply boxN; (focus (first | omega | (simp; done) | (simp; omega)))) | (apply Box.alloc; rotate_left; (focus (first | omega | (simp; done) | (simp; omega))))))
    replace L_w0 : gb_w0 < w5.heap.size := (by first | omega | (simp; done) | (simp; omega))
    have B_x0 : Box w5 (w4.heap.size) #[.slice a0_x0 l0_x0 k0_x0] := Box.below hb (by first | omega | (simp; done) | (simp; omega)) (by repeat (first | exact B_x0 | (apply boxN; (focus (first | omega | (simp; done) | (simp; omega)))) | (apply Box.alloc; rotate_left; (focus (first | omega | (simp; done) | (simp; omega))))))
    have L_x0 : w4.heap.size < w5.heap.size := (by first | omega | (simp; done) | (simp; omega))
    replace P0_w0 := hid (P0_w0.out.grow hp)
    replace P0_x0 := hid (P0_x0.out.grow hp)
    replace Hb := hid (Hb.out.trans (hp.mono Hb.out.size))
    obtain ⟨a0_x1, l0_x1, k0_x1, rfl, h0_x1, h1_x1⟩ := open_Line hO.1
    have P0_x1 := hid (parts_Line hO h0_x1)
    have R0_x1 : Hid (∀ x ∈ bs_x1, w4.heap.size + 1 ≤ x ∧ x < w5.heap.size) := hid (fun x hx => by have := P0_x1.out.lts x hx; refine ⟨?_, this.2⟩; have := this.1; first | omega | (simp at this; omega))
    clear hb hp hO
    try unfold Box at B_0
    try unfold Box at B_1
    try unfold Box at B_w0
    try unfold Box at B_x0
    go_wp2_with fail
    refine (i_UndoPut (mk_Undo (d := d_0) (Slc.grow P0_x0.out.slc ?_)) (mk_Line (d := d_1) (Slc.grow P0_x1.out.slc ?_) h1_x1)  ).mono ?_
    · repeat (first | exact Below.refl _ _ | refine Below.alloc ?_ (by first | omega | (simp; done) | (simp; omega)) _)
    · repeat (first | exact Below.refl _ _ | refine Below.alloc ?_ (by first | omega | (simp; done) | (simp; omega)) _)
    rintro e w6 ⟨cs_g0, bs_g0, rfl, hO0, hb⟩
    have hz6 := hb.size; try simp at hz6
    have hp : Below w5.heap.size w5 w6 := below_call (by repeat (first | exact Below.refl _ _ | refine Below.alloc ?_ (by first | omega | (simp; done) | (simp; omega)) _)) hb
    replace B_0 : Box w6 (w.heap.size) #[.slice a0_0 l0_0 k0_0] := Box.below hb (by first | omega | (simp; done) | (simp; omega)) (by repeat (first | exact B_0 | (apply boxN; (focus (first | omega | (simp; done) | (simp; omega)))) | (apply Box.alloc; rotate_left; (focus (first | omega | (simp; done) | (simp; omega))))))
    replace L_0 : w.heap.size < w6.heap.size := (by first | omega | (simp; done) | (simp; omega))
    replace B_1 : Box w6 (w.heap.size + 1) #[.slice a0_1 l0_1 k0_1, .int .i64 d_1.At] := Box.below hb (by first | omega | (simp; done) | (simp; omega)) (by repeat (first | exact B_1 | (apply boxN; (focus (first | omega | (simp; done) | (simp; omega)))) | (apply Box.alloc; rotate_left; (focus (first | omega | (simp; done) | (simp; omega))))))
    replace L_1 : w.heap.size + 1 < w6.heap.size := (by first | omega | (simp; done) | (simp; omega))
    replace B_w0 : Box w6 (gb_w0) #[.slice a0_w0 l0_w0 k0_w0] := Box.below hb (by first | omega | (simp; done) | (simp; omega)) (by repeat (first | exact B_w0 | (apply boxN; (focus (first | omega | (simp; done) | (simp; omega)))) | (apply Box.alloc; rotate_left; (focus (first | omega | (simp; done) | (simp; omega))))))
    replace L_w0 : gb_w0 < w6.heap.size := (by first | omega | (simp; done) | (simp; omega))
    replace B_x0 : Box w6 (w4.heap.size) #[.slice a0_x0 l0_x0 k0_x0] := Box.below hb (by first | omega | (simp; done) | (simp; omega)) (by repeat (first | exact B_x0 | (apply boxN; (focus (first | omega | (simp; done) | (simp; omega)))) | (apply Box.alloc; rotate_left; (focus (first | omega | (simp; done) | (simp; omega))))))
    replace L_x0 : w4.heap.size < w6.heap.size := (by first | omega | (simp; done) | (simp; omega))
    have B_x1 : Box w6 (w5.heap.size) #[.slice a0_x1 l0_x1 k0_x1, .int .i64 d_1.At] := Box.below hb (by first | omega | (simp; done) | (simp; omega)) (by repeat (first | exact B_x1 | (apply boxN; (focus (first | omega | (simp; done) | (simp; omega)))) | (apply Box.alloc; rotate_left; (focus (first | omega | (simp; done) | (simp; omega))))))
    have L_x1 : w5.heap.size < w6.heap.size := (by first | omega | (simp; done) | (simp; omega))
    replace P0_w0 := hid (P0_w0.out.grow hp)
    replace P0_x0 := hid (P0_x0.out.grow hp)
    replace P0_x1 := hid (P0_x1.out.grow hp)
    replace Hb := hid (Hb.out.trans (hp.mono Hb.out.size))
    obtain ⟨a0_g0, l0_g0, k0_g0, rfl, h0_g0⟩ := open_Undo hO0.1
    have P0_g0 := hid (parts_Undo hO0 h0_g0)
    have R0_g0 : Hid (∀ x ∈ bs_g0, w5.heap.size + 1 ≤ x ∧ x < w6.heap.size) := hid (fun x hx => by have := P0_g0.out.lts x hx; refine ⟨?_, this.2⟩; have := this.1; first | omega | (simp at this; omega))
    clear hb hp
    try unfold Box at B_0
    try unfold Box at B_1
    try unfold Box at B_w0
    try unfold Box at B_x0
    try unfold Box at B_x1
    go_wp2_with fail
    refine (eqUndo (mk_Undo (d := (undoPut d_0 d_1)) (Slc.grow P0_g0.out.slc ?_)) (mk_Undo (d := (undoPut d_0 d_1)) (Slc.grow P0_w0.out ?_))).mono ?_
    · repeat (first | exact Below.refl _ _ | refine Below.alloc ?_ (by first | omega | (simp; done) | (simp; omega)) _)
    · repeat (first | exact Below.refl _ _ | refine Below.alloc ?_ (by first | omega | (simp; done) | (simp; omega)) _)
    rintro e w7 ⟨rfl, hb⟩
    have hz7 := hb.size; try simp at hz7
    have hp : Below w6.heap.size w6 w7 := below_call (by repeat (first | exact Below.refl _ _ | refine Below.alloc ?_ (by first | omega | (simp; done) | (simp; omega)) _)) hb
    replace B_0 : Box w7 (w.heap.size) #[.slice a0_0 l0_0 k0_0] := Box.below hb (by first | omega | (simp; done) | (simp; omega)) (by repeat (first | exact B_0 | (apply boxN; (focus (first | omega | (simp; done) | (simp; omega)))) | (apply Box.alloc; rotate_left; (focus (first | omega | (simp; done) | (simp; omega))))))
    replace L_0 : w.heap.size < w7.heap.size := (by first | omega | (simp; done) | (simp; omega))
    replace B_1 : Box w7 (w.heap.size + 1) #[.slice a0_1 l0_1 k0_1, .int .i64 d_1.At] := Box.below hb (by first | omega | (simp; done) | (simp; omega)) (by repeat (first | exact B_1 | (apply boxN; (focus (first | omega | (simp; done) | (simp; omega)))) | (apply Box.alloc; rotate_left; (focus (first | omega | (simp; done) | (simp; omega))))))
    replace L_1 : w.heap.size + 1 < w7.heap.size := (by first | omega | (simp; done) | (simp; omega))
    replace B_w0 : Box w7 (gb_w0) #[.slice a0_w0 l0_w0 k0_w0] := Box.below hb (by first | omega | (simp; done) | (simp; omega)) (by repeat (first | exact B_w0 | (apply boxN; (focus (first | omega | (simp; done) | (simp; omega)))) | (apply Box.alloc; rotate_left; (focus (first | omega | (simp; done) | (simp; omega))))))
    replace L_w0 : gb_w0 < w7.heap.size := (by first | omega | (simp; done) | (simp; omega))
    replace B_x0 : Box w7 (w4.heap.size) #[.slice a0_x0 l0_x0 k0_x0] := Box.below hb (by first | omega | (simp; done) | (simp; omega)) (by repeat (first | exact B_x0 | (apply boxN; (focus (first | omega | (simp; done) | (simp; omega)))) | (apply Box.alloc; rotate_left; (focus (first | omega | (simp; done) | (simp; omega))))))
    replace L_x0 : w4.heap.size < w7.heap.size := (by first | omega | (simp; done) | (simp; omega))
    replace B_x1 : Box w7 (w5.heap.size) #[.slice a0_x1 l0_x1 k0_x1, .int .i64 d_1.At] := Box.below hb (by first | omega | (simp; done) | (simp; omega)) (by repeat (first | exact B_x1 | (apply boxN; (focus (first | omega | (simp; done) | (simp; omega)))) | (apply Box.alloc; rotate_left; (focus (first | omega | (simp; done) | (simp; omega))))))
    replace L_x1 : w5.heap.size < w7.heap.size := (by first | omega | (simp; done) | (simp; omega))
    have B_g0 : Box w7 (w6.heap.size) #[.slice a0_g0 l0_g0 k0_g0] := Box.below hb (by first | omega | (simp; done) | (simp; omega)) (by repeat (first | exact B_g0 | (apply boxN; (focus (first | omega | (simp; done) | (simp; omega)))) | (apply Box.alloc; rotate_left; (focus (first | omega | (simp; done) | (simp; omega))))))
    have L_g0 : w6.heap.size < w7.heap.size := (by first | omega | (simp; done) | (simp; omega))
    replace P0_w0 := hid (P0_w0.out.grow hp)
    replace P0_x0 := hid (P0_x0.out.grow hp)
    replace P0_x1 := hid (P0_x1.out.grow hp)
    replace P0_g0 := hid (P0_g0.out.grow hp)
    replace Hb := hid (Hb.out.trans (hp.mono Hb.out.size))
    clear hb hp
    try unfold Box at B_0
    try unfold Box at B_1
    try unfold Box at B_w0
    try unfold Box at B_x0
    try unfold Box at B_x1
    try unfold Box at B_g0
    try unfold Box at B_0
    try unfold Box at B_1
    try unfold Box at B_w0
    try unfold Box at B_x0
    try unfold Box at B_x1
    try unfold Box at B_g0
    go_wp2_with fail
    go_region_held3 (fun W => Below w7.heap.size w7 W ∧ (∀ o, W.cell? ⟨w.heap.size, o, none⟩ = (#[.slice a0_0 l0_0 k0_0] : Array Value)[o]?) ∧ (∀ o, W.cell? ⟨w.heap.size + 1, o, none⟩ = (#[.slice a0_1 l0_1 k0_1, .int .i64 d_1.At] : Array Value)[o]?) ∧ (∀ o, W.cell? ⟨gb_w0, o, none⟩ = (#[.slice a0_w0 l0_w0 k0_w0] : Array Value)[o]?) ∧ (∀ o, W.cell? ⟨w4.heap.size, o, none⟩ = (#[.slice a0_x0 l0_x0 k0_x0] : Array Value)[o]?) ∧ (∀ o, W.cell? ⟨w5.heap.size, o, none⟩ = (#[.slice a0_x1 l0_x1 k0_x1, .int .i64 d_1.At] : Array Value)[o]?) ∧ (∀ o, W.cell? ⟨w6.heap.size, o, none⟩ = (#[.slice a0_g0 l0_g0 k0_g0] : Array Value)[o]?)) (first | exact ⟨(Below.refl _ _).drew, B_0, B_1, B_w0, B_x0, B_x1, B_g0⟩ | (go_split_ands; exact ⟨Below.trans (by assumption) (Below.mono hb2 (Below.size (by assumption))), keep_box hb2 (by assumption) (by assumption) (by omega), keep_box hb2 (by assumption) (by assumption) (by omega), keep_box hb2 (by assumption) (by assumption) (by omega), keep_box hb2 (by assumption) (by assumption) (by omega), keep_box hb2 (by assumption) (by assumption) (by omega), keep_box hb2 (by assumption) (by assumption) (by omega)⟩) | (go_split_ands; exact ⟨Below.trans (by assumption) (Below.mono hb1 (Below.size (by assumption))), keep_box hb1 (by assumption) (by assumption) (by omega), keep_box hb1 (by assumption) (by assumption) (by omega), keep_box hb1 (by assumption) (by assumption) (by omega), keep_box hb1 (by assumption) (by assumption) (by omega), keep_box hb1 (by assumption) (by assumption) (by omega), keep_box hb1 (by assumption) (by assumption) (by omega)⟩)) (first | (go_at_call 24; refine (toUndo (grow G_0.out ?_) (by have := HN_0.out; first | omega | (simp only [cnt_ints, cnt_bytes] at this; omega))).mono ?_; (go_split_ands; exact Hb.out.trans (Below.mono (by assumption) Hb.out.size)); rintro e wa8 ⟨cs_e3, bs_e3, rfl, hO, hb1⟩; obtain ⟨a0_e3, l0_e3, k0_e3, rfl, h0_e3⟩ := open_Undo hO.1) | (go_at_call 26; refine (eqUndo (mk_Undo (d := d_0) (Slc.grow P0_x0.out.slc ?_)) hO.1).mono ?_; (go_split_ands; exact (by assumption)); rintro e w8 ⟨rfl, hb2⟩))
    have hp : Below w7.heap.size w7 w8 := by go_split_ands; assumption
    have hz8 := hp.size; try simp at hz8
    replace B_0 : Box w8 (w.heap.size) #[.slice a0_0 l0_0 k0_0] := Box.below hp (by omega) B_0
    replace L_0 : w.heap.size < w8.heap.size := by omega
    replace B_1 : Box w8 (w.heap.size + 1) #[.slice a0_1 l0_1 k0_1, .int .i64 d_1.At] := Box.below hp (by omega) B_1
    replace L_1 : w.heap.size + 1 < w8.heap.size := by omega
    replace B_w0 : Box w8 (gb_w0) #[.slice a0_w0 l0_w0 k0_w0] := Box.below hp (by omega) B_w0
    replace L_w0 : gb_w0 < w8.heap.size := by omega
    replace B_x0 : Box w8 (w4.heap.size) #[.slice a0_x0 l0_x0 k0_x0] := Box.below hp (by omega) B_x0
    replace L_x0 : w4.heap.size < w8.heap.size := by omega
    replace B_x1 : Box w8 (w5.heap.size) #[.slice a0_x1 l0_x1 k0_x1, .int .i64 d_1.At] := Box.below hp (by omega) B_x1
    replace L_x1 : w5.heap.size < w8.heap.size := by omega
    replace B_g0 : Box w8 (w6.heap.size) #[.slice a0_g0 l0_g0 k0_g0] := Box.below hp (by omega) B_g0
    replace L_g0 : w6.heap.size < w8.heap.size := by omega
    replace P0_w0 := hid (P0_w0.out.grow hp)
    replace P0_x0 := hid (P0_x0.out.grow hp)
    replace P0_x1 := hid (P0_x1.out.grow hp)
    replace P0_g0 := hid (P0_g0.out.grow hp)
    replace Hb := hid (Hb.out.trans (hp.mono Hb.out.size))
    clear hp hb1 hb2 hO
    try unfold Box at B_0
    try unfold Box at B_1
    try unfold Box at B_w0
    try unfold Box at B_x0
    try unfold Box at B_x1
    try unfold Box at B_g0
    go_wp2_with fail
    go_region_held3 (fun W => Below w8.heap.size w8 W ∧ (∀ o, W.cell? ⟨w.heap.size, o, none⟩ = (#[.slice a0_0 l0_0 k0_0] : Array Value)[o]?) ∧ (∀ o, W.cell? ⟨w.heap.size + 1, o, none⟩ = (#[.slice a0_1 l0_1 k0_1, .int .i64 d_1.At] : Array Value)[o]?) ∧ (∀ o, W.cell? ⟨gb_w0, o, none⟩ = (#[.slice a0_w0 l0_w0 k0_w0] : Array Value)[o]?) ∧ (∀ o, W.cell? ⟨w4.heap.size, o, none⟩ = (#[.slice a0_x0 l0_x0 k0_x0] : Array Value)[o]?) ∧ (∀ o, W.cell? ⟨w5.heap.size, o, none⟩ = (#[.slice a0_x1 l0_x1 k0_x1, .int .i64 d_1.At] : Array Value)[o]?) ∧ (∀ o, W.cell? ⟨w6.heap.size, o, none⟩ = (#[.slice a0_g0 l0_g0 k0_g0] : Array Value)[o]?)) (first | exact ⟨(Below.refl _ _).drew, B_0, B_1, B_w0, B_x0, B_x1, B_g0⟩ | (go_split_ands; exact ⟨Below.trans (by assumption) (Below.mono hb2 (Below.size (by assumption))), keep_box hb2 (by assumption) (by assumption) (by omega), keep_box hb2 (by assumption) (by assumption) (by omega), keep_box hb2 (by assumption) (by assumption) (by omega), keep_box hb2 (by assumption) (by assumption) (by omega), keep_box hb2 (by assumption) (by assumption) (by omega), keep_box hb2 (by assumption) (by assumption) (by omega)⟩) | (go_split_ands; exact ⟨Below.trans (by assumption) (Below.mono hb1 (Below.size (by assumption))), keep_box hb1 (by assumption) (by assumption) (by omega), keep_box hb1 (by assumption) (by assumption) (by omega), keep_box hb1 (by assumption) (by assumption) (by omega), keep_box hb1 (by assumption) (by assumption) (by omega), keep_box hb1 (by assumption) (by assumption) (by omega), keep_box hb1 (by assumption) (by assumption) (by omega)⟩)) (first | (go_at_call 17; refine (toLine (grow G_1.out ?_) (by have := HN_1.out; first | omega | (simp only [cnt_ints, cnt_bytes] at this; omega))).mono ?_; (go_split_ands; exact Hb.out.trans (Below.mono (by assumption) Hb.out.size)); rintro e wa9 ⟨cs_e4, bs_e4, rfl, hO, hb1⟩; obtain ⟨a0_e4, l0_e4, k0_e4, rfl, h0_e4, h1_e4⟩ := open_Line hO.1) | (go_at_call 19; refine (eqLine (mk_Line (d := d_1) (Slc.grow P0_x1.out.slc ?_) h1_x1) hO.1).mono ?_; (go_split_ands; exact (by assumption)); rintro e w9 ⟨rfl, hb2⟩))
    have hp : Below w8.heap.size w8 w9 := by go_split_ands; assumption
    have hz9 := hp.size; try simp at hz9
    replace B_0 : Box w9 (w.heap.size) #[.slice a0_0 l0_0 k0_0] := Box.below hp (by omega) B_0
    replace L_0 : w.heap.size < w9.heap.size := by omega
    replace B_1 : Box w9 (w.heap.size + 1) #[.slice a0_1 l0_1 k0_1, .int .i64 d_1.At] := Box.below hp (by omega) B_1
    replace L_1 : w.heap.size + 1 < w9.heap.size := by omega
    replace B_w0 : Box w9 (gb_w0) #[.slice a0_w0 l0_w0 k0_w0] := Box.below hp (by omega) B_w0
    replace L_w0 : gb_w0 < w9.heap.size := by omega
    replace B_x0 : Box w9 (w4.heap.size) #[.slice a0_x0 l0_x0 k0_x0] := Box.below hp (by omega) B_x0
    replace L_x0 : w4.heap.size < w9.heap.size := by omega
    replace B_x1 : Box w9 (w5.heap.size) #[.slice a0_x1 l0_x1 k0_x1, .int .i64 d_1.At] := Box.below hp (by omega) B_x1
    replace L_x1 : w5.heap.size < w9.heap.size := by omega
    replace B_g0 : Box w9 (w6.heap.size) #[.slice a0_g0 l0_g0 k0_g0] := Box.below hp (by omega) B_g0
    replace L_g0 : w6.heap.size < w9.heap.size := by omega
    replace P0_w0 := hid (P0_w0.out.grow hp)
    replace P0_x0 := hid (P0_x0.out.grow hp)
    replace P0_x1 := hid (P0_x1.out.grow hp)
    replace P0_g0 := hid (P0_g0.out.grow hp)
    replace Hb := hid (Hb.out.trans (hp.mono Hb.out.size))
    clear hp hb1 hb2 hO
    try unfold Box at B_0
    try unfold Box at B_1
    try unfold Box at B_w0
    try unfold Box at B_x0
    try unfold Box at B_x1
    try unfold Box at B_g0
    have HK_x0 : Hid (1 + (d_0).nkv ≤ topK) := hid (by have h_0 := HN_0.out; have k_0 := nkv_le_Undo d_0; have h_1 := HN_1.out; have k_1 := nkv_le_Line d_1; unfold topK; omega)
    go_wp2_with fail
    refine (markUndo (d := d_0) P0_x0.out  (1) HK_x0.out).mono ?_
    rintro e w10 ⟨rfl, hO0, hT⟩
    have hz10 := hT.size
    replace B_0 : Box w10 (w.heap.size) #[.slice a0_0 l0_0 k0_0] := Box.tch hT (by omega) (fun hm => by have := R0_x0.out _ hm; omega) B_0
    replace L_0 : w.heap.size < w10.heap.size := by omega
    replace B_1 : Box w10 (w.heap.size + 1) #[.slice a0_1 l0_1 k0_1, .int .i64 d_1.At] := Box.tch hT (by omega) (fun hm => by have := R0_x0.out _ hm; omega) B_1
    replace L_1 : w.heap.size + 1 < w10.heap.size := by omega
    replace B_w0 : Box w10 (gb_w0) #[.slice a0_w0 l0_w0 k0_w0] := Box.tch hT (by omega) (fun hm => by have := R0_x0.out _ hm; omega) B_w0
    replace L_w0 : gb_w0 < w10.heap.size := by omega
    replace B_x0 : Box w10 (w4.heap.size) #[.slice a0_x0 l0_x0 k0_x0] := Box.tch hT (by omega) (fun hm => by have := R0_x0.out _ hm; omega) B_x0
    replace L_x0 : w4.heap.size < w10.heap.size := by omega
    replace B_x1 : Box w10 (w5.heap.size) #[.slice a0_x1 l0_x1 k0_x1, .int .i64 d_1.At] := Box.tch hT (by omega) (fun hm => by have := R0_x0.out _ hm; omega) B_x1
    replace L_x1 : w5.heap.size < w10.heap.size := by omega
    replace B_g0 : Box w10 (w6.heap.size) #[.slice a0_g0 l0_g0 k0_g0] := Box.tch hT (by omega) (fun hm => by have := R0_x0.out _ hm; omega) B_g0
    replace L_g0 : w6.heap.size < w10.heap.size := by omega
    replace P0_w0 := hid (P0_w0.out.tch hT (fun x hx hm => by have := R0_w0.out x hx; have := R0_x0.out x hm; omega))
    replace P0_x1 := hid (P0_x1.out.tch hT (fun x hx hm => by have := R0_x1.out x hx; have := R0_x0.out x hm; omega))
    replace P0_g0 := hid (P0_g0.out.tch hT (fun x hx hm => by have := R0_g0.out x hx; have := R0_x0.out x hm; omega))
    replace Hb := hid (Hb.out.trans (hT.below Hb.out.size (fun x hm => by have := R0_x0.out x hm; omega)))
    replace P0_x0 := hid hO0
    clear hT hO0
    try unfold Box at B_0
    try unfold Box at B_1
    try unfold Box at B_w0
    try unfold Box at B_x0
    try unfold Box at B_x1
    try unfold Box at B_g0
    have HK_x1 : Hid (1 + (d_0).nkv + (d_1).nkv ≤ topK) := hid (by have h_0 := HN_0.out; have k_0 := nkv_le_Undo d_0; have h_1 := HN_1.out; have k_1 := nkv_le_Line d_1; unfold topK; omega)
    go_wp2_with fail
    refine (markLine (d := d_1) P0_x1.out  (1 + (d_0).nkv) HK_x1.out).mono ?_
    rintro e w11 ⟨rfl, hO0, hT⟩
    have hz11 := hT.size
    replace B_0 : Box w11 (w.heap.size) #[.slice a0_0 l0_0 k0_0] := Box.tch hT (by omega) (fun hm => by have := R0_x1.out _ hm; omega) B_0
    replace L_0 : w.heap.size < w11.heap.size := by omega
    replace B_1 : Box w11 (w.heap.size + 1) #[.slice a0_1 l0_1 k0_1, .int .i64 d_1.At] := Box.tch hT (by omega) (fun hm => by have := R0_x1.out _ hm; omega) B_1
    replace L_1 : w.heap.size + 1 < w11.heap.size := by omega
    replace B_w0 : Box w11 (gb_w0) #[.slice a0_w0 l0_w0 k0_w0] := Box.tch hT (by omega) (fun hm => by have := R0_x1.out _ hm; omega) B_w0
    replace L_w0 : gb_w0 < w11.heap.size := by omega
    replace B_x0 : Box w11 (w4.heap.size) #[.slice a0_x0 l0_x0 k0_x0] := Box.tch hT (by omega) (fun hm => by have := R0_x1.out _ hm; omega) B_x0
    replace L_x0 : w4.heap.size < w11.heap.size := by omega
    replace B_x1 : Box w11 (w5.heap.size) #[.slice a0_x1 l0_x1 k0_x1, .int .i64 d_1.At] := Box.tch hT (by omega) (fun hm => by have := R0_x1.out _ hm; omega) B_x1
    replace L_x1 : w5.heap.size < w11.heap.size := by omega
    replace B_g0 : Box w11 (w6.heap.size) #[.slice a0_g0 l0_g0 k0_g0] := Box.tch hT (by omega) (fun hm => by have := R0_x1.out _ hm; omega) B_g0
    replace L_g0 : w6.heap.size < w11.heap.size := by omega
    replace P0_w0 := hid (P0_w0.out.tch hT (fun x hx hm => by have := R0_w0.out x hx; have := R0_x1.out x hm; omega))
    replace P0_x0 := hid (P0_x0.out.tch hT (fun x hx hm => by have := R0_x0.out x hx; have := R0_x1.out x hm; omega))
    replace P0_g0 := hid (P0_g0.out.tch hT (fun x hx hm => by have := R0_g0.out x hx; have := R0_x1.out x hm; omega))
    replace Hb := hid (Hb.out.trans (hT.below Hb.out.size (fun x hm => by have := R0_x1.out x hm; omega)))
    replace P0_x1 := hid hO0
    clear hT hO0
    try unfold Box at B_0
    try unfold Box at B_1
    try unfold Box at B_w0
    try unfold Box at B_x0
    try unfold Box at B_x1
    try unfold Box at B_g0
    go_wp2_with fail
    refine (eqUndo (mk_Undo (d := (undoPut d_0 d_1)) (Slc.grow P0_g0.out.slc ?_)) (mk_Undo (d := (undoPut d_0 d_1)) (Slc.grow P0_w0.out ?_))).mono ?_
    · repeat (first | exact Below.refl _ _ | refine Below.alloc ?_ (by first | omega | (simp; done) | (simp; omega)) _)
    · repeat (first | exact Below.refl _ _ | refine Below.alloc ?_ (by first | omega | (simp; done) | (simp; omega)) _)
    rintro e w12 ⟨rfl, hb⟩
    have hz12 := hb.size; try simp at hz12
    have hp : Below w11.heap.size w11 w12 := below_call (by repeat (first | exact Below.refl _ _ | refine Below.alloc ?_ (by first | omega | (simp; done) | (simp; omega)) _)) hb
    replace B_0 : Box w12 (w.heap.size) #[.slice a0_0 l0_0 k0_0] := Box.below hb (by first | omega | (simp; done) | (simp; omega)) (by repeat (first | exact B_0 | (apply boxN; (focus (first | omega | (simp; done) | (simp; omega)))) | (apply Box.alloc; rotate_left; (focus (first | omega | (simp; done) | (simp; omega))))))
    replace L_0 : w.heap.size < w12.heap.size := (by first | omega | (simp; done) | (simp; omega))
    replace B_1 : Box w12 (w.heap.size + 1) #[.slice a0_1 l0_1 k0_1, .int .i64 d_1.At] := Box.below hb (by first | omega | (simp; done) | (simp; omega)) (by repeat (first | exact B_1 | (apply boxN; (focus (first | omega | (simp; done) | (simp; omega)))) | (apply Box.alloc; rotate_left; (focus (first | omega | (simp; done) | (simp; omega))))))
    replace L_1 : w.heap.size + 1 < w12.heap.size := (by first | omega | (simp; done) | (simp; omega))
    replace B_w0 : Box w12 (gb_w0) #[.slice a0_w0 l0_w0 k0_w0] := Box.below hb (by first | omega | (simp; done) | (simp; omega)) (by repeat (first | exact B_w0 | (apply boxN; (focus (first | omega | (simp; done) | (simp; omega)))) | (apply Box.alloc; rotate_left; (focus (first | omega | (simp; done) | (simp; omega))))))
    replace L_w0 : gb_w0 < w12.heap.size := (by first | omega | (simp; done) | (simp; omega))
    replace B_x0 : Box w12 (w4.heap.size) #[.slice a0_x0 l0_x0 k0_x0] := Box.below hb (by first | omega | (simp; done) | (simp; omega)) (by repeat (first | exact B_x0 | (apply boxN; (focus (first | omega | (simp; done) | (simp; omega)))) | (apply Box.alloc; rotate_left; (focus (first | omega | (simp; done) | (simp; omega))))))
    replace L_x0 : w4.heap.size < w12.heap.size := (by first | omega | (simp; done) | (simp; omega))
    replace B_x1 : Box w12 (w5.heap.size) #[.slice a0_x1 l0_x1 k0_x1, .int .i64 d_1.At] := Box.below hb (by first | omega | (simp; done) | (simp; omega)) (by repeat (first | exact B_x1 | (apply boxN; (focus (first | omega | (simp; done) | (simp; omega)))) | (apply Box.alloc; rotate_left; (focus (first | omega | (simp; done) | (simp; omega))))))
    replace L_x1 : w5.heap.size < w12.heap.size := (by first | omega | (simp; done) | (simp; omega))
    replace B_g0 : Box w12 (w6.heap.size) #[.slice a0_g0 l0_g0 k0_g0] := Box.below hb (by first | omega | (simp; done) | (simp; omega)) (by repeat (first | exact B_g0 | (apply boxN; (focus (first | omega | (simp; done) | (simp; omega)))) | (apply Box.alloc; rotate_left; (focus (first | omega | (simp; done) | (simp; omega))))))
    replace L_g0 : w6.heap.size < w12.heap.size := (by first | omega | (simp; done) | (simp; omega))
    replace P0_w0 := hid (P0_w0.out.grow hp)
    replace P0_x0 := hid (P0_x0.out.grow hp)
    replace P0_x1 := hid (P0_x1.out.grow hp)
    replace P0_g0 := hid (P0_g0.out.grow hp)
    replace Hb := hid (Hb.out.trans (hp.mono Hb.out.size))
    clear hb hp
    try unfold Box at B_0
    try unfold Box at B_1
    try unfold Box at B_w0
    try unfold Box at B_x0
    try unfold Box at B_x1
    try unfold Box at B_g0
    try unfold Box at B_0
    try unfold Box at B_1
    try unfold Box at B_w0
    try unfold Box at B_x0
    try unfold Box at B_x1
    try unfold Box at B_g0
    have HK_g0 : Hid (1 + ((undoPut d_0 d_1)).nkv ≤ topK) := hid (by exact undoPut_top _ _)
    go_wp2_with fail
    refine (markUndo (d := (undoPut d_0 d_1)) P0_g0.out  (1) HK_g0.out).mono ?_
    rintro e w13 ⟨rfl, hO0, hT⟩
    have hz13 := hT.size
    replace B_0 : Box w13 (w.heap.size) #[.slice a0_0 l0_0 k0_0] := Box.tch hT (by omega) (fun hm => by have := R0_g0.out _ hm; omega) B_0
    replace L_0 : w.heap.size < w13.heap.size := by omega
    replace B_1 : Box w13 (w.heap.size + 1) #[.slice a0_1 l0_1 k0_1, .int .i64 d_1.At] := Box.tch hT (by omega) (fun hm => by have := R0_g0.out _ hm; omega) B_1
    replace L_1 : w.heap.size + 1 < w13.heap.size := by omega
    replace B_w0 : Box w13 (gb_w0) #[.slice a0_w0 l0_w0 k0_w0] := Box.tch hT (by omega) (fun hm => by have := R0_g0.out _ hm; omega) B_w0
    replace L_w0 : gb_w0 < w13.heap.size := by omega
    replace B_x0 : Box w13 (w4.heap.size) #[.slice a0_x0 l0_x0 k0_x0] := Box.tch hT (by omega) (fun hm => by have := R0_g0.out _ hm; omega) B_x0
    replace L_x0 : w4.heap.size < w13.heap.size := by omega
    replace B_x1 : Box w13 (w5.heap.size) #[.slice a0_x1 l0_x1 k0_x1, .int .i64 d_1.At] := Box.tch hT (by omega) (fun hm => by have := R0_g0.out _ hm; omega) B_x1
    replace L_x1 : w5.heap.size < w13.heap.size := by omega
    replace B_g0 : Box w13 (w6.heap.size) #[.slice a0_g0 l0_g0 k0_g0] := Box.tch hT (by omega) (fun hm => by have := R0_g0.out _ hm; omega) B_g0
    replace L_g0 : w6.heap.size < w13.heap.size := by omega
    replace P0_w0 := hid (P0_w0.out.tch hT (fun x hx hm => by have := R0_w0.out x hx; have := R0_g0.out x hm; omega))
    replace P0_x0 := hid (P0_x0.out.tch hT (fun x hx hm => by have := R0_x0.out x hx; have := R0_g0.out x hm; omega))
    replace P0_x1 := hid (P0_x1.out.tch hT (fun x hx hm => by have := R0_x1.out x hx; have := R0_g0.out x hm; omega))
    replace Hb := hid (Hb.out.trans (hT.below Hb.out.size (fun x hm => by have := R0_g0.out x hm; omega)))
    replace P0_g0 := hid hO0
    clear hT hO0
    try unfold Box at B_0
    try unfold Box at B_1
    try unfold Box at B_w0
    try unfold Box at B_x0
    try unfold Box at B_x1
    try unfold Box at B_g0
    go_wp2_with fail
    refine (heldUndo (d := (undoPut d_0 d_1)) (1) (mk_Undo (d := (((undoPut d_0 d_1)).mkv (1))) (Slc.grow P0_g0.out.slc ?_)) (by have := HK_g0.out; omega)).mono ?_
    · repeat (first | exact Below.refl _ _ | refine Below.alloc ?_ (by first | omega | (simp; done) | (simp; omega)) _)
    rintro e w14 ⟨rfl, hb⟩
    have hz14 := hb.size; try simp at hz14
    have hp : Below w13.heap.size w13 w14 := below_call (by repeat (first | exact Below.refl _ _ | refine Below.alloc ?_ (by first | omega | (simp; done) | (simp; omega)) _)) hb
    replace B_0 : Box w14 (w.heap.size) #[.slice a0_0 l0_0 k0_0] := Box.below hb (by first | omega | (simp; done) | (simp; omega)) (by repeat (first | exact B_0 | (apply boxN; (focus (first | omega | (simp; done) | (simp; omega)))) | (apply Box.alloc; rotate_left; (focus (first | omega | (simp; done) | (simp; omega))))))
    replace L_0 : w.heap.size < w14.heap.size := (by first | omega | (simp; done) | (simp; omega))
    replace B_1 : Box w14 (w.heap.size + 1) #[.slice a0_1 l0_1 k0_1, .int .i64 d_1.At] := Box.below hb (by first | omega | (simp; done) | (simp; omega)) (by repeat (first | exact B_1 | (apply boxN; (focus (first | omega | (simp; done) | (simp; omega)))) | (apply Box.alloc; rotate_left; (focus (first | omega | (simp; done) | (simp; omega))))))
    replace L_1 : w.heap.size + 1 < w14.heap.size := (by first | omega | (simp; done) | (simp; omega))
    replace B_w0 : Box w14 (gb_w0) #[.slice a0_w0 l0_w0 k0_w0] := Box.below hb (by first | omega | (simp; done) | (simp; omega)) (by repeat (first | exact B_w0 | (apply boxN; (focus (first | omega | (simp; done) | (simp; omega)))) | (apply Box.alloc; rotate_left; (focus (first | omega | (simp; done) | (simp; omega))))))
    replace L_w0 : gb_w0 < w14.heap.size := (by first | omega | (simp; done) | (simp; omega))
    replace B_x0 : Box w14 (w4.heap.size) #[.slice a0_x0 l0_x0 k0_x0] := Box.below hb (by first | omega | (simp; done) | (simp; omega)) (by repeat (first | exact B_x0 | (apply boxN; (focus (first | omega | (simp; done) | (simp; omega)))) | (apply Box.alloc; rotate_left; (focus (first | omega | (simp; done) | (simp; omega))))))
    replace L_x0 : w4.heap.size < w14.heap.size := (by first | omega | (simp; done) | (simp; omega))
    replace B_x1 : Box w14 (w5.heap.size) #[.slice a0_x1 l0_x1 k0_x1, .int .i64 d_1.At] := Box.below hb (by first | omega | (simp; done) | (simp; omega)) (by repeat (first | exact B_x1 | (apply boxN; (focus (first | omega | (simp; done) | (simp; omega)))) | (apply Box.alloc; rotate_left; (focus (first | omega | (simp; done) | (simp; omega))))))
    replace L_x1 : w5.heap.size < w14.heap.size := (by first | omega | (simp; done) | (simp; omega))
    replace B_g0 : Box w14 (w6.heap.size) #[.slice a0_g0 l0_g0 k0_g0] := Box.below hb (by first | omega | (simp; done) | (simp; omega)) (by repeat (first | exact B_g0 | (apply boxN; (focus (first | omega | (simp; done) | (simp; omega)))) | (apply Box.alloc; rotate_left; (focus (first | omega | (simp; done) | (simp; omega))))))
    replace L_g0 : w6.heap.size < w14.heap.size := (by first | omega | (simp; done) | (simp; omega))
    replace P0_w0 := hid (P0_w0.out.grow hp)
    replace P0_x0 := hid (P0_x0.out.grow hp)
    replace P0_x1 := hid (P0_x1.out.grow hp)
    replace P0_g0 := hid (P0_g0.out.grow hp)
    replace Hb := hid (Hb.out.trans (hp.mono Hb.out.size))
    clear hb hp
    try unfold Box at B_0
    try unfold Box at B_1
    try unfold Box at B_w0
    try unfold Box at B_x0
    try unfold Box at B_x1
    try unfold Box at B_g0
    try unfold Box at B_0
    try unfold Box at B_1
    try unfold Box at B_w0
    try unfold Box at B_x0
    try unfold Box at B_x1
    try unfold Box at B_g0
    try unfold Box at B_0
    try unfold Box at B_1
    try unfold Box at B_w0
    try unfold Box at B_x0
    try unfold Box at B_x1
    try unfold Box at B_g0
    go_upto_region 31 with fail
    go_cut [15, 16] (fun v15 v16 W => ∃ (gb : Nat) (bs_h0 : List Nat) (a0_h0 : Option Addr) (l0_h0 k0_h0 : Nat), v15 = .pointer (some ⟨gb, 0, none⟩) ∧ v16 = .bool (undoPutOk d_0 d_1) ∧ Box W gb #[.slice a0_h0 l0_h0 k0_h0] ∧ w14.heap.size ≤ gb ∧ gb < W.heap.size ∧ Slc W bs_h0 a0_h0 l0_h0 k0_h0 ((undoPut d_0 d_1)).Lines ∧ Below w14.heap.size w14 W)
    case first =>
      go_wp2_with fail
      refine late_start (fun W => Below w14.heap.size w14 W ∧ (∀ o, W.cell? ⟨w.heap.size, o, none⟩ = (#[.slice a0_0 l0_0 k0_0] : Array Value)[o]?) ∧ (∀ o, W.cell? ⟨w.heap.size + 1, o, none⟩ = (#[.slice a0_1 l0_1 k0_1, .int .i64 d_1.At] : Array Value)[o]?)) 10 (by kernel_rfl) ?_ (fun hS => ?_)
      · exact ⟨(Below.refl _ _).drew, B_0, B_1⟩
      refine late_genw (fun U0 hU => ?_)
      rw [← hU] at hS
      have hz00 := hS.1.size
      clear hU
      refine late_take (i := 0) (v := ?_) rfl (by kernel_rfl) (fun _ _ _ h => h) (by rfl) ?_ (by assumption) ?_
      rotate_left
      · (intro w9 hS9; (try dsimp only at hS9); (try go_split_ands); go_simp <;> with_reducible rfl)
      try simp only [Act.put, List.setIfInBounds_toArray, List.set_cons_zero, List.set_cons_succ]
      refine late_take (i := 2) (v := ?_) rfl (by kernel_rfl) (fun _ _ _ h => h) (by rfl) ?_ (by assumption) ?_
      rotate_left
      · (intro w9 hS9; (try dsimp only at hS9); (try go_split_ands); go_simp <;> with_reducible rfl)
      try simp only [Act.put, List.setIfInBounds_toArray, List.set_cons_zero, List.set_cons_succ]
      refine late_two (i := 1) (j := 8) rfl rfl (by kernel_rfl) (fun K9 hK9 => ?_) (fun K9 hK9 => ?_)
      · skip
        go_simp
        refine (toUndo (grow G_0.out ?_) (by have := HN_0.out; first | omega | (simp only [cnt_ints, cnt_bytes] at this; omega))).mono ?_
        · exact Hb.out.trans (hS.1.mono Hb.out.size)
        rintro e U1 ⟨cs_t0, bs_t0, rfl, hO_t0, hst⟩
        have hzU1 := hst.size
        go_wp2_with fail
        refine hK9.out _ _ (fun _ => ?_) (fun hS9 => ?_)
        · (try dsimp only); exact ⟨below_via hst hS.1, box_via hst hS.1 L_0 hS.2.1, box_via hst hS.1 L_1 hS.2.2⟩
        replace hS := hS9 (by decide)
        clear hK9 K9 hS9
        try simp only [Act.put, List.setIfInBounds_toArray, List.set_cons_zero, List.set_cons_succ]
        clear hst
        have cd0 : Below U1.heap.size U1 U1 := Below.refl _ _
        have hO_t0 := hid hO_t0
        refine late_two (i := 3) (j := 8) rfl rfl (by kernel_rfl) (fun K9 hK9 => ?_) (fun K9 hK9 => ?_)
        · skip
          go_simp
          refine (toLine (grow G_1.out ?_) (by have := HN_1.out; first | omega | (simp only [cnt_ints, cnt_bytes] at this; omega))).mono ?_
          · exact Hb.out.trans (hS.1.mono Hb.out.size)
          rintro e U2 ⟨cs_t1, bs_t1, rfl, hO_t1, hst⟩
          have hzU2 := hst.size
          go_wp2_with fail
          replace cd0 := below_via hst cd0
          refine hK9.out _ _ (fun _ => ?_) (fun hS9 => ?_)
          · (try dsimp only); exact ⟨below_via hst hS.1, box_via hst hS.1 L_0 hS.2.1, box_via hst hS.1 L_1 hS.2.2⟩
          replace hS := hS9 (by decide)
          clear hK9 K9 hS9
          try simp only [Act.put, List.setIfInBounds_toArray, List.set_cons_zero, List.set_cons_succ]
          clear hst
          have cd1 : Below U2.heap.size U2 U2 := Below.refl _ _
          have hO_t1 := hid hO_t1
          refine late_two (i := 4) (j := 8) rfl rfl (by kernel_rfl) (fun K9 hK9 => ?_) (fun K9 hK9 => ?_)
          · skip
            go_simp
            refine (i_UndoPut (grow hO_t0.out.1 cd0) (grow hO_t1.out.1 cd1)  ).mono ?_
            rintro e U3 ⟨csz, bsz, rfl, hOz, hst⟩
            obtain ⟨a0_h0, l0_h0, k0_h0, rfl, h0_h0⟩ := open_Undo hOz.1
            have hzU3 := hst.size
            go_wp2_with fail
            have hzlt : ∀ b ∈ bsz, b < U3.heap.size := fun b hb => Rep.lt hOz.1 b hb
            replace cd0 := below_via hst cd0
            replace cd1 := below_via hst cd1
            refine hK9.out _ _ (fun _ => ?_) (fun hS9 => ?_)
            · (try dsimp only); exact ⟨below_via hst hS.1, box_via hst hS.1 L_0 hS.2.1, box_via hst hS.1 L_1 hS.2.2⟩
            replace hS := hS9 (by decide)
            clear hK9 K9 hS9
            try simp only [Act.put, List.setIfInBounds_toArray, List.set_cons_zero, List.set_cons_succ]
            clear hst
            have cz : Below U3.heap.size U3 U3 := Below.refl _ _
            refine late_take (i := 5) (v := ?_) rfl (by kernel_rfl) (fun _ _ _ h => h) (by rfl) ?_ (by assumption) ?_
            rotate_left
            · (intro w9 hS9; (try dsimp only at hS9); (try go_split_ands); go_simp <;> with_reducible rfl)
            try simp only [Act.put, List.setIfInBounds_toArray, List.set_cons_zero, List.set_cons_succ]
            refine late_take (i := 6) (v := ?_) rfl (by kernel_rfl) (fun _ _ _ h => h) (by rfl) ?_ (by assumption) ?_
            rotate_left
            · (intro w9 hS9; (try dsimp only at hS9); (try go_split_ands); go_simp <;> with_reducible rfl)
            try simp only [Act.put, List.setIfInBounds_toArray, List.set_cons_zero, List.set_cons_succ]
            refine late_take (i := 7) (v := ?_) rfl (by kernel_rfl) (fun _ _ _ h => h) (by rfl) ?_ (by assumption) ?_
            rotate_left
            · (intro w9 hS9; (try dsimp only at hS9); (try go_split_ands); go_simp <;> with_reducible rfl)
            try simp only [Act.put, List.setIfInBounds_toArray, List.set_cons_zero, List.set_cons_succ]
            refine late_one (i := 8) rfl (by kernel_rfl) (fun K9 hK9 => ?_)
            go_simp
            refine late_gen (fun U4 hU => ?_)
            have hst : Below U3.heap.size U3 U4 := by rw [hU]; exact (Below.refl _ _).alloc (Nat.le_refl _) _
            have hbx : Bx U4 U3.heap.size #[.slice none 0 0] := by rw [hU]; exact Bx.new _ _ _ rfl
            have hgb : U3.heap.size < U4.heap.size := by rw [hU]; simp
            have hgl := hS.1.size
            have hzU4 := hst.size
            clear hU
            replace cd0 := below_via hst cd0
            replace cd1 := below_via hst cd1
            replace cz := below_via hst cz
            refine hK9.out _ _ (fun _ => ?_) (fun hS9 => ?_)
            · (try dsimp only); exact ⟨below_via hst hS.1, box_via hst hS.1 L_0 hS.2.1, box_via hst hS.1 L_1 hS.2.2⟩
            replace hS := hS9 (by decide)
            clear hK9 K9 hS9
            try simp only [Act.put, List.setIfInBounds_toArray, List.set_cons_zero, List.set_cons_succ]
            have LZ : ∀ b ∈ bsz, b ≠ U3.heap.size := fun b hb => Nat.ne_of_lt (hzlt b hb)
            clear hst
            refine late_one (i := 9) rfl (by kernel_rfl) (fun K9 hK9 => ?_)
            have bo := hbx.out; have bf := hbx.fr
            go_simp
            refine hK9.out _ _ (fun _ => ?_) (fun hS9 => ?_)
            · (try dsimp only); exact ⟨Below.setCell (hS.1) (by exact hgl) _, box_set (hS.2.1) (by exact Nat.ne_of_gt (Nat.lt_of_lt_of_le L_0 hgl)) _, box_set (hS.2.2) (by exact Nat.ne_of_gt (Nat.lt_of_lt_of_le L_1 hgl)) _⟩
            replace hS := hS9 (by decide)
            clear hK9 K9 hS9
            try simp only [Act.put, List.setIfInBounds_toArray, List.set_cons_zero, List.set_cons_succ]
            refine late_one (i := 10) rfl (by kernel_rfl) (fun K9 hK9 => ?_)
            go_simp
            refine hK9.out _ _ (fun h => absurd rfl h) (fun _ => ?_)
            clear hK9 K9
            try simp only [Act.put, List.setIfInBounds_toArray, List.set_cons_zero, List.set_cons_succ]
            refine late_done (by kernel_rfl) ?_ _
            go_wp2_with fail
            go_meet
            refine ⟨U3.heap.size, bsz, a0_h0, l0_h0, k0_h0, rfl, rfl, ?_, ?_, ?_, ?_, hS.1⟩
            · first | exact (Bx.setSame hbx 0 _).out | (have q9 := (Bx.setSame hbx 0 _).out; simpa using q9)
            · exact hgl
            · simpa using hgb
            · exact Slc.setc (Slc.grow h0_h0 cz) (fun b hb => LZ b hb) _
          · skip
            go_simp
            refine late_gen (fun U5 hU => ?_)
            have hst : Below U2.heap.size U2 U5 := by rw [hU]; exact (Below.refl _ _).alloc (Nat.le_refl _) _
            have hbx : Bx U5 U2.heap.size #[.slice none 0 0] := by rw [hU]; exact Bx.new _ _ _ rfl
            have hgb : U2.heap.size < U5.heap.size := by rw [hU]; simp
            have hgl := hS.1.size
            have hzU5 := hst.size
            clear hU
            replace cd0 := below_via hst cd0
            replace cd1 := below_via hst cd1
            refine hK9.out _ _ (fun _ => ?_) (fun hS9 => ?_)
            · (try dsimp only); exact ⟨below_via hst hS.1, box_via hst hS.1 L_0 hS.2.1, box_via hst hS.1 L_1 hS.2.2⟩
            replace hS := hS9 (by decide)
            clear hK9 K9 hS9
            try simp only [Act.put, List.setIfInBounds_toArray, List.set_cons_zero, List.set_cons_succ]
            clear hst
            refine late_one (i := 4) rfl (by kernel_rfl) (fun K9 hK9 => ?_)
            go_simp
            refine (i_UndoPut (grow hO_t0.out.1 cd0) (grow hO_t1.out.1 cd1)  ).mono ?_
            rintro e U6 ⟨csz, bsz, rfl, hOz, hst⟩
            obtain ⟨a0_h0, l0_h0, k0_h0, rfl, h0_h0⟩ := open_Undo hOz.1
            have hzU6 := hst.size
            go_wp2_with fail
            have hzlt : ∀ b ∈ bsz, b < U6.heap.size := fun b hb => Rep.lt hOz.1 b hb
            have LZ : ∀ b ∈ bsz, b ≠ U2.heap.size := fun b hb => Nat.ne_of_gt (Nat.lt_of_lt_of_le hgb ((hOz.lts b hb).1))
            replace cd0 := below_via hst cd0
            replace cd1 := below_via hst cd1
            replace hbx := Bx.below hst hgb hbx
            replace hgb : U2.heap.size < U6.heap.size := Nat.lt_of_lt_of_le hgb hst.size
            refine hK9.out _ _ (fun _ => ?_) (fun hS9 => ?_)
            · (try dsimp only); exact ⟨below_via hst hS.1, box_via hst hS.1 L_0 hS.2.1, box_via hst hS.1 L_1 hS.2.2⟩
            replace hS := hS9 (by decide)
            clear hK9 K9 hS9
            try simp only [Act.put, List.setIfInBounds_toArray, List.set_cons_zero, List.set_cons_succ]
            clear hst
            have cz : Below U6.heap.size U6 U6 := Below.refl _ _
            refine late_take (i := 5) (v := ?_) rfl (by kernel_rfl) (fun _ _ _ h => h) (by rfl) ?_ (by assumption) ?_
            rotate_left
            · (intro w9 hS9; (try dsimp only at hS9); (try go_split_ands); go_simp <;> with_reducible rfl)
            try simp only [Act.put, List.setIfInBounds_toArray, List.set_cons_zero, List.set_cons_succ]
            refine late_take (i := 6) (v := ?_) rfl (by kernel_rfl) (fun _ _ _ h => h) (by rfl) ?_ (by assumption) ?_
            rotate_left
            · (intro w9 hS9; (try dsimp only at hS9); (try go_split_ands); go_simp <;> with_reducible rfl)
            try simp only [Act.put, List.setIfInBounds_toArray, List.set_cons_zero, List.set_cons_succ]
            refine late_take (i := 7) (v := ?_) rfl (by kernel_rfl) (fun _ _ _ h => h) (by rfl) ?_ (by assumption) ?_
            rotate_left
            · (intro w9 hS9; (try dsimp only at hS9); (try go_split_ands); go_simp <;> with_reducible rfl)
            try simp only [Act.put, List.setIfInBounds_toArray, List.set_cons_zero, List.set_cons_succ]
            refine late_one (i := 9) rfl (by kernel_rfl) (fun K9 hK9 => ?_)
            have bo := hbx.out; have bf := hbx.fr
            go_simp
            refine hK9.out _ _ (fun _ => ?_) (fun hS9 => ?_)
            · (try dsimp only); exact ⟨Below.setCell (hS.1) (by exact hgl) _, box_set (hS.2.1) (by exact Nat.ne_of_gt (Nat.lt_of_lt_of_le L_0 hgl)) _, box_set (hS.2.2) (by exact Nat.ne_of_gt (Nat.lt_of_lt_of_le L_1 hgl)) _⟩
            replace hS := hS9 (by decide)
            clear hK9 K9 hS9
            try simp only [Act.put, List.setIfInBounds_toArray, List.set_cons_zero, List.set_cons_succ]
            refine late_one (i := 10) rfl (by kernel_rfl) (fun K9 hK9 => ?_)
            go_simp
            refine hK9.out _ _ (fun h => absurd rfl h) (fun _ => ?_)
            clear hK9 K9
            try simp only [Act.put, List.setIfInBounds_toArray, List.set_cons_zero, List.set_cons_succ]
            refine late_done (by kernel_rfl) ?_ _
            go_wp2_with fail
            go_meet
            refine ⟨U2.heap.size, bsz, a0_h0, l0_h0, k0_h0, rfl, rfl, ?_, ?_, ?_, ?_, hS.1⟩
            · first | exact (Bx.setSame hbx 0 _).out | (have q9 := (Bx.setSame hbx 0 _).out; simpa using q9)
            · exact hgl
            · simpa using hgb
            · exact Slc.setc (Slc.grow h0_h0 cz) (fun b hb => LZ b hb) _
        · skip
          go_simp
          refine late_gen (fun U7 hU => ?_)
          have hst : Below U1.heap.size U1 U7 := by rw [hU]; exact (Below.refl _ _).alloc (Nat.le_refl _) _
          have hbx : Bx U7 U1.heap.size #[.slice none 0 0] := by rw [hU]; exact Bx.new _ _ _ rfl
          have hgb : U1.heap.size < U7.heap.size := by rw [hU]; simp
          have hgl := hS.1.size
          have hzU7 := hst.size
          clear hU
          replace cd0 := below_via hst cd0
          refine hK9.out _ _ (fun _ => ?_) (fun hS9 => ?_)
          · (try dsimp only); exact ⟨below_via hst hS.1, box_via hst hS.1 L_0 hS.2.1, box_via hst hS.1 L_1 hS.2.2⟩
          replace hS := hS9 (by decide)
          clear hK9 K9 hS9
          try simp only [Act.put, List.setIfInBounds_toArray, List.set_cons_zero, List.set_cons_succ]
          clear hst
          refine late_one (i := 3) rfl (by kernel_rfl) (fun K9 hK9 => ?_)
          go_simp
          refine (toLine (grow G_1.out ?_) (by have := HN_1.out; first | omega | (simp only [cnt_ints, cnt_bytes] at this; omega))).mono ?_
          · exact Hb.out.trans (hS.1.mono Hb.out.size)
          rintro e U8 ⟨cs_t1, bs_t1, rfl, hO_t1, hst⟩
          have hzU8 := hst.size
          go_wp2_with fail
          replace cd0 := below_via hst cd0
          replace hbx := Bx.below hst hgb hbx
          replace hgb : U1.heap.size < U8.heap.size := Nat.lt_of_lt_of_le hgb hst.size
          refine hK9.out _ _ (fun _ => ?_) (fun hS9 => ?_)
          · (try dsimp only); exact ⟨below_via hst hS.1, box_via hst hS.1 L_0 hS.2.1, box_via hst hS.1 L_1 hS.2.2⟩
          replace hS := hS9 (by decide)
          clear hK9 K9 hS9
          try simp only [Act.put, List.setIfInBounds_toArray, List.set_cons_zero, List.set_cons_succ]
          clear hst
          have cd1 : Below U8.heap.size U8 U8 := Below.refl _ _
          have hO_t1 := hid hO_t1
          refine late_one (i := 4) rfl (by kernel_rfl) (fun K9 hK9 => ?_)
          go_simp
          refine (i_UndoPut (grow hO_t0.out.1 cd0) (grow hO_t1.out.1 cd1)  ).mono ?_
          rintro e U9 ⟨csz, bsz, rfl, hOz, hst⟩
          obtain ⟨a0_h0, l0_h0, k0_h0, rfl, h0_h0⟩ := open_Undo hOz.1
          have hzU9 := hst.size
          go_wp2_with fail
          have hzlt : ∀ b ∈ bsz, b < U9.heap.size := fun b hb => Rep.lt hOz.1 b hb
          have LZ : ∀ b ∈ bsz, b ≠ U1.heap.size := fun b hb => Nat.ne_of_gt (Nat.lt_of_lt_of_le hgb ((hOz.lts b hb).1))
          replace cd0 := below_via hst cd0
          replace cd1 := below_via hst cd1
          replace hbx := Bx.below hst hgb hbx
          replace hgb : U1.heap.size < U9.heap.size := Nat.lt_of_lt_of_le hgb hst.size
          refine hK9.out _ _ (fun _ => ?_) (fun hS9 => ?_)
          · (try dsimp only); exact ⟨below_via hst hS.1, box_via hst hS.1 L_0 hS.2.1, box_via hst hS.1 L_1 hS.2.2⟩
          replace hS := hS9 (by decide)
          clear hK9 K9 hS9
          try simp only [Act.put, List.setIfInBounds_toArray, List.set_cons_zero, List.set_cons_succ]
          clear hst
          have cz : Below U9.heap.size U9 U9 := Below.refl _ _
          refine late_take (i := 5) (v := ?_) rfl (by kernel_rfl) (fun _ _ _ h => h) (by rfl) ?_ (by assumption) ?_
          rotate_left
          · (intro w9 hS9; (try dsimp only at hS9); (try go_split_ands); go_simp <;> with_reducible rfl)
          try simp only [Act.put, List.setIfInBounds_toArray, List.set_cons_zero, List.set_cons_succ]
          refine late_take (i := 6) (v := ?_) rfl (by kernel_rfl) (fun _ _ _ h => h) (by rfl) ?_ (by assumption) ?_
          rotate_left
          · (intro w9 hS9; (try dsimp only at hS9); (try go_split_ands); go_simp <;> with_reducible rfl)
          try simp only [Act.put, List.setIfInBounds_toArray, List.set_cons_zero, List.set_cons_succ]
          refine late_take (i := 7) (v := ?_) rfl (by kernel_rfl) (fun _ _ _ h => h) (by rfl) ?_ (by assumption) ?_
          rotate_left
          · (intro w9 hS9; (try dsimp only at hS9); (try go_split_ands); go_simp <;> with_reducible rfl)
          try simp only [Act.put, List.setIfInBounds_toArray, List.set_cons_zero, List.set_cons_succ]
          refine late_one (i := 9) rfl (by kernel_rfl) (fun K9 hK9 => ?_)
          have bo := hbx.out; have bf := hbx.fr
          go_simp
          refine hK9.out _ _ (fun _ => ?_) (fun hS9 => ?_)
          · (try dsimp only); exact ⟨Below.setCell (hS.1) (by exact hgl) _, box_set (hS.2.1) (by exact Nat.ne_of_gt (Nat.lt_of_lt_of_le L_0 hgl)) _, box_set (hS.2.2) (by exact Nat.ne_of_gt (Nat.lt_of_lt_of_le L_1 hgl)) _⟩
          replace hS := hS9 (by decide)
          clear hK9 K9 hS9
          try simp only [Act.put, List.setIfInBounds_toArray, List.set_cons_zero, List.set_cons_succ]
          refine late_one (i := 10) rfl (by kernel_rfl) (fun K9 hK9 => ?_)
          go_simp
          refine hK9.out _ _ (fun h => absurd rfl h) (fun _ => ?_)
          clear hK9 K9
          try simp only [Act.put, List.setIfInBounds_toArray, List.set_cons_zero, List.set_cons_succ]
          refine late_done (by kernel_rfl) ?_ _
          go_wp2_with fail
          go_meet
          refine ⟨U1.heap.size, bsz, a0_h0, l0_h0, k0_h0, rfl, rfl, ?_, ?_, ?_, ?_, hS.1⟩
          · first | exact (Bx.setSame hbx 0 _).out | (have q9 := (Bx.setSame hbx 0 _).out; simpa using q9)
          · exact hgl
          · simpa using hgb
          · exact Slc.setc (Slc.grow h0_h0 cz) (fun b hb => LZ b hb) _
      · skip
        go_simp
        refine late_gen (fun U10 hU => ?_)
        have hst : Below U0.heap.size U0 U10 := by rw [hU]; exact (Below.refl _ _).alloc (Nat.le_refl _) _
        have hbx : Bx U10 U0.heap.size #[.slice none 0 0] := by rw [hU]; exact Bx.new _ _ _ rfl
        have hgb : U0.heap.size < U10.heap.size := by rw [hU]; simp
        have hgl := hS.1.size
        have hzU10 := hst.size
        clear hU
        refine hK9.out _ _ (fun _ => ?_) (fun hS9 => ?_)
        · (try dsimp only); exact ⟨below_via hst hS.1, box_via hst hS.1 L_0 hS.2.1, box_via hst hS.1 L_1 hS.2.2⟩
        replace hS := hS9 (by decide)
        clear hK9 K9 hS9
        try simp only [Act.put, List.setIfInBounds_toArray, List.set_cons_zero, List.set_cons_succ]
        clear hst
        refine late_one (i := 1) rfl (by kernel_rfl) (fun K9 hK9 => ?_)
        go_simp
        refine (toUndo (grow G_0.out ?_) (by have := HN_0.out; first | omega | (simp only [cnt_ints, cnt_bytes] at this; omega))).mono ?_
        · exact Hb.out.trans (hS.1.mono Hb.out.size)
        rintro e U11 ⟨cs_t0, bs_t0, rfl, hO_t0, hst⟩
        have hzU11 := hst.size
        go_wp2_with fail
        replace hbx := Bx.below hst hgb hbx
        replace hgb : U0.heap.size < U11.heap.size := Nat.lt_of_lt_of_le hgb hst.size
        refine hK9.out _ _ (fun _ => ?_) (fun hS9 => ?_)
        · (try dsimp only); exact ⟨below_via hst hS.1, box_via hst hS.1 L_0 hS.2.1, box_via hst hS.1 L_1 hS.2.2⟩
        replace hS := hS9 (by decide)
        clear hK9 K9 hS9
        try simp only [Act.put, List.setIfInBounds_toArray, List.set_cons_zero, List.set_cons_succ]
        clear hst
        have cd0 : Below U11.heap.size U11 U11 := Below.refl _ _
        have hO_t0 := hid hO_t0
        refine late_one (i := 3) rfl (by kernel_rfl) (fun K9 hK9 => ?_)
        go_simp
        refine (toLine (grow G_1.out ?_) (by have := HN_1.out; first | omega | (simp only [cnt_ints, cnt_bytes] at this; omega))).mono ?_
        · exact Hb.out.trans (hS.1.mono Hb.out.size)
        rintro e U12 ⟨cs_t1, bs_t1, rfl, hO_t1, hst⟩
        have hzU12 := hst.size
        go_wp2_with fail
        replace cd0 := below_via hst cd0
        replace hbx := Bx.below hst hgb hbx
        replace hgb : U0.heap.size < U12.heap.size := Nat.lt_of_lt_of_le hgb hst.size
        refine hK9.out _ _ (fun _ => ?_) (fun hS9 => ?_)
        · (try dsimp only); exact ⟨below_via hst hS.1, box_via hst hS.1 L_0 hS.2.1, box_via hst hS.1 L_1 hS.2.2⟩
        replace hS := hS9 (by decide)
        clear hK9 K9 hS9
        try simp only [Act.put, List.setIfInBounds_toArray, List.set_cons_zero, List.set_cons_succ]
        clear hst
        have cd1 : Below U12.heap.size U12 U12 := Below.refl _ _
        have hO_t1 := hid hO_t1
        refine late_one (i := 4) rfl (by kernel_rfl) (fun K9 hK9 => ?_)
        go_simp
        refine (i_UndoPut (grow hO_t0.out.1 cd0) (grow hO_t1.out.1 cd1)  ).mono ?_
        rintro e U13 ⟨csz, bsz, rfl, hOz, hst⟩
        obtain ⟨a0_h0, l0_h0, k0_h0, rfl, h0_h0⟩ := open_Undo hOz.1
        have hzU13 := hst.size
        go_wp2_with fail
        have hzlt : ∀ b ∈ bsz, b < U13.heap.size := fun b hb => Rep.lt hOz.1 b hb
        have LZ : ∀ b ∈ bsz, b ≠ U0.heap.size := fun b hb => Nat.ne_of_gt (Nat.lt_of_lt_of_le hgb ((hOz.lts b hb).1))
        replace cd0 := below_via hst cd0
        replace cd1 := below_via hst cd1
        replace hbx := Bx.below hst hgb hbx
        replace hgb : U0.heap.size < U13.heap.size := Nat.lt_of_lt_of_le hgb hst.size
        refine hK9.out _ _ (fun _ => ?_) (fun hS9 => ?_)
        · (try dsimp only); exact ⟨below_via hst hS.1, box_via hst hS.1 L_0 hS.2.1, box_via hst hS.1 L_1 hS.2.2⟩
        replace hS := hS9 (by decide)
        clear hK9 K9 hS9
        try simp only [Act.put, List.setIfInBounds_toArray, List.set_cons_zero, List.set_cons_succ]
        clear hst
        have cz : Below U13.heap.size U13 U13 := Below.refl _ _
        refine late_take (i := 5) (v := ?_) rfl (by kernel_rfl) (fun _ _ _ h => h) (by rfl) ?_ (by assumption) ?_
        rotate_left
        · (intro w9 hS9; (try dsimp only at hS9); (try go_split_ands); go_simp <;> with_reducible rfl)
        try simp only [Act.put, List.setIfInBounds_toArray, List.set_cons_zero, List.set_cons_succ]
        refine late_take (i := 6) (v := ?_) rfl (by kernel_rfl) (fun _ _ _ h => h) (by rfl) ?_ (by assumption) ?_
        rotate_left
        · (intro w9 hS9; (try dsimp only at hS9); (try go_split_ands); go_simp <;> with_reducible rfl)
        try simp only [Act.put, List.setIfInBounds_toArray, List.set_cons_zero, List.set_cons_succ]
        refine late_take (i := 7) (v := ?_) rfl (by kernel_rfl) (fun _ _ _ h => h) (by rfl) ?_ (by assumption) ?_
        rotate_left
        · (intro w9 hS9; (try dsimp only at hS9); (try go_split_ands); go_simp <;> with_reducible rfl)
        try simp only [Act.put, List.setIfInBounds_toArray, List.set_cons_zero, List.set_cons_succ]
        refine late_one (i := 9) rfl (by kernel_rfl) (fun K9 hK9 => ?_)
        have bo := hbx.out; have bf := hbx.fr
        go_simp
        refine hK9.out _ _ (fun _ => ?_) (fun hS9 => ?_)
        · (try dsimp only); exact ⟨Below.setCell (hS.1) (by exact hgl) _, box_set (hS.2.1) (by exact Nat.ne_of_gt (Nat.lt_of_lt_of_le L_0 hgl)) _, box_set (hS.2.2) (by exact Nat.ne_of_gt (Nat.lt_of_lt_of_le L_1 hgl)) _⟩
        replace hS := hS9 (by decide)
        clear hK9 K9 hS9
        try simp only [Act.put, List.setIfInBounds_toArray, List.set_cons_zero, List.set_cons_succ]
        refine late_one (i := 10) rfl (by kernel_rfl) (fun K9 hK9 => ?_)
        go_simp
        refine hK9.out _ _ (fun h => absurd rfl h) (fun _ => ?_)
        clear hK9 K9
        try simp only [Act.put, List.setIfInBounds_toArray, List.set_cons_zero, List.set_cons_succ]
        refine late_done (by kernel_rfl) ?_ _
        go_wp2_with fail
        go_meet
        refine ⟨U0.heap.size, bsz, a0_h0, l0_h0, k0_h0, rfl, rfl, ?_, ?_, ?_, ?_, hS.1⟩
        · first | exact (Bx.setSame hbx 0 _).out | (have q9 := (Bx.setSame hbx 0 _).out; simpa using q9)
        · exact hgl
        · simpa using hgb
        · exact Slc.setc (Slc.grow h0_h0 cz) (fun b hb => LZ b hb) _
    case rest =>
      obtain ⟨gb_h0, bs_h0, a0_h0, l0_h0, k0_h0, rfl, rfl, hBb, hgl, hgu, h0_h0, hp⟩ := hcut
      rename World => w15
      have hz15 := hp.size; try simp at hz15
      replace B_0 : Box w15 (w.heap.size) #[.slice a0_0 l0_0 k0_0] := Box.below hp (by omega) B_0
      replace L_0 : w.heap.size < w15.heap.size := by omega
      replace B_1 : Box w15 (w.heap.size + 1) #[.slice a0_1 l0_1 k0_1, .int .i64 d_1.At] := Box.below hp (by omega) B_1
      replace L_1 : w.heap.size + 1 < w15.heap.size := by omega
      replace B_w0 : Box w15 (gb_w0) #[.slice a0_w0 l0_w0 k0_w0] := Box.below hp (by omega) B_w0
      replace L_w0 : gb_w0 < w15.heap.size := by omega
      replace B_x0 : Box w15 (w4.heap.size) #[.slice a0_x0 l0_x0 k0_x0] := Box.below hp (by omega) B_x0
      replace L_x0 : w4.heap.size < w15.heap.size := by omega
      replace B_x1 : Box w15 (w5.heap.size) #[.slice a0_x1 l0_x1 k0_x1, .int .i64 d_1.At] := Box.below hp (by omega) B_x1
      replace L_x1 : w5.heap.size < w15.heap.size := by omega
      replace B_g0 : Box w15 (w6.heap.size) #[.slice a0_g0 l0_g0 k0_g0] := Box.below hp (by omega) B_g0
      replace L_g0 : w6.heap.size < w15.heap.size := by omega
      replace P0_w0 := hid (P0_w0.out.grow hp)
      replace P0_x0 := hid (P0_x0.out.grow hp)
      replace P0_x1 := hid (P0_x1.out.grow hp)
      replace P0_g0 := hid (P0_g0.out.grow hp)
      replace Hb := hid (Hb.out.trans (hp.mono Hb.out.size))
      have P0_h0 := hid h0_h0
      have R0_h0 : Hid (∀ x ∈ bs_h0, 0 ≤ x ∧ x < w15.heap.size) := hid (P0_h0.out.lts)
      have B_h0 := hBb; have L_h0 := hgu
      clear hp hBb
      try unfold Box at B_h0
      try unfold Box at B_0
      try unfold Box at B_1
      try unfold Box at B_w0
      try unfold Box at B_x0
      try unfold Box at B_x1
      try unfold Box at B_g0
      try unfold Box at B_h0
      go_wp2_with fail
      refine (eqUndo (mk_Undo (d := (undoPut d_0 d_1)) (Slc.grow P0_h0.out ?_)) (mk_Undo (d := (undoPut d_0 d_1)) (Slc.grow P0_w0.out ?_))).mono ?_
      · repeat (first | exact Below.refl _ _ | refine Below.alloc ?_ (by first | omega | (simp; done) | (simp; omega)) _)
      · repeat (first | exact Below.refl _ _ | refine Below.alloc ?_ (by first | omega | (simp; done) | (simp; omega)) _)
      rintro e w16 ⟨rfl, hb⟩
      have hz16 := hb.size; try simp at hz16
      have hp : Below w15.heap.size w15 w16 := below_call (by repeat (first | exact Below.refl _ _ | refine Below.alloc ?_ (by first | omega | (simp; done) | (simp; omega)) _)) hb
      replace B_0 : Box w16 (w.heap.size) #[.slice a0_0 l0_0 k0_0] := Box.below hb (by first | omega | (simp; done) | (simp; omega)) (by repeat (first | exact B_0 | (apply boxN; (focus (first | omega | (simp; done) | (simp; omega)))) | (apply Box.alloc; rotate_left; (focus (first | omega | (simp; done) | (simp; omega))))))
      replace L_0 : w.heap.size < w16.heap.size := (by first | omega | (simp; done) | (simp; omega))
      replace B_1 : Box w16 (w.heap.size + 1) #[.slice a0_1 l0_1 k0_1, .int .i64 d_1.At] := Box.below hb (by first | omega | (simp; done) | (simp; omega)) (by repeat (first | exact B_1 | (apply boxN; (focus (first | omega | (simp; done) | (simp; omega)))) | (apply Box.alloc; rotate_left; (focus (first | omega | (simp; done) | (simp; omega))))))
      replace L_1 : w.heap.size + 1 < w16.heap.size := (by first | omega | (simp; done) | (simp; omega))
      replace B_w0 : Box w16 (gb_w0) #[.slice a0_w0 l0_w0 k0_w0] := Box.below hb (by first | omega | (simp; done) | (simp; omega)) (by repeat (first | exact B_w0 | (apply boxN; (focus (first | omega | (simp; done) | (simp; omega)))) | (apply Box.alloc; rotate_left; (focus (first | omega | (simp; done) | (simp; omega))))))
      replace L_w0 : gb_w0 < w16.heap.size := (by first | omega | (simp; done) | (simp; omega))
      replace B_x0 : Box w16 (w4.heap.size) #[.slice a0_x0 l0_x0 k0_x0] := Box.below hb (by first | omega | (simp; done) | (simp; omega)) (by repeat (first | exact B_x0 | (apply boxN; (focus (first | omega | (simp; done) | (simp; omega)))) | (apply Box.alloc; rotate_left; (focus (first | omega | (simp; done) | (simp; omega))))))
      replace L_x0 : w4.heap.size < w16.heap.size := (by first | omega | (simp; done) | (simp; omega))
      replace B_x1 : Box w16 (w5.heap.size) #[.slice a0_x1 l0_x1 k0_x1, .int .i64 d_1.At] := Box.below hb (by first | omega | (simp; done) | (simp; omega)) (by repeat (first | exact B_x1 | (apply boxN; (focus (first | omega | (simp; done) | (simp; omega)))) | (apply Box.alloc; rotate_left; (focus (first | omega | (simp; done) | (simp; omega))))))
      replace L_x1 : w5.heap.size < w16.heap.size := (by first | omega | (simp; done) | (simp; omega))
      replace B_g0 : Box w16 (w6.heap.size) #[.slice a0_g0 l0_g0 k0_g0] := Box.below hb (by first | omega | (simp; done) | (simp; omega)) (by repeat (first | exact B_g0 | (apply boxN; (focus (first | omega | (simp; done) | (simp; omega)))) | (apply Box.alloc; rotate_left; (focus (first | omega | (simp; done) | (simp; omega))))))
      replace L_g0 : w6.heap.size < w16.heap.size := (by first | omega | (simp; done) | (simp; omega))
      replace B_h0 : Box w16 (gb_h0) #[.slice a0_h0 l0_h0 k0_h0] := Box.below hb (by first | omega | (simp; done) | (simp; omega)) (by repeat (first | exact B_h0 | (apply boxN; (focus (first | omega | (simp; done) | (simp; omega)))) | (apply Box.alloc; rotate_left; (focus (first | omega | (simp; done) | (simp; omega))))))
      replace L_h0 : gb_h0 < w16.heap.size := (by first | omega | (simp; done) | (simp; omega))
      replace P0_w0 := hid (P0_w0.out.grow hp)
      replace P0_x0 := hid (P0_x0.out.grow hp)
      replace P0_x1 := hid (P0_x1.out.grow hp)
      replace P0_g0 := hid (P0_g0.out.grow hp)
      replace P0_h0 := hid (P0_h0.out.grow hp)
      replace Hb := hid (Hb.out.trans (hp.mono Hb.out.size))
      clear hb hp
      try unfold Box at B_0
      try unfold Box at B_1
      try unfold Box at B_w0
      try unfold Box at B_x0
      try unfold Box at B_x1
      try unfold Box at B_g0
      try unfold Box at B_h0
      try unfold Box at B_0
      try unfold Box at B_1
      try unfold Box at B_w0
      try unfold Box at B_x0
      try unfold Box at B_x1
      try unfold Box at B_g0
      try unfold Box at B_h0
      go_wp2_with fail
      refine (heldUndo (d := (undoPut d_0 d_1)) (1) (mk_Undo (d := (((undoPut d_0 d_1)).mkv (1))) (Slc.grow P0_g0.out.slc ?_)) (by have := HK_g0.out; omega)).mono ?_
      · repeat (first | exact Below.refl _ _ | refine Below.alloc ?_ (by first | omega | (simp; done) | (simp; omega)) _)
      rintro e w17 ⟨rfl, hb⟩
      have hz17 := hb.size; try simp at hz17
      have hp : Below w16.heap.size w16 w17 := below_call (by repeat (first | exact Below.refl _ _ | refine Below.alloc ?_ (by first | omega | (simp; done) | (simp; omega)) _)) hb
      replace B_0 : Box w17 (w.heap.size) #[.slice a0_0 l0_0 k0_0] := Box.below hb (by first | omega | (simp; done) | (simp; omega)) (by repeat (first | exact B_0 | (apply boxN; (focus (first | omega | (simp; done) | (simp; omega)))) | (apply Box.alloc; rotate_left; (focus (first | omega | (simp; done) | (simp; omega))))))
      replace L_0 : w.heap.size < w17.heap.size := (by first | omega | (simp; done) | (simp; omega))
      replace B_1 : Box w17 (w.heap.size + 1) #[.slice a0_1 l0_1 k0_1, .int .i64 d_1.At] := Box.below hb (by first | omega | (simp; done) | (simp; omega)) (by repeat (first | exact B_1 | (apply boxN; (focus (first | omega | (simp; done) | (simp; omega)))) | (apply Box.alloc; rotate_left; (focus (first | omega | (simp; done) | (simp; omega))))))
      replace L_1 : w.heap.size + 1 < w17.heap.size := (by first | omega | (simp; done) | (simp; omega))
      replace B_w0 : Box w17 (gb_w0) #[.slice a0_w0 l0_w0 k0_w0] := Box.below hb (by first | omega | (simp; done) | (simp; omega)) (by repeat (first | exact B_w0 | (apply boxN; (focus (first | omega | (simp; done) | (simp; omega)))) | (apply Box.alloc; rotate_left; (focus (first | omega | (simp; done) | (simp; omega))))))
      replace L_w0 : gb_w0 < w17.heap.size := (by first | omega | (simp; done) | (simp; omega))
      replace B_x0 : Box w17 (w4.heap.size) #[.slice a0_x0 l0_x0 k0_x0] := Box.below hb (by first | omega | (simp; done) | (simp; omega)) (by repeat (first | exact B_x0 | (apply boxN; (focus (first | omega | (simp; done) | (simp; omega)))) | (apply Box.alloc; rotate_left; (focus (first | omega | (simp; done) | (simp; omega))))))
      replace L_x0 : w4.heap.size < w17.heap.size := (by first | omega | (simp; done) | (simp; omega))
      replace B_x1 : Box w17 (w5.heap.size) #[.slice a0_x1 l0_x1 k0_x1, .int .i64 d_1.At] := Box.below hb (by first | omega | (simp; done) | (simp; omega)) (by repeat (first | exact B_x1 | (apply boxN; (focus (first | omega | (simp; done) | (simp; omega)))) | (apply Box.alloc; rotate_left; (focus (first | omega | (simp; done) | (simp; omega))))))
      replace L_x1 : w5.heap.size < w17.heap.size := (by first | omega | (simp; done) | (simp; omega))
      replace B_g0 : Box w17 (w6.heap.size) #[.slice a0_g0 l0_g0 k0_g0] := Box.below hb (by first | omega | (simp; done) | (simp; omega)) (by repeat (first | exact B_g0 | (apply boxN; (focus (first | omega | (simp; done) | (simp; omega)))) | (apply Box.alloc; rotate_left; (focus (first | omega | (simp; done) | (simp; omega))))))
      replace L_g0 : w6.heap.size < w17.heap.size := (by first | omega | (simp; done) | (simp; omega))
      replace B_h0 : Box w17 (gb_h0) #[.slice a0_h0 l0_h0 k0_h0] := Box.below hb (by first | omega | (simp; done) | (simp; omega)) (by repeat (first | exact B_h0 | (apply boxN; (focus (first | omega | (simp; done) | (simp; omega)))) | (apply Box.alloc; rotate_left; (focus (first | omega | (simp; done) | (simp; omega))))))
      replace L_h0 : gb_h0 < w17.heap.size := (by first | omega | (simp; done) | (simp; omega))
      replace P0_w0 := hid (P0_w0.out.grow hp)
      replace P0_x0 := hid (P0_x0.out.grow hp)
      replace P0_x1 := hid (P0_x1.out.grow hp)
      replace P0_g0 := hid (P0_g0.out.grow hp)
      replace P0_h0 := hid (P0_h0.out.grow hp)
      replace Hb := hid (Hb.out.trans (hp.mono Hb.out.size))
      clear hb hp
      try unfold Box at B_0
      try unfold Box at B_1
      try unfold Box at B_w0
      try unfold Box at B_x0
      try unfold Box at B_x1
      try unfold Box at B_g0
      try unfold Box at B_h0
      try unfold Box at B_0
      try unfold Box at B_1
      try unfold Box at B_w0
      try unfold Box at B_x0
      try unfold Box at B_x1
      try unfold Box at B_g0
      try unfold Box at B_h0
      try unfold Box at B_0
      try unfold Box at B_1
      try unfold Box at B_w0
      try unfold Box at B_x0
      try unfold Box at B_x1
      try unfold Box at B_g0
      try unfold Box at B_h0
      go_wp2
      go_ret
      exact ⟨rfl, Hb.out⟩
end Go.Proofs.Ytndhhongkigikaa
