/- FnUndo: what was added last is taken first. -/
import Derived.Test.YtdfpjchneofndaaUndoL
import Derived.Test.YtdfpjchneofndaaSameI
set_option linter.unusedSimpArgs false
set_option linter.unusedVariables false
namespace Go.Proofs.Ytdfpjchneofndaa
open Go.RowKit Go.G6
set_option maxHeartbeats 8000000
set_option maxRecDepth 10000
theorem keepcell {W V : World} {p : Addr} {v : Value} (hb : Below W.heap.size W V) (h : W.cell? p = some v) : V.cell? p = some v := (hb.cell (World.block_lt_of_cell? W _ h)).trans h
theorem below_drewN (w : World) (n : Nat) : Below w.heap.size w (w.drewN n) := (Below.refl _ _).drewN n
theorem lawFnUndo {w : World} {bs_0 : List Nat} {a0_0 : Option Addr} {l0_0 k0_0 : Nat} {d_0 : List UInt8} (g_0 : Slc w bs_0 a0_0 l0_0 k0_0 d_0) :
    Calls Try.prog 10 #[.slice a0_0 l0_0 k0_0] w fun e w' => e = .returned (.bool true) ∧ Below w.heap.size w w' := by
  obtain rfl := g_0.len_eq
  have hm_0 := g_0.max
  have G_0 := hid g_0; clear g_0
  go_enter Try.func10, Try.ntmps10
  by_cases hn_0 : (d_0.length : Int) ≤ 1048576
  rotate_left
  · go_wp2
    go_ret
    exact ⟨rfl, Below.refl _ _⟩
  go_wp2_with fail
  refine (s_MakeUndo G_0.out).mono ?_
  rintro e w1 ⟨b1, a1, l1, k1, us, b2, a2, k2, t, a, rfl, hS, hU, hS2, hty, hl, hat, hb⟩
  obtain rfl := hS.len_eq
  have HB := hid hb
  have S0 := hid hS
  have S2 := hid hS2
  clear hb hS hS2
  have hok : lineOk ⟨t, (a : Int)⟩ = true := lineOk_mk hty (by omega) hat
  have hA := undoPut_ok hU hok
  have hul := (undoOk_bounds hU).1
  obtain ⟨m, hm, _, hm20, hT1, hT2, hT3, hT4⟩ := undo_law hU hok
  have ia : I64 (a : Int) := by unfold I64; omega
  obtain ⟨P, hP⟩ : ∃ P, P = undoPut ⟨us⟩ ⟨t, (a : Int)⟩ := ⟨_, rfl⟩
  rw [← hP] at hA hT1 hT2 hT3 hT4 hm
  replace hT4 : P.Lines.length = us.length + 1 → P.Lines.take m = us := fun h => hT4 (by rw [hm] at h; exact h)
  have hml : (P.Lines.take m).length = m := by rw [List.length_take]; omega
  obtain ⟨Q, hQ⟩ : ∃ Q : List LineD, Q = P.Lines.take m := ⟨_, rfl⟩
  rw [← hQ] at hml hT2 hT4
  clear hQ
  have HA := hid hA; have HT := hid (And.intro hT1 (And.intro hT2 (And.intro hT3 hT4))); have HM := hid hm; have HML := hid hml; have HP := hid hP
  clear hA hT1 hT2 hT3 hT4 hP hU hty hok hm hml
  go_upto_region 4 with fail
  refine late_genw (fun w2 hw2 => ?_)
  have hb : Below w1.heap.size w1 w2 := by rw [hw2]; exact ((Below.refl _ _).alloc (Nat.le_refl _) _).alloc (by simp) _
  have B3 := hid (show Bx w2 w1.heap.size #[.slice a1 us.length k1] by rw [hw2]; exact (Bx.new _ _ _ rfl).alloc (by simp) _)
  have B4 := hid (show Bx w2 (w1.heap.size + 1) #[.slice a2 t.length k2, .int .i64 (a : Int)] by rw [hw2]; exact Bx.new _ _ _ (by simp))
  replace S0 := hid (S0.out.grow hb)
  replace S2 := hid (S2.out.grow hb)
  replace HB := hid (HB.out.trans (hb.mono HB.out.size))
  clear hw2 hb
  have xB3 := B3.out.out
  have xB4 := B4.out.out
  go_wp2_with fail
  clear xB3 xB4
  refine (i_UndoPut (mk_Undo (d := ⟨us⟩) S0.out) (mk_Line (d := ⟨t, (a : Int)⟩) S2.out ia)).mono ?_
  rintro e w3 ⟨cs1, q1, rfl, hO, hb⟩
  replace S0 := hid (S0.out.grow hb)
  replace S2 := hid (S2.out.grow hb)
  replace B3 := hid (Bx.below hb B3.out.f.lt B3.out)
  replace B4 := hid (Bx.below hb B4.out.f.lt B4.out)
  replace HB := hid (HB.out.trans (hb.mono HB.out.size))
  clear hb
  rw [HA.out.1]
  rw [← HP.out] at hO
  obtain ⟨a5, l5, k5, rfl, s5⟩ := open_Undo hO.1
  obtain rfl := s5.len_eq
  have S5 := hid s5; clear s5 hO
  go_upto_region 5 with fail
  refine late_genw (fun w4 hw4 => ?_)
  have hb : Below w3.heap.size w3 w4 := by rw [hw4]; exact (Below.refl _ _).alloc (Nat.le_refl _) _
  have B5 := hid (show Bx w4 w3.heap.size #[.slice a5 P.Lines.length k5] by rw [hw4]; exact Bx.new _ _ _ rfl)
  replace S0 := hid (S0.out.grow hb)
  replace S2 := hid (S2.out.grow hb)
  replace B3 := hid (Bx.below hb B3.out.f.lt B3.out)
  replace B4 := hid (Bx.below hb B4.out.f.lt B4.out)
  replace S5 := hid (S5.out.grow hb)
  replace HB := hid (HB.out.trans (hb.mono HB.out.size))
  clear hw4 hb
  have xB5 := B5.out.out
  go_wp2_with fail
  clear xB5
  refine (i_UndoTake (mk_Undo (d := P) S5.out)).mono ?_
  rintro e w5 ⟨cs2, q2, cs3, q3, rfl, hO, hO2, hd, hb⟩
  replace S0 := hid (S0.out.grow hb)
  replace S2 := hid (S2.out.grow hb)
  replace B3 := hid (Bx.below hb B3.out.f.lt B3.out)
  replace B4 := hid (Bx.below hb B4.out.f.lt B4.out)
  replace S5 := hid (S5.out.grow hb)
  replace B5 := hid (Bx.below hb B5.out.f.lt B5.out)
  replace HB := hid (HB.out.trans (hb.mono HB.out.size))
  clear hb
  rw [HT.out.1]
  rw [HT.out.2.1] at hO
  obtain ⟨a7, l7, k7, rfl, s7⟩ := open_Undo hO.1
  obtain rfl := s7.len_eq
  obtain ⟨a8, l8, k8, rfl, s8, i8⟩ := open_Line hO2.1
  rw [HT.out.2.2.1] at s8
  obtain rfl := s8.len_eq
  have S7 := hid s7; have S8 := hid s8; clear s7 s8 hO hO2 hd
  go_upto_region 6 with fail
  refine late_genw (fun w6 hw6 => ?_)
  have hb : Below w5.heap.size w5 w6 := by rw [hw6]; exact ((Below.refl _ _).alloc (Nat.le_refl _) _).alloc (by simp) _
  have B7 := hid (show Bx w6 w5.heap.size #[.slice a7 Q.length k7] by rw [hw6]; exact (Bx.new _ _ _ rfl).alloc (by simp) _)
  have B8 := hid (show Bx w6 (w5.heap.size + 1) #[.slice a8 t.length k8, .int .i64 (undoTakeL P).At] by rw [hw6]; exact Bx.new _ _ _ (by simp))
  replace S0 := hid (S0.out.grow hb)
  replace S2 := hid (S2.out.grow hb)
  replace B3 := hid (Bx.below hb B3.out.f.lt B3.out)
  replace B4 := hid (Bx.below hb B4.out.f.lt B4.out)
  replace S5 := hid (S5.out.grow hb)
  replace B5 := hid (Bx.below hb B5.out.f.lt B5.out)
  replace S7 := hid (S7.out.grow hb)
  replace S8 := hid (S8.out.grow hb)
  replace HB := hid (HB.out.trans (hb.mono HB.out.size))
  clear hw6 hb
  have xB4 := B4.out.out
  have xB8 := B8.out.out
  have xB5 := B5.out.out
  have xB7 := B7.out.out
  go_wp2_with fail
  clear xB4 xB8 xB5 xB7
  refine (l_sameInts S8.out S2.out).mono ?_
  rintro e w7 ⟨rfl, hb⟩
  replace S0 := hid (S0.out.grow hb)
  replace S2 := hid (S2.out.grow hb)
  replace B3 := hid (Bx.below hb B3.out.f.lt B3.out)
  replace B4 := hid (Bx.below hb B4.out.f.lt B4.out)
  replace S5 := hid (S5.out.grow hb)
  replace B5 := hid (Bx.below hb B5.out.f.lt B5.out)
  replace S7 := hid (S7.out.grow hb)
  replace S8 := hid (S8.out.grow hb)
  replace B7 := hid (Bx.below hb B7.out.f.lt B7.out)
  replace B8 := hid (Bx.below hb B8.out.f.lt B8.out)
  replace HB := hid (HB.out.trans (hb.mono HB.out.size))
  clear hb
  have e1 : ¬ (20 : Int) < (P.Lines.length : Int) := by have := HM.out; omega
  have e2 : ((Q.length : Int) != (P.Lines.length : Int) - 1) = false := by have h1 := HM.out; have h2 := HML.out; rw [bne_eq_false_iff_eq]; omega
  have xB5 := B5.out.out
  have xB7 := B7.out.out
  go_upto_region 8 with fail
  clear xB5 xB7
  clear e1 e2
  have xB3 := B3.out.out
  have xB7 := B7.out.out
  go_wp2_with fail
  clear xB3 xB7
  go_loopw [68] (fun v wr => ∃ k : Nat, k ≤ m ∧ v = .int .i64 (k : Int) ∧ Slc wr b1 a1 us.length k1 us ∧ Slc wr q1 a5 P.Lines.length k5 P.Lines ∧ Slc wr q2 a7 Q.length k7 Q ∧ Bx wr w1.heap.size #[.slice a1 us.length k1] ∧ Bx wr w3.heap.size #[.slice a5 P.Lines.length k5] ∧ Bx wr w5.heap.size #[.slice a7 Q.length k7] ∧ Below w.heap.size w wr) (fun v _ => m - (intOf v).toNat)
  case atStart => exact ⟨0, Nat.zero_le _, rfl, S0.out, S5.out, S7.out, B3.out, B5.out, B7.out, HB.out⟩
  case round =>
    obtain ⟨k, hk, rfl, z0, z1, z2, z3, z4, z5, z6⟩ := hrel
    clear S0 S2 S5 S7 S8 B3 B4 B5 B7 B8 HB
    have S0 := hid z0
    have S5 := hid z1
    have S7 := hid z2
    have B3 := hid z3
    have B5 := hid z4
    have B7 := hid z5
    have HB := hid z6
    clear z0 z1 z2 z3 z4 z5 z6
    by_cases hlt : k < m
    rotate_left
    · have hki : ¬ (k : Int) < (Q.length : Int) := by have := HML.out; omega
      have xB5 := B5.out.out
      go_wp2_with fail
      clear xB5
      refine (i_UndoOk (mk_Undo (d := P) S5.out)).mono ?_
      rintro e w41 ⟨rfl, hb⟩
      replace S0 := hid (S0.out.grow hb)
      replace S5 := hid (S5.out.grow hb)
      replace S7 := hid (S7.out.grow hb)
      replace B3 := hid (Bx.below hb B3.out.f.lt B3.out)
      replace B5 := hid (Bx.below hb B5.out.f.lt B5.out)
      replace B7 := hid (Bx.below hb B7.out.f.lt B7.out)
      replace HB := hid (HB.out.trans (hb.mono HB.out.size))
      clear hb
      rw [HA.out.2]
      go_wp2
      go_ret
      exact ⟨rfl, HB.out⟩
    have hki : (k : Int) < (Q.length : Int) := by have := HML.out; omega
    by_cases he : P.Lines.length = us.length + 1
    rotate_left
    · have hei : ((P.Lines.length : Int) == (us.length : Int) + 1) = false := by rw [beq_eq_false_iff_ne]; omega
      have x3 := B3.out.out; have x5 := B5.out.out; have x7 := B7.out.out
      go_upto_region 12 with fail
      go_quiet (fail)
      go_wp2
      exact ⟨⟨k + 1, by omega, rfl, S0.out.grow (below_drewN _ _), S5.out.grow (below_drewN _ _), S7.out.grow (below_drewN _ _), B3.out.drewN _, B5.out.drewN _, B7.out.drewN _, HB.out.drewN _⟩, by simp [intOf]; omega⟩
    have hei : ((P.Lines.length : Int) == (us.length : Int) + 1) = true := by rw [beq_iff_eq]; omega
    have hq := HT.out.2.2.2 he
    clear he
    have hku : k < us.length := by rw [← hq]; have := HML.out; omega
    have hkq : k < Q.length := by have := HML.out; omega
    have hqe : Q[k].Text = us[k].Text := by simp only [hq]
    obtain ⟨g1, o1, c1, bb1, rfl, hg1, hp1, _, hA1⟩ := S7.out.elem k hkq
    obtain ⟨g2, o2, c2, bb2, rfl, hg2, hp2, _, hA2⟩ := S0.out.elem k hku
    obtain ⟨p1, n1, m1, rfl, t1, _⟩ := open_Line hp1
    obtain ⟨p2, n2, m2, rfl, t2, _⟩ := open_Line hp2
    rw [hqe] at t1
    have e1 : wr.cell? ⟨g1, o1 + k * 2, none⟩ = some (.slice p1 n1 m1) := hA1 0 _ rfl
    have e2 : wr.cell? ⟨g2, o2 + k * 2, none⟩ = some (.slice p2 n2 m2) := hA2 0 _ rfl
    have T1 := hid t1; have T2 := hid t2; have HD := hid (show Below wr.heap.size wr wr.drew from (Below.refl _ _).drew)
    clear t1 t2 hA1 hA2 hp1 hp2 hqe hq
    have y3 : wr.cell? ⟨w1.heap.size, 0, none⟩ = some (.slice (some ⟨g2, o2, none⟩) us.length k1) := B3.out.out 0
    have y5 : wr.cell? ⟨w3.heap.size, 0, none⟩ = some (.slice a5 P.Lines.length k5) := B5.out.out 0
    have y7 : wr.cell? ⟨w5.heap.size, 0, none⟩ = some (.slice (some ⟨g1, o1, none⟩) Q.length k7) := B7.out.out 0
    go_upto_region 12 with fail
    have hw0 : IntKind.i64.wrap ((us.length : Int) + 1) = (us.length : Int) + 1 := wrapI (by omega)
    refine late_start (fun W => W.cell? ⟨w1.heap.size, 0, none⟩ = some (.slice (some ⟨g2, o2, none⟩) us.length k1) ∧ W.cell? ⟨w3.heap.size, 0, none⟩ = some (.slice a5 P.Lines.length k5) ∧ W.cell? ⟨w5.heap.size, 0, none⟩ = some (.slice (some ⟨g1, o1, none⟩) Q.length k7) ∧ W.cell? ⟨g1, o1 + k * 2, none⟩ = some (.slice p1 n1 m1) ∧ W.cell? ⟨g2, o2 + k * 2, none⟩ = some (.slice p2 n2 m2)) 99 (by kernel_rfl) ?_ (fun hS => ?_)
    · exact ⟨y3, y5, y7, e1, e2⟩
    clear y3 y5 y7 e1 e2
    refine late_take (i := 0) (v := ?_) rfl (by kernel_rfl) (fun _ _ _ h => h) (by rfl) ?_ (by assumption) ?_
    rotate_left
    · (intro w9 hS9; (try dsimp only at hS9); (try go_split_ands); go_simp <;> with_reducible rfl)
    try simp only [Act.put, List.setIfInBounds_toArray, List.set_cons_zero, List.set_cons_succ]
    refine late_take (i := 1) (v := ?_) rfl (by kernel_rfl) (fun _ _ _ h => h) (by rfl) ?_ (by assumption) ?_
    rotate_left
    · (intro w9 hS9; (try dsimp only at hS9); (try go_split_ands); go_simp <;> with_reducible rfl)
    try simp only [Act.put, List.setIfInBounds_toArray, List.set_cons_zero, List.set_cons_succ]
    refine late_take (i := 2) (v := ?_) rfl (by kernel_rfl) (fun _ _ _ h => h) (by rfl) ?_ (by assumption) ?_
    rotate_left
    · (intro w9 hS9; (try dsimp only at hS9); (try go_split_ands); go_simp <;> with_reducible rfl)
    try simp only [Act.put, List.setIfInBounds_toArray, List.set_cons_zero, List.set_cons_succ]
    refine late_take (i := 3) (v := ?_) rfl (by kernel_rfl) (fun _ _ _ h => h) (by rfl) ?_ (by assumption) ?_
    rotate_left
    · (intro w9 hS9; (try dsimp only at hS9); (try go_split_ands); go_simp <;> with_reducible rfl)
    try simp only [Act.put, List.setIfInBounds_toArray, List.set_cons_zero, List.set_cons_succ]
    refine late_take (i := 4) (v := ?_) rfl (by kernel_rfl) (fun _ _ _ h => h) (by rfl) ?_ (by assumption) ?_
    rotate_left
    · (intro w9 hS9; (try dsimp only at hS9); (try go_split_ands); go_simp <;> with_reducible rfl)
    try simp only [Act.put, List.setIfInBounds_toArray, List.set_cons_zero, List.set_cons_succ]
    refine late_take (i := 5) (v := ?_) rfl (by kernel_rfl) (fun _ _ _ h => h) (by rfl) ?_ (by assumption) ?_
    rotate_left
    · (intro w9 hS9; (try dsimp only at hS9); (try go_split_ands); go_simp <;> with_reducible rfl)
    try simp only [Act.put, List.setIfInBounds_toArray, List.set_cons_zero, List.set_cons_succ]
    refine late_take (i := 6) (v := ?_) rfl (by kernel_rfl) (fun _ _ _ h => h) (by rfl) ?_ (by assumption) ?_
    rotate_left
    · (intro w9 hS9; (try dsimp only at hS9); (try go_split_ands); go_simp <;> with_reducible rfl)
    try simp only [Act.put, List.setIfInBounds_toArray, List.set_cons_zero, List.set_cons_succ]
    refine late_take (i := 7) (v := ?_) rfl (by kernel_rfl) (fun _ _ _ h => h) (by kernel_rfl) ?_ (by assumption) ?_
    rotate_left
    · (intro w9 hS9; (try dsimp only at hS9); (try go_split_ands); go_simp <;> with_reducible rfl)
    try simp only [Act.put, List.setIfInBounds_toArray, List.set_cons_zero, List.set_cons_succ]
    refine late_take (i := 8) (v := ?_) rfl (by kernel_rfl) (fun _ _ _ h => h) (by kernel_rfl) ?_ (by assumption) ?_
    rotate_left
    · (intro w9 hS9; (try dsimp only at hS9); (try go_split_ands); go_simp <;> with_reducible rfl)
    try simp only [Act.put, List.setIfInBounds_toArray, List.set_cons_zero, List.set_cons_succ]
    refine late_take (i := 9) (v := ?_) rfl (by kernel_rfl) (fun _ _ _ h => h) (by kernel_rfl) ?_ (by assumption) ?_
    rotate_left
    · (intro w9 hS9; (try dsimp only at hS9); (try go_split_ands); go_simp <;> with_reducible rfl)
    try simp only [Act.put, List.setIfInBounds_toArray, List.set_cons_zero, List.set_cons_succ]
    refine late_take (i := 10) (v := ?_) rfl (by kernel_rfl) (fun _ _ _ h => h) (by kernel_rfl) ?_ (by assumption) ?_
    rotate_left
    · (intro w9 hS9; (try dsimp only at hS9); (try go_split_ands); go_simp <;> with_reducible rfl)
    try simp only [Act.put, List.setIfInBounds_toArray, List.set_cons_zero, List.set_cons_succ]
    refine late_take (i := 11) (v := ?_) rfl (by kernel_rfl) (fun _ _ _ h => h) (by kernel_rfl) ?_ (by assumption) ?_
    rotate_left
    · (intro w9 hS9; (try dsimp only at hS9); (try go_split_ands); go_simp <;> with_reducible rfl)
    try simp only [Act.put, List.setIfInBounds_toArray, List.set_cons_zero, List.set_cons_succ]
    refine late_take (i := 12) (v := ?_) rfl (by kernel_rfl) (fun _ _ _ h => h) (by kernel_rfl) ?_ (by assumption) ?_
    rotate_left
    · (intro w9 hS9; (try dsimp only at hS9); (try go_split_ands); go_simp <;> with_reducible rfl)
    try simp only [Act.put, List.setIfInBounds_toArray, List.set_cons_zero, List.set_cons_succ]
    refine late_take (i := 13) (v := ?_) rfl (by kernel_rfl) (fun _ _ _ h => h) (by kernel_rfl) ?_ (by assumption) ?_
    rotate_left
    · (intro w9 hS9; (try dsimp only at hS9); (try go_split_ands); go_simp <;> with_reducible rfl)
    try simp only [Act.put, List.setIfInBounds_toArray, List.set_cons_zero, List.set_cons_succ]
    refine late_take (i := 14) (v := ?_) rfl (by kernel_rfl) (fun _ _ _ h => h) (by kernel_rfl) ?_ (by assumption) ?_
    rotate_left
    · (intro w9 hS9; (try dsimp only at hS9); (try go_split_ands); go_simp <;> with_reducible rfl)
    try simp only [Act.put, List.setIfInBounds_toArray, List.set_cons_zero, List.set_cons_succ]
    refine late_take (i := 15) (v := ?_) rfl (by kernel_rfl) (fun _ _ _ h => h) (by kernel_rfl) ?_ (by assumption) ?_
    rotate_left
    · (intro w9 hS9; (try dsimp only at hS9); (try go_split_ands); go_simp <;> with_reducible rfl)
    try simp only [Act.put, List.setIfInBounds_toArray, List.set_cons_zero, List.set_cons_succ]
    refine late_take (i := 16) (v := ?_) rfl (by kernel_rfl) (fun _ _ _ h => h) (by kernel_rfl) ?_ (by assumption) ?_
    rotate_left
    · (intro w9 hS9; (try dsimp only at hS9); (try go_split_ands); go_simp <;> with_reducible rfl)
    try simp only [Act.put, List.setIfInBounds_toArray, List.set_cons_zero, List.set_cons_succ]
    refine late_take (i := 17) (v := ?_) rfl (by kernel_rfl) (fun _ _ _ h => h) (by kernel_rfl) ?_ (by assumption) ?_
    rotate_left
    · (intro w9 hS9; (try dsimp only at hS9); (try go_split_ands); go_simp <;> with_reducible rfl)
    try simp only [Act.put, List.setIfInBounds_toArray, List.set_cons_zero, List.set_cons_succ]
    refine late_take (i := 18) (v := ?_) rfl (by kernel_rfl) (fun _ _ _ h => h) (by kernel_rfl) ?_ (by assumption) ?_
    rotate_left
    · (intro w9 hS9; (try dsimp only at hS9); (try go_split_ands); go_simp <;> with_reducible rfl)
    try simp only [Act.put, List.setIfInBounds_toArray, List.set_cons_zero, List.set_cons_succ]
    refine late_one (i := 19) rfl (by kernel_rfl) (fun K9 hK9 => ?_)
    go_simp
    refine (l_sameInts (Slc.grow T1.out HD.out) (Slc.grow T2.out HD.out)).mono ?_
    rintro e w8 ⟨rfl, hb2⟩
    have hb8 : Below wr.heap.size wr w8 := HD.out.trans hb2
    go_wp2_with fail
    refine hK9.out _ _ (fun _ => ?_) (fun hS9 => ?_)
    · (try dsimp only); exact ⟨keepcell hb2 hS.1, keepcell hb2 hS.2.1, keepcell hb2 hS.2.2.1, keepcell hb2 hS.2.2.2.1, keepcell hb2 hS.2.2.2.2⟩
    replace hS := hS9 (by decide)
    clear hK9 K9 hS9
    try simp only [Act.put, List.setIfInBounds_toArray, List.set_cons_zero, List.set_cons_succ]
    clear hb2
    refine late_take (i := 20) (v := ?_) rfl (by kernel_rfl) (fun _ _ _ h => h) (by kernel_rfl) ?_ (by assumption) ?_
    rotate_left
    · (intro w9 hS9; (try dsimp only at hS9); (try go_split_ands); go_simp <;> with_reducible rfl)
    try simp only [Act.put, List.setIfInBounds_toArray, List.set_cons_zero, List.set_cons_succ]
    refine late_one (i := 21) rfl (by kernel_rfl) (fun K9 hK9 => ?_)
    go_simp
    refine hK9.out _ _ (fun _ => ?_) (fun hS9 => ?_)
    · (try dsimp only); exact hS
    replace hS := hS9 (by decide)
    clear hK9 K9 hS9
    try simp only [Act.put, List.setIfInBounds_toArray, List.set_cons_zero, List.set_cons_succ]
    refine late_done (by kernel_rfl) ?_ _
    clear hw0
    go_wp2
    exact ⟨⟨k + 1, by omega, rfl, S0.out.grow hb8, S5.out.grow hb8, S7.out.grow hb8, Bx.below hb8 B3.out.f.lt B3.out, Bx.below hb8 B5.out.f.lt B5.out, Bx.below hb8 B7.out.f.lt B7.out, HB.out.trans (hb8.mono HB.out.size)⟩, by simp [intOf]; omega⟩
end Go.Proofs.Ytdfpjchneofndaa
