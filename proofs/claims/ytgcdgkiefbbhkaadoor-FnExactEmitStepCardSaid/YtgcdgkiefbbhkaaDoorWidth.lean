/- The width of runes (printed by gengrid.py). -/
import Derived.Test.YtgcdgkiefbbhkaaDoorProg
import Derived.Test.YtgcdgkiefbbhkaaDoorRune
import Derived.Test.YtgcdgkiefbbhkaaDoorApp
set_option linter.unusedSimpArgs false
set_option linter.unusedVariables false
namespace Go.G6
open Go.RowKit
def wideFrom (k : Nat) (r : Int) : Bool := (([(4352, 4447), (11904, 42191), (44032, 55203), (63744, 64255), (65280, 65376), (65504, 65510), (127744, 129791), (131072, 262141)] : List (Int × Int)).drop k).any fun p => decide (p.1 ≤ r ∧ r ≤ p.2)
def width (r : Int) : Int := if printable r then (if wideFrom 0 r then 2 else 1) else 0
theorem width_cases (r : Int) : width r = 0 ∨ width r = 1 ∨ width r = 2 := by unfold width; split <;> (try split) <;> simp
end Go.G6
namespace Go.Proofs.YtgcdgkiefbbhkaaDoor
open Go.RowKit Go.G6
set_option maxHeartbeats 1600000
set_option maxRecDepth 10000
theorem i_Width (r : Int) (w : World) :
    Calls Tryd.prog 65 #[.int .i64 r] w fun e w' => e = .returned (.int .i64 (width r)) ∧ Below w.heap.size w w' := by
  cases hp : printable r
  · have E : Hid (width r = 0) := hid (by simp [width, hp])
    have Hp := hid hp; clear hp
    go_enter Tryd.func65, Tryd.ntmps65
    go_wp2_with (go_at_call 49; refine (i_printable _ _).mono ?_; rintro e w' ⟨rfl, rfl⟩; rw [Hp.out])
    go_ret
    exact ⟨by rw [E.out]; rfl, Below.refl _ _⟩
  have E : Hid (width r = if wideFrom 0 r then 2 else 1) := hid (by simp [width, hp])
  have Hp := hid hp; clear hp
  go_enter Tryd.func65, Tryd.ntmps65
  go_wp2_with (go_at_call 49; refine (i_printable _ _).mono ?_; rintro e w' ⟨rfl, rfl⟩; rw [Hp.out])
  go_loopw [18] (fun i wr => ∃ k : Nat, k ≤ 8 ∧ i = .int .i64 k ∧ wideFrom 0 r = wideFrom k r ∧ (∀ o, wr.cell? ⟨w.heap.size, o, none⟩ = #[.int .i64 4352, .int .i64 4447, .int .i64 11904, .int .i64 42191, .int .i64 44032, .int .i64 55203, .int .i64 63744, .int .i64 64255, .int .i64 65280, .int .i64 65376, .int .i64 65504, .int .i64 65510, .int .i64 127744, .int .i64 129791, .int .i64 131072, .int .i64 262141][o]?) ∧ w.heap.size < wr.heap.size ∧ Below w.heap.size w wr) (fun i _ => 8 - (intOf i).toNat)
  case atStart => exact ⟨0, by omega, rfl, rfl, fun o => World.cell?_alloc_new w _ _ o, by simp, (Below.refl _ _).alloc (Nat.le_refl _) _⟩
  case round =>
    obtain ⟨k, hk, rfl, hw, hc, hs, hb⟩ := hrel
    have HB := hid hb; have HW := hid hw; have HS := hid hs
    clear hb hw
    have hcase : k = 0 ∨ k = 1 ∨ k = 2 ∨ k = 3 ∨ k = 4 ∨ k = 5 ∨ k = 6 ∨ k = 7 ∨ k = 8 := by omega
    rcases hcase with rfl | rfl | rfl | rfl | rfl | rfl | rfl | rfl | rfl
    · cases hi : inB r 4352 4447
      · have HN : Hid (wideFrom 0 r = wideFrom 1 r) := hid (by rw [HW.out]; simp only [wideFrom, List.drop]; rw [List.any_cons]; simp only [inB, decide_eq_false_iff_not] at hi; simp only [decide_eq_false hi, Bool.false_or])
        have Hi := hid hi; clear hi
        have c0 := hc 0; have c1 := hc 1
        simp at c0 c1
        go_wp2_with (go_at_call 33; refine (i_in _ _ _ _).mono ?_; rintro e w' ⟨rfl, rfl⟩; rw [Hi.out])
        refine ⟨⟨1, by omega, rfl, HN.out, ?_, ?_, ?_⟩, by simp [intOf]⟩
        · intro o; first | exact (World.cell?_of_block (Below.heap_alloc _ _ _ HS.out)).trans (hc o) | (simp [hc]; done)
        · have := HS.out; simp; omega
        · exact HB.out.alloc (by have := HS.out; omega) _
      · have HN : Hid (width r = 2) := hid (by
          have hw : wideFrom 0 r = true := by simp only [wideFrom, List.drop, List.any_cons]; simp only [inB, decide_eq_true_eq] at hi; simp [hi.1, hi.2]
          rw [E.out, HW.out, hw]; rfl)
        have Hi := hid hi; clear hi
        have c0 := hc 0; have c1 := hc 1
        simp at c0 c1
        go_wp2_with (go_at_call 33; refine (i_in _ _ _ _).mono ?_; rintro e w' ⟨rfl, rfl⟩; rw [Hi.out])
        go_ret
        exact ⟨by rw [HN.out]; rfl, HB.out.alloc (by have := HS.out; omega) _⟩
    · cases hi : inB r 11904 42191
      · have HN : Hid (wideFrom 0 r = wideFrom 2 r) := hid (by rw [HW.out]; simp only [wideFrom, List.drop]; rw [List.any_cons]; simp only [inB, decide_eq_false_iff_not] at hi; simp only [decide_eq_false hi, Bool.false_or])
        have Hi := hid hi; clear hi
        have c0 := hc 2; have c1 := hc 3
        simp at c0 c1
        go_wp2_with (go_at_call 33; refine (i_in _ _ _ _).mono ?_; rintro e w' ⟨rfl, rfl⟩; rw [Hi.out])
        refine ⟨⟨2, by omega, rfl, HN.out, ?_, ?_, ?_⟩, by simp [intOf]⟩
        · intro o; first | exact (World.cell?_of_block (Below.heap_alloc _ _ _ HS.out)).trans (hc o) | (simp [hc]; done)
        · have := HS.out; simp; omega
        · exact HB.out.alloc (by have := HS.out; omega) _
      · have HN : Hid (width r = 2) := hid (by
          have hw : wideFrom 1 r = true := by simp only [wideFrom, List.drop, List.any_cons]; simp only [inB, decide_eq_true_eq] at hi; simp [hi.1, hi.2]
          rw [E.out, HW.out, hw]; rfl)
        have Hi := hid hi; clear hi
        have c0 := hc 2; have c1 := hc 3
        simp at c0 c1
        go_wp2_with (go_at_call 33; refine (i_in _ _ _ _).mono ?_; rintro e w' ⟨rfl, rfl⟩; rw [Hi.out])
        go_ret
        exact ⟨by rw [HN.out]; rfl, HB.out.alloc (by have := HS.out; omega) _⟩
    · cases hi : inB r 44032 55203
      · have HN : Hid (wideFrom 0 r = wideFrom 3 r) := hid (by rw [HW.out]; simp only [wideFrom, List.drop]; rw [List.any_cons]; simp only [inB, decide_eq_false_iff_not] at hi; simp only [decide_eq_false hi, Bool.false_or])
        have Hi := hid hi; clear hi
        have c0 := hc 4; have c1 := hc 5
        simp at c0 c1
        go_wp2_with (go_at_call 33; refine (i_in _ _ _ _).mono ?_; rintro e w' ⟨rfl, rfl⟩; rw [Hi.out])
        refine ⟨⟨3, by omega, rfl, HN.out, ?_, ?_, ?_⟩, by simp [intOf]⟩
        · intro o; first | exact (World.cell?_of_block (Below.heap_alloc _ _ _ HS.out)).trans (hc o) | (simp [hc]; done)
        · have := HS.out; simp; omega
        · exact HB.out.alloc (by have := HS.out; omega) _
      · have HN : Hid (width r = 2) := hid (by
          have hw : wideFrom 2 r = true := by simp only [wideFrom, List.drop, List.any_cons]; simp only [inB, decide_eq_true_eq] at hi; simp [hi.1, hi.2]
          rw [E.out, HW.out, hw]; rfl)
        have Hi := hid hi; clear hi
        have c0 := hc 4; have c1 := hc 5
        simp at c0 c1
        go_wp2_with (go_at_call 33; refine (i_in _ _ _ _).mono ?_; rintro e w' ⟨rfl, rfl⟩; rw [Hi.out])
        go_ret
        exact ⟨by rw [HN.out]; rfl, HB.out.alloc (by have := HS.out; omega) _⟩
    · cases hi : inB r 63744 64255
      · have HN : Hid (wideFrom 0 r = wideFrom 4 r) := hid (by rw [HW.out]; simp only [wideFrom, List.drop]; rw [List.any_cons]; simp only [inB, decide_eq_false_iff_not] at hi; simp only [decide_eq_false hi, Bool.false_or])
        have Hi := hid hi; clear hi
        have c0 := hc 6; have c1 := hc 7
        simp at c0 c1
        go_wp2_with (go_at_call 33; refine (i_in _ _ _ _).mono ?_; rintro e w' ⟨rfl, rfl⟩; rw [Hi.out])
        refine ⟨⟨4, by omega, rfl, HN.out, ?_, ?_, ?_⟩, by simp [intOf]⟩
        · intro o; first | exact (World.cell?_of_block (Below.heap_alloc _ _ _ HS.out)).trans (hc o) | (simp [hc]; done)
        · have := HS.out; simp; omega
        · exact HB.out.alloc (by have := HS.out; omega) _
      · have HN : Hid (width r = 2) := hid (by
          have hw : wideFrom 3 r = true := by simp only [wideFrom, List.drop, List.any_cons]; simp only [inB, decide_eq_true_eq] at hi; simp [hi.1, hi.2]
          rw [E.out, HW.out, hw]; rfl)
        have Hi := hid hi; clear hi
        have c0 := hc 6; have c1 := hc 7
        simp at c0 c1
        go_wp2_with (go_at_call 33; refine (i_in _ _ _ _).mono ?_; rintro e w' ⟨rfl, rfl⟩; rw [Hi.out])
        go_ret
        exact ⟨by rw [HN.out]; rfl, HB.out.alloc (by have := HS.out; omega) _⟩
    · cases hi : inB r 65280 65376
      · have HN : Hid (wideFrom 0 r = wideFrom 5 r) := hid (by rw [HW.out]; simp only [wideFrom, List.drop]; rw [List.any_cons]; simp only [inB, decide_eq_false_iff_not] at hi; simp only [decide_eq_false hi, Bool.false_or])
        have Hi := hid hi; clear hi
        have c0 := hc 8; have c1 := hc 9
        simp at c0 c1
        go_wp2_with (go_at_call 33; refine (i_in _ _ _ _).mono ?_; rintro e w' ⟨rfl, rfl⟩; rw [Hi.out])
        refine ⟨⟨5, by omega, rfl, HN.out, ?_, ?_, ?_⟩, by simp [intOf]⟩
        · intro o; first | exact (World.cell?_of_block (Below.heap_alloc _ _ _ HS.out)).trans (hc o) | (simp [hc]; done)
        · have := HS.out; simp; omega
        · exact HB.out.alloc (by have := HS.out; omega) _
      · have HN : Hid (width r = 2) := hid (by
          have hw : wideFrom 4 r = true := by simp only [wideFrom, List.drop, List.any_cons]; simp only [inB, decide_eq_true_eq] at hi; simp [hi.1, hi.2]
          rw [E.out, HW.out, hw]; rfl)
        have Hi := hid hi; clear hi
        have c0 := hc 8; have c1 := hc 9
        simp at c0 c1
        go_wp2_with (go_at_call 33; refine (i_in _ _ _ _).mono ?_; rintro e w' ⟨rfl, rfl⟩; rw [Hi.out])
        go_ret
        exact ⟨by rw [HN.out]; rfl, HB.out.alloc (by have := HS.out; omega) _⟩
    · cases hi : inB r 65504 65510
      · have HN : Hid (wideFrom 0 r = wideFrom 6 r) := hid (by rw [HW.out]; simp only [wideFrom, List.drop]; rw [List.any_cons]; simp only [inB, decide_eq_false_iff_not] at hi; simp only [decide_eq_false hi, Bool.false_or])
        have Hi := hid hi; clear hi
        have c0 := hc 10; have c1 := hc 11
        simp at c0 c1
        go_wp2_with (go_at_call 33; refine (i_in _ _ _ _).mono ?_; rintro e w' ⟨rfl, rfl⟩; rw [Hi.out])
        refine ⟨⟨6, by omega, rfl, HN.out, ?_, ?_, ?_⟩, by simp [intOf]⟩
        · intro o; first | exact (World.cell?_of_block (Below.heap_alloc _ _ _ HS.out)).trans (hc o) | (simp [hc]; done)
        · have := HS.out; simp; omega
        · exact HB.out.alloc (by have := HS.out; omega) _
      · have HN : Hid (width r = 2) := hid (by
          have hw : wideFrom 5 r = true := by simp only [wideFrom, List.drop, List.any_cons]; simp only [inB, decide_eq_true_eq] at hi; simp [hi.1, hi.2]
          rw [E.out, HW.out, hw]; rfl)
        have Hi := hid hi; clear hi
        have c0 := hc 10; have c1 := hc 11
        simp at c0 c1
        go_wp2_with (go_at_call 33; refine (i_in _ _ _ _).mono ?_; rintro e w' ⟨rfl, rfl⟩; rw [Hi.out])
        go_ret
        exact ⟨by rw [HN.out]; rfl, HB.out.alloc (by have := HS.out; omega) _⟩
    · cases hi : inB r 127744 129791
      · have HN : Hid (wideFrom 0 r = wideFrom 7 r) := hid (by rw [HW.out]; simp only [wideFrom, List.drop]; rw [List.any_cons]; simp only [inB, decide_eq_false_iff_not] at hi; simp only [decide_eq_false hi, Bool.false_or])
        have Hi := hid hi; clear hi
        have c0 := hc 12; have c1 := hc 13
        simp at c0 c1
        go_wp2_with (go_at_call 33; refine (i_in _ _ _ _).mono ?_; rintro e w' ⟨rfl, rfl⟩; rw [Hi.out])
        refine ⟨⟨7, by omega, rfl, HN.out, ?_, ?_, ?_⟩, by simp [intOf]⟩
        · intro o; first | exact (World.cell?_of_block (Below.heap_alloc _ _ _ HS.out)).trans (hc o) | (simp [hc]; done)
        · have := HS.out; simp; omega
        · exact HB.out.alloc (by have := HS.out; omega) _
      · have HN : Hid (width r = 2) := hid (by
          have hw : wideFrom 6 r = true := by simp only [wideFrom, List.drop, List.any_cons]; simp only [inB, decide_eq_true_eq] at hi; simp [hi.1, hi.2]
          rw [E.out, HW.out, hw]; rfl)
        have Hi := hid hi; clear hi
        have c0 := hc 12; have c1 := hc 13
        simp at c0 c1
        go_wp2_with (go_at_call 33; refine (i_in _ _ _ _).mono ?_; rintro e w' ⟨rfl, rfl⟩; rw [Hi.out])
        go_ret
        exact ⟨by rw [HN.out]; rfl, HB.out.alloc (by have := HS.out; omega) _⟩
    · cases hi : inB r 131072 262141
      · have HN : Hid (wideFrom 0 r = wideFrom 8 r) := hid (by rw [HW.out]; simp only [wideFrom, List.drop]; rw [List.any_cons]; simp only [inB, decide_eq_false_iff_not] at hi; simp only [decide_eq_false hi, Bool.false_or])
        have Hi := hid hi; clear hi
        have c0 := hc 14; have c1 := hc 15
        simp at c0 c1
        go_wp2_with (go_at_call 33; refine (i_in _ _ _ _).mono ?_; rintro e w' ⟨rfl, rfl⟩; rw [Hi.out])
        refine ⟨⟨8, by omega, rfl, HN.out, ?_, ?_, ?_⟩, by simp [intOf]⟩
        · intro o; first | exact (World.cell?_of_block (Below.heap_alloc _ _ _ HS.out)).trans (hc o) | (simp [hc]; done)
        · have := HS.out; simp; omega
        · exact HB.out.alloc (by have := HS.out; omega) _
      · have HN : Hid (width r = 2) := hid (by
          have hw : wideFrom 7 r = true := by simp only [wideFrom, List.drop, List.any_cons]; simp only [inB, decide_eq_true_eq] at hi; simp [hi.1, hi.2]
          rw [E.out, HW.out, hw]; rfl)
        have Hi := hid hi; clear hi
        have c0 := hc 14; have c1 := hc 15
        simp at c0 c1
        go_wp2_with (go_at_call 33; refine (i_in _ _ _ _).mono ?_; rintro e w' ⟨rfl, rfl⟩; rw [Hi.out])
        go_ret
        exact ⟨by rw [HN.out]; rfl, HB.out.alloc (by have := HS.out; omega) _⟩
    · go_wp2
      go_ret
      exact ⟨by rw [E.out, HW.out]; rfl, HB.out⟩
theorem s_l02Wide (w : World) :
    Calls Tryd.prog 64 #[] w fun e w' => e = .returned (.slice (some ⟨w.heap.size, 0, none⟩) 16 16) ∧ w.alloc (.cells #[.int .i64 4352, .int .i64 4447, .int .i64 11904, .int .i64 42191, .int .i64 44032, .int .i64 55203, .int .i64 63744, .int .i64 64255, .int .i64 65280, .int .i64 65376, .int .i64 65504, .int .i64 65510, .int .i64 127744, .int .i64 129791, .int .i64 131072, .int .i64 262141] 3) = w' := by
  go_enter Tryd.func64, Tryd.ntmps64
  go_wp2
  go_ret
  exact ⟨rfl, rfl⟩
theorem s_Width (r : Int) (w : World) :
    Calls Tryd.prog 55 #[.int .i64 r] w fun e w' => e = .returned (.int .i64 (width r)) ∧ Below w.heap.size w w' := by
  cases hp : printable r
  · have E : Hid (width r = 0) := hid (by simp [width, hp])
    have Hp := hid hp; clear hp
    go_enter Tryd.func55, Tryd.ntmps55
    go_wp2_with (go_at_call 47; refine (s_printable _ _).mono ?_; rintro e w' ⟨rfl, rfl⟩; rw [Hp.out])
    go_ret
    exact ⟨by rw [E.out]; rfl, Below.refl _ _⟩
  have E : Hid (width r = if wideFrom 0 r then 2 else 1) := hid (by simp [width, hp])
  have Hp := hid hp; clear hp
  have hc := fun o => World.cell?_alloc_new w #[.int .i64 4352, .int .i64 4447, .int .i64 11904, .int .i64 42191, .int .i64 44032, .int .i64 55203, .int .i64 63744, .int .i64 64255, .int .i64 65280, .int .i64 65376, .int .i64 65504, .int .i64 65510, .int .i64 127744, .int .i64 129791, .int .i64 131072, .int .i64 262141] 3 o
  have HC := hid hc; clear hc
  go_enter Tryd.func55, Tryd.ntmps55
  go_wp2_with (first | (go_at_call 47; refine (s_printable _ _).mono ?_; rintro e w' ⟨rfl, rfl⟩; rw [Hp.out]) | (go_at_call 64; refine (s_l02Wide _).mono ?_; rintro e w' ⟨rfl, rfl⟩))
  go_loop [4] (fun i => ∃ k : Nat, k ≤ 8 ∧ i = .int .i64 ((2 * k : Nat) : Int) ∧ wideFrom 0 r = wideFrom k r) (fun i => 16 - (intOf i).toNat)
  case atStart => exact ⟨0, by omega, rfl, rfl⟩
  case round =>
    obtain ⟨k, hk, rfl, hw⟩ := hrel
    have HW := hid hw
    clear hw
    have hcase : k = 0 ∨ k = 1 ∨ k = 2 ∨ k = 3 ∨ k = 4 ∨ k = 5 ∨ k = 6 ∨ k = 7 ∨ k = 8 := by omega
    rcases hcase with rfl | rfl | rfl | rfl | rfl | rfl | rfl | rfl | rfl
    · have c0 := HC.out 0; have c1 := HC.out 1
      simp at c0 c1
      by_cases h1 : (4352 : Int) ≤ r
      · by_cases h2 : r ≤ (4447 : Int)
        · have HN : Hid (width r = 2) := hid (by
            have hw : wideFrom 0 r = true := by simp only [wideFrom, List.drop, List.any_cons]; simp [h1, h2]
            rw [E.out, HW.out, hw]; rfl)
          go_wp2
          go_ret
          exact ⟨by rw [HN.out]; rfl, (Below.refl _ _).alloc (Nat.le_refl _) _⟩
        · have HN : Hid (wideFrom 0 r = wideFrom 1 r) := hid (by rw [HW.out]; simp only [wideFrom, List.drop]; rw [List.any_cons]; simp only [decide_eq_false (show ¬ ((4352 : Int) ≤ r ∧ r ≤ 4447) by omega), Bool.false_or])
          go_wp2
          exact ⟨⟨1, by omega, rfl, HN.out⟩, by simp [intOf]⟩
      · have HN : Hid (wideFrom 0 r = wideFrom 1 r) := hid (by rw [HW.out]; simp only [wideFrom, List.drop]; rw [List.any_cons]; simp only [decide_eq_false (show ¬ ((4352 : Int) ≤ r ∧ r ≤ 4447) by omega), Bool.false_or])
        go_wp2
        exact ⟨⟨1, by omega, rfl, HN.out⟩, by simp [intOf]⟩
    · have c0 := HC.out 2; have c1 := HC.out 3
      simp at c0 c1
      by_cases h1 : (11904 : Int) ≤ r
      · by_cases h2 : r ≤ (42191 : Int)
        · have HN : Hid (width r = 2) := hid (by
            have hw : wideFrom 1 r = true := by simp only [wideFrom, List.drop, List.any_cons]; simp [h1, h2]
            rw [E.out, HW.out, hw]; rfl)
          go_wp2
          go_ret
          exact ⟨by rw [HN.out]; rfl, (Below.refl _ _).alloc (Nat.le_refl _) _⟩
        · have HN : Hid (wideFrom 0 r = wideFrom 2 r) := hid (by rw [HW.out]; simp only [wideFrom, List.drop]; rw [List.any_cons]; simp only [decide_eq_false (show ¬ ((11904 : Int) ≤ r ∧ r ≤ 42191) by omega), Bool.false_or])
          go_wp2
          exact ⟨⟨2, by omega, rfl, HN.out⟩, by simp [intOf]⟩
      · have HN : Hid (wideFrom 0 r = wideFrom 2 r) := hid (by rw [HW.out]; simp only [wideFrom, List.drop]; rw [List.any_cons]; simp only [decide_eq_false (show ¬ ((11904 : Int) ≤ r ∧ r ≤ 42191) by omega), Bool.false_or])
        go_wp2
        exact ⟨⟨2, by omega, rfl, HN.out⟩, by simp [intOf]⟩
    · have c0 := HC.out 4; have c1 := HC.out 5
      simp at c0 c1
      by_cases h1 : (44032 : Int) ≤ r
      · by_cases h2 : r ≤ (55203 : Int)
        · have HN : Hid (width r = 2) := hid (by
            have hw : wideFrom 2 r = true := by simp only [wideFrom, List.drop, List.any_cons]; simp [h1, h2]
            rw [E.out, HW.out, hw]; rfl)
          go_wp2
          go_ret
          exact ⟨by rw [HN.out]; rfl, (Below.refl _ _).alloc (Nat.le_refl _) _⟩
        · have HN : Hid (wideFrom 0 r = wideFrom 3 r) := hid (by rw [HW.out]; simp only [wideFrom, List.drop]; rw [List.any_cons]; simp only [decide_eq_false (show ¬ ((44032 : Int) ≤ r ∧ r ≤ 55203) by omega), Bool.false_or])
          go_wp2
          exact ⟨⟨3, by omega, rfl, HN.out⟩, by simp [intOf]⟩
      · have HN : Hid (wideFrom 0 r = wideFrom 3 r) := hid (by rw [HW.out]; simp only [wideFrom, List.drop]; rw [List.any_cons]; simp only [decide_eq_false (show ¬ ((44032 : Int) ≤ r ∧ r ≤ 55203) by omega), Bool.false_or])
        go_wp2
        exact ⟨⟨3, by omega, rfl, HN.out⟩, by simp [intOf]⟩
    · have c0 := HC.out 6; have c1 := HC.out 7
      simp at c0 c1
      by_cases h1 : (63744 : Int) ≤ r
      · by_cases h2 : r ≤ (64255 : Int)
        · have HN : Hid (width r = 2) := hid (by
            have hw : wideFrom 3 r = true := by simp only [wideFrom, List.drop, List.any_cons]; simp [h1, h2]
            rw [E.out, HW.out, hw]; rfl)
          go_wp2
          go_ret
          exact ⟨by rw [HN.out]; rfl, (Below.refl _ _).alloc (Nat.le_refl _) _⟩
        · have HN : Hid (wideFrom 0 r = wideFrom 4 r) := hid (by rw [HW.out]; simp only [wideFrom, List.drop]; rw [List.any_cons]; simp only [decide_eq_false (show ¬ ((63744 : Int) ≤ r ∧ r ≤ 64255) by omega), Bool.false_or])
          go_wp2
          exact ⟨⟨4, by omega, rfl, HN.out⟩, by simp [intOf]⟩
      · have HN : Hid (wideFrom 0 r = wideFrom 4 r) := hid (by rw [HW.out]; simp only [wideFrom, List.drop]; rw [List.any_cons]; simp only [decide_eq_false (show ¬ ((63744 : Int) ≤ r ∧ r ≤ 64255) by omega), Bool.false_or])
        go_wp2
        exact ⟨⟨4, by omega, rfl, HN.out⟩, by simp [intOf]⟩
    · have c0 := HC.out 8; have c1 := HC.out 9
      simp at c0 c1
      by_cases h1 : (65280 : Int) ≤ r
      · by_cases h2 : r ≤ (65376 : Int)
        · have HN : Hid (width r = 2) := hid (by
            have hw : wideFrom 4 r = true := by simp only [wideFrom, List.drop, List.any_cons]; simp [h1, h2]
            rw [E.out, HW.out, hw]; rfl)
          go_wp2
          go_ret
          exact ⟨by rw [HN.out]; rfl, (Below.refl _ _).alloc (Nat.le_refl _) _⟩
        · have HN : Hid (wideFrom 0 r = wideFrom 5 r) := hid (by rw [HW.out]; simp only [wideFrom, List.drop]; rw [List.any_cons]; simp only [decide_eq_false (show ¬ ((65280 : Int) ≤ r ∧ r ≤ 65376) by omega), Bool.false_or])
          go_wp2
          exact ⟨⟨5, by omega, rfl, HN.out⟩, by simp [intOf]⟩
      · have HN : Hid (wideFrom 0 r = wideFrom 5 r) := hid (by rw [HW.out]; simp only [wideFrom, List.drop]; rw [List.any_cons]; simp only [decide_eq_false (show ¬ ((65280 : Int) ≤ r ∧ r ≤ 65376) by omega), Bool.false_or])
        go_wp2
        exact ⟨⟨5, by omega, rfl, HN.out⟩, by simp [intOf]⟩
    · have c0 := HC.out 10; have c1 := HC.out 11
      simp at c0 c1
      by_cases h1 : (65504 : Int) ≤ r
      · by_cases h2 : r ≤ (65510 : Int)
        · have HN : Hid (width r = 2) := hid (by
            have hw : wideFrom 5 r = true := by simp only [wideFrom, List.drop, List.any_cons]; simp [h1, h2]
            rw [E.out, HW.out, hw]; rfl)
          go_wp2
          go_ret
          exact ⟨by rw [HN.out]; rfl, (Below.refl _ _).alloc (Nat.le_refl _) _⟩
        · have HN : Hid (wideFrom 0 r = wideFrom 6 r) := hid (by rw [HW.out]; simp only [wideFrom, List.drop]; rw [List.any_cons]; simp only [decide_eq_false (show ¬ ((65504 : Int) ≤ r ∧ r ≤ 65510) by omega), Bool.false_or])
          go_wp2
          exact ⟨⟨6, by omega, rfl, HN.out⟩, by simp [intOf]⟩
      · have HN : Hid (wideFrom 0 r = wideFrom 6 r) := hid (by rw [HW.out]; simp only [wideFrom, List.drop]; rw [List.any_cons]; simp only [decide_eq_false (show ¬ ((65504 : Int) ≤ r ∧ r ≤ 65510) by omega), Bool.false_or])
        go_wp2
        exact ⟨⟨6, by omega, rfl, HN.out⟩, by simp [intOf]⟩
    · have c0 := HC.out 12; have c1 := HC.out 13
      simp at c0 c1
      by_cases h1 : (127744 : Int) ≤ r
      · by_cases h2 : r ≤ (129791 : Int)
        · have HN : Hid (width r = 2) := hid (by
            have hw : wideFrom 6 r = true := by simp only [wideFrom, List.drop, List.any_cons]; simp [h1, h2]
            rw [E.out, HW.out, hw]; rfl)
          go_wp2
          go_ret
          exact ⟨by rw [HN.out]; rfl, (Below.refl _ _).alloc (Nat.le_refl _) _⟩
        · have HN : Hid (wideFrom 0 r = wideFrom 7 r) := hid (by rw [HW.out]; simp only [wideFrom, List.drop]; rw [List.any_cons]; simp only [decide_eq_false (show ¬ ((127744 : Int) ≤ r ∧ r ≤ 129791) by omega), Bool.false_or])
          go_wp2
          exact ⟨⟨7, by omega, rfl, HN.out⟩, by simp [intOf]⟩
      · have HN : Hid (wideFrom 0 r = wideFrom 7 r) := hid (by rw [HW.out]; simp only [wideFrom, List.drop]; rw [List.any_cons]; simp only [decide_eq_false (show ¬ ((127744 : Int) ≤ r ∧ r ≤ 129791) by omega), Bool.false_or])
        go_wp2
        exact ⟨⟨7, by omega, rfl, HN.out⟩, by simp [intOf]⟩
    · have c0 := HC.out 14; have c1 := HC.out 15
      simp at c0 c1
      by_cases h1 : (131072 : Int) ≤ r
      · by_cases h2 : r ≤ (262141 : Int)
        · have HN : Hid (width r = 2) := hid (by
            have hw : wideFrom 7 r = true := by simp only [wideFrom, List.drop, List.any_cons]; simp [h1, h2]
            rw [E.out, HW.out, hw]; rfl)
          go_wp2
          go_ret
          exact ⟨by rw [HN.out]; rfl, (Below.refl _ _).alloc (Nat.le_refl _) _⟩
        · have HN : Hid (wideFrom 0 r = wideFrom 8 r) := hid (by rw [HW.out]; simp only [wideFrom, List.drop]; rw [List.any_cons]; simp only [decide_eq_false (show ¬ ((131072 : Int) ≤ r ∧ r ≤ 262141) by omega), Bool.false_or])
          go_wp2
          exact ⟨⟨8, by omega, rfl, HN.out⟩, by simp [intOf]⟩
      · have HN : Hid (wideFrom 0 r = wideFrom 8 r) := hid (by rw [HW.out]; simp only [wideFrom, List.drop]; rw [List.any_cons]; simp only [decide_eq_false (show ¬ ((131072 : Int) ≤ r ∧ r ≤ 262141) by omega), Bool.false_or])
        go_wp2
        exact ⟨⟨8, by omega, rfl, HN.out⟩, by simp [intOf]⟩
    · go_wp2
      go_ret
      exact ⟨by rw [E.out, HW.out]; rfl, (Below.refl _ _).alloc (Nat.le_refl _) _⟩
end Go.Proofs.YtgcdgkiefbbhkaaDoor
