/- TrialNew: new trials, and the marks of empty lists (printed by gennew.py). -/
import Derived.Test.YtgcdgkiefbbhkaaHelpD
import Derived.Test.YtgcdgkiefbbhkaaRune
import Derived.Test.YtgcdgkiefbbhkaaWords
import Derived.Test.YtgcdgkiefbbhkaaLate
import Derived.Deep.DeepCutAuto
set_option linter.unusedSimpArgs false
set_option linter.unusedVariables false
namespace Go.G6
open Go Go.RowKit
theorem Bx.setTn {w : World} {b : Nat} {c : Array Value} (h : Bx w b c) (o : Nat) (v : Value) {c9 : Array Value} (hc : c.setIfInBounds o v = c9) : Bx (w.setCell ⟨b, o, none⟩ v) b c9 := hc ▸ h.setSame o v
def tnOk (room keep size : Int) : Bool := inB room 0 60000 && (inB keep 1 100 && inB size 0 60000)
end Go.G6
namespace Go.Proofs.Ytgcdgkiefbbhkaa
open Go.RowKit Go.G6
set_option maxHeartbeats 4000000
set_option maxRecDepth 10000
theorem nil_markNodeS (k : Int) (w : World) : Calls Try.prog 78 #[.slice none 0 0, .int .i64 k] w fun e w' => e = .returned (.int .i64 k) ∧ w = w' := by
  go_enter Try.func78, Try.ntmps78
  go_wp2_with fail
  go_loopw [1, 5] (fun q i wr => q = .int .i64 k ∧ i = .int .i64 0 ∧ wr = w) (fun _ _ _ => 0)
  case atStart => exact ⟨rfl, rfl, rfl⟩
  case round =>
    obtain ⟨rfl, rfl, rfl⟩ := hrel
    go_wp2
    go_ret
    exact ⟨rfl, rfl⟩
theorem nil_heldNodeS (k : Int) (w : World) : Calls Try.prog 82 #[.slice none 0 0, .int .i64 k] w fun e w' => e = .returned (.int .i64 k) ∧ w = w' := by
  go_enter Try.func82, Try.ntmps82
  go_wp2_with fail
  go_loopw [1, 5] (fun q i wr => q = .int .i64 k ∧ i = .int .i64 0 ∧ wr = w) (fun _ _ _ => 0)
  case atStart => exact ⟨rfl, rfl, rfl⟩
  case round =>
    obtain ⟨rfl, rfl, rfl⟩ := hrel
    go_wp2
    go_ret
    exact ⟨rfl, rfl⟩
theorem nil_markLinkS (k : Int) (w : World) : Calls Try.prog 79 #[.slice none 0 0, .int .i64 k] w fun e w' => e = .returned (.int .i64 k) ∧ w = w' := by
  go_enter Try.func79, Try.ntmps79
  go_wp2_with fail
  go_loopw [1, 5] (fun q i wr => q = .int .i64 k ∧ i = .int .i64 0 ∧ wr = w) (fun _ _ _ => 0)
  case atStart => exact ⟨rfl, rfl, rfl⟩
  case round =>
    obtain ⟨rfl, rfl, rfl⟩ := hrel
    go_wp2
    go_ret
    exact ⟨rfl, rfl⟩
theorem nil_heldLinkS (k : Int) (w : World) : Calls Try.prog 83 #[.slice none 0 0, .int .i64 k] w fun e w' => e = .returned (.int .i64 k) ∧ w = w' := by
  go_enter Try.func83, Try.ntmps83
  go_wp2_with fail
  go_loopw [1, 5] (fun q i wr => q = .int .i64 k ∧ i = .int .i64 0 ∧ wr = w) (fun _ _ _ => 0)
  case atStart => exact ⟨rfl, rfl, rfl⟩
  case round =>
    obtain ⟨rfl, rfl, rfl⟩ := hrel
    go_wp2
    go_ret
    exact ⟨rfl, rfl⟩
theorem nil_markTurnS (k : Int) (w : World) : Calls Try.prog 80 #[.slice none 0 0, .int .i64 k] w fun e w' => e = .returned (.int .i64 k) ∧ w = w' := by
  go_enter Try.func80, Try.ntmps80
  go_wp2_with fail
  go_loopw [1, 5] (fun q i wr => q = .int .i64 k ∧ i = .int .i64 0 ∧ wr = w) (fun _ _ _ => 0)
  case atStart => exact ⟨rfl, rfl, rfl⟩
  case round =>
    obtain ⟨rfl, rfl, rfl⟩ := hrel
    go_wp2
    go_ret
    exact ⟨rfl, rfl⟩
theorem nil_heldTurnS (k : Int) (w : World) : Calls Try.prog 84 #[.slice none 0 0, .int .i64 k] w fun e w' => e = .returned (.int .i64 k) ∧ w = w' := by
  go_enter Try.func84, Try.ntmps84
  go_wp2_with fail
  go_loopw [1, 5] (fun q i wr => q = .int .i64 k ∧ i = .int .i64 0 ∧ wr = w) (fun _ _ _ => 0)
  case atStart => exact ⟨rfl, rfl, rfl⟩
  case round =>
    obtain ⟨rfl, rfl, rfl⟩ := hrel
    go_wp2
    go_ret
    exact ⟨rfl, rfl⟩
theorem nil_markEntryS (k : Int) (w : World) : Calls Try.prog 47 #[.slice none 0 0, .int .i64 k] w fun e w' => e = .returned (.int .i64 k) ∧ w = w' := by
  go_enter Try.func47, Try.ntmps47
  go_wp2_with fail
  go_loopw [1, 5] (fun q i wr => q = .int .i64 k ∧ i = .int .i64 0 ∧ wr = w) (fun _ _ _ => 0)
  case atStart => exact ⟨rfl, rfl, rfl⟩
  case round =>
    obtain ⟨rfl, rfl, rfl⟩ := hrel
    go_wp2
    go_ret
    exact ⟨rfl, rfl⟩
theorem nil_heldEntryS (k : Int) (w : World) : Calls Try.prog 50 #[.slice none 0 0, .int .i64 k] w fun e w' => e = .returned (.int .i64 k) ∧ w = w' := by
  go_enter Try.func50, Try.ntmps50
  go_wp2_with fail
  go_loopw [1, 5] (fun q i wr => q = .int .i64 k ∧ i = .int .i64 0 ∧ wr = w) (fun _ _ _ => 0)
  case atStart => exact ⟨rfl, rfl, rfl⟩
  case round =>
    obtain ⟨rfl, rfl, rfl⟩ := hrel
    go_wp2
    go_ret
    exact ⟨rfl, rfl⟩
theorem nil_markDisk (r f n k : Int) (w : World) : Calls Try.prog 46 #[.agg #[.int .i64 (r), .int .i64 (f), .int .i64 (n), .slice none 0 0, .slice none 0 0, .slice none 0 0], .int .i64 k] w fun e w' => e = .returned (.int .i64 k) ∧ Below w.heap.size w w' := by
  go_enter Try.func46, Try.ntmps46
  go_wp2_with (first | (go_at_call 78; refine (nil_markNodeS _ _).mono ?_; rintro e w' ⟨rfl, rfl⟩) | (go_at_call 79; refine (nil_markLinkS _ _).mono ?_; rintro e w' ⟨rfl, rfl⟩) | (go_at_call 80; refine (nil_markTurnS _ _).mono ?_; rintro e w' ⟨rfl, rfl⟩))
  all_goals (go_ret; exact ⟨rfl, (Below.refl _ _).alloc (Nat.le_refl _) _⟩)
theorem nil_markStore (r f n a b c k : Int) (w : World) : Calls Try.prog 45 #[.agg #[.int .i64 (r), .int .i64 (f), .int .i64 (n), .slice none 0 0, .slice none 0 0, .slice none 0 0, .int .i64 (a), .int .i64 (b), .slice none 0 0, .int .i64 (c)], .int .i64 k] w fun e w' => e = .returned (.int .i64 k) ∧ Below w.heap.size w w' := by
  have X := hid (show Bx (w.alloc (.cells #[.int .i64 (r), .int .i64 (f), .int .i64 (n), .slice none 0 0, .slice none 0 0, .slice none 0 0, .int .i64 (a), .int .i64 (b), .slice none 0 0, .int .i64 (c)] 41)) w.heap.size #[.int .i64 (r), .int .i64 (f), .int .i64 (n), .slice none 0 0, .slice none 0 0, .slice none 0 0, .int .i64 (a), .int .i64 (b), .slice none 0 0, .int .i64 (c)] from Bx.new _ _ _ rfl)
  go_enter Try.func45, Try.ntmps45
  go_wp2_with fail
  refine (nil_markDisk _ _ _ _ _).mono ?_
  rintro e w1 ⟨rfl, hb⟩
  have X1 := hid (Bx.below hb X.out.f.lt X.out)
  have HB := hid (below_call ((Below.refl _ _).alloc (Nat.le_refl _) _) hb)
  clear hb
  have x := X1.out.out
  go_wp2_with (first | (go_at_call 47; refine (nil_markEntryS _ _).mono ?_; rintro e w' ⟨rfl, rfl⟩))
  all_goals (go_ret; exact ⟨rfl, HB.out⟩)
theorem nil_markTrial (k1 s1 r f n k : Int) (w : World) : Calls Try.prog 14 #[.agg #[.bool false, .int .i64 (k1), .int .i64 (s1), .int .i64 (0), .int .i64 (0), .int .i64 (0), .slice none 0 0, .slice none 0 0, .slice none 0 0, .int .i64 (0), .int .i64 (0), .slice none 0 0, .int .i64 (0), .int .i64 (r), .int .i64 (f), .int .i64 (n), .slice none 0 0, .slice none 0 0, .slice none 0 0, .slice none 0 0, .slice none 0 0], .int .i64 k] w fun e w' => e = .returned (.int .i64 k) ∧ Below w.heap.size w w' := by
  have X := hid (show Bx (w.alloc (.cells #[.bool false, .int .i64 (k1), .int .i64 (s1), .int .i64 (0), .int .i64 (0), .int .i64 (0), .slice none 0 0, .slice none 0 0, .slice none 0 0, .int .i64 (0), .int .i64 (0), .slice none 0 0, .int .i64 (0), .int .i64 (r), .int .i64 (f), .int .i64 (n), .slice none 0 0, .slice none 0 0, .slice none 0 0, .slice none 0 0, .slice none 0 0] 43)) w.heap.size #[.bool false, .int .i64 (k1), .int .i64 (s1), .int .i64 (0), .int .i64 (0), .int .i64 (0), .slice none 0 0, .slice none 0 0, .slice none 0 0, .int .i64 (0), .int .i64 (0), .slice none 0 0, .int .i64 (0), .int .i64 (r), .int .i64 (f), .int .i64 (n), .slice none 0 0, .slice none 0 0, .slice none 0 0, .slice none 0 0, .slice none 0 0] from Bx.new _ _ _ rfl)
  go_enter Try.func14, Try.ntmps14
  go_wp2_with fail
  refine (nil_markStore _ _ _ _ _ _ _ _).mono ?_
  rintro e w1 ⟨rfl, hb⟩
  have X1 := hid (Bx.below hb X.out.f.lt X.out)
  have HB := hid (below_call ((Below.refl _ _).alloc (Nat.le_refl _) _) hb)
  clear hb
  have x := X1.out.out
  go_wp2_with fail
  clear x
  refine (nil_markDisk _ _ _ _ _).mono ?_
  rintro e w2 ⟨rfl, hb⟩
  have X2 := hid (Bx.below hb X1.out.f.lt X1.out)
  have HB2 := hid (HB.out.trans (hb.mono HB.out.size))
  clear hb
  have x := X2.out.out
  go_wp2_with (first | (go_at_call 47; refine (nil_markEntryS _ _).mono ?_; rintro e w' ⟨rfl, rfl⟩))
  all_goals (go_ret; exact ⟨rfl, HB2.out⟩)
theorem nil_heldDisk (r f n k : Int) (hk : ¬ k < 0) (w : World) : Calls Try.prog 49 #[.agg #[.int .i64 (r), .int .i64 (f), .int .i64 (n), .slice none 0 0, .slice none 0 0, .slice none 0 0], .int .i64 k] w fun e w' => e = .returned (.int .i64 k) ∧ Below w.heap.size w w' := by
  go_enter Try.func49, Try.ntmps49
  go_wp2_with (first | (go_at_call 82; refine (nil_heldNodeS _ _).mono ?_; rintro e w' ⟨rfl, rfl⟩) | (go_at_call 83; refine (nil_heldLinkS _ _).mono ?_; rintro e w' ⟨rfl, rfl⟩) | (go_at_call 84; refine (nil_heldTurnS _ _).mono ?_; rintro e w' ⟨rfl, rfl⟩))
  all_goals (go_ret; exact ⟨rfl, (Below.refl _ _).alloc (Nat.le_refl _) _⟩)
theorem nil_heldStore (r f n a b c k : Int) (hk : ¬ k < 0) (w : World) : Calls Try.prog 48 #[.agg #[.int .i64 (r), .int .i64 (f), .int .i64 (n), .slice none 0 0, .slice none 0 0, .slice none 0 0, .int .i64 (a), .int .i64 (b), .slice none 0 0, .int .i64 (c)], .int .i64 k] w fun e w' => e = .returned (.int .i64 k) ∧ Below w.heap.size w w' := by
  have X := hid (show Bx (w.alloc (.cells #[.int .i64 (r), .int .i64 (f), .int .i64 (n), .slice none 0 0, .slice none 0 0, .slice none 0 0, .int .i64 (a), .int .i64 (b), .slice none 0 0, .int .i64 (c)] 41)) w.heap.size #[.int .i64 (r), .int .i64 (f), .int .i64 (n), .slice none 0 0, .slice none 0 0, .slice none 0 0, .int .i64 (a), .int .i64 (b), .slice none 0 0, .int .i64 (c)] from Bx.new _ _ _ rfl)
  go_enter Try.func48, Try.ntmps48
  go_wp2_with fail
  refine (nil_heldDisk _ _ _ _ (by omega) _).mono ?_
  rintro e w1 ⟨rfl, hb⟩
  have X1 := hid (Bx.below hb X.out.f.lt X.out)
  have HB := hid (below_call ((Below.refl _ _).alloc (Nat.le_refl _) _) hb)
  clear hb
  have x := X1.out.out
  go_wp2_with (first | (go_at_call 50; refine (nil_heldEntryS _ _).mono ?_; rintro e w' ⟨rfl, rfl⟩))
  all_goals (go_ret; exact ⟨rfl, HB.out⟩)
theorem nil_heldTrial (k1 s1 r f n k : Int) (hk : ¬ k < 0) (w : World) : Calls Try.prog 15 #[.agg #[.bool false, .int .i64 (k1), .int .i64 (s1), .int .i64 (0), .int .i64 (0), .int .i64 (0), .slice none 0 0, .slice none 0 0, .slice none 0 0, .int .i64 (0), .int .i64 (0), .slice none 0 0, .int .i64 (0), .int .i64 (r), .int .i64 (f), .int .i64 (n), .slice none 0 0, .slice none 0 0, .slice none 0 0, .slice none 0 0, .slice none 0 0], .int .i64 k] w fun e w' => e = .returned (.int .i64 k) ∧ Below w.heap.size w w' := by
  have X := hid (show Bx (w.alloc (.cells #[.bool false, .int .i64 (k1), .int .i64 (s1), .int .i64 (0), .int .i64 (0), .int .i64 (0), .slice none 0 0, .slice none 0 0, .slice none 0 0, .int .i64 (0), .int .i64 (0), .slice none 0 0, .int .i64 (0), .int .i64 (r), .int .i64 (f), .int .i64 (n), .slice none 0 0, .slice none 0 0, .slice none 0 0, .slice none 0 0, .slice none 0 0] 43)) w.heap.size #[.bool false, .int .i64 (k1), .int .i64 (s1), .int .i64 (0), .int .i64 (0), .int .i64 (0), .slice none 0 0, .slice none 0 0, .slice none 0 0, .int .i64 (0), .int .i64 (0), .slice none 0 0, .int .i64 (0), .int .i64 (r), .int .i64 (f), .int .i64 (n), .slice none 0 0, .slice none 0 0, .slice none 0 0, .slice none 0 0, .slice none 0 0] from Bx.new _ _ _ rfl)
  go_enter Try.func15, Try.ntmps15
  go_wp2_with fail
  refine (nil_heldStore _ _ _ _ _ _ _ (by omega) _).mono ?_
  rintro e w1 ⟨rfl, hb⟩
  have X1 := hid (Bx.below hb X.out.f.lt X.out)
  have HB := hid (below_call ((Below.refl _ _).alloc (Nat.le_refl _) _) hb)
  clear hb
  have x := X1.out.out
  go_wp2_with fail
  clear x
  refine (nil_heldDisk _ _ _ _ (by omega) _).mono ?_
  rintro e w2 ⟨rfl, hb⟩
  have X2 := hid (Bx.below hb X1.out.f.lt X1.out)
  have HB2 := hid (HB.out.trans (hb.mono HB.out.size))
  clear hb
  have x := X2.out.out
  go_wp2_with (first | (go_at_call 50; refine (nil_heldEntryS _ _).mono ?_; rintro e w' ⟨rfl, rfl⟩))
  all_goals (go_ret; exact ⟨rfl, HB2.out⟩)
theorem i_DiskNew (room : Int) (w : World) : Calls Try.prog 43 #[.int .i64 room] w fun e w' => e = .returned (.tuple #[.agg #[.int .i64 (if inB room 0 60000 then room else 0), .int .i64 (if inB room 0 60000 then -1 else 0), .int .i64 (if inB room 0 60000 then 1 else 0), .slice none 0 0, .slice none 0 0, .slice none 0 0], .bool (inB room 0 60000)]) ∧ Below w.heap.size w w' := by
  cases hk : inB room 0 60000
  · skip
    have HK := hid (show inB room 0 60000 = false from hk)
    try rw [HK.out]
    have hkk := HK.out
    go_enter Try.func43, Try.ntmps43
    go_wp2_with (go_at_call 44; refine (i_in _ _ _ _).mono ?_; rintro e w' ⟨rfl, rfl⟩)
    refine bodyPost_ret (v := .tuple #[.agg #[.int .i64 (0), .int .i64 (0), .int .i64 (0), .slice none 0 0, .slice none 0 0, .slice none 0 0], .bool false]) (by simp [results, Try.results43, go_sem]) rfl ?_
    exact ⟨rfl, by repeat (first | exact (Below.refl _ _).alloc (Nat.le_refl _) _ | refine Below.setCell ?_ (by simp) _)⟩
  · skip
    have HK := hid (show inB room 0 60000 = true from hk)
    try rw [HK.out]
    have hkk := HK.out
    go_enter Try.func43, Try.ntmps43
    go_wp2_with (go_at_call 44; refine (i_in _ _ _ _).mono ?_; rintro e w' ⟨rfl, rfl⟩)
    refine bodyPost_ret (v := .tuple #[.agg #[.int .i64 (room), .int .i64 (-1), .int .i64 (1), .slice none 0 0, .slice none 0 0, .slice none 0 0], .bool true]) (by simp [results, Try.results43, go_sem]) rfl ?_
    exact ⟨rfl, by repeat (first | exact (Below.refl _ _).alloc (Nat.le_refl _) _ | refine Below.setCell ?_ (by simp) _)⟩
theorem s_DiskNew (room : Int) (w : World) : Calls Try.prog 41 #[.int .i64 room] w fun e w' => e = .returned (.tuple #[.agg #[.int .i64 (if inB room 0 60000 then room else 0), .int .i64 (if inB room 0 60000 then -1 else 0), .int .i64 (if inB room 0 60000 then 1 else 0), .slice none 0 0, .slice none 0 0, .slice none 0 0], .bool (inB room 0 60000)]) ∧ Below w.heap.size w w' := by
  by_cases h1 : room < 0
  · skip
    have HK := hid (show inB room 0 60000 = false from by unfold inB; rw [decide_eq_false (by omega)])
    try rw [HK.out]
    go_enter Try.func41, Try.ntmps41
    go_wp2_with (fail)
    refine bodyPost_ret (v := .tuple #[.agg #[.int .i64 (0), .int .i64 (0), .int .i64 (0), .slice none 0 0, .slice none 0 0, .slice none 0 0], .bool false]) (by simp [results, Try.results41, go_sem]) rfl ?_
    exact ⟨rfl, by repeat (first | exact (Below.refl _ _).alloc (Nat.le_refl _) _ | refine Below.setCell ?_ (by simp) _)⟩
  by_cases h2 : 60000 < room
  · skip
    have HK := hid (show inB room 0 60000 = false from by unfold inB; rw [decide_eq_false (by omega)])
    try rw [HK.out]
    go_enter Try.func41, Try.ntmps41
    go_wp2_with (fail)
    refine bodyPost_ret (v := .tuple #[.agg #[.int .i64 (0), .int .i64 (0), .int .i64 (0), .slice none 0 0, .slice none 0 0, .slice none 0 0], .bool false]) (by simp [results, Try.results41, go_sem]) rfl ?_
    exact ⟨rfl, by repeat (first | exact (Below.refl _ _).alloc (Nat.le_refl _) _ | refine Below.setCell ?_ (by simp) _)⟩
  · skip
    have HK := hid (show inB room 0 60000 = true from by unfold inB; rw [decide_eq_true (by omega)])
    try rw [HK.out]
    go_enter Try.func41, Try.ntmps41
    go_wp2_with (fail)
    refine bodyPost_ret (v := .tuple #[.agg #[.int .i64 (room), .int .i64 (-1), .int .i64 (1), .slice none 0 0, .slice none 0 0, .slice none 0 0], .bool true]) (by simp [results, Try.results41, go_sem]) rfl ?_
    exact ⟨rfl, by repeat (first | exact (Below.refl _ _).alloc (Nat.le_refl _) _ | refine Below.setCell ?_ (by simp) _)⟩
theorem s_l06Range (k s : Int) (w : World) : Calls Try.prog 42 #[.int .i64 k, .int .i64 s] w fun e w' => e = .returned (.bool (inB k 1 100 && inB s 0 60000)) ∧ w = w' := by
  go_enter Try.func42, Try.ntmps42
  go_wp2
  all_goals (go_ret; exact ⟨ret_bool (by unfold inB; rw [Bool.eq_iff_iff]; simp; omega), rfl⟩)
end Go.Proofs.Ytgcdgkiefbbhkaa
