/- Keys. -/
import Derived.Test.YtcflijclpjnoiaaWords
set_option linter.unusedSimpArgs false
set_option linter.unusedVariables false
namespace Go.Proofs.Ytcflijclpjnoiaa
open Go.RowKit Go.G6
set_option maxHeartbeats 800000
set_option maxRecDepth 10000
theorem i_KeyOk {w : World} {bs : List Nat} {cs : List Value} {d : KeyD} (h : Rep.pt w bs cs d) :
    Calls Try.prog 18 #[.agg cs.toArray] w fun e w' => e = .returned (.bool (keyOk d)) ∧ Below w.heap.size w w' := by
  obtain ⟨rfl, rfl, h0, h1⟩ := open_Key h
  go_enter Try.func18, Try.ntmps18
  go_wp2_with (first | (go_at_call 53; refine (i_printable _ _).mono ?_; rintro e w' ⟨rfl, rfl⟩) | (go_at_call 54; refine (i_isLower _ _).mono ?_; rintro e w' ⟨rfl, rfl⟩) | (go_at_call 55; refine (i_in _ _ _ _).mono ?_; rintro e w' ⟨rfl, rfl⟩))
  all_goals (go_ret; exact ⟨ret_bool (by grind [inB, keyOk]), (Below.refl _ _).alloc (Nat.le_refl _) _⟩)
theorem s_KeyOk {w : World} {bs : List Nat} {cs : List Value} {d : KeyD} (h : Rep.pt w bs cs d) :
    Calls Try.prog 16 #[.agg cs.toArray] w fun e w' => e = .returned (.bool (keyOk d)) ∧ Below w.heap.size w w' := by
  obtain ⟨rfl, rfl, h0, h1⟩ := open_Key h
  go_enter Try.func16, Try.ntmps16
  go_wp2_with (first | (go_at_call 52; refine (s_printable _ _).mono ?_; rintro e w' ⟨rfl, rfl⟩))
  all_goals (go_ret; exact ⟨ret_bool (by grind [keyOk]), (Below.refl _ _).alloc (Nat.le_refl _) _⟩)
theorem i_ByteKey (b : Int) (hb : I64 b) (w : World) :
    Calls Try.prog 20 #[.int .i64 b] w (RetA w (byteKey b)) := by
  have hb' := hb; unfold I64 at hb'
  go_enter Try.func20, Try.ntmps20
  go_wp2_with (first | (go_at_call 55; refine (i_in _ _ _ _).mono ?_; rintro e w' ⟨rfl, rfl⟩))
  all_goals
    refine bodyPost_ret (v := .agg #[.int .i64 (byteKey b).Kind, .int .i64 (byteKey b).R]) ?_ rfl ?_
    rotate_left
    · exact ⟨[.int .i64 (byteKey b).Kind, .int .i64 (byteKey b).R], [], rfl, own_Key (byteKey_range _ hb).1 (byteKey_range _ hb).2, (Below.refl _ _).alloc (Nat.le_refl _) _⟩
    · simp [results, Try.results20, go_sem]
      first | grind [inB, byteKey] | (rw [IntWalk.wrap64_in _ (by grind [inB])]; grind [inB, byteKey])
theorem s_ByteKey (b : Int) (hb : I64 b) (w : World) :
    Calls Try.prog 19 #[.int .i64 b] w (RetA w (byteKey b)) := by
  have hb' := hb; unfold I64 at hb'
  go_enter Try.func19, Try.ntmps19
  go_wp2_with (first | (go_at_call 55; refine (i_in _ _ _ _).mono ?_; rintro e w' ⟨rfl, rfl⟩))
  all_goals
    refine bodyPost_ret (v := .agg #[.int .i64 (byteKey b).Kind, .int .i64 (byteKey b).R]) ?_ rfl ?_
    rotate_left
    · exact ⟨[.int .i64 (byteKey b).Kind, .int .i64 (byteKey b).R], [], rfl, own_Key (byteKey_range _ hb).1 (byteKey_range _ hb).2, (Below.refl _ _).alloc (Nat.le_refl _) _⟩
    · simp [results, Try.results19, go_sem]
      first | grind [inB, byteKey] | (rw [IntWalk.wrap64_in _ (by grind [inB])]; grind [inB, byteKey])
end Go.Proofs.Ytcflijclpjnoiaa
