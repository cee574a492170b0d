/- Runes: ranges, printable runes, classes. -/
import Derived.Test.YtgcdgkiefbbhkaaProg
import Derived.Test.YtgcdgkiefbbhkaaFn
import Derived.BigQuiet
set_option linter.unusedSimpArgs false
set_option linter.unusedVariables false
namespace Go.Proofs.Ytgcdgkiefbbhkaa
open Go.RowKit Go.G6
set_option maxHeartbeats 400000
set_option maxRecDepth 10000
theorem i_in (n lo hi : Int) (w : World) :
    Calls Try.prog 44 #[.int .i64 n, .int .i64 lo, .int .i64 hi] w fun e w' => e = .returned (.bool (inB n lo hi)) ∧ w = w' := by
  go_enter Try.func44, Try.ntmps44
  go_wp2
  all_goals (go_ret; exact ⟨ret_bool (by grind [inB]), rfl⟩)
theorem i_runeOk (n : Int) (w : World) :
    Calls Try.prog 113 #[.int .i64 n] w fun e w' => e = .returned (.bool (runeOk n)) ∧ w = w' := by
  go_enter Try.func113, Try.ntmps113
  go_wp2_with (go_at_call 44; refine (i_in _ _ _ _).mono ?_; rintro e w' ⟨rfl, rfl⟩)
  all_goals (go_ret; exact ⟨ret_bool (by grind [inB, runeOk]), rfl⟩)
theorem s_runeOk (n : Int) (w : World) :
    Calls Try.prog 114 #[.int .i64 n] w fun e w' => e = .returned (.bool (runeOk n)) ∧ w = w' := by
  go_enter Try.func114, Try.ntmps114
  go_wp2
  all_goals (go_ret; exact ⟨ret_bool (by grind [runeOk]), rfl⟩)
theorem i_printable (n : Int) (w : World) :
    Calls Try.prog 106 #[.int .i64 n] w fun e w' => e = .returned (.bool (printable n)) ∧ w = w' := by
  go_enter Try.func106, Try.ntmps106
  go_wp2_with (first | (go_at_call 44; refine (i_in _ _ _ _).mono ?_; rintro e w' ⟨rfl, rfl⟩) | (go_at_call 113; refine (i_runeOk _ _).mono ?_; rintro e w' ⟨rfl, rfl⟩))
  all_goals (go_ret; exact ⟨ret_bool (by grind [inB, runeOk, printable]), rfl⟩)
theorem s_printable (n : Int) (w : World) :
    Calls Try.prog 112 #[.int .i64 n] w fun e w' => e = .returned (.bool (printable n)) ∧ w = w' := by
  go_enter Try.func112, Try.ntmps112
  go_wp2_with (first | (go_at_call 114; refine (s_runeOk _ _).mono ?_; rintro e w' ⟨rfl, rfl⟩))
  all_goals (go_ret; exact ⟨ret_bool (by grind [runeOk, printable]), rfl⟩)
theorem i_admissible (n : Int) (w : World) :
    Calls Try.prog 88 #[.int .i64 n] w fun e w' => e = .returned (.bool (typed n)) ∧ w = w' := by
  go_enter Try.func88, Try.ntmps88
  go_wp2_with (first | (go_at_call 106; refine (i_printable _ _).mono ?_; rintro e w' ⟨rfl, rfl⟩))
  all_goals (go_ret; exact ⟨ret_bool (by grind [typed]), rfl⟩)
theorem s_typed (n : Int) (w : World) :
    Calls Try.prog 105 #[.int .i64 n] w fun e w' => e = .returned (.bool (typed n)) ∧ w = w' := by
  go_enter Try.func105, Try.ntmps105
  go_wp2_with (first | (go_at_call 112; refine (s_printable _ _).mono ?_; rintro e w' ⟨rfl, rfl⟩))
  all_goals (go_ret; exact ⟨ret_bool (by grind [typed]), rfl⟩)
theorem s_allTyped {w : World} {bs : List Nat} {a : Option Addr} {len cap : Nat} {xs : List Int} (h : Slc w bs a len cap xs) :
    Calls Try.prog 86 #[.slice a len cap] w fun e w' => e = .returned (.bool (allTyped xs)) ∧ w = w' := by
  obtain rfl := h.len_eq
  have hm := h.max
  go_enter Try.func86, Try.ntmps86
  go_wp2_with fail
  go_loop [7] (fun i => ∃ k : Nat, k ≤ xs.length ∧ i = .int .i64 k ∧ allTyped xs = (xs.drop k).all typed) (fun i => xs.length - (intOf i).toNat)
  case atStart => exact ⟨0, Nat.zero_le _, rfl, rfl⟩
  case round =>
    obtain ⟨k, hk, rfl, hr⟩ := hrel
    have H := hid hr; clear hr
    by_cases hlt : k < xs.length
    · obtain ⟨b, off, rfl, hbw, hck, _⟩ := h.at k hlt
      have hck1 : w.cell? ⟨b, off + k, none⟩ = some (.int .i64 xs[k]) := hck
      clear hck
      go_wp2_with (first | (go_at_call 105; refine (s_typed _ _).mono ?_; rintro e w' ⟨rfl, rfl⟩))
      all_goals have := H.out; have := drop_all typed xs k hlt
      · go_ret
        exact ⟨ret_bool (by grind), rfl⟩
      · exact ⟨⟨k + 1, by omega, rfl, by grind⟩, by simp [intOf]; omega⟩
    · go_wp2
      go_ret
      exact ⟨ret_bool (by rw [H.out, List.drop_of_length_le (by omega)]; rfl), rfl⟩
theorem i_areAdmissible {w : World} {bs : List Nat} {a : Option Addr} {len cap : Nat} {xs : List Int} (h : Slc w bs a len cap xs) :
    Calls Try.prog 57 #[.slice a len cap] w fun e w' => e = .returned (.bool (decide (xs.length ≤ 400) && allTyped xs)) ∧ w = w' := by
  obtain rfl := h.len_eq
  have hm := h.max
  go_enter Try.func57, Try.ntmps57
  go_wp2_with fail
  go_loop [7] (fun i => ∃ k : Nat, k ≤ xs.length ∧ k ≤ 400 ∧ i = .int .i64 k ∧ allTyped xs = (xs.drop k).all typed) (fun i => xs.length - (intOf i).toNat)
  case atStart => exact ⟨0, Nat.zero_le _, by omega, rfl, rfl⟩
  case round =>
    obtain ⟨k, hk, hk4, rfl, hr⟩ := hrel
    have H := hid hr; clear hr
    by_cases hlt : k < xs.length
    · obtain ⟨b, off, rfl, hbw, hck, _⟩ := h.at k hlt
      have hck1 : w.cell? ⟨b, off + k, none⟩ = some (.int .i64 xs[k]) := hck
      clear hck
      go_wp2_with (first | (go_at_call 88; refine (i_admissible _ _).mono ?_; rintro e w' ⟨rfl, rfl⟩))
      all_goals have := H.out; have := drop_all typed xs k hlt
      all_goals first | (go_ret; exact ⟨ret_bool (by grind), rfl⟩) |  exact ⟨⟨k + 1, by omega, by omega, rfl, by grind⟩, by simp [intOf]; omega⟩
    · go_wp2
      go_ret
      exact ⟨ret_bool (by rw [H.out, List.drop_of_length_le (by omega)]; simp; omega), rfl⟩
end Go.Proofs.Ytgcdgkiefbbhkaa
