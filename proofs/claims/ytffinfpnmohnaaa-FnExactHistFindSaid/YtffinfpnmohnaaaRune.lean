/- Runes: ranges, printable runes, classes. -/
import Derived.Test.YtffinfpnmohnaaaProg
import Derived.Test.YtffinfpnmohnaaaFn
import Derived.BigQuiet
set_option linter.unusedSimpArgs false
set_option linter.unusedVariables false
namespace Go.Proofs.Ytffinfpnmohnaaa
open Go.RowKit Go.G6
set_option maxHeartbeats 400000
set_option maxRecDepth 10000
theorem i_in (n lo hi : Int) (w : World) :
    Calls Try.prog 85 #[.int .i64 n, .int .i64 lo, .int .i64 hi] w fun e w' => e = .returned (.bool (inB n lo hi)) ∧ w = w' := by
  go_enter Try.func85, Try.ntmps85
  go_wp2
  all_goals (go_ret; exact ⟨ret_bool (by grind [inB]), rfl⟩)
theorem i_runeOk (n : Int) (w : World) :
    Calls Try.prog 191 #[.int .i64 n] w fun e w' => e = .returned (.bool (runeOk n)) ∧ w = w' := by
  go_enter Try.func191, Try.ntmps191
  go_wp2_with (go_at_call 85; refine (i_in _ _ _ _).mono ?_; rintro e w' ⟨rfl, rfl⟩)
  all_goals (go_ret; exact ⟨ret_bool (by grind [inB, runeOk]), rfl⟩)
theorem s_runeOk (n : Int) (w : World) :
    Calls Try.prog 193 #[.int .i64 n] w fun e w' => e = .returned (.bool (runeOk n)) ∧ w = w' := by
  go_enter Try.func193, Try.ntmps193
  go_wp2
  all_goals (go_ret; exact ⟨ret_bool (by grind [runeOk]), rfl⟩)
theorem i_printable (n : Int) (w : World) :
    Calls Try.prog 153 #[.int .i64 n] w fun e w' => e = .returned (.bool (printable n)) ∧ w = w' := by
  go_enter Try.func153, Try.ntmps153
  go_wp2_with (first | (go_at_call 85; refine (i_in _ _ _ _).mono ?_; rintro e w' ⟨rfl, rfl⟩) | (go_at_call 191; refine (i_runeOk _ _).mono ?_; rintro e w' ⟨rfl, rfl⟩))
  all_goals (go_ret; exact ⟨ret_bool (by grind [inB, runeOk, printable]), rfl⟩)
theorem s_printable (n : Int) (w : World) :
    Calls Try.prog 163 #[.int .i64 n] w fun e w' => e = .returned (.bool (printable n)) ∧ w = w' := by
  go_enter Try.func163, Try.ntmps163
  go_wp2_with (first | (go_at_call 193; refine (s_runeOk _ _).mono ?_; rintro e w' ⟨rfl, rfl⟩))
  all_goals (go_ret; exact ⟨ret_bool (by grind [runeOk, printable]), rfl⟩)
theorem i_admissible (n : Int) (w : World) :
    Calls Try.prog 168 #[.int .i64 n] w fun e w' => e = .returned (.bool (typed n)) ∧ w = w' := by
  go_enter Try.func168, Try.ntmps168
  go_wp2_with (first | (go_at_call 153; refine (i_printable _ _).mono ?_; rintro e w' ⟨rfl, rfl⟩))
  all_goals (go_ret; exact ⟨ret_bool (by grind [typed]), rfl⟩)
theorem s_typed (n : Int) (w : World) :
    Calls Try.prog 195 #[.int .i64 n] w fun e w' => e = .returned (.bool (typed n)) ∧ w = w' := by
  go_enter Try.func195, Try.ntmps195
  go_wp2_with (first | (go_at_call 163; refine (s_printable _ _).mono ?_; rintro e w' ⟨rfl, rfl⟩))
  all_goals (go_ret; exact ⟨ret_bool (by grind [typed]), rfl⟩)
theorem s_allTyped {w : World} {bs : List Nat} {a : Option Addr} {len cap : Nat} {xs : List Int} (h : Slc w bs a len cap xs) :
    Calls Try.prog 166 #[.slice a len cap] w fun e w' => e = .returned (.bool (allTyped xs)) ∧ w = w' := by
  obtain rfl := h.len_eq
  have hm := h.max
  go_enter Try.func166, Try.ntmps166
  go_wp2_with fail
  go_loop [7] (fun i => ∃ k : Nat, k ≤ xs.length ∧ i = .int .i64 k ∧ allTyped xs = (xs.drop k).all typed) (fun i => xs.length - (intOf i).toNat)
  case atStart => exact ⟨0, Nat.zero_le _, rfl, rfl⟩
  case round =>
    obtain ⟨k, hk, rfl, hr⟩ := hrel
    have H := hid hr; clear hr
    by_cases hlt : k < xs.length
    · obtain ⟨b, off, rfl, hbw, hck, _⟩ := h.at k hlt
      have hck1 : w.cell? ⟨b, off + k, none⟩ = some (.int .i64 xs[k]) := hck
      clear hck
      go_wp2_with (first | (go_at_call 195; refine (s_typed _ _).mono ?_; rintro e w' ⟨rfl, rfl⟩))
      all_goals have := H.out; have := drop_all typed xs k hlt
      · go_ret
        exact ⟨ret_bool (by grind), rfl⟩
      · exact ⟨⟨k + 1, by omega, rfl, by grind⟩, by simp [intOf]; omega⟩
    · go_wp2
      go_ret
      exact ⟨ret_bool (by rw [H.out, List.drop_of_length_le (by omega)]; rfl), rfl⟩
theorem i_areAdmissible {w : World} {bs : List Nat} {a : Option Addr} {len cap : Nat} {xs : List Int} (h : Slc w bs a len cap xs) :
    Calls Try.prog 108 #[.slice a len cap] w fun e w' => e = .returned (.bool (decide (xs.length ≤ 400) && allTyped xs)) ∧ w = w' := by
  obtain rfl := h.len_eq
  have hm := h.max
  go_enter Try.func108, Try.ntmps108
  go_wp2_with fail
  go_loop [7] (fun i => ∃ k : Nat, k ≤ xs.length ∧ k ≤ 400 ∧ i = .int .i64 k ∧ allTyped xs = (xs.drop k).all typed) (fun i => xs.length - (intOf i).toNat)
  case atStart => exact ⟨0, Nat.zero_le _, by omega, rfl, rfl⟩
  case round =>
    obtain ⟨k, hk, hk4, rfl, hr⟩ := hrel
    have H := hid hr; clear hr
    by_cases hlt : k < xs.length
    · obtain ⟨b, off, rfl, hbw, hck, _⟩ := h.at k hlt
      have hck1 : w.cell? ⟨b, off + k, none⟩ = some (.int .i64 xs[k]) := hck
      clear hck
      go_wp2_with (first | (go_at_call 168; refine (i_admissible _ _).mono ?_; rintro e w' ⟨rfl, rfl⟩))
      all_goals have := H.out; have := drop_all typed xs k hlt
      all_goals first | (go_ret; exact ⟨ret_bool (by grind), rfl⟩) |  exact ⟨⟨k + 1, by omega, by omega, rfl, by grind⟩, by simp [intOf]; omega⟩
    · go_wp2
      go_ret
      exact ⟨ret_bool (by rw [H.out, List.drop_of_length_le (by omega)]; simp; omega), rfl⟩
end Go.Proofs.Ytffinfpnmohnaaa
