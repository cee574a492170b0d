/- Runes: ranges, printable runes, classes. -/
import Derived.Test.YtdfpjchneofndaaProg
import Derived.Test.YtdfpjchneofndaaFn
import Derived.BigQuiet
set_option linter.unusedSimpArgs false
set_option linter.unusedVariables false
namespace Go.Proofs.Ytdfpjchneofndaa
open Go.RowKit Go.G6
set_option maxHeartbeats 400000
set_option maxRecDepth 10000
theorem i_in (n lo hi : Int) (w : World) :
    Calls Try.prog 78 #[.int .i64 n, .int .i64 lo, .int .i64 hi] w fun e w' => e = .returned (.bool (inB n lo hi)) ∧ w = w' := by
  go_enter Try.func78, Try.ntmps78
  go_wp2
  all_goals (go_ret; exact ⟨ret_bool (by grind [inB]), rfl⟩)
theorem i_runeOk (n : Int) (w : World) :
    Calls Try.prog 160 #[.int .i64 n] w fun e w' => e = .returned (.bool (runeOk n)) ∧ w = w' := by
  go_enter Try.func160, Try.ntmps160
  go_wp2_with (go_at_call 78; refine (i_in _ _ _ _).mono ?_; rintro e w' ⟨rfl, rfl⟩)
  all_goals (go_ret; exact ⟨ret_bool (by grind [inB, runeOk]), rfl⟩)
theorem s_runeOk (n : Int) (w : World) :
    Calls Try.prog 195 #[.int .i64 n] w fun e w' => e = .returned (.bool (runeOk n)) ∧ w = w' := by
  go_enter Try.func195, Try.ntmps195
  go_wp2
  all_goals (go_ret; exact ⟨ret_bool (by grind [runeOk]), rfl⟩)
theorem i_printable (n : Int) (w : World) :
    Calls Try.prog 115 #[.int .i64 n] w fun e w' => e = .returned (.bool (printable n)) ∧ w = w' := by
  go_enter Try.func115, Try.ntmps115
  go_wp2_with (first | (go_at_call 78; refine (i_in _ _ _ _).mono ?_; rintro e w' ⟨rfl, rfl⟩) | (go_at_call 160; refine (i_runeOk _ _).mono ?_; rintro e w' ⟨rfl, rfl⟩))
  all_goals (go_ret; exact ⟨ret_bool (by grind [inB, runeOk, printable]), rfl⟩)
theorem s_printable (n : Int) (w : World) :
    Calls Try.prog 190 #[.int .i64 n] w fun e w' => e = .returned (.bool (printable n)) ∧ w = w' := by
  go_enter Try.func190, Try.ntmps190
  go_wp2_with (first | (go_at_call 195; refine (s_runeOk _ _).mono ?_; rintro e w' ⟨rfl, rfl⟩))
  all_goals (go_ret; exact ⟨ret_bool (by grind [runeOk, printable]), rfl⟩)
theorem i_admissible (n : Int) (w : World) :
    Calls Try.prog 155 #[.int .i64 n] w fun e w' => e = .returned (.bool (typed n)) ∧ w = w' := by
  go_enter Try.func155, Try.ntmps155
  go_wp2_with (first | (go_at_call 115; refine (i_printable _ _).mono ?_; rintro e w' ⟨rfl, rfl⟩))
  all_goals (go_ret; exact ⟨ret_bool (by grind [typed]), rfl⟩)
theorem s_typed (n : Int) (w : World) :
    Calls Try.prog 183 #[.int .i64 n] w fun e w' => e = .returned (.bool (typed n)) ∧ w = w' := by
  go_enter Try.func183, Try.ntmps183
  go_wp2_with (first | (go_at_call 190; refine (s_printable _ _).mono ?_; rintro e w' ⟨rfl, rfl⟩))
  all_goals (go_ret; exact ⟨ret_bool (by grind [typed]), rfl⟩)
theorem s_allTyped {w : World} {bs : List Nat} {a : Option Addr} {len cap : Nat} {xs : List Int} (h : Slc w bs a len cap xs) :
    Calls Try.prog 153 #[.slice a len cap] w fun e w' => e = .returned (.bool (allTyped xs)) ∧ w = w' := by
  obtain rfl := h.len_eq
  have hm := h.max
  go_enter Try.func153, Try.ntmps153
  go_wp2_with fail
  go_loop [7] (fun i => ∃ k : Nat, k ≤ xs.length ∧ i = .int .i64 k ∧ allTyped xs = (xs.drop k).all typed) (fun i => xs.length - (intOf i).toNat)
  case atStart => exact ⟨0, Nat.zero_le _, rfl, rfl⟩
  case round =>
    obtain ⟨k, hk, rfl, hr⟩ := hrel
    have H := hid hr; clear hr
    by_cases hlt : k < xs.length
    · obtain ⟨b, off, rfl, hbw, hck, _⟩ := h.at k hlt
      have hck1 : w.cell? ⟨b, off + k, none⟩ = some (.int .i64 xs[k]) := hck
      clear hck
      go_wp2_with (first | (go_at_call 183; refine (s_typed _ _).mono ?_; rintro e w' ⟨rfl, rfl⟩))
      all_goals have := H.out; have := drop_all typed xs k hlt
      · go_ret
        exact ⟨ret_bool (by grind), rfl⟩
      · exact ⟨⟨k + 1, by omega, rfl, by grind⟩, by simp [intOf]; omega⟩
    · go_wp2
      go_ret
      exact ⟨ret_bool (by rw [H.out, List.drop_of_length_le (by omega)]; rfl), rfl⟩
theorem i_areAdmissible {w : World} {bs : List Nat} {a : Option Addr} {len cap : Nat} {xs : List Int} (h : Slc w bs a len cap xs) :
    Calls Try.prog 101 #[.slice a len cap] w fun e w' => e = .returned (.bool (decide (xs.length ≤ 400) && allTyped xs)) ∧ w = w' := by
  obtain rfl := h.len_eq
  have hm := h.max
  go_enter Try.func101, Try.ntmps101
  go_wp2_with fail
  go_loop [7] (fun i => ∃ k : Nat, k ≤ xs.length ∧ k ≤ 400 ∧ i = .int .i64 k ∧ allTyped xs = (xs.drop k).all typed) (fun i => xs.length - (intOf i).toNat)
  case atStart => exact ⟨0, Nat.zero_le _, by omega, rfl, rfl⟩
  case round =>
    obtain ⟨k, hk, hk4, rfl, hr⟩ := hrel
    have H := hid hr; clear hr
    by_cases hlt : k < xs.length
    · obtain ⟨b, off, rfl, hbw, hck, _⟩ := h.at k hlt
      have hck1 : w.cell? ⟨b, off + k, none⟩ = some (.int .i64 xs[k]) := hck
      clear hck
      go_wp2_with (first | (go_at_call 155; refine (i_admissible _ _).mono ?_; rintro e w' ⟨rfl, rfl⟩))
      all_goals have := H.out; have := drop_all typed xs k hlt
      all_goals first | (go_ret; exact ⟨ret_bool (by grind), rfl⟩) |  exact ⟨⟨k + 1, by omega, by omega, rfl, by grind⟩, by simp [intOf]; omega⟩
    · go_wp2
      go_ret
      exact ⟨ret_bool (by rw [H.out, List.drop_of_length_le (by omega)]; simp; omega), rfl⟩
theorem s_LineOk {w : World} {bs : List Nat} {cs : List Value} {d : LineD} (h : Rep.pt w bs cs d) :
    Calls Try.prog 165 #[.agg cs.toArray] w fun e w' => e = .returned (.bool (lineOk d)) ∧ Below w.heap.size w w' := by
  obtain ⟨a, len, cap, rfl, h, hi⟩ := open_Line h
  obtain rfl := h.len_eq
  have hm := h.max
  go_enter Try.func165, Try.ntmps165
  go_wp2_with (first | (go_at_call 153; refine (s_allTyped (Slc.grow h ?_)).mono ?_; exact (Below.refl _ _).alloc (Nat.le_refl _) _; rintro e w' ⟨rfl, rfl⟩))
  all_goals (go_ret; exact ⟨ret_bool (by grind [lineOk]), (Below.refl _ _).alloc (Nat.le_refl _) _⟩)
theorem i_LineOk {w : World} {bs : List Nat} {cs : List Value} {d : LineD} (h : Rep.pt w bs cs d) :
    Calls Try.prog 125 #[.agg cs.toArray] w fun e w' => e = .returned (.bool (lineOk d)) ∧ Below w.heap.size w w' := by
  obtain ⟨a, len, cap, rfl, h, hi⟩ := open_Line h
  obtain rfl := h.len_eq
  have hm := h.max
  go_enter Try.func125, Try.ntmps125
  go_wp2_with (first | (go_at_call 101; refine (i_areAdmissible (Slc.grow h ?_)).mono ?_; exact (Below.refl _ _).alloc (Nat.le_refl _) _; rintro e w' ⟨rfl, rfl⟩) | (go_at_call 78; refine (i_in _ _ _ _).mono ?_; rintro e w' ⟨rfl, rfl⟩))
  all_goals (go_ret; exact ⟨ret_bool (by grind [lineOk, inB]), (Below.refl _ _).alloc (Nat.le_refl _) _⟩)
end Go.Proofs.Ytdfpjchneofndaa
