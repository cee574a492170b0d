/- Histories. -/
import Derived.Test.YtndhhongkigikaaRune
set_option linter.unusedSimpArgs false
set_option linter.unusedVariables false
namespace Go.Proofs.Ytndhhongkigikaa
open Go.RowKit Go.G6
set_option maxHeartbeats 800000
set_option maxRecDepth 10000
theorem i_HistOk {w : World} {bs : List Nat} {cs : List Value} {d : HistD} (h : Rep.pt w bs cs d) :
    Calls Try.prog 103 #[.agg cs.toArray] w fun e w' => e = .returned (.bool (histOk d)) ∧ Below w.heap.size w w' := by
  obtain ⟨a1, l1, k1, rfl, h0, h1⟩ := open_Hist h
  obtain rfl := h1.len_eq
  have hm := h1.max
  have H1 := hid (h1.grow ((Below.refl _ _).alloc (Nat.le_refl _) (Obj.cells #[.int .i64 d.First, .slice a1 d.Lines.length k1] 60)))
  clear h h1
  have HB := hid (fun o => (Below.refl w.heap.size w).alloc (Nat.le_refl _) o)
  go_enter Try.func103, Try.ntmps103
  cases hc1 : inB d.First 1 1000000000
  · go_wp2_with (first | (go_at_call 93; refine (i_in _ _ _ _).mono ?_; rintro e w' ⟨rfl, rfl⟩))
    go_ret
    exact ⟨ret_bool (by grind [histOk, inB]), HB.out _⟩
  by_cases hc2 : d.Lines.length ≤ 60
  rotate_left
  · go_wp2_with (first | (go_at_call 93; refine (i_in _ _ _ _).mono ?_; rintro e w' ⟨rfl, rfl⟩))
    go_ret
    exact ⟨ret_bool (by grind [histOk, inB]), HB.out _⟩
  go_wp2_with (first | (go_at_call 93; refine (i_in _ _ _ _).mono ?_; rintro e w' ⟨rfl, rfl⟩))
  go_loop [18] (fun i => ∃ k : Nat, k ≤ d.Lines.length ∧ i = .int .i64 k ∧ d.Lines.all (fun s => decide (1 ≤ s.size ∧ s.size ≤ 1000)) = (d.Lines.drop k).all (fun s => decide (1 ≤ s.size ∧ s.size ≤ 1000))) (fun i => d.Lines.length - (intOf i).toNat)
  case atStart => exact ⟨0, Nat.zero_le _, rfl, rfl⟩
  case round =>
    obtain ⟨k, hk, rfl, hr⟩ := hrel
    have H := hid hr; clear hr
    by_cases hlt : k < d.Lines.length
    · obtain ⟨b, off, rfl, hbw, hck, hok⟩ := H1.out.at k hlt
      have hck1 : (w.alloc (Obj.cells #[.int .i64 d.First, .slice (some ⟨b, off, none⟩) d.Lines.length k1] 60)).cell? ⟨b, off + k, none⟩ = some (.string d.Lines[k]) := hck
      have hok1 : d.Lines[k].size ≤ 9223372036854775807 := hok
      clear hck hok
      go_wp2_with (first | (go_at_call 93; refine (i_in _ _ _ _).mono ?_; rintro e w' ⟨rfl, rfl⟩))
      all_goals have := H.out; have := drop_all (fun s : ByteArray => decide (1 ≤ s.size ∧ s.size ≤ 1000)) d.Lines k hlt
      · go_ret
        exact ⟨ret_bool (by grind [histOk, inB]), HB.out _⟩
      · exact ⟨⟨k + 1, by omega, rfl, by grind [inB]⟩, by simp [intOf]; omega⟩
    · go_wp2
      go_ret
      have := H.out
      rw [List.drop_of_length_le (by omega)] at this
      exact ⟨ret_bool (by grind [histOk, inB]), HB.out _⟩
theorem s_HistOk {w : World} {bs : List Nat} {cs : List Value} {d : HistD} (h : Rep.pt w bs cs d) :
    Calls Try.prog 101 #[.agg cs.toArray] w fun e w' => e = .returned (.bool (histOk d)) ∧ Below w.heap.size w w' := by
  obtain ⟨a1, l1, k1, rfl, h0, h1⟩ := open_Hist h
  obtain rfl := h1.len_eq
  have hm := h1.max
  have H1 := hid (h1.grow ((Below.refl _ _).alloc (Nat.le_refl _) (Obj.cells #[.int .i64 d.First, .slice a1 d.Lines.length k1] 60)))
  clear h h1
  have HB := hid (fun o => (Below.refl w.heap.size w).alloc (Nat.le_refl _) o)
  go_enter Try.func101, Try.ntmps101
  go_wp2_with fail
  go_loop [8] (fun i => ∃ k : Nat, k ≤ d.Lines.length ∧ i = .int .i64 k ∧ d.Lines.all (fun s => decide (1 ≤ s.size ∧ s.size ≤ 1000)) = (d.Lines.drop k).all (fun s => decide (1 ≤ s.size ∧ s.size ≤ 1000))) (fun i => d.Lines.length - (intOf i).toNat)
  case atStart => exact ⟨0, Nat.zero_le _, rfl, rfl⟩
  case round =>
    obtain ⟨k, hk, rfl, hr⟩ := hrel
    have H := hid hr; clear hr
    by_cases hlt : k < d.Lines.length
    · obtain ⟨b, off, rfl, hbw, hck, hok⟩ := H1.out.at k hlt
      have hck1 : (w.alloc (Obj.cells #[.int .i64 d.First, .slice (some ⟨b, off, none⟩) d.Lines.length k1] 60)).cell? ⟨b, off + k, none⟩ = some (.string d.Lines[k]) := hck
      have hok1 : d.Lines[k].size ≤ 9223372036854775807 := hok
      clear hck hok
      go_wp2
      all_goals have := H.out; have := drop_all (fun s : ByteArray => decide (1 ≤ s.size ∧ s.size ≤ 1000)) d.Lines k hlt
      all_goals first | (go_ret; exact ⟨ret_bool (by grind [histOk]), HB.out _⟩) | exact ⟨⟨k + 1, by omega, rfl, by grind⟩, by simp [intOf]; omega⟩
    · go_wp2
      all_goals
        go_ret
        have := H.out
        rw [List.drop_of_length_le (by omega)] at this
        exact ⟨ret_bool (by grind [histOk]), HB.out _⟩
end Go.Proofs.Ytndhhongkigikaa
