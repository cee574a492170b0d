/- Texts of commands. -/
import Derived.Test.YtcflijclpjnoiaaHelpT
import Derived.Test.YtcflijclpjnoiaaRune
set_option linter.unusedSimpArgs false
set_option linter.unusedVariables false
namespace Go.G6
def ended (s : ByteArray) : ByteArray := if h : 0 < s.size then (if s[s.size - 1] = 10 then s else s ++ ⟨#[10]⟩) else s ++ ⟨#[10]⟩
theorem ended_yes {s : ByteArray} (h : 0 < s.size) (h1 : s[s.size - 1] = 10) : ended s = s := by rw [ended, dif_pos h, if_pos h1]
theorem ended_no {s : ByteArray} (h : ∀ h : 0 < s.size, s[s.size - 1] ≠ 10) : ended s = s ++ ⟨#[10]⟩ := by
  rw [ended]
  split
  · rename_i hh; rw [if_neg (h hh)]
  · rfl
theorem suffix_last (s : ByteArray) (h : 0 < s.size) : (s.extract (s.size - 1) s.size).toList = [s[s.size - 1]] := by
  rw [ByteArray.toList_eq, ByteArray.data_extract, Array.toList_extract, List.extract_eq_take_drop]
  have hl : s.data.toList.length = s.size := Array.length_toList
  rw [List.drop_eq_getElem_cons (by omega), List.drop_of_length_le (by omega)]
  have h1 : s.size - (s.size - 1) = 1 := by omega
  rw [h1]
  rfl
end Go.G6
namespace Go.Proofs.Ytcflijclpjnoiaa
open Go.RowKit Go.G6
set_option maxHeartbeats 1600000
set_option maxRecDepth 10000
theorem s_Ended (s : ByteArray) (hs : s.size ≤ maxLen) (hn : s.size ≤ 1048576) (w : World) :
    Calls Try.prog 14 #[.string s] w fun e w' => e = .returned (.string (ended s)) ∧ Below w.heap.size w w' := by
  go_enter Try.func14, Try.ntmps14
  by_cases h0 : 0 < s.size
  · by_cases h1 : s[s.size - 1] = 10
    · have E := hid (ended_yes h0 h1)
      go_wp2
      go_ret
      exact ⟨by rw [E.out]; rfl, Below.refl _ _⟩
    · have hb : ((s[s.size - 1].toNat : Int) == 10) = false := by
        rw [beq_eq_false_iff_ne]; intro e; apply h1; apply UInt8.toNat_inj.1; exact (by omega : s[s.size - 1].toNat = 10)
      have E := hid (ended_no (s := s) fun _ => h1)
      clear h1
      go_wp2
      go_ret
      exact ⟨by rw [E.out]; rfl, Below.refl _ _⟩
  · have E := hid (ended_no (s := s) fun h => absurd h h0)
    go_wp2
    go_ret
    exact ⟨by rw [E.out]; rfl, Below.refl _ _⟩
theorem suffix_lite (s t : ByteArray) (hs : s.size ≤ 1048576) (ht : t.size ≤ 1048576) (w : World) :
    Calls Try.prog 69 #[.string s, .string t] w fun e w' => e = .returned (.bool (decide (t.size ≤ s.size) && ((s.extract (s.size - t.size) s.size).toList == t.toList))) ∧ w = w' := by
  go_enter Try.func69, Try.ntmps69
  by_cases h : t.size ≤ s.size
  · go_wp2
    go_ret
    exact ⟨ret_bool (by simp [h]), rfl⟩
  · go_wp2
    go_ret
    exact ⟨ret_bool (by simp [h]), rfl⟩
theorem suffix_has (s t : ByteArray) (hs : s.size ≤ 1048576) (ht : t.size ≤ 1048576) (w : World) :
    Calls Try.prog 51 #[.string s, .string t] w fun e w' => e = .returned (.bool (decide (t.size ≤ s.size) && ((s.extract (s.size - t.size) s.size).toList == t.toList))) ∧ w = w' := by
  go_enter Try.func51, Try.ntmps51
  go_wp2_with (go_at_call 69; refine (suffix_lite s t hs ht _).mono ?_; rintro e w' ⟨rfl, rfl⟩)
  go_ret
  exact ⟨rfl, rfl⟩
theorem i_Ended (s : ByteArray) (hs : s.size ≤ maxLen) (hn : s.size ≤ 1048576) (w : World) :
    Calls Try.prog 15 #[.string s] w fun e w' => e = .returned (.string (ended s)) ∧ Below w.heap.size w w' := by
  go_enter Try.func15, Try.ntmps15
  obtain ⟨q, hq⟩ : ∃ q : Bool, (decide ((⟨#[10]⟩ : ByteArray).size ≤ s.size) && ((s.extract (s.size - (⟨#[10]⟩ : ByteArray).size) s.size).toList == (⟨#[10]⟩ : ByteArray).toList)) = q := ⟨_, rfl⟩
  have E : Hid (ended s = if q then s else s ++ ⟨#[10]⟩) := hid (by
    have e1 : (⟨#[10]⟩ : ByteArray).size = 1 := rfl
    have e2 : (⟨#[10]⟩ : ByteArray).toList = [10] := by decide +kernel
    rw [← hq, e1, e2]
    by_cases h0 : 0 < s.size
    · rw [suffix_last s h0]
      by_cases h1 : s[s.size - 1] = 10
      · rw [ended_yes h0 h1, if_pos]; simp [h1]; omega
      · rw [ended_no (fun _ => h1)]; simp [h1]
    · rw [ended_no (fun h => absurd h h0)]; simp; omega)
  cases q
  · go_wp2_with (go_at_call 51; refine (suffix_has s ⟨#[10]⟩ hn (by decide) _).mono ?_; rintro e w' ⟨rfl, rfl⟩; rw [hq])
    go_ret
    exact ⟨by rw [E.out]; rfl, Below.refl _ _⟩
  · go_wp2_with (go_at_call 51; refine (suffix_has s ⟨#[10]⟩ hn (by decide) _).mono ?_; rintro e w' ⟨rfl, rfl⟩; rw [hq])
    go_ret
    exact ⟨by rw [E.out]; rfl, Below.refl _ _⟩
end Go.Proofs.Ytcflijclpjnoiaa
