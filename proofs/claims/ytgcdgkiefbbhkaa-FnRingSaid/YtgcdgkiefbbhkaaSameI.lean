/- The laws' comparison of two lists of ints. -/
import Derived.Test.YtgcdgkiefbbhkaaApp
import Derived.Test.YtgcdgkiefbbhkaaProg
import Derived.Test.YtgcdgkiefbbhkaaTypes
import Derived.BigQuiet
set_option linter.unusedSimpArgs false
set_option linter.unusedVariables false
namespace Go.Proofs.Ytgcdgkiefbbhkaa
open Go.RowKit Go.G6
set_option maxHeartbeats 1600000
set_option maxRecDepth 10000
theorem l_sameInts {w : World} {b1 b2 : List Nat} {a1 a2 : Option Addr} {len1 len2 cap1 cap2 : Nat} {xs : List Int} (h1 : Slc w b1 a1 len1 cap1 xs) (h2 : Slc w b2 a2 len2 cap2 xs) :
    Calls Try.prog 29 #[.slice a1 len1 cap1, .slice a2 len2 cap2] w fun e w' => e = .returned (.bool true) ∧ Below w.heap.size w w' := by
  obtain rfl := h1.len_eq
  obtain rfl := h2.len_eq
  have hm := h1.max
  go_enter Try.func29, Try.ntmps29
  go_wp2_with fail
  go_loopw [13] (fun i wr => ∃ k : Nat, k ≤ xs.length ∧ i = .int .i64 k ∧ Below w.heap.size w wr) (fun i _ => xs.length - (intOf i).toNat)
  case atStart => exact ⟨0, Nat.zero_le _, rfl, Below.refl _ _⟩
  case round =>
    obtain ⟨k, hk, rfl, hb⟩ := hrel
    have Hb := hid hb
    by_cases hlt : k < xs.length
    · obtain ⟨b, off, rfl, hbw, hck, _⟩ := h1.at k hlt
      obtain ⟨b', off', rfl, hbw', hck', _⟩ := h2.at k hlt
      have hc1 : wr.cell? ⟨b, off + k, none⟩ = some (.int .i64 xs[k]) := by rw [hb.cell (p := ⟨b, off + k, none⟩) hbw]; exact hck
      have hc2 : wr.cell? ⟨b', off' + k, none⟩ = some (.int .i64 xs[k]) := by rw [hb.cell (p := ⟨b', off' + k, none⟩) hbw']; exact hck'
      clear hck hck' hb
      have hlt' : (k : Int) < (xs.length : Int) := by omega
      go_wp2
      go_quiet (fail)
      go_wp2
      exact ⟨⟨k + 1, by omega, rfl, Hb.out.drewN _⟩, by simp [intOf]; omega⟩
    · clear hb
      go_wp2
      go_ret
      exact ⟨rfl, Hb.out⟩
end Go.Proofs.Ytgcdgkiefbbhkaa
