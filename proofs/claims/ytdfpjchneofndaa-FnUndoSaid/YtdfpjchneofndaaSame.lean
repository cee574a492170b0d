/- Grids, compared. -/
import Derived.Test.YtdfpjchneofndaaProg
import Derived.Test.YtdfpjchneofndaaApp
import Derived.BigQuiet
set_option linter.unusedSimpArgs false
set_option linter.unusedVariables false
namespace Go.G6
open Go.RowKit
def sameGrid (a b : GridD) : Bool := decide (a.W = b.W) && decide (a.H = b.H) && decide (a.Cells = b.Cells) && decide (a.X = b.X) && decide (a.Y = b.Y) && decide (a.Wrap = b.Wrap)
theorem take_same {α : Type} {xs ys : List α} {k : Nat} (h : xs.take k = ys.take k) (h1 : k < xs.length) (h2 : k < ys.length) (e : xs[k] = ys[k]) : xs.take (k + 1) = ys.take (k + 1) := by
  rw [List.take_succ_eq_append_getElem h1, List.take_succ_eq_append_getElem h2, h, e]
theorem ne_at {α : Type} {xs ys : List α} {k : Nat} (h1 : k < xs.length) (h2 : k < ys.length) (e : xs[k] ≠ ys[k]) : xs ≠ ys := by
  rintro rfl; exact e rfl
end Go.G6
namespace Go.Proofs.Ytdfpjchneofndaa
open Go.RowKit Go.G6
set_option maxHeartbeats 1600000
set_option maxRecDepth 10000
theorem i_sameInts {w : World} {b1 b2 : List Nat} {a1 a2 : Option Addr} {len1 len2 cap1 cap2 : Nat} {xs ys : List Int} (h1 : Slc w b1 a1 len1 cap1 xs) (h2 : Slc w b2 a2 len2 cap2 ys) :
    Calls Try.prog 127 #[.slice a1 len1 cap1, .slice a2 len2 cap2] w fun e w' => e = .returned (.bool (decide (xs = ys))) ∧ Below w.heap.size w w' := by
  obtain rfl := h1.len_eq
  obtain rfl := h2.len_eq
  have hm := h1.max
  have hm2 := h2.max
  by_cases hl : xs.length = ys.length
  rotate_left
  · go_enter Try.func127, Try.ntmps127
    have HL := hid hl
    have hl1 : ((xs.length : Int) != (ys.length : Int)) = true := by rw [bne_iff_ne]; omega
    clear hl
    go_wp2
    go_ret
    exact ⟨ret_bool (by rw [eq_comm, decide_eq_false_iff_not]; rintro rfl; exact HL.out rfl), Below.refl _ _⟩
  have hl1 : ((xs.length : Int) != (ys.length : Int)) = false := by rw [bne_eq_false_iff_eq]; omega
  have HL := hid hl; clear hl
  go_enter Try.func127, Try.ntmps127
  go_wp2_with fail
  go_loopw [13] (fun i wr => ∃ k : Nat, k ≤ xs.length ∧ i = .int .i64 k ∧ xs.take k = ys.take k ∧ Below w.heap.size w wr) (fun i _ => xs.length - (intOf i).toNat)
  case atStart => exact ⟨0, Nat.zero_le _, rfl, rfl, Below.refl _ _⟩
  case round =>
    obtain ⟨k, hk, rfl, ht, hb⟩ := hrel
    have Hb := hid hb
    have HT := hid ht; clear ht
    have hl2 := HL.out
    by_cases hlt : k < xs.length
    · have hlt2 : k < ys.length := by omega
      obtain ⟨b, off, rfl, hbw, hck, _⟩ := h1.at k hlt
      obtain ⟨b', off', rfl, hbw', hck', _⟩ := h2.at k hlt2
      have hc1 : wr.cell? ⟨b, off + k, none⟩ = some (.int .i64 xs[k]) := by rw [hb.cell (p := ⟨b, off + k, none⟩) hbw]; exact hck
      have hc2 : wr.cell? ⟨b', off' + k, none⟩ = some (.int .i64 ys[k]) := by rw [hb.cell (p := ⟨b', off' + k, none⟩) hbw']; exact hck'
      clear hck hck' hb hl2
      have hlt' : (k : Int) < (xs.length : Int) := by omega
      have hlt'' : (k : Int) < (ys.length : Int) := by omega
      by_cases he : xs[k] = ys[k]
      · have he1 : (xs[k] != ys[k]) = false := by rw [bne_eq_false_iff_eq]; exact he
        have HN := hid (take_same HT.out hlt hlt2 he)
        clear he
        go_wp2
        go_quiet (fail)
        go_wp2
        exact ⟨⟨k + 1, by omega, rfl, HN.out, Hb.out.drewN _⟩, by simp [intOf]; omega⟩
      · have he1 : (xs[k] != ys[k]) = true := by rw [bne_iff_ne]; exact he
        have HN := hid (ne_at hlt hlt2 he)
        clear he
        go_wp2
        go_quiet (fail)
        go_wp2
        go_ret
        exact ⟨ret_bool (by rw [eq_comm, decide_eq_false_iff_not]; exact HN.out), Hb.out.drewN _⟩
    · clear hb
      have HN : Hid (xs = ys) := hid (by
        have := HT.out
        rwa [List.take_of_length_le (by omega), List.take_of_length_le (by omega)] at this)
      go_wp2
      go_ret
      exact ⟨ret_bool (by rw [eq_comm, decide_eq_true_eq]; exact HN.out), Hb.out⟩
end Go.Proofs.Ytdfpjchneofndaa
