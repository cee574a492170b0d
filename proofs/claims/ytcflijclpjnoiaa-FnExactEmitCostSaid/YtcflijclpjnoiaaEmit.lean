/- The cost of what is sent. -/
import Derived.Test.YtcflijclpjnoiaaWords
set_option linter.unusedSimpArgs false
set_option linter.unusedVariables false
namespace Go.Proofs.Ytcflijclpjnoiaa
open Go.RowKit Go.G6
set_option maxHeartbeats 1600000
set_option maxRecDepth 10000
theorem i_EmitCost {w : World} {bs : List Nat} {a : Option Addr} {len cap : Nat} {t : List UInt8} (h : Slc w bs a len cap t) (hn : t.length ≤ 1048576) :
    Calls Try.prog 24 #[.slice a len cap] w fun e w' => e = .returned (.int .i64 (emitCost t : Int)) ∧ Below w.heap.size w w' := by
  obtain rfl := h.len_eq
  go_enter Try.func24, Try.ntmps24
  go_wp2_with fail
  go_loop [3, 4] (fun q i => ∃ k m : Nat, k ≤ t.length + 1 ∧ m ≤ k ∧ i = .int .i64 k ∧ q = .int .i64 m ∧ emitCost t = costFrom t k m) (fun _ i => t.length + 2 - (intOf i).toNat)
  case atStart => exact ⟨0, 0, by omega, Nat.le_refl _, rfl, rfl, rfl⟩
  case round =>
    obtain ⟨k, m, hk, hmk, rfl, rfl, hr⟩ := hrel
    have H := hid hr; clear hr
    by_cases hlt : k < t.length
    rotate_left
    · go_wp2
      go_ret
      exact ⟨ret_int (by rw [H.out, cost_end (by omega)]), Below.refl _ _⟩
    obtain ⟨b, off, rfl, hbw, hck, _⟩ := h.at k hlt
    have hck1 : w.cell? ⟨b, off + k, none⟩ = some (.int .u8 (t[k].toNat : Int)) := hck
    clear hck
    by_cases hc : t[k].toNat = 27
    rotate_left
    · have hcb : ((t[k].toNat : Int) != 27) = true := by rw [bne_iff_ne]; omega
      have Hc := hid hc; clear hc
      go_wp2
      exact ⟨⟨k + 1, m + 1, by omega, by omega, rfl, rfl, by rw [H.out, cost_ne hlt Hc.out]⟩, by simp [intOf]; omega⟩
    have hcb : ((t[k].toNat : Int) != 27) = false := by rw [hc]; rfl
    have Hc := hid hc; clear hc
    by_cases hl2 : k + 1 < t.length
    rotate_left
    · have hlb : (((k : Int) + 1) == (t.length : Int)) = true := by rw [beq_iff_eq]; omega
      go_wp2
      exact ⟨⟨k + 1, m, by omega, by omega, rfl, rfl, by rw [H.out, cost_last hlt Hc.out (by omega)]⟩, by simp [intOf]; omega⟩
    have hlb : (((k : Int) + 1) == (t.length : Int)) = false := by rw [beq_eq_false_iff_ne]; omega
    obtain ⟨b', off', ea, hbw', hck, _⟩ := h.at (k + 1) hl2
    simp only [Option.some.injEq, Addr.mk.injEq, and_true] at ea
    obtain ⟨rfl, rfl⟩ := ea
    have hck2 : w.cell? ⟨b, off + (k + 1), none⟩ = some (.int .u8 (t[k + 1].toNat : Int)) := hck
    clear hck
    by_cases hc2 : t[k + 1].toNat = 91
    rotate_left
    · have hcb2 : ((t[k + 1].toNat : Int) != 91) = true := by rw [bne_iff_ne]; omega
      have Hc2 := hid hc2; clear hc2
      go_wp2
      exact ⟨⟨k + 1, m, by omega, by omega, rfl, rfl, by rw [H.out, cost_lone hlt Hc.out hl2 Hc2.out]⟩, by simp [intOf]; omega⟩
    have hcb2 : ((t[k + 1].toNat : Int) != 91) = false := by rw [hc2]; rfl
    have HS : Hid (emitCost t = costFrom t (skipOn digitSemi t (k + 2) + 1) m) := hid (by rw [H.out, cost_seq hlt Hc.out hl2 hc2])
    have Hc2 := hid hc2; clear hc2
    go_wp2
    clear hck1 hck2
    go_loop [4] (fun i => ∃ j : Nat, k + 2 ≤ j ∧ j ≤ t.length ∧ i = .int .i64 j ∧ skipOn digitSemi t (k + 2) = skipOn digitSemi t j) (fun i => t.length - (intOf i).toNat)
    case atStart => exact ⟨k + 2, by omega, by omega, by go_num, rfl⟩
    case round =>
      obtain ⟨j, hj1, hj2, rfl, hs⟩ := hrel
      have Hs := hid hs; clear hs
      by_cases hlj : j < t.length
      rotate_left
      · go_wp2
        exact ⟨⟨j + 1, m, by omega, by omega, rfl, rfl, by rw [HS.out, Hs.out, skipOn_end (by omega)]⟩, by simp [intOf]; omega⟩
      obtain ⟨b', off', ea, hbw', hck, _⟩ := h.at j hlj
      simp only [Option.some.injEq, Addr.mk.injEq, and_true] at ea
      obtain ⟨rfl, rfl⟩ := ea
      have hck3 : w.cell? ⟨b, off + j, none⟩ = some (.int .u8 (t[j].toNat : Int)) := hck
      clear hck
      have hu : (t[j].toNat : Int) ≤ 255 := by have := t[j].toNat_lt; omega
      have hu0 : 0 ≤ (t[j].toNat : Int) := Int.natCast_nonneg _
      go_wp2_with (first | (go_at_call 56; refine (i_isDigit _ _).mono ?_; rintro e w' ⟨rfl, rfl⟩))
      all_goals first | exact ⟨⟨j + 1, by omega, by omega, rfl, by rw [Hs.out, skipOn_yes hlj (by simp only [digitSemi, decide_eq_true_eq]; grind [inB])]⟩, by simp [intOf]; omega⟩ | exact ⟨⟨j + 1, m, by omega, by omega, rfl, rfl, by rw [HS.out, Hs.out, skipOn_no hlj (by simp only [digitSemi, decide_eq_false_iff_not]; grind [inB])]⟩, by simp [intOf]; omega⟩
theorem s_EmitCost {w : World} {bs : List Nat} {a : Option Addr} {len cap : Nat} {t : List UInt8} (h : Slc w bs a len cap t) (hn : t.length ≤ 1048576) :
    Calls Try.prog 22 #[.slice a len cap] w fun e w' => e = .returned (.int .i64 (emitCost t : Int)) ∧ Below w.heap.size w w' := by
  obtain rfl := h.len_eq
  go_enter Try.func22, Try.ntmps22
  go_wp2_with fail
  go_loop [3, 4] (fun q i => ∃ k m : Nat, k ≤ t.length + 1 ∧ m ≤ k ∧ i = .int .i64 k ∧ q = .int .i64 m ∧ emitCost t = costFrom t k m) (fun _ i => t.length + 2 - (intOf i).toNat)
  case atStart => exact ⟨0, 0, by omega, Nat.le_refl _, rfl, rfl, rfl⟩
  case round =>
    obtain ⟨k, m, hk, hmk, rfl, rfl, hr⟩ := hrel
    have H := hid hr; clear hr
    by_cases hlt : k < t.length
    rotate_left
    · go_wp2
      go_ret
      exact ⟨ret_int (by rw [H.out, cost_end (by omega)]), Below.refl _ _⟩
    obtain ⟨b, off, rfl, hbw, hck, _⟩ := h.at k hlt
    have hck1 : w.cell? ⟨b, off + k, none⟩ = some (.int .u8 (t[k].toNat : Int)) := hck
    clear hck
    by_cases hc : t[k].toNat = 27
    rotate_left
    · have hcb : ((t[k].toNat : Int) != 27) = true := by rw [bne_iff_ne]; omega
      have Hc := hid hc; clear hc
      go_wp2
      exact ⟨⟨k + 1, m + 1, by omega, by omega, rfl, rfl, by rw [H.out, cost_ne hlt Hc.out]⟩, by simp [intOf]; omega⟩
    have hcb : ((t[k].toNat : Int) != 27) = false := by rw [hc]; rfl
    have Hc := hid hc; clear hc
    by_cases hl2 : k + 1 < t.length
    rotate_left
    · have hlb : decide (((k : Int) + 1) < (t.length : Int)) = false := by simp; omega
      go_wp2
      exact ⟨⟨k + 1, m, by omega, by omega, rfl, rfl, by rw [H.out, cost_last hlt Hc.out (by omega)]⟩, by simp [intOf]; omega⟩
    have hlb : decide (((k : Int) + 1) < (t.length : Int)) = true := by simp; omega
    obtain ⟨b', off', ea, hbw', hck, _⟩ := h.at (k + 1) hl2
    simp only [Option.some.injEq, Addr.mk.injEq, and_true] at ea
    obtain ⟨rfl, rfl⟩ := ea
    have hck2 : w.cell? ⟨b, off + (k + 1), none⟩ = some (.int .u8 (t[k + 1].toNat : Int)) := hck
    clear hck
    by_cases hc2 : t[k + 1].toNat = 91
    rotate_left
    · have hcb2 : ((t[k + 1].toNat : Int) == 91) = false := by rw [beq_eq_false_iff_ne]; omega
      have Hc2 := hid hc2; clear hc2
      go_wp2
      exact ⟨⟨k + 1, m, by omega, by omega, rfl, rfl, by rw [H.out, cost_lone hlt Hc.out hl2 Hc2.out]⟩, by simp [intOf]; omega⟩
    have hcb2 : ((t[k + 1].toNat : Int) == 91) = true := by rw [hc2]; rfl
    have HS : Hid (emitCost t = costFrom t (skipOn digitSemi t (k + 2) + 1) m) := hid (by rw [H.out, cost_seq hlt Hc.out hl2 hc2])
    have Hc2 := hid hc2; clear hc2
    go_wp2
    clear hck1 hck2
    go_loop [4] (fun i => ∃ j : Nat, k + 2 ≤ j ∧ j ≤ t.length ∧ i = .int .i64 j ∧ skipOn digitSemi t (k + 2) = skipOn digitSemi t j) (fun i => t.length - (intOf i).toNat)
    case atStart => exact ⟨k + 2, by omega, by omega, by go_num, rfl⟩
    case round =>
      obtain ⟨j, hj1, hj2, rfl, hs⟩ := hrel
      have Hs := hid hs; clear hs
      by_cases hlj : j < t.length
      rotate_left
      · go_wp2
        exact ⟨⟨j + 1, m, by omega, by omega, rfl, rfl, by rw [HS.out, Hs.out, skipOn_end (by omega)]⟩, by simp [intOf]; omega⟩
      obtain ⟨b', off', ea, hbw', hck, _⟩ := h.at j hlj
      simp only [Option.some.injEq, Addr.mk.injEq, and_true] at ea
      obtain ⟨rfl, rfl⟩ := ea
      have hck3 : w.cell? ⟨b, off + j, none⟩ = some (.int .u8 (t[j].toNat : Int)) := hck
      clear hck
      have hu : (t[j].toNat : Int) ≤ 255 := by have := t[j].toNat_lt; omega
      have hu0 : 0 ≤ (t[j].toNat : Int) := Int.natCast_nonneg _
      go_wp2_with (first | (go_at_call 56; refine (i_isDigit _ _).mono ?_; rintro e w' ⟨rfl, rfl⟩))
      all_goals first | exact ⟨⟨j + 1, by omega, by omega, rfl, by rw [Hs.out, skipOn_yes hlj (by simp only [digitSemi, decide_eq_true_eq]; grind [inB])]⟩, by simp [intOf]; omega⟩ | exact ⟨⟨j + 1, m, by omega, by omega, rfl, rfl, by rw [HS.out, Hs.out, skipOn_no hlj (by simp only [digitSemi, decide_eq_false_iff_not]; grind [inB])]⟩, by simp [intOf]; omega⟩
end Go.Proofs.Ytcflijclpjnoiaa
