/- The text of a mark. -/
import Derived.Test.YtgcdgkiefbbhkaaProg
import Derived.Test.YtgcdgkiefbbhkaaTypes
import Derived.BigQuiet
set_option linter.unusedSimpArgs false
set_option linter.unusedVariables false
namespace Go.G6
open Go.RowKit
theorem keep_cell {w5 W W' : World} {p : Addr} {v : Value} (hb : Below W.heap.size W W') (h1 : Below w5.heap.size w5 W) (hA : W.cell? p = some v) (l1 : p.block < w5.heap.size) : W'.cell? p = some v :=
  (hb.cell (by have := h1.size; omega)).trans hA
theorem digits_zero : digitsOf 0 = [] := by rw [digitsOf]; simp
theorem digits_len : ∀ (n k : Nat), k < 10 ^ n → (digitsOf k).length ≤ n
  | 0, k, h => by have : k = 0 := by simpa using h
                  subst this; rw [digitsOf]; simp
  | n + 1, k, h => by
    rw [digitsOf]
    split
    · simp
    · have := digits_len n (k / 10) (by rw [Nat.div_lt_iff_lt_mul (by omega)]; rwa [Nat.pow_succ] at h)
      simp; omega
theorem markText_le {k : Nat} (h : k ≤ 1152921504606846976) : (markText k).size ≤ maxLen := by
  have h1 := digits_len 19 k (by omega)
  have : (markText k).size = (109 :: (if k = 0 then [48] else digitsOf k)).length := by simp [markText, ByteArray.size]
  rw [this]
  unfold maxLen
  split <;> simp <;> omega
end Go.G6
namespace Go.Proofs.Ytgcdgkiefbbhkaa
open Go.RowKit Go.G6
set_option maxHeartbeats 1600000
set_option maxRecDepth 10000
theorem markText_any (K : Nat) (w : World) (hK : K ≤ 1152921504606846976) :
    Calls Try.prog 81 #[.int .i64 K] w fun e w' => e = .returned (.string (markText K)) ∧ Below w.heap.size w w' := by
  go_enter Try.func81, Try.ntmps81
  by_cases h0 : K = 0
  · subst h0
    go_wp2
    go_ret
    exact ⟨by simp [markText], Below.refl _ _⟩
  · go_wp2
    go_loopw [0, 3] (fun v o wr => ∃ (j : Nat) (l : List UInt8), j ≤ K ∧ v = .int .i64 j ∧ o = .string ⟨l.toArray⟩ ∧ digitsOf K = digitsOf j ++ l ∧ Below w.heap.size w wr) (fun v _ _ => (intOf v).toNat)
    case atStart => exact ⟨K, [], Nat.le_refl _, rfl, rfl, by simp, Below.refl _ _⟩
    case round =>
      obtain ⟨j, l, hj, rfl, rfl, hd, hb⟩ := hrel
      have HB := hid hb; clear hb
      have hl19 : l.length ≤ 19 := by
        have := digits_len 19 K (by omega)
        rw [hd] at this; simp at this; omega
      have HD := hid hd; clear hd
      rcases j with _ | j
      · go_wp2
        go_ret
        refine ⟨?_, HB.out⟩
        have hd := HD.out
        rw [digits_zero] at hd
        simp only [List.nil_append] at hd
        show Ending.returned (.string ((⟨#[109]⟩ : ByteArray) ++ ⟨l.toArray⟩)) = _
        rw [markText, if_neg h0, hd]
        congr 2
      · have e1 : ((UInt8.ofNat (48 + (j + 1) % 10)).toNat : Int) = 48 + ((j : Int) + 1) % 10 := by rw [u8_ofNat]; omega
        have hcv : (convert 68 9 (.slice (some ⟨wr.heap.size, 0, none⟩) 1 1)).run Try.prog (wr.alloc (.cells #[.int .u8 (48 + ((j : Int) + 1) % 10)] 5)) = .ok (.string ⟨#[UInt8.ofNat (48 + (j + 1) % 10)]⟩) (wr.alloc (.cells #[.int .u8 (48 + ((j : Int) + 1) % 10)] 5)) :=
          run_convert_bytes_back (P := Try.prog) _ 68 9 5 ⟨wr.heap.size, 0, none⟩ 1 [UInt8.ofNat (48 + (j + 1) % 10)] Try.underlying68 Try.underlying5 Try.underlying9 (fun i hi => by
            match i, hi with
            | 0, _ =>
              rw [← e1]
              simp [Addr.add])
        have HN : Hid (digitsOf K = digitsOf ((j + 1) / 10) ++ (UInt8.ofNat (48 + (j + 1) % 10) :: l)) := hid (by
          rw [HD.out]
          conv => lhs; rw [digitsOf, dif_neg (Nat.succ_ne_zero _)]
          simp)
        clear HD
        go_wp2
        refine ⟨⟨(j + 1) / 10, UInt8.ofNat (48 + (j + 1) % 10) :: l, by omega, by have : (((j + 1) / 10 : Nat) : Int) = ((j : Int) + 1) / 10 := by omega
                                                                                  rw [this], ?_, HN.out, HB.out.alloc (by have := HB.out.size; omega) _⟩, by simp [intOf]; omega⟩
        congr 1
        apply ByteArray.ext
        simp
end Go.Proofs.Ytgcdgkiefbbhkaa
