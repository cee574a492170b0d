/- An added line has the last number: the plain laws. -/
import Derived.Test.YtdfpjchneofndaaDrawH
import Derived.Test.YtdfpjchneofndaaFindI
set_option linter.unusedSimpArgs false
set_option linter.unusedVariables false
namespace Go.G6
open Go Go.RowKit
theorem hist_last {d : HistD} {s : ByteArray} {k : Nat} (h : HGood d (k + 1)) (hs : 1 ≤ s.size ∧ s.size ≤ 16) : histLast (histPut d s) = d.First + (d.Lines.length : Int) ∧ (histPut d s).First + ((histPut d s).Lines.length : Int) = d.First + (d.Lines.length : Int) + 1 ∧ d.First ≤ (histPut d s).First ∧ 0 < (histPut d s).Lines.length := by
  have hok := (h.put hs).ok
  have h3 := h.2.2.1
  have e : (histPut d s).First + ((histPut d s).Lines.length : Int) = d.First + (d.Lines.length : Int) + 1 ∧ d.First ≤ (histPut d s).First ∧ 0 < (histPut d s).Lines.length := by
    unfold histPut
    split
    · refine ⟨?_, ?_, ?_⟩
      · show d.First + 1 + (((d.Lines ++ [s]).drop 1).length : Int) = _
        rw [List.length_drop, List.length_append, List.length_singleton]; omega
      · show d.First ≤ d.First + 1; omega
      · simp; omega
    · refine ⟨?_, Int.le_refl _, by simp⟩
      show d.First + ((d.Lines ++ [s]).length : Int) = _
      rw [List.length_append, List.length_singleton]; omega
  refine ⟨?_, e⟩
  unfold histLast
  rw [hok, decide_eq_true e.2.2]
  show (histPut d s).First + ((histPut d s).Lines.length : Int) - 1 = _
  omega
theorem hist_at {d : HistD} {s : ByteArray} {k : Nat} (h : HGood d (k + 1)) (hs : 1 ≤ s.size ∧ s.size ≤ 16) : (∀ i : Int, (histPut d s).First ≤ i → i < d.First + (d.Lines.length : Int) → histGetOk (histPut d s) i = true ∧ histGetOk d i = true ∧ histGet (histPut d s) i = histGet d i) ∧
    histGetOk (histPut d s) (d.First + (d.Lines.length : Int)) = true ∧ histGet (histPut d s) (d.First + (d.Lines.length : Int)) = s := by
  obtain ⟨h1, h2, h3, h4⟩ := hist_last h hs
  have hok := (h.put hs).ok
  have hok0 := h.ok
  have h5 := h.2.2.1
  have hel : ∀ j : Nat, (j : Int) = d.First + (d.Lines.length : Int) - (histPut d s).First → (histPut d s).Lines.getD j ByteArray.empty = s := by
    intro j hj
    unfold histPut at hj ⊢
    split
    · rename_i hc
      rw [if_pos hc] at hj
      replace hj : (j : Int) = d.First + (d.Lines.length : Int) - (d.First + 1) := hj
      show ((d.Lines ++ [s]).drop 1).getD j _ = s
      have : 1 + j = d.Lines.length := by omega
      rw [List.getD, List.getElem?_drop, this, List.getElem?_append_right (Nat.le_refl _)]
      simp
    · rename_i hc
      rw [if_neg hc] at hj
      replace hj : (j : Int) = d.First + (d.Lines.length : Int) - d.First := hj
      show (d.Lines ++ [s]).getD j _ = s
      have : j = d.Lines.length := by omega
      simp [List.getD, this]
  have hel2 : ∀ (i : Int), (histPut d s).First ≤ i → i < d.First + (d.Lines.length : Int) → (histPut d s).Lines.getD (i - (histPut d s).First).toNat ByteArray.empty = d.Lines.getD (i - d.First).toNat ByteArray.empty := by
    intro i hi1 hi2
    unfold histPut at hi1 ⊢
    split
    · rename_i hc
      rw [if_pos hc] at hi1
      replace hi1 : d.First + 1 ≤ i := hi1
      show ((d.Lines ++ [s]).drop 1).getD (i - (d.First + 1)).toNat _ = _
      have e : 1 + (i - (d.First + 1)).toNat = (i - d.First).toNat := by omega
      have e2 : (i - d.First).toNat < d.Lines.length := by omega
      rw [List.getD, List.getElem?_drop, e, List.getElem?_append_left e2]
      rfl
    · rename_i hc
      rw [if_neg hc] at hi1
      replace hi1 : d.First ≤ i := hi1
      show (d.Lines ++ [s]).getD (i - d.First).toNat _ = _
      have e2 : (i - d.First).toNat < d.Lines.length := by omega
      simp [List.getD, List.getElem?_append_left e2]
  have g1 : ∀ i : Int, (histPut d s).First ≤ i → i ≤ d.First + (d.Lines.length : Int) → histGetOk (histPut d s) i = true := by
    intro i a b
    unfold histGetOk
    rw [hok, decide_eq_true ⟨a, by omega⟩]; rfl
  have g2 : ∀ i : Int, (histPut d s).First ≤ i → i < d.First + (d.Lines.length : Int) → histGetOk d i = true := by
    intro i a b
    unfold histGetOk
    rw [hok0, decide_eq_true ⟨by omega, by omega⟩]; rfl
  refine ⟨?_, g1 _ (by omega) (Int.le_refl _), ?_⟩
  · intro i a b
    refine ⟨g1 i a (by omega), g2 i a b, ?_⟩
    rw [histGet, if_pos (g1 i a (by omega)), histGet, if_pos (g2 i a b), hel2 i a b]
  · rw [histGet, if_pos (g1 _ (by omega) (Int.le_refl _))]
    exact hel _ (by omega)
theorem hist_find {d : HistD} {s : ByteArray} {k : Nat} (h : HGood d (k + 1)) (hs : 1 ≤ s.size ∧ s.size ≤ 16) : histFind (histPut d s) s.data.toList (d.First + (d.Lines.length : Int)) (-1) true = d.First + (d.Lines.length : Int) := by
  obtain ⟨h1, h2, h3, h4⟩ := hist_last h hs
  have hat := (hist_at h hs).2
  have hok := (h.put hs).ok
  rw [histFind_go hok (.inr rfl)]
  have e0 : decide ((-1 : Int) = 1) = false := by decide
  rw [e0]
  have e1 := hfS_dn (hfQ (histPut d s) s.data.toList (d.First + (d.Lines.length : Int)) (-1) true) (histPut d s).First (histPut d s).Lines.length 0
  have e2 : hfDn (hfQ (histPut d s) s.data.toList (d.First + (d.Lines.length : Int)) (-1) true) (histPut d s).First 0 = 0 := rfl
  rw [e2] at e1
  rw [e1]
  obtain ⟨m, hm⟩ : ∃ m, 0 + (histPut d s).Lines.length = m + 1 := ⟨(histPut d s).Lines.length - 1, by omega⟩
  rw [hm, hfDn]
  have hmn : (histPut d s).First + (m : Int) = d.First + (d.Lines.length : Int) := by omega
  have hget : (histPut d s).Lines.getD m ByteArray.empty = s := by
    have := hat.2
    rw [histGet, if_pos hat.1] at this
    rw [show (d.First + (d.Lines.length : Int) - (histPut d s).First).toNat = m by omega] at this
    exact this
  have hq : hfQ (histPut d s) s.data.toList (d.First + (d.Lines.length : Int)) (-1) true m = true := by
    unfold hfQ
    rw [hget, hmn]
    have : hfHit s.data.toList s.data.toList true = true := by
      show List.isPrefixOf s.data.toList s.data.toList = true
      exact List.isPrefixOf_iff_prefix.2 (List.prefix_refl _)
    rw [this]
    simp only [Bool.true_and, Bool.and_eq_true, decide_eq_true_eq]
    exact ⟨fun h => absurd h (by omega), fun _ => Int.le_refl _⟩
  rw [if_pos hq, hmn]
end Go.G6
