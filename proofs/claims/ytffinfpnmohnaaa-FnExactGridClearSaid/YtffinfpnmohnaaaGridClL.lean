/- Clearing: the plain law. -/
import Derived.Test.YtffinfpnmohnaaaGridGs
set_option linter.unusedSimpArgs false
set_option linter.unusedVariables false
namespace Go.G6
open Go.RowKit
def gcOther (xs : List Int) (k : Nat) : Int := if width (xs.getD k 0) = 2 then (k : Int) + 1 else if xs.getD k 0 = -1 then (k : Int) - 1 else k
def gcKill (xs : List Int) (f t : Int) (k : Nat) : Bool := decide (f ≤ (k : Int) ∧ (k : Int) < t) || decide (f ≤ gcOther xs k ∧ gcOther xs k < t)
def gcCells (xs : List Int) (f t : Int) : List Int := (List.range xs.length).map fun k => if gcKill xs f t k then 32 else xs.getD k 0
def clearD (d : GridD) (f t : Int) : GridD := ⟨d.W, d.H, gcCells d.Cells f t, d.X, d.Y, d.Wrap⟩
def gridClear (d : GridD) (f t : Int) : GridD := if gridOk d then clearD d f t else grid0
def gcHalf (xs : List Int) (F : Nat) : List Int := if xs.getD F 0 = -1 then xs.set (F - 1) 32 else xs
def gcNext (xs : List Int) (T : Nat) : List Int := if xs.getD T 0 = -1 then xs.set T 32 else xs
def gcRow (xs : List Int) (F k : Nat) : List Int := xs.take F ++ (List.replicate (k - F) 32 ++ xs.drop k)
theorem gcCells_len (xs : List Int) (f t : Int) : (gcCells xs f t).length = xs.length := by simp [gcCells]
theorem gcHalf_len (xs : List Int) (F : Nat) : (gcHalf xs F).length = xs.length := by unfold gcHalf; split <;> simp
theorem gcNext_len (xs : List Int) (T : Nat) : (gcNext xs T).length = xs.length := by unfold gcNext; split <;> simp
theorem gcRow_len {xs : List Int} {F k : Nat} (h1 : F ≤ k) (h2 : k ≤ xs.length) : (gcRow xs F k).length = xs.length := by
  unfold gcRow; simp only [List.length_append, List.length_take, List.length_replicate, List.length_drop]; omega
theorem gcRow_zero (xs : List Int) (F : Nat) : gcRow xs F F = xs := by simp [gcRow]
theorem gcRow_succ {xs : List Int} {F k : Nat} (h1 : F ≤ k) (h2 : k < xs.length) : (gcRow xs F k).set k 32 = gcRow xs F (k + 1) := by
  unfold gcRow
  have e1 : (xs.take F).length = F := by rw [List.length_take]; omega
  rw [List.set_append_right _ _ (by omega), e1, List.set_append_right _ _ (by rw [List.length_replicate]; exact Nat.le_refl _), List.length_replicate, Nat.sub_self, List.drop_eq_getElem_cons h2, List.set_cons_zero, show k + 1 - F = (k - F) + 1 by omega, List.replicate_succ', List.append_assoc]
  rfl
theorem width_half : width (-1) = 0 := by decide
theorem half_prev {d : GridD} (hg : gridOk d = true) {k : Nat} (hk : k < d.Cells.length) (h : d.Cells.getD k 0 = -1) : 0 < k ∧ width (d.Cells.getD (k - 1) 0) = 2 := by
  simp only [gridOk, Bool.and_eq_true] at hg
  have hc : cellOk d.W d.Cells k = true := by
    have := hg.2
    simp only [cellsOk, List.all_eq_true, List.mem_range] at this
    exact this k hk
  unfold cellOk at hc
  rw [if_pos h] at hc
  simp only [Bool.and_eq_true, decide_eq_true_eq] at hc
  refine ⟨?_, hc.2⟩
  rcases Nat.eq_zero_or_pos k with rfl | h0
  · have := hc.1; simp at this
  · exact h0
theorem wide_next {d : GridD} (hg : gridOk d = true) {k : Nat} (hk : k < d.Cells.length) (h : width (d.Cells.getD k 0) = 2) : k + 1 < d.Cells.length ∧ d.Cells.getD (k + 1) 0 = -1 := by
  have hn : ¬ d.Cells.getD k 0 = -1 := fun e => by rw [e, width_half] at h; cases h
  simp only [gridOk, Bool.and_eq_true] at hg
  have hc : cellOk d.W d.Cells k = true := by
    have := hg.2
    simp only [cellsOk, List.all_eq_true, List.mem_range] at this
    exact this k hk
  unfold cellOk at hc
  rw [if_neg hn, if_pos h] at hc
  simp only [Bool.and_eq_true, decide_eq_true_eq] at hc
  have hs := hg.1.1
  simp only [gridShape, decide_eq_true_eq] at hs
  have := next_lt (k := k) (W := d.W) (H := d.H) (by omega) (by omega) hc.1
  exact ⟨by omega, hc.2⟩
theorem gcCells_at {xs : List Int} {f t : Int} {k : Nat} (hk : k < xs.length) : (gcCells xs f t)[k]? = some (if gcKill xs f t k then 32 else xs.getD k 0) := by
  unfold gcCells; rw [List.getElem?_map, List.getElem?_range hk]; rfl
theorem gc_none {d : GridD} (hg : gridOk d = true) {f t : Int} (h : min t (d.Cells.length : Int) ≤ max f 0) : gcCells d.Cells f t = d.Cells := by
  refine List.ext_getElem? fun k => ?_
  by_cases hk : k < d.Cells.length
  · rw [gcCells_at hk]
    have hf : gcKill d.Cells f t k = false := by
      have a : gcOther d.Cells k = k ∨ (gcOther d.Cells k = k - 1 ∧ 0 < k) ∨ (gcOther d.Cells k = k + 1 ∧ k + 1 < d.Cells.length) := by
        unfold gcOther
        by_cases h2 : width (d.Cells.getD k 0) = 2
        · rw [if_pos h2]; exact .inr (.inr ⟨rfl, (wide_next hg hk h2).1⟩)
        · rw [if_neg h2]
          by_cases h3 : d.Cells.getD k 0 = -1
          · rw [if_pos h3]; exact .inr (.inl ⟨rfl, (half_prev hg hk h3).1⟩)
          · rw [if_neg h3]; exact .inl rfl
      unfold gcKill
      rw [Bool.or_eq_false_iff, decide_eq_false_iff_not, decide_eq_false_iff_not]
      rcases a with e | ⟨e, h⟩ | ⟨e, h⟩ <;> rw [e] <;> omega
    rw [hf, List.getElem?_eq_getElem hk]; simp [hk]
  · rw [List.getElem?_eq_none (by rw [gcCells_len]; omega), List.getElem?_eq_none (by omega)]
theorem gcHalf_at {xs : List Int} {F k : Nat} (hk : k < xs.length) : (gcHalf xs F).getD k 0 = if xs.getD F 0 = -1 ∧ k = F - 1 then 32 else xs.getD k 0 := by
  unfold gcHalf
  by_cases h : xs.getD F 0 = -1
  · rw [if_pos h]
    by_cases e : k = F - 1
    · rw [if_pos ⟨h, e⟩]; subst e; simp [List.getD, hk]
    · rw [if_neg (fun q => e q.2)]; simp [List.getD, List.getElem?_set, Ne.symm e]
  · rw [if_neg h, if_neg (fun q => h q.1)]
theorem gcNext_at {xs : List Int} {T k : Nat} (hk : k < xs.length) : (gcNext xs T).getD k 0 = if xs.getD T 0 = -1 ∧ k = T then 32 else xs.getD k 0 := by
  unfold gcNext
  by_cases h : xs.getD T 0 = -1
  · rw [if_pos h]
    by_cases e : k = T
    · rw [if_pos ⟨h, e⟩]; subst e; simp [List.getD, hk]
    · rw [if_neg (fun q => e q.2)]; simp [List.getD, List.getElem?_set, Ne.symm e]
  · rw [if_neg h, if_neg (fun q => h q.1)]
theorem gcRow_at {xs : List Int} {F T k : Nat} (h1 : F ≤ T) (h2 : T ≤ xs.length) (hk : k < xs.length) : (gcRow xs F T)[k]? = some (if F ≤ k ∧ k < T then 32 else xs.getD k 0) := by
  unfold gcRow
  have e1 : (xs.take F).length = F := by rw [List.length_take]; omega
  by_cases ha : k < F
  · rw [List.getElem?_append_left (by omega), List.getElem?_take_of_lt ha, if_neg (by omega)]; simp [hk]
  · rw [List.getElem?_append_right (by omega), e1]
    by_cases hb : k < T
    · rw [List.getElem?_append_left (by rw [List.length_replicate]; omega), List.getElem?_replicate, if_pos (by omega), if_pos (by omega)]
    · rw [List.getElem?_append_right (by rw [List.length_replicate]; omega), List.length_replicate, List.getElem?_drop, if_neg (by omega), show T + (k - F - (T - F)) = k by omega]; simp [hk]
theorem gc_eq {d : GridD} (hg : gridOk d = true) {f t : Int} {F T : Nat} (hF : (F : Int) = max f 0) (hT : (T : Int) = min t (d.Cells.length : Int)) (h : F < T) : gcRow (gcNext (gcHalf d.Cells F) T) F T = gcCells d.Cells f t := by
  have hTn : T ≤ d.Cells.length := by omega
  refine List.ext_getElem? fun k => ?_
  by_cases hk : k < d.Cells.length
  · rw [gcCells_at hk, gcRow_at (by omega) (by rw [gcNext_len, gcHalf_len]; exact hTn) (by rw [gcNext_len, gcHalf_len]; exact hk), gcNext_at (by rw [gcHalf_len]; exact hk), gcHalf_at hk]
    have eT : (gcHalf d.Cells F).getD T 0 = d.Cells.getD T 0 := by
      by_cases q : T < d.Cells.length
      · rw [gcHalf_at q, if_neg (by omega)]
      · have e2 : (gcHalf d.Cells F).length ≤ T := by rw [gcHalf_len]; omega
        simp [List.getD, List.getElem?_eq_none e2, List.getElem?_eq_none (show d.Cells.length ≤ T by omega)]
    rw [eT]
    congr 1
    have hw := fun j (hj : j < d.Cells.length) q => wide_next (k := j) hg hj q
    have hh := fun j (hj : j < d.Cells.length) q => half_prev (k := j) hg hj q
    by_cases c1 : F ≤ k ∧ k < T
    · rw [if_pos c1, if_pos]
      unfold gcKill; rw [decide_eq_true (by omega)]; rfl
    rw [if_neg c1]
    by_cases c2 : d.Cells.getD T 0 = -1 ∧ k = T
    · rw [if_pos c2, if_pos]
      obtain ⟨c2, rfl⟩ := c2
      have ho : gcOther d.Cells k = (k : Int) - 1 := by
        unfold gcOther; rw [if_neg (by rw [c2, width_half]; decide), if_pos c2]
      unfold gcKill; rw [ho, Bool.or_eq_true]
      right; rw [decide_eq_true_eq]; omega
    rw [if_neg c2]
    by_cases c3 : d.Cells.getD F 0 = -1 ∧ k = F - 1
    · rw [if_pos c3, if_pos]
      obtain ⟨c3, rfl⟩ := c3
      have hp := hh F (by omega) c3
      have ho : gcOther d.Cells (F - 1) = ((F - 1 : Nat) : Int) + 1 := by
        unfold gcOther; rw [if_pos hp.2]
      unfold gcKill; rw [ho, Bool.or_eq_true]
      right; rw [decide_eq_true_eq]; omega
    rw [if_neg c3, if_neg]
    unfold gcKill; rw [Bool.or_eq_true, decide_eq_true_eq, decide_eq_true_eq]
    unfold gcOther
    by_cases h2 : width (d.Cells.getD k 0) = 2
    · have q := hw k hk h2
      rw [if_pos h2]
      intro hc
      have e : k + 1 = F := by omega
      rw [e] at q
      exact c3 ⟨q.2, by omega⟩
    · rw [if_neg h2]
      by_cases h3 : d.Cells.getD k 0 = -1
      · rw [if_pos h3]
        have q := hh k hk h3
        intro hc
        have e : k = T := by omega
        exact c2 ⟨by rw [← e]; exact h3, e⟩
      · rw [if_neg h3]; omega
  · rw [List.getElem?_eq_none (by rw [gcRow_len (by omega) (by rw [gcNext_len, gcHalf_len]; exact hTn), gcNext_len, gcHalf_len]; omega), List.getElem?_eq_none (by rw [gcCells_len]; omega)]
/-- Cleared as far as k. -/
def gcTo (d : GridD) (f t : Int) (k : Nat) : List Int := (gcCells d.Cells f t).take k ++ d.Cells.drop k
theorem gcTo_zero (d : GridD) (f t : Int) : gcTo d f t 0 = d.Cells := by simp [gcTo]
theorem gcTo_all (d : GridD) (f t : Int) : gcTo d f t d.Cells.length = gcCells d.Cells f t := by
  rw [gcTo, List.take_of_length_le (by rw [gcCells_len]; exact Nat.le_refl _), List.drop_length, List.append_nil]
theorem gcTo_len (d : GridD) (f t : Int) (k : Nat) : (gcTo d f t k).length = d.Cells.length := by
  rw [gcTo, List.length_append, List.length_take, List.length_drop, gcCells_len]; omega
theorem gcTo_step {d : GridD} {f t : Int} {k : Nat} (hk : k < d.Cells.length) : gcTo d f t (k + 1) = if gcKill d.Cells f t k then (gcTo d f t k).set k 32 else gcTo d f t k := by
  have hl : k < (gcCells d.Cells f t).length := by rw [gcCells_len]; exact hk
  have e : ((gcCells d.Cells f t).take k).length = k := by rw [List.length_take, gcCells_len]; omega
  have hv := gcCells_at (xs := d.Cells) (f := f) (t := t) hk
  rw [List.getElem?_eq_getElem hl, Option.some.injEq] at hv
  rw [gcTo, List.take_succ_eq_append_getElem hl, hv]
  by_cases hq : gcKill d.Cells f t k = true
  · rw [if_pos hq, if_pos hq, gcTo, List.set_append_right _ _ (by omega), e, Nat.sub_self, List.drop_eq_getElem_cons hk, List.set_cons_zero, List.append_assoc]; rfl
  · rw [if_neg hq, if_neg hq, gcTo, List.append_assoc]
    congr 1
    rw [List.drop_eq_getElem_cons hk]; simp [hk]
theorem gridClear_top (d : GridD) (f t : Int) : 1 + (gridClear d f t).nkv ≤ topK := by
  have h : (gridClear d f t).nkv = (gridClear d f t).Cells.length := nL_const _ _ fun _ => rfl
  rw [h]
  unfold gridClear
  split
  · rename_i hok
    have hs := gridOk_shape hok
    show 1 + (gcCells d.Cells f t).length ≤ topK
    rw [gcCells_len]
    unfold topK; omega
  · simp [grid0, topK]
end Go.G6
