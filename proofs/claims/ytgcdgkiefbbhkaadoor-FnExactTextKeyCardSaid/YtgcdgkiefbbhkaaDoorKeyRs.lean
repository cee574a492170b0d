/- The runes of a written text. -/
import Derived.Test.YtgcdgkiefbbhkaaDoorKeyRt
import Derived.Test.YtgcdgkiefbbhkaaDoorRunes
set_option linter.unusedSimpArgs false
set_option linter.unusedVariables false
namespace Go.G6
open Go.RowKit Rep
theorem textList_cons (r : Int) (l : List Int) : textList (r :: l) = runeBytes r ++ textList l := by simp [textList]
theorem runesR_text (all : List UInt8) : ∀ (todo : List Int) (n k : Nat) (acc : List Int), (∀ r ∈ todo, runeOk r = true) → all.drop k = textList todo → k ≤ all.length → todo.length < n → runesR all n k acc = some (acc ++ todo)
  | [], n, k, acc, _, hd, hk, _ => by
    have h0 : (all.drop k).length = 0 := by rw [hd]; rfl
    rw [List.length_drop] at h0
    rw [runesR_end (by omega), List.append_nil]
  | r :: todo, n, k, acc, ho, hd, hk, hn => by
    obtain ⟨m, rfl⟩ : ∃ m, n = m + 1 := ⟨n - 1, by simp at hn; omega⟩
    have hr := ho r (by simp)
    rw [textList_cons] at hd
    have he := rd_enc hr (textList todo)
    have hp := runeBytes_pos hr
    have hl : (all.drop k).length = (runeBytes r).length + (textList todo).length := by rw [hd, List.length_append]
    rw [List.length_drop] at hl
    rw [runesR_go (by omega) (by rw [hd, he.1]; omega), hd, he.1, he.2]
    rw [runesR_text all todo m (k + (runeBytes r).length) (acc ++ [r]) (fun q hq => ho q (List.mem_cons_of_mem _ hq)) (by rw [← List.drop_drop, hd]; simp) (by omega) (by simp at hn; omega)]
    simp
theorem runesOf_text {l : List Int} (h : ∀ r ∈ l, runeOk r = true) (hs : (textOf l).size ≤ 65536) : runesOf (textOf l) = some l := by
  have e : (textOf l).data.toList = textList l := by simp [textOf]
  have hz : (textOf l).size = (textList l).length := by rw [← e, Array.length_toList]; rfl
  have hn : l.length ≤ (textList l).length := by
    clear hs e hz
    induction l with
    | nil => simp
    | cons r l ih =>
      rw [textList_cons, List.length_append, List.length_cons]
      have := runeBytes_pos (h r (by simp))
      have := ih fun q hq => h q (List.mem_cons_of_mem _ hq)
      omega
  unfold runesOf
  rw [if_neg (by omega), e, runesR_text _ l _ 0 [] h (by simp) (Nat.zero_le _) (by omega)]
  simp
end Go.G6
