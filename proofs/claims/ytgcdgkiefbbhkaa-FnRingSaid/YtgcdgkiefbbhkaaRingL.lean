/- Rings turned and added to: the plain laws. -/
import Derived.Test.YtgcdgkiefbbhkaaRingP
set_option linter.unusedSimpArgs false
set_option linter.unusedVariables false
namespace Go.G6
open Go Go.RowKit
theorem typed_append {a b : List Int} (ha : allTyped a = true) (hb : allTyped b = true) : allTyped (a ++ b) = true := by
  unfold allTyped at *; rw [List.all_append, ha, hb]; rfl
theorem ringOk_iff {l : List PieceD} : ringOk ⟨l⟩ = true ↔ (∀ p ∈ l, pieceOk p = true) ∧ l.length ≤ 6 := by
  simp [ringOk]
theorem ringFst_typed {d : RingD} (h : ringOk d = true) : allTyped (ringFst d) = true := by
  obtain ⟨l⟩ := d
  have h2 := (ringOk_iff.1 h).1
  unfold ringFst
  cases l with
  | nil => rfl
  | cons p r =>
    have := h2 p (by simp)
    simp only [pieceOk, pieceTyped, Bool.and_eq_true] at this
    exact this.2.2
theorem ringPut_ok {d : RingD} {t : List Int} {how : Int} (h : ringOk d = true) (ht : pieceTyped t = true) (h0 : 0 ≤ how ∧ how ≤ 2) : ringPutOk d t how = true ∧ ringPut d t how = ⟨ringPutL d t how⟩ ∧ ringOk (ringPut d t how) = true := by
  have h1 : ringPutOk d t how = true := by unfold ringPutOk; rw [h, ht]; simp [inB]; omega
  have h2 : ringPut d t how = ⟨ringPutL d t how⟩ := by unfold ringPut; rw [if_pos h1]
  refine ⟨h1, h2, ?_⟩
  rw [h2]
  obtain ⟨l⟩ := d
  have hl := ringOk_iff.1 h
  refine ringOk_iff.2 ⟨?_, ringPutL_len ⟨l⟩ t how hl.2⟩
  have ht2 := ht
  simp only [pieceTyped, Bool.and_eq_true, decide_eq_true_eq] at ht2
  intro p hp
  unfold ringPutL at hp
  split at hp
  · exact hl.1 p hp
  rename_i hne
  have hne' : t.length ≠ 0 := fun h9 => hne (List.eq_nil_of_length_eq_zero h9)
  split at hp
  · have := List.mem_of_mem_take hp
    rcases List.mem_cons.1 this with rfl | h9
    · simp [pieceOk, ht, hne']
    · exact hl.1 p h9
  · rename_i hn
    have hsum : (ringFst ⟨l⟩).length + t.length ≤ 400 := by simp [ringIsNew] at hn; omega
    have hf := ringFst_typed h
    rcases List.mem_or_eq_of_mem_set hp with h9 | rfl
    · exact hl.1 p h9
    · simp only [pieceOk, pieceTyped, Bool.and_eq_true, decide_eq_true_eq]
      split
      · exact ⟨by rw [List.length_append]; omega, by rw [List.length_append]; omega, typed_append hf ht2.2⟩
      · exact ⟨by rw [List.length_append]; omega, by rw [List.length_append]; omega, typed_append ht2.2 hf⟩
/-- k pieces turned. -/
def rot (l : List PieceD) (k : Nat) : List PieceD := l.drop k ++ l.take k
theorem rot_len (l : List PieceD) (k : Nat) : (rot l k).length = l.length := by simp [rot]; omega
theorem rot_mem {l : List PieceD} {k : Nat} {p : PieceD} (h : p ∈ rot l k) : p ∈ l := by
  rcases List.mem_append.1 h with h | h
  · exact List.mem_of_mem_drop h
  · exact List.mem_of_mem_take h
theorem rot_ok {l : List PieceD} (h : ringOk ⟨l⟩ = true) (k : Nat) : ringOk ⟨rot l k⟩ = true := by
  have := ringOk_iff.1 h
  exact ringOk_iff.2 ⟨fun p hp => this.1 p (rot_mem hp), by rw [rot_len]; exact this.2⟩
theorem rot_zero (l : List PieceD) : rot l 0 = l := by simp [rot]
theorem rot_all (l : List PieceD) : rot l l.length = l := by simp [rot]
theorem rot_step {l : List PieceD} (h : ringOk ⟨l⟩ = true) {k : Nat} (hk : k < l.length) : ringTurn ⟨rot l k⟩ = ⟨rot l (k + 1)⟩ := by
  have e : rot l k = l[k] :: (l.drop (k + 1) ++ l.take k) := by
    unfold rot; rw [List.drop_eq_getElem_cons hk, List.cons_append]
  unfold ringTurn
  rw [if_pos (rot_ok h k)]
  unfold turnD
  rw [e]
  show (⟨l.drop (k + 1) ++ l.take k ++ [l[k]]⟩ : RingD) = ⟨l.drop (k + 1) ++ l.take (k + 1)⟩
  rw [List.append_assoc, List.take_succ_eq_append_getElem hk]
/-- What is put is on top; put ahead of itself it is there twice. -/
theorem ring_law {d : RingD} {t : List Int} (h : ringOk d = true) (ht : pieceTyped t = true) (h0 : t ≠ []) (h2 : t.length ≤ 200) :
    ∃ P Q : RingD, ringPutOk d t 0 = true ∧ ringPut d t 0 = P ∧ ringPutOk P t 2 = true ∧ ringPut P t 2 = Q ∧ ringTop P = t ∧ ringTop Q = t ++ t ∧ P.Pieces.length ≤ 6 ∧ d.Pieces.length ≤ P.Pieces.length ∧ ringOk P = true ∧ ringOk Q = true := by
  obtain ⟨l⟩ := d
  have hl := (ringOk_iff.1 h).2
  obtain ⟨a1, a2, a3⟩ := ringPut_ok h ht (how := 0) (by omega)
  obtain ⟨b1, b2, b3⟩ := ringPut_ok (d := ringPut ⟨l⟩ t 0) a3 ht (how := 2) (by omega)
  have e1 : ringPut ⟨l⟩ t 0 = ⟨(⟨t⟩ :: l).take 6⟩ := by
    rw [a2]; unfold ringPutL; rw [if_neg h0, if_pos (by simp [ringIsNew])]; rfl
  have e2 : (⟨t⟩ :: l : List PieceD).take 6 = ⟨t⟩ :: l.take 5 := rfl
  have e3 : ringPut (ringPut ⟨l⟩ t 0) t 2 = ⟨⟨t ++ t⟩ :: l.take 5⟩ := by
    rw [b2]; unfold ringPutL
    have hn : ringIsNew (ringPut ⟨l⟩ t 0) t 2 = false := by
      rw [e1, e2]; unfold ringIsNew ringFst
      rw [show decide ((2 : Int) = 0) = false by decide, show decide ((⟨⟨t⟩ :: l.take 5⟩ : RingD).Pieces.length = 0) = false by simp, show decide (400 < t.length + t.length) = false by simp; omega]; rfl
    rw [if_neg h0, if_neg (by rw [hn]; simp), e1, e2]
    rfl
  refine ⟨_, _, a1, rfl, b1, rfl, ?_, ?_, ?_, ?_, a3, b3⟩
  · unfold ringTop; rw [if_pos a3, e1, e2]
  · unfold ringTop; rw [if_pos b3, e3]
  · rw [e1]; simp; omega
  · rw [e1]; simp; omega
end Go.G6
