/- What was added last is taken first: the plain laws. -/
import Derived.Test.YtdfpjchneofndaaDrawU
import Derived.Test.YtdfpjchneofndaaUndoP
import Derived.Test.YtdfpjchneofndaaUndoT
set_option linter.unusedSimpArgs false
set_option linter.unusedVariables false
namespace Go.G6
open Go Go.RowKit
theorem undo_law {d : UndoD} {l : LineD} (h : undoOk d = true) (hl : lineOk l = true) : ∃ m, ∃ hm : (undoPut d l).Lines.length = m + 1, (undoPut d l).Lines[m].Text = l.Text ∧ m + 1 ≤ 20 ∧ undoTakeOk (undoPut d l) = true ∧ undoTakeU (undoPut d l) = ⟨(undoPut d l).Lines.take m⟩ ∧ (undoTakeL (undoPut d l)).Text = l.Text ∧ (m + 1 = d.Lines.length + 1 → (undoPut d l).Lines.take m = d.Lines) := by
  obtain ⟨h1, h2⟩ := undoPut_ok h hl
  have hlen := (undoOk_bounds h2).1
  have key : ∀ Q : UndoD, undoPut d l = Q → ∃ m, ∃ hm : Q.Lines.length = m + 1, Q.Lines[m].Text = l.Text ∧ (m + 1 = d.Lines.length + 1 → Q.Lines.take m = d.Lines) := by
    intro Q hQ
    have e : undoPut d l = if sameLast d l then d else { Lines := undoNew d l } := by rw [undoPut, if_pos h1]
    by_cases hs : sameLast d l = true
    · rw [if_pos hs] at e
      rw [e] at hQ
      subst hQ
      unfold sameLast at hs
      cases hg : d.Lines.getLast? with
      | none => rw [hg] at hs; cases hs
      | some x =>
        rw [hg] at hs
        have hx : x.Text = l.Text := by simpa using hs
        have hne : d.Lines ≠ [] := by intro h0; rw [h0] at hg; cases hg
        have hpos : 0 < d.Lines.length := List.length_pos_iff.2 hne
        rw [List.getLast?_eq_getElem?] at hg
        have hk : d.Lines.length - 1 < d.Lines.length := by omega
        rw [List.getElem?_eq_getElem hk] at hg
        refine ⟨d.Lines.length - 1, by omega, ?_, fun h => by omega⟩
        rw [← hx]; congr 1; exact Option.some.inj hg
    · rw [if_neg hs] at e
      rw [e] at hQ
      subst hQ
      show ∃ m, ∃ hm : (undoNew d l).length = m + 1, (undoNew d l)[m].Text = l.Text ∧ (m + 1 = d.Lines.length + 1 → (undoNew d l).take m = d.Lines)
      by_cases hc : 20 < d.Lines.length + 1
      · have e2 : undoNew d l = (d.Lines ++ [l]).drop 1 := by rw [undoNew, if_pos hc]
        have hlen2 : (undoNew d l).length = d.Lines.length := by rw [e2]; simp
        refine ⟨d.Lines.length - 1, by omega, ?_, fun h => by omega⟩
        have : ((d.Lines ++ [l]).drop 1)[d.Lines.length - 1]? = some l := by
          rw [List.getElem?_drop, show 1 + (d.Lines.length - 1) = d.Lines.length by omega, List.getElem?_append_right (Nat.le_refl _)]
          simp
        have h3 : (undoNew d l)[d.Lines.length - 1]? = some l := by rw [e2]; exact this
        rw [List.getElem?_eq_getElem (by omega)] at h3
        rw [Option.some.inj h3]
      · have e2 : undoNew d l = d.Lines ++ [l] := by rw [undoNew, if_neg hc]
        refine ⟨d.Lines.length, by rw [e2]; simp, ?_, fun _ => by rw [e2]; simp⟩
        have h3 : (undoNew d l)[d.Lines.length]? = some l := by rw [e2]; simp
        rw [List.getElem?_eq_getElem (by rw [e2]; simp)] at h3
        rw [Option.some.inj h3]
  obtain ⟨m, hm, hk1, hk2⟩ := key _ rfl
  obtain ⟨t1, t2, t3⟩ := undoTake_at h2 hm
  exact ⟨m, hm, hk1, by omega, t1, t2, by rw [t3]; exact hk1, hk2⟩
end Go.G6
