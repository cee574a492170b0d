/- The types of this translation, readable. -/
import Derived.Test.YtedkmifkakbbmaaRows
import Derived.Test.YtedkmifkakbbmaaLift
set_option linter.unusedSimpArgs false
set_option linter.unusedVariables false
namespace Go.Proofs.Ytedkmifkakbbmaa
open Go.RowKit Go.G6
theorem opn_i : Opn Try.prog 3 Int := opn_int Try.underlying3 (by kernel_rfl)
theorem opn_u : Opn Try.prog 5 UInt8 := opn_byte Try.underlying5 (by kernel_rfl)
theorem opn_b : Opn Try.prog 4 Bool := opn_bool Try.underlying4 (by kernel_rfl)
theorem opn_s : Opn Try.prog 9 ByteArray := opn_string Try.underlying9 (by kernel_rfl)
theorem opn_li : Opn Try.prog 22 (List Int) := opn_list Try.underlying22 (by kernel_rfl) opn_i
theorem opn_lu : Opn Try.prog 72 (List UInt8) := opn_list Try.underlying72 (by kernel_rfl) opn_u
theorem opn_Line : Opn Try.prog 24 LineD := by
  have hc : Try.prog.cellsOf 24 = 2 := by kernel_rfl
  refine ⟨hc, fun {H} enc W spare held fuel cs x h => ?_⟩
  obtain ⟨xs, n, _, _, hl, hx, hf⟩ := DataW.trod_struct Try.underlying24 h
  rw [hc] at hl
  have f0 := opn_field (off := 0) opn_li (hf 0 _ rfl) (by rw [hx]; decide)
  have f1 := opn_field (off := 1) opn_i (hf 1 _ rfl) (by rw [hx]; decide)
  have hF : FO W cs 0 ((List Int) × (Int)) := (fo_cons f0 (fo_last (s := Rep.size (Int)) f1 (by rw [hl]; decide)))
  obtain ⟨bs, d, hp⟩ := hF
  exact ⟨bs, ⟨d.1, d.2⟩, hp⟩
theorem opn_lLine : Opn Try.prog 59 (List LineD) := opn_list Try.underlying59 (by kernel_rfl) opn_Line
theorem opn_Piece : Opn Try.prog 109 PieceD := by
  have hc : Try.prog.cellsOf 109 = 1 := by kernel_rfl
  refine ⟨hc, fun {H} enc W spare held fuel cs x h => ?_⟩
  obtain ⟨xs, n, _, _, hl, hx, hf⟩ := DataW.trod_struct Try.underlying109 h
  rw [hc] at hl
  have f0 := opn_field (off := 0) opn_li (hf 0 _ rfl) (by rw [hx]; decide)
  have hF : FO W cs 0 ((List Int)) := (fo_last (s := Rep.size (List Int)) f0 (by rw [hl]; decide))
  obtain ⟨bs, d, hp⟩ := hF
  exact ⟨bs, ⟨d⟩, hp⟩
theorem opn_lPiece : Opn Try.prog 48 (List PieceD) := opn_list Try.underlying48 (by kernel_rfl) opn_Piece
theorem opn_Ring : Opn Try.prog 50 RingD := by
  have hc : Try.prog.cellsOf 50 = 1 := by kernel_rfl
  refine ⟨hc, fun {H} enc W spare held fuel cs x h => ?_⟩
  obtain ⟨xs, n, _, _, hl, hx, hf⟩ := DataW.trod_struct Try.underlying50 h
  rw [hc] at hl
  have f0 := opn_field (off := 0) opn_lPiece (hf 0 _ rfl) (by rw [hx]; decide)
  have hF : FO W cs 0 ((List PieceD)) := (fo_last (s := Rep.size (List PieceD)) f0 (by rw [hl]; decide))
  obtain ⟨bs, d, hp⟩ := hF
  exact ⟨bs, ⟨d⟩, hp⟩
theorem opn_Undo : Opn Try.prog 61 UndoD := by
  have hc : Try.prog.cellsOf 61 = 1 := by kernel_rfl
  refine ⟨hc, fun {H} enc W spare held fuel cs x h => ?_⟩
  obtain ⟨xs, n, _, _, hl, hx, hf⟩ := DataW.trod_struct Try.underlying61 h
  rw [hc] at hl
  have f0 := opn_field (off := 0) opn_lLine (hf 0 _ rfl) (by rw [hx]; decide)
  have hF : FO W cs 0 ((List LineD)) := (fo_last (s := Rep.size (List LineD)) f0 (by rw [hl]; decide))
  obtain ⟨bs, d, hp⟩ := hF
  exact ⟨bs, ⟨d⟩, hp⟩
end Go.Proofs.Ytedkmifkakbbmaa
