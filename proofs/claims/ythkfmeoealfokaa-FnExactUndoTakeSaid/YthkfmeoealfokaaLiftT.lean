/- The types of this translation, readable. -/
import Derived.Test.YthkfmeoealfokaaRows
import Derived.Test.YthkfmeoealfokaaLift
set_option linter.unusedSimpArgs false
set_option linter.unusedVariables false
namespace Go.Proofs.Ythkfmeoealfokaa
open Go.RowKit Go.G6
theorem opn_i : Opn Try.prog 3 Int := opn_int Try.underlying3 (by kernel_rfl)
theorem opn_u : Opn Try.prog 5 UInt8 := opn_byte Try.underlying5 (by kernel_rfl)
theorem opn_b : Opn Try.prog 4 Bool := opn_bool Try.underlying4 (by kernel_rfl)
theorem opn_s : Opn Try.prog 9 ByteArray := opn_string Try.underlying9 (by kernel_rfl)
theorem opn_li : Opn Try.prog 44 (List Int) := opn_list Try.underlying44 (by kernel_rfl) opn_i
theorem opn_lu : Opn Try.prog 54 (List UInt8) := opn_list Try.underlying54 (by kernel_rfl) opn_u
theorem opn_ls : Opn Try.prog 77 (List ByteArray) := opn_list Try.underlying77 (by kernel_rfl) opn_s
theorem opn_Line : Opn Try.prog 67 LineD := by
  have hc : Try.prog.cellsOf 67 = 2 := by kernel_rfl
  refine ⟨hc, fun {H} enc W spare held fuel cs x h => ?_⟩
  obtain ⟨xs, n, _, _, hl, hx, hf⟩ := DataW.trod_struct Try.underlying67 h
  rw [hc] at hl
  have f0 := opn_field (off := 0) opn_li (hf 0 _ rfl) (by rw [hx]; decide)
  have f1 := opn_field (off := 1) opn_i (hf 1 _ rfl) (by rw [hx]; decide)
  have hF : FO W cs 0 ((List Int) × (Int)) := (fo_cons f0 (fo_last (s := Rep.size (Int)) f1 (by rw [hl]; decide)))
  obtain ⟨bs, d, hp⟩ := hF
  exact ⟨bs, ⟨d.1, d.2⟩, hp⟩
theorem opn_lLine : Opn Try.prog 33 (List LineD) := opn_list Try.underlying33 (by kernel_rfl) opn_Line
theorem opn_Piece : Opn Try.prog 120 PieceD := by
  have hc : Try.prog.cellsOf 120 = 1 := by kernel_rfl
  refine ⟨hc, fun {H} enc W spare held fuel cs x h => ?_⟩
  obtain ⟨xs, n, _, _, hl, hx, hf⟩ := DataW.trod_struct Try.underlying120 h
  rw [hc] at hl
  have f0 := opn_field (off := 0) opn_li (hf 0 _ rfl) (by rw [hx]; decide)
  have hF : FO W cs 0 ((List Int)) := (fo_last (s := Rep.size (List Int)) f0 (by rw [hl]; decide))
  obtain ⟨bs, d, hp⟩ := hF
  exact ⟨bs, ⟨d⟩, hp⟩
theorem opn_lPiece : Opn Try.prog 22 (List PieceD) := opn_list Try.underlying22 (by kernel_rfl) opn_Piece
theorem opn_Ring : Opn Try.prog 24 RingD := by
  have hc : Try.prog.cellsOf 24 = 1 := by kernel_rfl
  refine ⟨hc, fun {H} enc W spare held fuel cs x h => ?_⟩
  obtain ⟨xs, n, _, _, hl, hx, hf⟩ := DataW.trod_struct Try.underlying24 h
  rw [hc] at hl
  have f0 := opn_field (off := 0) opn_lPiece (hf 0 _ rfl) (by rw [hx]; decide)
  have hF : FO W cs 0 ((List PieceD)) := (fo_last (s := Rep.size (List PieceD)) f0 (by rw [hl]; decide))
  obtain ⟨bs, d, hp⟩ := hF
  exact ⟨bs, ⟨d⟩, hp⟩
theorem opn_Undo : Opn Try.prog 35 UndoD := by
  have hc : Try.prog.cellsOf 35 = 1 := by kernel_rfl
  refine ⟨hc, fun {H} enc W spare held fuel cs x h => ?_⟩
  obtain ⟨xs, n, _, _, hl, hx, hf⟩ := DataW.trod_struct Try.underlying35 h
  rw [hc] at hl
  have f0 := opn_field (off := 0) opn_lLine (hf 0 _ rfl) (by rw [hx]; decide)
  have hF : FO W cs 0 ((List LineD)) := (fo_last (s := Rep.size (List LineD)) f0 (by rw [hl]; decide))
  obtain ⟨bs, d, hp⟩ := hF
  exact ⟨bs, ⟨d⟩, hp⟩
theorem opn_Entry : Opn Try.prog 110 EntryD := by
  have hc : Try.prog.cellsOf 110 = 2 := by kernel_rfl
  refine ⟨hc, fun {H} enc W spare held fuel cs x h => ?_⟩
  obtain ⟨xs, n, _, _, hl, hx, hf⟩ := DataW.trod_struct Try.underlying110 h
  rw [hc] at hl
  have f0 := opn_field (off := 0) opn_i (hf 0 _ rfl) (by rw [hx]; decide)
  have f1 := opn_field (off := 1) opn_s (hf 1 _ rfl) (by rw [hx]; decide)
  have hF : FO W cs 0 ((Int) × (ByteArray)) := (fo_cons f0 (fo_last (s := Rep.size (ByteArray)) f1 (by rw [hl]; decide)))
  obtain ⟨bs, d, hp⟩ := hF
  exact ⟨bs, ⟨d.1, d.2⟩, hp⟩
theorem opn_lEntry : Opn Try.prog 75 (List EntryD) := opn_list Try.underlying75 (by kernel_rfl) opn_Entry
end Go.Proofs.Ythkfmeoealfokaa
