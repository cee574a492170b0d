/- The types of this translation, readable. -/
import Derived.Test.YtndhhongkigikaaRows
import Derived.Test.YtndhhongkigikaaLift
set_option linter.unusedSimpArgs false
set_option linter.unusedVariables false
namespace Go.Proofs.Ytndhhongkigikaa
open Go.RowKit Go.G6
theorem opn_i : Opn Try.prog 3 Int := opn_int Try.underlying3 (by kernel_rfl)
theorem opn_u : Opn Try.prog 5 UInt8 := opn_byte Try.underlying5 (by kernel_rfl)
theorem opn_b : Opn Try.prog 4 Bool := opn_bool Try.underlying4 (by kernel_rfl)
theorem opn_s : Opn Try.prog 9 ByteArray := opn_string Try.underlying9 (by kernel_rfl)
theorem opn_li : Opn Try.prog 22 (List Int) := opn_list Try.underlying22 (by kernel_rfl) opn_i
theorem opn_lu : Opn Try.prog 67 (List UInt8) := opn_list Try.underlying67 (by kernel_rfl) opn_u
theorem opn_ls : Opn Try.prog 56 (List ByteArray) := opn_list Try.underlying56 (by kernel_rfl) opn_s
theorem opn_Line : Opn Try.prog 24 LineD := by
  have hc : Try.prog.cellsOf 24 = 2 := by kernel_rfl
  refine ⟨hc, fun {H} enc W spare held fuel cs x h => ?_⟩
  obtain ⟨xs, n, _, _, hl, hx, hf⟩ := DataW.trod_struct Try.underlying24 h
  rw [hc] at hl
  have f0 := opn_field (off := 0) opn_li (hf 0 _ rfl) (by rw [hx]; decide)
  have f1 := opn_field (off := 1) opn_i (hf 1 _ rfl) (by rw [hx]; decide)
  have hF : FO W cs 0 ((List Int) × (Int)) := (fo_cons f0 (fo_last (s := Rep.size (Int)) f1 (by rw [hl]; decide)))
  obtain ⟨bs, d, hp⟩ := hF
  exact ⟨bs, ⟨d.1, d.2⟩, hp⟩
theorem opn_lLine : Opn Try.prog 33 (List LineD) := opn_list Try.underlying33 (by kernel_rfl) opn_Line
theorem opn_Piece : Opn Try.prog 149 PieceD := by
  have hc : Try.prog.cellsOf 149 = 1 := by kernel_rfl
  refine ⟨hc, fun {H} enc W spare held fuel cs x h => ?_⟩
  obtain ⟨xs, n, _, _, hl, hx, hf⟩ := DataW.trod_struct Try.underlying149 h
  rw [hc] at hl
  have f0 := opn_field (off := 0) opn_li (hf 0 _ rfl) (by rw [hx]; decide)
  have hF : FO W cs 0 ((List Int)) := (fo_last (s := Rep.size (List Int)) f0 (by rw [hl]; decide))
  obtain ⟨bs, d, hp⟩ := hF
  exact ⟨bs, ⟨d⟩, hp⟩
theorem opn_lPiece : Opn Try.prog 84 (List PieceD) := opn_list Try.underlying84 (by kernel_rfl) opn_Piece
theorem opn_Ring : Opn Try.prog 86 RingD := by
  have hc : Try.prog.cellsOf 86 = 1 := by kernel_rfl
  refine ⟨hc, fun {H} enc W spare held fuel cs x h => ?_⟩
  obtain ⟨xs, n, _, _, hl, hx, hf⟩ := DataW.trod_struct Try.underlying86 h
  rw [hc] at hl
  have f0 := opn_field (off := 0) opn_lPiece (hf 0 _ rfl) (by rw [hx]; decide)
  have hF : FO W cs 0 ((List PieceD)) := (fo_last (s := Rep.size (List PieceD)) f0 (by rw [hl]; decide))
  obtain ⟨bs, d, hp⟩ := hF
  exact ⟨bs, ⟨d⟩, hp⟩
theorem opn_Undo : Opn Try.prog 35 UndoD := by
  have hc : Try.prog.cellsOf 35 = 1 := by kernel_rfl
  refine ⟨hc, fun {H} enc W spare held fuel cs x h => ?_⟩
  obtain ⟨xs, n, _, _, hl, hx, hf⟩ := DataW.trod_struct Try.underlying35 h
  rw [hc] at hl
  have f0 := opn_field (off := 0) opn_lLine (hf 0 _ rfl) (by rw [hx]; decide)
  have hF : FO W cs 0 ((List LineD)) := (fo_last (s := Rep.size (List LineD)) f0 (by rw [hl]; decide))
  obtain ⟨bs, d, hp⟩ := hF
  exact ⟨bs, ⟨d⟩, hp⟩
theorem opn_Hist : Opn Try.prog 58 HistD := by
  have hc : Try.prog.cellsOf 58 = 2 := by kernel_rfl
  refine ⟨hc, fun {H} enc W spare held fuel cs x h => ?_⟩
  obtain ⟨xs, n, _, _, hl, hx, hf⟩ := DataW.trod_struct Try.underlying58 h
  rw [hc] at hl
  have f0 := opn_field (off := 0) opn_i (hf 0 _ rfl) (by rw [hx]; decide)
  have f1 := opn_field (off := 1) opn_ls (hf 1 _ rfl) (by rw [hx]; decide)
  have hF : FO W cs 0 ((Int) × (List ByteArray)) := (fo_cons f0 (fo_last (s := Rep.size (List ByteArray)) f1 (by rw [hl]; decide)))
  obtain ⟨bs, d, hp⟩ := hF
  exact ⟨bs, ⟨d.1, d.2⟩, hp⟩
theorem opn_Grid : Opn Try.prog 72 GridD := by
  have hc : Try.prog.cellsOf 72 = 6 := by kernel_rfl
  refine ⟨hc, fun {H} enc W spare held fuel cs x h => ?_⟩
  obtain ⟨xs, n, _, _, hl, hx, hf⟩ := DataW.trod_struct Try.underlying72 h
  rw [hc] at hl
  have f0 := opn_field (off := 0) opn_i (hf 0 _ rfl) (by rw [hx]; decide)
  have f1 := opn_field (off := 1) opn_i (hf 1 _ rfl) (by rw [hx]; decide)
  have f2 := opn_field (off := 2) opn_li (hf 2 _ rfl) (by rw [hx]; decide)
  have f3 := opn_field (off := 3) opn_i (hf 3 _ rfl) (by rw [hx]; decide)
  have f4 := opn_field (off := 4) opn_i (hf 4 _ rfl) (by rw [hx]; decide)
  have f5 := opn_field (off := 5) opn_b (hf 5 _ rfl) (by rw [hx]; decide)
  have hF : FO W cs 0 ((Int) × (Int) × (List Int) × (Int) × (Int) × (Bool)) := (fo_cons f0 (fo_cons f1 (fo_cons f2 (fo_cons f3 (fo_cons f4 (fo_last (s := Rep.size (Bool)) f5 (by rw [hl]; decide)))))))
  obtain ⟨bs, d, hp⟩ := hF
  exact ⟨bs, ⟨d.1, d.2.1, d.2.2.1, d.2.2.2.1, d.2.2.2.2.1, d.2.2.2.2.2⟩, hp⟩
theorem opn_Dec : Opn Try.prog 98 DecD := by
  have hc : Try.prog.cellsOf 98 = 2 := by kernel_rfl
  refine ⟨hc, fun {H} enc W spare held fuel cs x h => ?_⟩
  obtain ⟨xs, n, _, _, hl, hx, hf⟩ := DataW.trod_struct Try.underlying98 h
  rw [hc] at hl
  have f0 := opn_field (off := 0) opn_i (hf 0 _ rfl) (by rw [hx]; decide)
  have f1 := opn_field (off := 1) opn_lu (hf 1 _ rfl) (by rw [hx]; decide)
  have hF : FO W cs 0 ((Int) × (List UInt8)) := (fo_cons f0 (fo_last (s := Rep.size (List UInt8)) f1 (by rw [hl]; decide)))
  obtain ⟨bs, d, hp⟩ := hF
  exact ⟨bs, ⟨d.1, d.2⟩, hp⟩
end Go.Proofs.Ytndhhongkigikaa
