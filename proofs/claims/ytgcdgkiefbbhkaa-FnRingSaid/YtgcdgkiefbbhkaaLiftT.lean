/- The types of this translation, readable. -/
import Derived.Test.YtgcdgkiefbbhkaaRows
import Derived.Test.YtgcdgkiefbbhkaaLift
set_option linter.unusedSimpArgs false
set_option linter.unusedVariables false
namespace Go.Proofs.Ytgcdgkiefbbhkaa
open Go.RowKit Go.G6
theorem opn_i : Opn Try.prog 3 Int := opn_int Try.underlying3 (by kernel_rfl)
theorem opn_u : Opn Try.prog 5 UInt8 := opn_byte Try.underlying5 (by kernel_rfl)
theorem opn_b : Opn Try.prog 4 Bool := opn_bool Try.underlying4 (by kernel_rfl)
theorem opn_s : Opn Try.prog 9 ByteArray := opn_string Try.underlying9 (by kernel_rfl)
theorem opn_li : Opn Try.prog 54 (List Int) := opn_list Try.underlying54 (by kernel_rfl) opn_i
theorem opn_lu : Opn Try.prog 68 (List UInt8) := opn_list Try.underlying68 (by kernel_rfl) opn_u
theorem opn_Piece : Opn Try.prog 122 PieceD := by
  have hc : Try.prog.cellsOf 122 = 1 := by kernel_rfl
  refine ⟨hc, fun {H} enc W spare held fuel cs x h => ?_⟩
  obtain ⟨xs, n, _, _, hl, hx, hf⟩ := DataW.trod_struct Try.underlying122 h
  rw [hc] at hl
  have f0 := opn_field (off := 0) opn_li (hf 0 _ rfl) (by rw [hx]; decide)
  have hF : FO W cs 0 ((List Int)) := (fo_last (s := Rep.size (List Int)) f0 (by rw [hl]; decide))
  obtain ⟨bs, d, hp⟩ := hF
  exact ⟨bs, ⟨d⟩, hp⟩
theorem opn_lPiece : Opn Try.prog 51 (List PieceD) := opn_list Try.underlying51 (by kernel_rfl) opn_Piece
theorem opn_Ring : Opn Try.prog 53 RingD := by
  have hc : Try.prog.cellsOf 53 = 1 := by kernel_rfl
  refine ⟨hc, fun {H} enc W spare held fuel cs x h => ?_⟩
  obtain ⟨xs, n, _, _, hl, hx, hf⟩ := DataW.trod_struct Try.underlying53 h
  rw [hc] at hl
  have f0 := opn_field (off := 0) opn_lPiece (hf 0 _ rfl) (by rw [hx]; decide)
  have hF : FO W cs 0 ((List PieceD)) := (fo_last (s := Rep.size (List PieceD)) f0 (by rw [hl]; decide))
  obtain ⟨bs, d, hp⟩ := hF
  exact ⟨bs, ⟨d⟩, hp⟩
theorem opn_Entry : Opn Try.prog 108 EntryD := by
  have hc : Try.prog.cellsOf 108 = 2 := by kernel_rfl
  refine ⟨hc, fun {H} enc W spare held fuel cs x h => ?_⟩
  obtain ⟨xs, n, _, _, hl, hx, hf⟩ := DataW.trod_struct Try.underlying108 h
  rw [hc] at hl
  have f0 := opn_field (off := 0) opn_i (hf 0 _ rfl) (by rw [hx]; decide)
  have f1 := opn_field (off := 1) opn_s (hf 1 _ rfl) (by rw [hx]; decide)
  have hF : FO W cs 0 ((Int) × (ByteArray)) := (fo_cons f0 (fo_last (s := Rep.size (ByteArray)) f1 (by rw [hl]; decide)))
  obtain ⟨bs, d, hp⟩ := hF
  exact ⟨bs, ⟨d.1, d.2⟩, hp⟩
theorem opn_lEntry : Opn Try.prog 27 (List EntryD) := opn_list Try.underlying27 (by kernel_rfl) opn_Entry
theorem opn_Node : Opn Try.prog 131 NodeD := by
  have hc : Try.prog.cellsOf 131 = 3 := by kernel_rfl
  refine ⟨hc, fun {H} enc W spare held fuel cs x h => ?_⟩
  obtain ⟨xs, n, _, _, hl, hx, hf⟩ := DataW.trod_struct Try.underlying131 h
  rw [hc] at hl
  have f0 := opn_field (off := 0) opn_i (hf 0 _ rfl) (by rw [hx]; decide)
  have f1 := opn_field (off := 1) opn_lu (hf 1 _ rfl) (by rw [hx]; decide)
  have f2 := opn_field (off := 2) opn_lu (hf 2 _ rfl) (by rw [hx]; decide)
  have hF : FO W cs 0 ((Int) × (List UInt8) × (List UInt8)) := (fo_cons f0 (fo_cons f1 (fo_last (s := Rep.size (List UInt8)) f2 (by rw [hl]; decide))))
  obtain ⟨bs, d, hp⟩ := hF
  exact ⟨bs, ⟨d.1, d.2.1, d.2.2⟩, hp⟩
theorem opn_lNode : Opn Try.prog 22 (List NodeD) := opn_list Try.underlying22 (by kernel_rfl) opn_Node
theorem opn_Link : Opn Try.prog 134 LinkD := by
  have hc : Try.prog.cellsOf 134 = 2 := by kernel_rfl
  refine ⟨hc, fun {H} enc W spare held fuel cs x h => ?_⟩
  obtain ⟨xs, n, _, _, hl, hx, hf⟩ := DataW.trod_struct Try.underlying134 h
  rw [hc] at hl
  have f0 := opn_field (off := 0) opn_s (hf 0 _ rfl) (by rw [hx]; decide)
  have f1 := opn_field (off := 1) opn_i (hf 1 _ rfl) (by rw [hx]; decide)
  have hF : FO W cs 0 ((ByteArray) × (Int)) := (fo_cons f0 (fo_last (s := Rep.size (Int)) f1 (by rw [hl]; decide)))
  obtain ⟨bs, d, hp⟩ := hF
  exact ⟨bs, ⟨d.1, d.2⟩, hp⟩
theorem opn_lLink : Opn Try.prog 23 (List LinkD) := opn_list Try.underlying23 (by kernel_rfl) opn_Link
theorem opn_Turn : Opn Try.prog 137 TurnD := by
  have hc : Try.prog.cellsOf 137 = 4 := by kernel_rfl
  refine ⟨hc, fun {H} enc W spare held fuel cs x h => ?_⟩
  obtain ⟨xs, n, _, _, hl, hx, hf⟩ := DataW.trod_struct Try.underlying137 h
  rw [hc] at hl
  have f0 := opn_field (off := 0) opn_i (hf 0 _ rfl) (by rw [hx]; decide)
  have f1 := opn_field (off := 1) opn_s (hf 1 _ rfl) (by rw [hx]; decide)
  have f2 := opn_field (off := 2) opn_s (hf 2 _ rfl) (by rw [hx]; decide)
  have f3 := opn_field (off := 3) opn_i (hf 3 _ rfl) (by rw [hx]; decide)
  have hF : FO W cs 0 ((Int) × (ByteArray) × (ByteArray) × (Int)) := (fo_cons f0 (fo_cons f1 (fo_cons f2 (fo_last (s := Rep.size (Int)) f3 (by rw [hl]; decide)))))
  obtain ⟨bs, d, hp⟩ := hF
  exact ⟨bs, ⟨d.1, d.2.1, d.2.2.1, d.2.2.2⟩, hp⟩
theorem opn_lTurn : Opn Try.prog 24 (List TurnD) := opn_list Try.underlying24 (by kernel_rfl) opn_Turn
theorem opn_Disk : Opn Try.prog 26 DiskD := by
  have hc : Try.prog.cellsOf 26 = 6 := by kernel_rfl
  refine ⟨hc, fun {H} enc W spare held fuel cs x h => ?_⟩
  obtain ⟨xs, n, _, _, hl, hx, hf⟩ := DataW.trod_struct Try.underlying26 h
  rw [hc] at hl
  have f0 := opn_field (off := 0) opn_i (hf 0 _ rfl) (by rw [hx]; decide)
  have f1 := opn_field (off := 1) opn_i (hf 1 _ rfl) (by rw [hx]; decide)
  have f2 := opn_field (off := 2) opn_i (hf 2 _ rfl) (by rw [hx]; decide)
  have f3 := opn_field (off := 3) opn_lNode (hf 3 _ rfl) (by rw [hx]; decide)
  have f4 := opn_field (off := 4) opn_lLink (hf 4 _ rfl) (by rw [hx]; decide)
  have f5 := opn_field (off := 5) opn_lTurn (hf 5 _ rfl) (by rw [hx]; decide)
  have hF : FO W cs 0 ((Int) × (Int) × (Int) × (List NodeD) × (List LinkD) × (List TurnD)) := (fo_cons f0 (fo_cons f1 (fo_cons f2 (fo_cons f3 (fo_cons f4 (fo_last (s := Rep.size (List TurnD)) f5 (by rw [hl]; decide)))))))
  obtain ⟨bs, d, hp⟩ := hF
  exact ⟨bs, ⟨d.1, d.2.1, d.2.2.1, d.2.2.2.1, d.2.2.2.2.1, d.2.2.2.2.2⟩, hp⟩
theorem opn_Store : Opn Try.prog 29 StoreD := by
  have hc : Try.prog.cellsOf 29 = 10 := by kernel_rfl
  refine ⟨hc, fun {H} enc W spare held fuel cs x h => ?_⟩
  obtain ⟨xs, n, _, _, hl, hx, hf⟩ := DataW.trod_struct Try.underlying29 h
  rw [hc] at hl
  have f0 := opn_field (off := 0) opn_Disk (hf 0 _ rfl) (by rw [hx]; decide)
  have f1 := opn_field (off := 6) opn_i (hf 1 _ rfl) (by rw [hx]; decide)
  have f2 := opn_field (off := 7) opn_i (hf 2 _ rfl) (by rw [hx]; decide)
  have f3 := opn_field (off := 8) opn_lEntry (hf 3 _ rfl) (by rw [hx]; decide)
  have f4 := opn_field (off := 9) opn_i (hf 4 _ rfl) (by rw [hx]; decide)
  have hF : FO W cs 0 ((DiskD) × (Int) × (Int) × (List EntryD) × (Int)) := (fo_cons f0 (fo_cons f1 (fo_cons f2 (fo_cons f3 (fo_last (s := Rep.size (Int)) f4 (by rw [hl]; decide))))))
  obtain ⟨bs, d, hp⟩ := hF
  exact ⟨bs, ⟨d.1, d.2.1, d.2.2.1, d.2.2.2.1, d.2.2.2.2⟩, hp⟩
theorem opn_Trial : Opn Try.prog 31 TrialD := by
  have hc : Try.prog.cellsOf 31 = 21 := by kernel_rfl
  refine ⟨hc, fun {H} enc W spare held fuel cs x h => ?_⟩
  obtain ⟨xs, n, _, _, hl, hx, hf⟩ := DataW.trod_struct Try.underlying31 h
  rw [hc] at hl
  have f0 := opn_field (off := 0) opn_b (hf 0 _ rfl) (by rw [hx]; decide)
  have f1 := opn_field (off := 1) opn_i (hf 1 _ rfl) (by rw [hx]; decide)
  have f2 := opn_field (off := 2) opn_i (hf 2 _ rfl) (by rw [hx]; decide)
  have f3 := opn_field (off := 3) opn_Store (hf 3 _ rfl) (by rw [hx]; decide)
  have f4 := opn_field (off := 13) opn_Disk (hf 4 _ rfl) (by rw [hx]; decide)
  have f5 := opn_field (off := 19) opn_lEntry (hf 5 _ rfl) (by rw [hx]; decide)
  have f6 := opn_field (off := 20) opn_lEntry (hf 6 _ rfl) (by rw [hx]; decide)
  have hF : FO W cs 0 ((Bool) × (Int) × (Int) × (StoreD) × (DiskD) × (List EntryD) × (List EntryD)) := (fo_cons f0 (fo_cons f1 (fo_cons f2 (fo_cons f3 (fo_cons f4 (fo_cons f5 (fo_last (s := Rep.size (List EntryD)) f6 (by rw [hl]; decide))))))))
  obtain ⟨bs, d, hp⟩ := hF
  exact ⟨bs, ⟨d.1, d.2.1, d.2.2.1, d.2.2.2.1, d.2.2.2.2.1, d.2.2.2.2.2.1, d.2.2.2.2.2.2⟩, hp⟩
end Go.Proofs.Ytgcdgkiefbbhkaa
