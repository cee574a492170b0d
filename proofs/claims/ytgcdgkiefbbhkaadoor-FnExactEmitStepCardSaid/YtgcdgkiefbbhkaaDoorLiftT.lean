/- The types of this translation, readable. -/
import Derived.Test.YtgcdgkiefbbhkaaDoorRows
import Derived.Test.YtgcdgkiefbbhkaaDoorLift
set_option linter.unusedSimpArgs false
set_option linter.unusedVariables false
namespace Go.Proofs.YtgcdgkiefbbhkaaDoor
open Go.RowKit Go.G6
theorem opn_i : Opn Tryd.prog 3 Int := opn_int Tryd.underlying3 (by kernel_rfl)
theorem opn_u : Opn Tryd.prog 5 UInt8 := opn_byte Tryd.underlying5 (by kernel_rfl)
theorem opn_b : Opn Tryd.prog 4 Bool := opn_bool Tryd.underlying4 (by kernel_rfl)
theorem opn_s : Opn Tryd.prog 9 ByteArray := opn_string Tryd.underlying9 (by kernel_rfl)
theorem opn_li : Opn Tryd.prog 37 (List Int) := opn_list Tryd.underlying37 (by kernel_rfl) opn_i
theorem opn_lu : Opn Tryd.prog 32 (List UInt8) := opn_list Tryd.underlying32 (by kernel_rfl) opn_u
theorem opn_ls : Opn Tryd.prog 50 (List ByteArray) := opn_list Tryd.underlying50 (by kernel_rfl) opn_s
theorem opn_Key : Opn Tryd.prog 28 KeyD := by
  have hc : Tryd.prog.cellsOf 28 = 2 := by kernel_rfl
  refine ⟨hc, fun {H} enc W spare held fuel cs x h => ?_⟩
  obtain ⟨xs, n, _, _, hl, hx, hf⟩ := DataW.trod_struct Tryd.underlying28 h
  rw [hc] at hl
  have f0 := opn_field (off := 0) opn_i (hf 0 _ rfl) (by rw [hx]; decide)
  have f1 := opn_field (off := 1) opn_i (hf 1 _ rfl) (by rw [hx]; decide)
  have hF : FO W cs 0 ((Int) × (Int)) := (fo_cons f0 (fo_last (s := Rep.size (Int)) f1 (by rw [hl]; decide)))
  obtain ⟨bs, d, hp⟩ := hF
  exact ⟨bs, ⟨d.1, d.2⟩, hp⟩
theorem opn_Grid : Opn Tryd.prog 39 GridD := by
  have hc : Tryd.prog.cellsOf 39 = 6 := by kernel_rfl
  refine ⟨hc, fun {H} enc W spare held fuel cs x h => ?_⟩
  obtain ⟨xs, n, _, _, hl, hx, hf⟩ := DataW.trod_struct Tryd.underlying39 h
  rw [hc] at hl
  have f0 := opn_field (off := 0) opn_i (hf 0 _ rfl) (by rw [hx]; decide)
  have f1 := opn_field (off := 1) opn_i (hf 1 _ rfl) (by rw [hx]; decide)
  have f2 := opn_field (off := 2) opn_li (hf 2 _ rfl) (by rw [hx]; decide)
  have f3 := opn_field (off := 3) opn_i (hf 3 _ rfl) (by rw [hx]; decide)
  have f4 := opn_field (off := 4) opn_i (hf 4 _ rfl) (by rw [hx]; decide)
  have f5 := opn_field (off := 5) opn_b (hf 5 _ rfl) (by rw [hx]; decide)
  have hF : FO W cs 0 ((Int) × (Int) × (List Int) × (Int) × (Int) × (Bool)) := (fo_cons f0 (fo_cons f1 (fo_cons f2 (fo_cons f3 (fo_cons f4 (fo_last (s := Rep.size (Bool)) f5 (by rw [hl]; decide)))))))
  obtain ⟨bs, d, hp⟩ := hF
  exact ⟨bs, ⟨d.1, d.2.1, d.2.2.1, d.2.2.2.1, d.2.2.2.2.1, d.2.2.2.2.2⟩, hp⟩
end Go.Proofs.YtgcdgkiefbbhkaaDoor
