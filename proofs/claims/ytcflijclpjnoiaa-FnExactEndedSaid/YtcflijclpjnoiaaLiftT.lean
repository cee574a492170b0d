/- The types of this translation, readable. -/
import Derived.Test.YtcflijclpjnoiaaRows
import Derived.Test.YtcflijclpjnoiaaLift
set_option linter.unusedSimpArgs false
set_option linter.unusedVariables false
namespace Go.Proofs.Ytcflijclpjnoiaa
open Go.RowKit Go.G6
theorem opn_i : Opn Try.prog 3 Int := opn_int Try.underlying3 (by kernel_rfl)
theorem opn_u : Opn Try.prog 5 UInt8 := opn_byte Try.underlying5 (by kernel_rfl)
theorem opn_b : Opn Try.prog 4 Bool := opn_bool Try.underlying4 (by kernel_rfl)
theorem opn_s : Opn Try.prog 9 ByteArray := opn_string Try.underlying9 (by kernel_rfl)
theorem opn_li : Opn Try.prog 47 (List Int) := opn_list Try.underlying47 (by kernel_rfl) opn_i
theorem opn_lu : Opn Try.prog 33 (List UInt8) := opn_list Try.underlying33 (by kernel_rfl) opn_u
theorem opn_ls : Opn Try.prog 38 (List ByteArray) := opn_list Try.underlying38 (by kernel_rfl) opn_s
theorem opn_Key : Opn Try.prog 25 KeyD := by
  have hc : Try.prog.cellsOf 25 = 2 := by kernel_rfl
  refine ⟨hc, fun {H} enc W spare held fuel cs x h => ?_⟩
  obtain ⟨xs, n, _, _, hl, hx, hf⟩ := DataW.trod_struct Try.underlying25 h
  rw [hc] at hl
  have f0 := opn_field (off := 0) opn_i (hf 0 _ rfl) (by rw [hx]; decide)
  have f1 := opn_field (off := 1) opn_i (hf 1 _ rfl) (by rw [hx]; decide)
  have hF : FO W cs 0 ((Int) × (Int)) := (fo_cons f0 (fo_last (s := Rep.size (Int)) f1 (by rw [hl]; decide)))
  obtain ⟨bs, d, hp⟩ := hF
  exact ⟨bs, ⟨d.1, d.2⟩, hp⟩
theorem opn_Line : Opn Try.prog 53 LineD := by
  have hc : Try.prog.cellsOf 53 = 2 := by kernel_rfl
  refine ⟨hc, fun {H} enc W spare held fuel cs x h => ?_⟩
  obtain ⟨xs, n, _, _, hl, hx, hf⟩ := DataW.trod_struct Try.underlying53 h
  rw [hc] at hl
  have f0 := opn_field (off := 0) opn_li (hf 0 _ rfl) (by rw [hx]; decide)
  have f1 := opn_field (off := 1) opn_i (hf 1 _ rfl) (by rw [hx]; decide)
  have hF : FO W cs 0 ((List Int) × (Int)) := (fo_cons f0 (fo_last (s := Rep.size (Int)) f1 (by rw [hl]; decide)))
  obtain ⟨bs, d, hp⟩ := hF
  exact ⟨bs, ⟨d.1, d.2⟩, hp⟩
theorem opn_Hist : Opn Try.prog 40 HistD := by
  have hc : Try.prog.cellsOf 40 = 2 := by kernel_rfl
  refine ⟨hc, fun {H} enc W spare held fuel cs x h => ?_⟩
  obtain ⟨xs, n, _, _, hl, hx, hf⟩ := DataW.trod_struct Try.underlying40 h
  rw [hc] at hl
  have f0 := opn_field (off := 0) opn_i (hf 0 _ rfl) (by rw [hx]; decide)
  have f1 := opn_field (off := 1) opn_ls (hf 1 _ rfl) (by rw [hx]; decide)
  have hF : FO W cs 0 ((Int) × (List ByteArray)) := (fo_cons f0 (fo_last (s := Rep.size (List ByteArray)) f1 (by rw [hl]; decide)))
  obtain ⟨bs, d, hp⟩ := hF
  exact ⟨bs, ⟨d.1, d.2⟩, hp⟩
end Go.Proofs.Ytcflijclpjnoiaa
