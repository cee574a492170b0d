/- From the readings of the statement's form to readable data. -/
import Derived.Test.YtgcdgkiefbbhkaaTypes
import Derived.ProofKit
import Derived.ChangeArms
import Derived.Deep.Slices
set_option linter.unusedSimpArgs false
set_option linter.unusedVariables false
namespace Go.G6
open Go.RowKit Rep Go.ChangeShapes Go.WideShapes

/-- Whatever reads as a value of type t is readable as α. -/
def Opn (P : Program) (t : TypeId) (α : Type) [Rep α] : Prop :=
  P.cellsOf t = Rep.size α ∧ ∀ {H : Type} (enc : TypeId × Value → H) (W : World) (spare : Nat → Bool) (held : Bool) (fuel : Nat) (cs : List Value) (x : DataW H × List MemPlace),
    DataW.trod enc P W 0 spare held fuel t cs = some x → ∃ bs, ∃ d : α, pt W bs cs d

theorem wf_range {n : Int} (h : (Lit.int .i64 n).wf = true) : I64 n := by
  simp [Lit.wf, IntKind.min, IntKind.max, IntKind.signed, IntKind.bits] at h
  unfold I64; omega

theorem opn_int {P : Program} {t : TypeId} (ht : P.underlying t = some (.int .i64)) (hc : P.cellsOf t = 1) : Opn P t Int := by
  refine ⟨hc, fun {H} enc W spare held fuel cs x h => ?_⟩
  obtain ⟨n, rfl, _, hw⟩ := DataW.trod_int ht h
  exact ⟨[], n, rfl, rfl, wf_range hw⟩
theorem opn_byte {P : Program} {t : TypeId} (ht : P.underlying t = some (.int .u8)) (hc : P.cellsOf t = 1) : Opn P t UInt8 := by
  refine ⟨hc, fun {H} enc W spare held fuel cs x h => ?_⟩
  obtain ⟨n, rfl, _, hw⟩ := DataW.trod_int ht h
  simp [Lit.wf, IntKind.min, IntKind.max, IntKind.signed, IntKind.bits] at hw
  refine ⟨[], UInt8.ofNat n.toNat, rfl, ?_⟩
  show [Value.int .u8 n] = [Value.int .u8 ((UInt8.ofNat n.toNat).toNat : Int)]
  rw [u8_ofNat, Int.toNat_of_nonneg hw.1, Int.emod_eq_of_lt hw.1 (by omega)]
theorem opn_bool {P : Program} {t : TypeId} (ht : P.underlying t = some .bool) (hc : P.cellsOf t = 1) : Opn P t Bool := by
  refine ⟨hc, fun {H} enc W spare held fuel cs x h => ?_⟩
  obtain ⟨n, rfl, _⟩ := DataW.trod_bool ht h
  exact ⟨[], n, rfl, rfl⟩
theorem opn_string {P : Program} {t : TypeId} (ht : P.underlying t = some .string) (hc : P.cellsOf t = 1) : Opn P t ByteArray := by
  refine ⟨hc, fun {H} enc W spare held fuel cs x h => ?_⟩
  obtain ⟨n, rfl, _, hm⟩ := DataW.trod_string ht h
  exact ⟨[], n, rfl, rfl, hm⟩

theorem cells_at {w : World} {a : Addr} {n : Nat} {cs : List Value} (h : w.cells? 0 a n = some cs) : cs.length = n ∧ ∀ j v, cs[j]? = some v → w.cell? (a.add j) = some v := by
  unfold World.cells? at h
  rw [if_pos (Nat.zero_le _)] at h
  have hl := mapM_some_length h
  rw [List.length_range] at hl
  refine ⟨hl, fun j v hv => ?_⟩
  have hj := (List.getElem?_eq_some_iff.1 hv).1
  rw [mapM_some_get h j j (List.getElem?_range (by omega))]
  exact hv

theorem opn_list {P : Program} {t e : TypeId} {α : Type} [Rep α] (ht : P.underlying t = some (.slice e)) (hc : P.cellsOf t = 1) (he : Opn P e α) : Opn P t (List α) := by
  refine ⟨hc, fun {H} enc W spare held fuel cs x h => ?_⟩
  rcases Go.Deep.open_slice ht h with ⟨rfl, _⟩ | ⟨a, len, cap, m, n, D, Pl, rfl, _, hl, hm, hmm, _, hel⟩
  · exact ⟨[], [], none, 0, 0, rfl, rfl, Nat.le_refl _, Nat.zero_le _, .inl ⟨rfl, rfl, fun _ => rfl⟩⟩
  · have hlm : len ≤ m := by rw [hmm]; split <;> omega
    by_cases h0 : len = 0
    · subst h0
      exact ⟨[], [], some a, 0, cap, rfl, rfl, hl, hm, .inl ⟨rfl, rfl, fun h => by cases h⟩⟩
    obtain ⟨b, off, spot⟩ := a
    have hsz := he.1
    have hpos := Rep.pos (α := α)
    have hspot : spot = none := by
      obtain ⟨cs', h1, h2⟩ := hel 0 (by omega)
      have hcl := cells_at h1
      have := hcl.2 0 _ (List.getElem?_eq_getElem (by omega))
      rw [Nat.zero_mul] at this
      simpa [Addr.add] using World.cell?_spot this
    subst hspot
    have hadd : ∀ i, (⟨b, off, none⟩ : Addr).add i = ⟨b, off + i, none⟩ := fun i => by unfold Addr.add; split <;> simp_all
    have key : ∀ k, k ≤ len → ∃ bss cells, ∃ xs : List α, xs.length = k ∧ Elems W bss cells xs ∧ At W b off cells := by
      intro k
      induction k with
      | zero => intro _; exact ⟨[], [], [], rfl, rfl, fun j v hv => by simp at hv⟩
      | succ k ih =>
        intro hk
        obtain ⟨bss, cells, xs, hxl, hE, hA⟩ := ih (by omega)
        obtain ⟨cs', h1, h2⟩ := hel k (by omega)
        obtain ⟨bs', d, hp⟩ := he.2 _ _ _ _ _ _ _ h2
        refine ⟨bss ++ [bs'], cells ++ cs', xs ++ [d], by simp [hxl], hE.snoc hp, hA.append ?_⟩
        intro j v hv
        have := (cells_at h1).2 j v hv
        rw [hadd, hsz] at this
        have hcl := hE.length.2
        rw [hxl] at hcl
        rw [hcl]
        have e2 : (⟨b, off + k * size α, none⟩ : Addr).add j = ⟨b, off + k * size α + j, none⟩ := by unfold Addr.add; split <;> simp_all
        rwa [e2] at this
    obtain ⟨bss, cells, xs, hxl, hE, hA⟩ := key len (Nat.le_refl _)
    have hlt : b < W.heap.size := by
      have hcl := hE.length.2
      have : 0 < cells.length := by rw [hcl, hxl]; exact Nat.mul_pos (by omega) hpos
      exact World.block_lt_of_cell? W _ (hA.cell 0 this)
    exact ⟨b :: bss.flatten, xs, some ⟨b, off, none⟩, len, cap, rfl, hxl.symm, hl, hm, .inr ⟨by intro e; rw [e] at hxl; simp at hxl; omega, b, off, bss, cells, rfl, hlt, rfl, hE, hA⟩⟩

/-- The fields of a structure, from the last to the first. -/
def FO (W : World) (cs : List Value) (off : Nat) (α : Type) [Rep α] : Prop := ∃ bs, ∃ d : α, pt W bs (cs.drop off) d
theorem fo_last {W : World} {cs : List Value} {off s : Nat} {α : Type} [Rep α] (h : ∃ bs, ∃ d : α, pt W bs ((cs.drop off).take s) d) (hl : cs.length ≤ off + s) : FO W cs off α := by
  rw [List.take_of_length_le (by simp; omega)] at h
  exact h
theorem fo_cons {W : World} {cs : List Value} {off s : Nat} {α β : Type} [Rep α] [Rep β] (h : ∃ bs, ∃ d : α, pt W bs ((cs.drop off).take s) d) (h2 : FO W cs (off + s) β) : FO W cs off (α × β) := by
  obtain ⟨b1, d1, p1⟩ := h
  obtain ⟨b2, d2, p2⟩ := h2
  refine ⟨b1 ++ b2, (d1, d2), b1, b2, _, _, rfl, ?_, p1, p2⟩
  rw [← List.drop_drop, List.take_append_drop]
theorem opn_field {P : Program} {W : World} {H : Type} {enc : TypeId × Value → H} {spare : Nat → Bool} {held : Bool} {n : Nat} {t : TypeId} {cs : List Value} {α : Type} [Rep α] {xs : List (DataW H × List MemPlace)} {i : Nat} {off : Nat} (ho : Opn P t α)
    (h : DataW.trod enc P W 0 spare held n t ((cs.drop off).take (P.cellsOf t)) = xs[i]?) (hi : i < xs.length) : ∃ bs, ∃ d : α, pt W bs ((cs.drop off).take (Rep.size α)) d := by
  rw [List.getElem?_eq_getElem hi] at h
  have := ho.2 _ _ _ _ _ _ _ h
  rwa [ho.1] at this
end Go.G6
