/- The Late moves: an operation that its guard shuts out. -/
import Derived.Test.YtdfpjchneofndaaLate
import Derived.Test.YtdfpjchneofndaaCopy
import Derived.Deep.DeepCutAuto
set_option linter.unusedSimpArgs false
set_option linter.unusedVariables false
namespace Go.G6
open Go Go.RowKit
/-- An operation that its guard shuts out. -/
theorem late_skip {P : Program} {md : Region.Mode} {ops : Array Oper} {Q : Exit → Act → World → Prop} {S : World → Prop} {L : Nat} {i : Nat} {oi : Oper} {fuel : Nat} {listed : Array Bool} {a : Act} {w : World} (hi : ops[i]? = some oi)
    (hs : (Region.noSelect ops && Region.free md ops listed i && (Region.ready md ops listed).contains i && waits md ops L i) = true)
    (hQ : ∀ c a w, Q (.panic c) (a.put oi.dst undef) w → Q (.panic c) a w) (hw : Region.wanted oi (yielded ops a.tmps) = false) (hS : S w)
    (h : wpAnyL P md ops Q S L fuel (listed.setIfInBounds i true) (a.put oi.dst undef) w) : wpAnyL P md ops Q S L (fuel + 1) listed a w := by
  simp only [Bool.and_eq_true] at hs
  exact wpAnyL_first hi (Region.noSelect_spec hs.1.1.1) hQ hs.2 fuel listed a w (Region.free_spec hi hs.1.1.2) (by simpa using hs.1.2) (.inr ⟨hw, rfl⟩) hS h
theorem keepcellF {W V : World} {p : Addr} {v : Value} (hb : Below W.heap.size W V) (h : W.cell? p = some v) : V.cell? p = some v := (hb.cell (World.block_lt_of_cell? W _ h)).trans h
end Go.G6
namespace Go.Proofs.Ytdfpjchneofndaa
open Go.RowKit Go.G6
set_option maxRecDepth 10000
theorem info_EntryF : (Try.prog.info? 127).map (fun i => (i.zero, i.size, i.bytes)) = some (some (.agg #[.int .i64 0, .string ByteArray.empty]), 2, 24) := by kernel_rfl
end Go.Proofs.Ytdfpjchneofndaa
