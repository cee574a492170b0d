/-
  No cell of these rows narrows 'for every input' (looked for: loops, veiled, ifaces, maps, wideKeys, modest, calm, conditions, laid).
  DERIVED. THE GIVEN ROWS OF THIS SEAT. 12 by the template 'for every input the law returns true; each argument reads behind the call as it read before'; 0 by the template 'total and deterministic' (their statements: YtedkmifkakbbmaaTotals.lean).
  GIVEN WITH THE SEED: the statements are not yours to turn. If you find one false, say at which input.
  Laid BY PROGRAM, IN A SANDBOX (cutbox-rows.mjs): the forced cells as the released guide's own fill.sh prints them over the translation 591224cfcb7c63a0… (all of the seat's roots in one cut). By AI agents, Wed Nov 11 2026. No macro, syntax, notation, axiom, sorry.
-/
import Derived.Test.YtedkmifkakbbmaaChecked
import GoSem.Claim
import GoSem.ClaimJoined
import GoSem.ClaimMapViews
import Derived.JoinedTies
import Derived.KernelRfl
namespace Go.Proofs.Ytedkmifkakbbmaa
/- THE CELL 'sum', in the pinned program and in every row, IS THE sha256 OF THE DUMP (.gsa) THAT YtedkmifkakbbmaaProg.lean LOADS. Nothing in Lean hashes anything: it is a label: what it is worth is what the hold of that sum in a sandbox is worth. -/
noncomputable def Try.pinned : Pinned := { name := "ytedkmifkakbbmaa", sum := "591224cfcb7c63a0bbb1bebd330f7649948869f522c55c67cb3a1006952e17d6", checked := Try.checked }
namespace Rows
def none {H : Type} : Left H := { results := [], args := [] }

/-- 'laws.FnExactLineSwap': WHATEVER THE INPUT: true; the input reads as it did. -/
def fnExactLineSwapSpec : ChangeSpec := { name := "fnExactLineSwap", fn := fun _ => fun
  | [d] => { results := [.lit (.bool true)], args := [d] }
  | _ => none }
def fnExactLineSwapRow : OpenClaim := { program := "ytedkmifkakbbmaa", sum := "591224cfcb7c63a0bbb1bebd330f7649948869f522c55c67cb3a1006952e17d6", func := "loop.example/g00600/laws.FnExactLineSwap", spec := "fnExactLineSwap", apart := false }
def FnExactLineSwapSaid : Prop := fnExactLineSwapRow.holds Try.pinned (OpenSpec.ofChange fnExactLineSwapSpec)

/-- ITS FALSE NEIGHBOUR: 'it returns false'. Refute it at one input. -/
def fnExactLineSwapWrong : ChangeSpec := { name := "fnExactLineSwap", fn := fun _ => fun
  | [d] => { results := [.lit (.bool false)], args := [d] }
  | _ => none }
def FnExactLineSwapWrongFalsely : Prop := fnExactLineSwapRow.holds Try.pinned (OpenSpec.ofChange fnExactLineSwapWrong)

/-- 'laws.FnExactLinePut': WHATEVER THE INPUT: true; the input reads as it did. -/
def fnExactLinePutSpec : ChangeSpec := { name := "fnExactLinePut", fn := fun _ => fun
  | [d1, d2] => { results := [.lit (.bool true)], args := [d1, d2] }
  | _ => none }
def fnExactLinePutRow : OpenClaim := { program := "ytedkmifkakbbmaa", sum := "591224cfcb7c63a0bbb1bebd330f7649948869f522c55c67cb3a1006952e17d6", func := "loop.example/g00600/laws.FnExactLinePut", spec := "fnExactLinePut", apart := false }
def FnExactLinePutSaid : Prop := fnExactLinePutRow.holds Try.pinned (OpenSpec.ofChange fnExactLinePutSpec)

/-- ITS FALSE NEIGHBOUR: 'it returns false'. Refute it at one input. -/
def fnExactLinePutWrong : ChangeSpec := { name := "fnExactLinePut", fn := fun _ => fun
  | [d1, d2] => { results := [.lit (.bool false)], args := [d1, d2] }
  | _ => none }
def FnExactLinePutWrongFalsely : Prop := fnExactLinePutRow.holds Try.pinned (OpenSpec.ofChange fnExactLinePutWrong)

/-- 'laws.FnExactLineText': WHATEVER THE INPUT: true; the input reads as it did. -/
def fnExactLineTextSpec : ChangeSpec := { name := "fnExactLineText", fn := fun _ => fun
  | [d] => { results := [.lit (.bool true)], args := [d] }
  | _ => none }
def fnExactLineTextRow : OpenClaim := { program := "ytedkmifkakbbmaa", sum := "591224cfcb7c63a0bbb1bebd330f7649948869f522c55c67cb3a1006952e17d6", func := "loop.example/g00600/laws.FnExactLineText", spec := "fnExactLineText", apart := false }
def FnExactLineTextSaid : Prop := fnExactLineTextRow.holds Try.pinned (OpenSpec.ofChange fnExactLineTextSpec)

/-- ITS FALSE NEIGHBOUR: 'it returns false'. Refute it at one input. -/
def fnExactLineTextWrong : ChangeSpec := { name := "fnExactLineText", fn := fun _ => fun
  | [d] => { results := [.lit (.bool false)], args := [d] }
  | _ => none }
def FnExactLineTextWrongFalsely : Prop := fnExactLineTextRow.holds Try.pinned (OpenSpec.ofChange fnExactLineTextWrong)

/-- 'laws.FnExactLineGo': WHATEVER THE INPUT: true; the input reads as it did. -/
def fnExactLineGoSpec : ChangeSpec := { name := "fnExactLineGo", fn := fun _ => fun
  | [d1, d2] => { results := [.lit (.bool true)], args := [d1, d2] }
  | _ => none }
def fnExactLineGoRow : OpenClaim := { program := "ytedkmifkakbbmaa", sum := "591224cfcb7c63a0bbb1bebd330f7649948869f522c55c67cb3a1006952e17d6", func := "loop.example/g00600/laws.FnExactLineGo", spec := "fnExactLineGo", apart := false }
def FnExactLineGoSaid : Prop := fnExactLineGoRow.holds Try.pinned (OpenSpec.ofChange fnExactLineGoSpec)

/-- ITS FALSE NEIGHBOUR: 'it returns false'. Refute it at one input. -/
def fnExactLineGoWrong : ChangeSpec := { name := "fnExactLineGo", fn := fun _ => fun
  | [d1, d2] => { results := [.lit (.bool false)], args := [d1, d2] }
  | _ => none }
def FnExactLineGoWrongFalsely : Prop := fnExactLineGoRow.holds Try.pinned (OpenSpec.ofChange fnExactLineGoWrong)

/-- 'laws.FnExactLineCut': WHATEVER THE INPUT: true; the input reads as it did. -/
def fnExactLineCutSpec : ChangeSpec := { name := "fnExactLineCut", fn := fun _ => fun
  | [d1, d2, d3] => { results := [.lit (.bool true)], args := [d1, d2, d3] }
  | _ => none }
def fnExactLineCutRow : OpenClaim := { program := "ytedkmifkakbbmaa", sum := "591224cfcb7c63a0bbb1bebd330f7649948869f522c55c67cb3a1006952e17d6", func := "loop.example/g00600/laws.FnExactLineCut", spec := "fnExactLineCut", apart := false }
def FnExactLineCutSaid : Prop := fnExactLineCutRow.holds Try.pinned (OpenSpec.ofChange fnExactLineCutSpec)

/-- ITS FALSE NEIGHBOUR: 'it returns false'. Refute it at one input. -/
def fnExactLineCutWrong : ChangeSpec := { name := "fnExactLineCut", fn := fun _ => fun
  | [d1, d2, d3] => { results := [.lit (.bool false)], args := [d1, d2, d3] }
  | _ => none }
def FnExactLineCutWrongFalsely : Prop := fnExactLineCutRow.holds Try.pinned (OpenSpec.ofChange fnExactLineCutWrong)

/-- 'laws.FnExactLineCase': WHATEVER THE INPUT: true; the input reads as it did. -/
def fnExactLineCaseSpec : ChangeSpec := { name := "fnExactLineCase", fn := fun _ => fun
  | [d1, d2, d3, d4] => { results := [.lit (.bool true)], args := [d1, d2, d3, d4] }
  | _ => none }
def fnExactLineCaseRow : OpenClaim := { program := "ytedkmifkakbbmaa", sum := "591224cfcb7c63a0bbb1bebd330f7649948869f522c55c67cb3a1006952e17d6", func := "loop.example/g00600/laws.FnExactLineCase", spec := "fnExactLineCase", apart := false }
def FnExactLineCaseSaid : Prop := fnExactLineCaseRow.holds Try.pinned (OpenSpec.ofChange fnExactLineCaseSpec)

/-- ITS FALSE NEIGHBOUR: 'it returns false'. Refute it at one input. -/
def fnExactLineCaseWrong : ChangeSpec := { name := "fnExactLineCase", fn := fun _ => fun
  | [d1, d2, d3, d4] => { results := [.lit (.bool false)], args := [d1, d2, d3, d4] }
  | _ => none }
def FnExactLineCaseWrongFalsely : Prop := fnExactLineCaseRow.holds Try.pinned (OpenSpec.ofChange fnExactLineCaseWrong)

/-- 'laws.FnExactLineOf': WHATEVER THE INPUT: true; the input reads as it did. -/
def fnExactLineOfSpec : ChangeSpec := { name := "fnExactLineOf", fn := fun _ => fun
  | [d] => { results := [.lit (.bool true)], args := [d] }
  | _ => none }
def fnExactLineOfRow : OpenClaim := { program := "ytedkmifkakbbmaa", sum := "591224cfcb7c63a0bbb1bebd330f7649948869f522c55c67cb3a1006952e17d6", func := "loop.example/g00600/laws.FnExactLineOf", spec := "fnExactLineOf", apart := false }
def FnExactLineOfSaid : Prop := fnExactLineOfRow.holds Try.pinned (OpenSpec.ofChange fnExactLineOfSpec)

/-- ITS FALSE NEIGHBOUR: 'it returns false'. Refute it at one input. -/
def fnExactLineOfWrong : ChangeSpec := { name := "fnExactLineOf", fn := fun _ => fun
  | [d] => { results := [.lit (.bool false)], args := [d] }
  | _ => none }
def FnExactLineOfWrongFalsely : Prop := fnExactLineOfRow.holds Try.pinned (OpenSpec.ofChange fnExactLineOfWrong)

/-- 'laws.FnExactRingOk': WHATEVER THE INPUT: true; the input reads as it did. -/
def fnExactRingOkSpec : ChangeSpec := { name := "fnExactRingOk", fn := fun _ => fun
  | [d] => { results := [.lit (.bool true)], args := [d] }
  | _ => none }
def fnExactRingOkRow : OpenClaim := { program := "ytedkmifkakbbmaa", sum := "591224cfcb7c63a0bbb1bebd330f7649948869f522c55c67cb3a1006952e17d6", func := "loop.example/g00600/laws.FnExactRingOk", spec := "fnExactRingOk", apart := false }
def FnExactRingOkSaid : Prop := fnExactRingOkRow.holds Try.pinned (OpenSpec.ofChange fnExactRingOkSpec)

/-- ITS FALSE NEIGHBOUR: 'it returns false'. Refute it at one input. -/
def fnExactRingOkWrong : ChangeSpec := { name := "fnExactRingOk", fn := fun _ => fun
  | [d] => { results := [.lit (.bool false)], args := [d] }
  | _ => none }
def FnExactRingOkWrongFalsely : Prop := fnExactRingOkRow.holds Try.pinned (OpenSpec.ofChange fnExactRingOkWrong)

/-- 'laws.FnExactUndoOk': WHATEVER THE INPUT: true; the input reads as it did. -/
def fnExactUndoOkSpec : ChangeSpec := { name := "fnExactUndoOk", fn := fun _ => fun
  | [d] => { results := [.lit (.bool true)], args := [d] }
  | _ => none }
def fnExactUndoOkRow : OpenClaim := { program := "ytedkmifkakbbmaa", sum := "591224cfcb7c63a0bbb1bebd330f7649948869f522c55c67cb3a1006952e17d6", func := "loop.example/g00600/laws.FnExactUndoOk", spec := "fnExactUndoOk", apart := false }
def FnExactUndoOkSaid : Prop := fnExactUndoOkRow.holds Try.pinned (OpenSpec.ofChange fnExactUndoOkSpec)

/-- ITS FALSE NEIGHBOUR: 'it returns false'. Refute it at one input. -/
def fnExactUndoOkWrong : ChangeSpec := { name := "fnExactUndoOk", fn := fun _ => fun
  | [d] => { results := [.lit (.bool false)], args := [d] }
  | _ => none }
def FnExactUndoOkWrongFalsely : Prop := fnExactUndoOkRow.holds Try.pinned (OpenSpec.ofChange fnExactUndoOkWrong)

/-- 'laws.FnExactRingTop': WHATEVER THE INPUT: true; the input reads as it did. -/
def fnExactRingTopSpec : ChangeSpec := { name := "fnExactRingTop", fn := fun _ => fun
  | [d] => { results := [.lit (.bool true)], args := [d] }
  | _ => none }
def fnExactRingTopRow : OpenClaim := { program := "ytedkmifkakbbmaa", sum := "591224cfcb7c63a0bbb1bebd330f7649948869f522c55c67cb3a1006952e17d6", func := "loop.example/g00600/laws.FnExactRingTop", spec := "fnExactRingTop", apart := false }
def FnExactRingTopSaid : Prop := fnExactRingTopRow.holds Try.pinned (OpenSpec.ofChange fnExactRingTopSpec)

/-- ITS FALSE NEIGHBOUR: 'it returns false'. Refute it at one input. -/
def fnExactRingTopWrong : ChangeSpec := { name := "fnExactRingTop", fn := fun _ => fun
  | [d] => { results := [.lit (.bool false)], args := [d] }
  | _ => none }
def FnExactRingTopWrongFalsely : Prop := fnExactRingTopRow.holds Try.pinned (OpenSpec.ofChange fnExactRingTopWrong)

/-- 'laws.FnWords': WHATEVER THE INPUT: true; the input reads as it did. -/
def fnWordsSpec : ChangeSpec := { name := "fnWords", fn := fun _ => fun
  | [d] => { results := [.lit (.bool true)], args := [d] }
  | _ => none }
def fnWordsRow : OpenClaim := { program := "ytedkmifkakbbmaa", sum := "591224cfcb7c63a0bbb1bebd330f7649948869f522c55c67cb3a1006952e17d6", func := "loop.example/g00600/laws.FnWords", spec := "fnWords", apart := false }
def FnWordsSaid : Prop := fnWordsRow.holds Try.pinned (OpenSpec.ofChange fnWordsSpec)

/-- ITS FALSE NEIGHBOUR: 'it returns false'. Refute it at one input. -/
def fnWordsWrong : ChangeSpec := { name := "fnWords", fn := fun _ => fun
  | [d] => { results := [.lit (.bool false)], args := [d] }
  | _ => none }
def FnWordsWrongFalsely : Prop := fnWordsRow.holds Try.pinned (OpenSpec.ofChange fnWordsWrong)

/-- 'laws.FnLine': WHATEVER THE INPUT: true; the input reads as it did. -/
def fnLineSpec : ChangeSpec := { name := "fnLine", fn := fun _ => fun
  | [d] => { results := [.lit (.bool true)], args := [d] }
  | _ => none }
def fnLineRow : OpenClaim := { program := "ytedkmifkakbbmaa", sum := "591224cfcb7c63a0bbb1bebd330f7649948869f522c55c67cb3a1006952e17d6", func := "loop.example/g00600/laws.FnLine", spec := "fnLine", apart := false }
def FnLineSaid : Prop := fnLineRow.holds Try.pinned (OpenSpec.ofChange fnLineSpec)

/-- ITS FALSE NEIGHBOUR: 'it returns false'. Refute it at one input. -/
def fnLineWrong : ChangeSpec := { name := "fnLine", fn := fun _ => fun
  | [d] => { results := [.lit (.bool false)], args := [d] }
  | _ => none }
def FnLineWrongFalsely : Prop := fnLineRow.holds Try.pinned (OpenSpec.ofChange fnLineWrong)

/- THE SECOND FORM. 'bulk': how many values and letters a reading holds, each counted each time it is reached (what is shared counts as often as it is met; a slice's spare places count too). A statement '..UptoSaid' is the law's where the arguments, and the package variables that the reading takes, are together of bulk at most 1048576: NARROWER than '..Said'. Prove '..Said' where nothing that the law and all that it calls make is longer than what came in: it says more and counts as full. Else prove '..UptoSaid'. A law counts once. -/
mutual
def uptoBulk {H : Type} : DataW H → Nat
  | .lit (.string bytes) => bytes.length + 1
  | .lit _ => 1
  | .nil => 1
  | .ptr d => uptoBulk d + 1
  | .slice elems spare => uptoBulkAll elems + uptoBulkAll spare + 1
  | .agg parts => uptoBulkAll parts + 1
  | .iface _ d => uptoBulk d + 1
  | .map entries => uptoBulkEntries entries + 1
  | .held _ => 1
def uptoBulkAll {H : Type} : List (DataW H) → Nat
  | [] => 0
  | d :: r => uptoBulk d + uptoBulkAll r
def uptoBulkEntries {H : Type} : List (Lit × DataW H) → Nat
  | [] => 0
  | x :: r => uptoBulkEntry x + uptoBulkEntries r
def uptoBulkEntry {H : Type} : Lit × DataW H → Nat
  | (.string bytes, d) => bytes.length + uptoBulk d + 1
  | (_, d) => uptoBulk d + 1
 end
def uptoSmall : (H : Type) → List (DataW H) → Bool := fun _ ds => decide (uptoBulkAll ds ≤ 1048576)
def OpenSpec.upto (s : _root_.Go.ChangeSpec) : _root_.Go.OpenSpec := { _root_.Go.OpenSpec.ofChange s with cond := some uptoSmall }

/-- 'laws.FnExactLineSwap', WHERE WHAT IT READS IS OF BULK AT MOST 1048576: true; the input reads as it did. -/
def fnExactLineSwapUptoRow : OpenClaim := { program := "ytedkmifkakbbmaa", sum := "591224cfcb7c63a0bbb1bebd330f7649948869f522c55c67cb3a1006952e17d6", func := "loop.example/g00600/laws.FnExactLineSwap", spec := "fnExactLineSwap", apart := false, narrowed := true }
def FnExactLineSwapUptoSaid : Prop := fnExactLineSwapUptoRow.holds Try.pinned (OpenSpec.upto fnExactLineSwapSpec)

/-- 'laws.FnExactLinePut', WHERE WHAT IT READS IS OF BULK AT MOST 1048576: true; the input reads as it did. -/
def fnExactLinePutUptoRow : OpenClaim := { program := "ytedkmifkakbbmaa", sum := "591224cfcb7c63a0bbb1bebd330f7649948869f522c55c67cb3a1006952e17d6", func := "loop.example/g00600/laws.FnExactLinePut", spec := "fnExactLinePut", apart := false, narrowed := true }
def FnExactLinePutUptoSaid : Prop := fnExactLinePutUptoRow.holds Try.pinned (OpenSpec.upto fnExactLinePutSpec)

/-- 'laws.FnExactLineText', WHERE WHAT IT READS IS OF BULK AT MOST 1048576: true; the input reads as it did. -/
def fnExactLineTextUptoRow : OpenClaim := { program := "ytedkmifkakbbmaa", sum := "591224cfcb7c63a0bbb1bebd330f7649948869f522c55c67cb3a1006952e17d6", func := "loop.example/g00600/laws.FnExactLineText", spec := "fnExactLineText", apart := false, narrowed := true }
def FnExactLineTextUptoSaid : Prop := fnExactLineTextUptoRow.holds Try.pinned (OpenSpec.upto fnExactLineTextSpec)

/-- 'laws.FnExactLineGo', WHERE WHAT IT READS IS OF BULK AT MOST 1048576: true; the input reads as it did. -/
def fnExactLineGoUptoRow : OpenClaim := { program := "ytedkmifkakbbmaa", sum := "591224cfcb7c63a0bbb1bebd330f7649948869f522c55c67cb3a1006952e17d6", func := "loop.example/g00600/laws.FnExactLineGo", spec := "fnExactLineGo", apart := false, narrowed := true }
def FnExactLineGoUptoSaid : Prop := fnExactLineGoUptoRow.holds Try.pinned (OpenSpec.upto fnExactLineGoSpec)

/-- 'laws.FnExactLineCut', WHERE WHAT IT READS IS OF BULK AT MOST 1048576: true; the input reads as it did. -/
def fnExactLineCutUptoRow : OpenClaim := { program := "ytedkmifkakbbmaa", sum := "591224cfcb7c63a0bbb1bebd330f7649948869f522c55c67cb3a1006952e17d6", func := "loop.example/g00600/laws.FnExactLineCut", spec := "fnExactLineCut", apart := false, narrowed := true }
def FnExactLineCutUptoSaid : Prop := fnExactLineCutUptoRow.holds Try.pinned (OpenSpec.upto fnExactLineCutSpec)

/-- 'laws.FnExactLineCase', WHERE WHAT IT READS IS OF BULK AT MOST 1048576: true; the input reads as it did. -/
def fnExactLineCaseUptoRow : OpenClaim := { program := "ytedkmifkakbbmaa", sum := "591224cfcb7c63a0bbb1bebd330f7649948869f522c55c67cb3a1006952e17d6", func := "loop.example/g00600/laws.FnExactLineCase", spec := "fnExactLineCase", apart := false, narrowed := true }
def FnExactLineCaseUptoSaid : Prop := fnExactLineCaseUptoRow.holds Try.pinned (OpenSpec.upto fnExactLineCaseSpec)

/-- 'laws.FnExactLineOf', WHERE WHAT IT READS IS OF BULK AT MOST 1048576: true; the input reads as it did. -/
def fnExactLineOfUptoRow : OpenClaim := { program := "ytedkmifkakbbmaa", sum := "591224cfcb7c63a0bbb1bebd330f7649948869f522c55c67cb3a1006952e17d6", func := "loop.example/g00600/laws.FnExactLineOf", spec := "fnExactLineOf", apart := false, narrowed := true }
def FnExactLineOfUptoSaid : Prop := fnExactLineOfUptoRow.holds Try.pinned (OpenSpec.upto fnExactLineOfSpec)

/-- 'laws.FnExactRingOk', WHERE WHAT IT READS IS OF BULK AT MOST 1048576: true; the input reads as it did. -/
def fnExactRingOkUptoRow : OpenClaim := { program := "ytedkmifkakbbmaa", sum := "591224cfcb7c63a0bbb1bebd330f7649948869f522c55c67cb3a1006952e17d6", func := "loop.example/g00600/laws.FnExactRingOk", spec := "fnExactRingOk", apart := false, narrowed := true }
def FnExactRingOkUptoSaid : Prop := fnExactRingOkUptoRow.holds Try.pinned (OpenSpec.upto fnExactRingOkSpec)

/-- 'laws.FnExactUndoOk', WHERE WHAT IT READS IS OF BULK AT MOST 1048576: true; the input reads as it did. -/
def fnExactUndoOkUptoRow : OpenClaim := { program := "ytedkmifkakbbmaa", sum := "591224cfcb7c63a0bbb1bebd330f7649948869f522c55c67cb3a1006952e17d6", func := "loop.example/g00600/laws.FnExactUndoOk", spec := "fnExactUndoOk", apart := false, narrowed := true }
def FnExactUndoOkUptoSaid : Prop := fnExactUndoOkUptoRow.holds Try.pinned (OpenSpec.upto fnExactUndoOkSpec)

/-- 'laws.FnExactRingTop', WHERE WHAT IT READS IS OF BULK AT MOST 1048576: true; the input reads as it did. -/
def fnExactRingTopUptoRow : OpenClaim := { program := "ytedkmifkakbbmaa", sum := "591224cfcb7c63a0bbb1bebd330f7649948869f522c55c67cb3a1006952e17d6", func := "loop.example/g00600/laws.FnExactRingTop", spec := "fnExactRingTop", apart := false, narrowed := true }
def FnExactRingTopUptoSaid : Prop := fnExactRingTopUptoRow.holds Try.pinned (OpenSpec.upto fnExactRingTopSpec)

/-- 'laws.FnWords', WHERE WHAT IT READS IS OF BULK AT MOST 1048576: true; the input reads as it did. -/
def fnWordsUptoRow : OpenClaim := { program := "ytedkmifkakbbmaa", sum := "591224cfcb7c63a0bbb1bebd330f7649948869f522c55c67cb3a1006952e17d6", func := "loop.example/g00600/laws.FnWords", spec := "fnWords", apart := false, narrowed := true }
def FnWordsUptoSaid : Prop := fnWordsUptoRow.holds Try.pinned (OpenSpec.upto fnWordsSpec)

/-- 'laws.FnLine', WHERE WHAT IT READS IS OF BULK AT MOST 1048576: true; the input reads as it did. -/
def fnLineUptoRow : OpenClaim := { program := "ytedkmifkakbbmaa", sum := "591224cfcb7c63a0bbb1bebd330f7649948869f522c55c67cb3a1006952e17d6", func := "loop.example/g00600/laws.FnLine", spec := "fnLine", apart := false, narrowed := true }
def FnLineUptoSaid : Prop := fnLineUptoRow.holds Try.pinned (OpenSpec.upto fnLineSpec)

end Rows
end Go.Proofs.Ytedkmifkakbbmaa
