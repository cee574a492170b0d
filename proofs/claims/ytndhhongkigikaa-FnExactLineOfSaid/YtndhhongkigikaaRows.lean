/-
  No cell of these rows narrows 'for every input' (looked for: loops, veiled, ifaces, maps, wideKeys, modest, calm, conditions, laid).
  DERIVED. THE GIVEN ROWS OF THIS SEAT. 12 by the template 'for every input the law returns true; each argument reads behind the call as it read before'; 0 by the template 'total and deterministic' (their statements: YtndhhongkigikaaTotals.lean).
  GIVEN WITH THE SEED: the statements are not yours to turn. If you find one false, say at which input.
  Laid BY PROGRAM, IN A SANDBOX (cutbox-rows.mjs): the forced cells as the released guide's own fill.sh prints them over the translation 4de247ec04c8cfee… (all of the seat's roots in one cut). By AI agents, Wed Nov 11 2026. No macro, syntax, notation, axiom, sorry.
-/
import Derived.Test.YtndhhongkigikaaChecked
import GoSem.Claim
import GoSem.ClaimJoined
import GoSem.ClaimMapViews
import Derived.JoinedTies
import Derived.KernelRfl
namespace Go.Proofs.Ytndhhongkigikaa
/- THE CELL 'sum', in the pinned program and in every row, IS THE sha256 OF THE DUMP (.gsa) THAT YtndhhongkigikaaProg.lean LOADS. Nothing in Lean hashes anything: it is a label: what it is worth is what the hold of that sum in a sandbox is worth. -/
noncomputable def Try.pinned : Pinned := { name := "ytndhhongkigikaa", sum := "4de247ec04c8cfee7888c7b084660a71dc1a0cc258551a1d45c8b076aa703187", checked := Try.checked }
namespace Rows
def none {H : Type} : Left H := { results := [], args := [] }

/-- 'laws.FnExactLineSwap': WHATEVER THE INPUT: true; the input reads as it did. -/
def fnExactLineSwapSpec : ChangeSpec := { name := "fnExactLineSwap", fn := fun _ => fun
  | [d] => { results := [.lit (.bool true)], args := [d] }
  | _ => none }
def fnExactLineSwapRow : OpenClaim := { program := "ytndhhongkigikaa", sum := "4de247ec04c8cfee7888c7b084660a71dc1a0cc258551a1d45c8b076aa703187", func := "loop.example/g00600/laws.FnExactLineSwap", spec := "fnExactLineSwap", apart := false }
def FnExactLineSwapSaid : Prop := fnExactLineSwapRow.holds Try.pinned (OpenSpec.ofChange fnExactLineSwapSpec)

/-- ITS FALSE NEIGHBOUR: 'it returns false'. Refute it at one input. -/
def fnExactLineSwapWrong : ChangeSpec := { name := "fnExactLineSwap", fn := fun _ => fun
  | [d] => { results := [.lit (.bool false)], args := [d] }
  | _ => none }
def FnExactLineSwapWrongFalsely : Prop := fnExactLineSwapRow.holds Try.pinned (OpenSpec.ofChange fnExactLineSwapWrong)

/-- 'laws.FnExactUndoPut': WHATEVER THE INPUT: true; the input reads as it did. -/
def fnExactUndoPutSpec : ChangeSpec := { name := "fnExactUndoPut", fn := fun _ => fun
  | [d1, d2] => { results := [.lit (.bool true)], args := [d1, d2] }
  | _ => none }
def fnExactUndoPutRow : OpenClaim := { program := "ytndhhongkigikaa", sum := "4de247ec04c8cfee7888c7b084660a71dc1a0cc258551a1d45c8b076aa703187", func := "loop.example/g00600/laws.FnExactUndoPut", spec := "fnExactUndoPut", apart := false }
def FnExactUndoPutSaid : Prop := fnExactUndoPutRow.holds Try.pinned (OpenSpec.ofChange fnExactUndoPutSpec)

/-- ITS FALSE NEIGHBOUR: 'it returns false'. Refute it at one input. -/
def fnExactUndoPutWrong : ChangeSpec := { name := "fnExactUndoPut", fn := fun _ => fun
  | [d1, d2] => { results := [.lit (.bool false)], args := [d1, d2] }
  | _ => none }
def FnExactUndoPutWrongFalsely : Prop := fnExactUndoPutRow.holds Try.pinned (OpenSpec.ofChange fnExactUndoPutWrong)

/-- 'laws.FnExactLineCase': WHATEVER THE INPUT: true; the input reads as it did. -/
def fnExactLineCaseSpec : ChangeSpec := { name := "fnExactLineCase", fn := fun _ => fun
  | [d1, d2, d3, d4] => { results := [.lit (.bool true)], args := [d1, d2, d3, d4] }
  | _ => none }
def fnExactLineCaseRow : OpenClaim := { program := "ytndhhongkigikaa", sum := "4de247ec04c8cfee7888c7b084660a71dc1a0cc258551a1d45c8b076aa703187", func := "loop.example/g00600/laws.FnExactLineCase", spec := "fnExactLineCase", apart := false }
def FnExactLineCaseSaid : Prop := fnExactLineCaseRow.holds Try.pinned (OpenSpec.ofChange fnExactLineCaseSpec)

/-- ITS FALSE NEIGHBOUR: 'it returns false'. Refute it at one input. -/
def fnExactLineCaseWrong : ChangeSpec := { name := "fnExactLineCase", fn := fun _ => fun
  | [d1, d2, d3, d4] => { results := [.lit (.bool false)], args := [d1, d2, d3, d4] }
  | _ => none }
def FnExactLineCaseWrongFalsely : Prop := fnExactLineCaseRow.holds Try.pinned (OpenSpec.ofChange fnExactLineCaseWrong)

/-- 'laws.FnExactLinePut': WHATEVER THE INPUT: true; the input reads as it did. -/
def fnExactLinePutSpec : ChangeSpec := { name := "fnExactLinePut", fn := fun _ => fun
  | [d1, d2] => { results := [.lit (.bool true)], args := [d1, d2] }
  | _ => none }
def fnExactLinePutRow : OpenClaim := { program := "ytndhhongkigikaa", sum := "4de247ec04c8cfee7888c7b084660a71dc1a0cc258551a1d45c8b076aa703187", func := "loop.example/g00600/laws.FnExactLinePut", spec := "fnExactLinePut", apart := false }
def FnExactLinePutSaid : Prop := fnExactLinePutRow.holds Try.pinned (OpenSpec.ofChange fnExactLinePutSpec)

/-- ITS FALSE NEIGHBOUR: 'it returns false'. Refute it at one input. -/
def fnExactLinePutWrong : ChangeSpec := { name := "fnExactLinePut", fn := fun _ => fun
  | [d1, d2] => { results := [.lit (.bool false)], args := [d1, d2] }
  | _ => none }
def FnExactLinePutWrongFalsely : Prop := fnExactLinePutRow.holds Try.pinned (OpenSpec.ofChange fnExactLinePutWrong)

/-- 'laws.FnExactLineCut': WHATEVER THE INPUT: true; the input reads as it did. -/
def fnExactLineCutSpec : ChangeSpec := { name := "fnExactLineCut", fn := fun _ => fun
  | [d1, d2, d3] => { results := [.lit (.bool true)], args := [d1, d2, d3] }
  | _ => none }
def fnExactLineCutRow : OpenClaim := { program := "ytndhhongkigikaa", sum := "4de247ec04c8cfee7888c7b084660a71dc1a0cc258551a1d45c8b076aa703187", func := "loop.example/g00600/laws.FnExactLineCut", spec := "fnExactLineCut", apart := false }
def FnExactLineCutSaid : Prop := fnExactLineCutRow.holds Try.pinned (OpenSpec.ofChange fnExactLineCutSpec)

/-- ITS FALSE NEIGHBOUR: 'it returns false'. Refute it at one input. -/
def fnExactLineCutWrong : ChangeSpec := { name := "fnExactLineCut", fn := fun _ => fun
  | [d1, d2, d3] => { results := [.lit (.bool false)], args := [d1, d2, d3] }
  | _ => none }
def FnExactLineCutWrongFalsely : Prop := fnExactLineCutRow.holds Try.pinned (OpenSpec.ofChange fnExactLineCutWrong)

/-- 'laws.FnExactHistAdd': WHATEVER THE INPUT: true; the input reads as it did. -/
def fnExactHistAddSpec : ChangeSpec := { name := "fnExactHistAdd", fn := fun _ => fun
  | [d1, d2] => { results := [.lit (.bool true)], args := [d1, d2] }
  | _ => none }
def fnExactHistAddRow : OpenClaim := { program := "ytndhhongkigikaa", sum := "4de247ec04c8cfee7888c7b084660a71dc1a0cc258551a1d45c8b076aa703187", func := "loop.example/g00600/laws.FnExactHistAdd", spec := "fnExactHistAdd", apart := false }
def FnExactHistAddSaid : Prop := fnExactHistAddRow.holds Try.pinned (OpenSpec.ofChange fnExactHistAddSpec)

/-- ITS FALSE NEIGHBOUR: 'it returns false'. Refute it at one input. -/
def fnExactHistAddWrong : ChangeSpec := { name := "fnExactHistAdd", fn := fun _ => fun
  | [d1, d2] => { results := [.lit (.bool false)], args := [d1, d2] }
  | _ => none }
def FnExactHistAddWrongFalsely : Prop := fnExactHistAddRow.holds Try.pinned (OpenSpec.ofChange fnExactHistAddWrong)

/-- 'laws.FnExactRuneBegin': WHATEVER THE INPUT: true; the input reads as it did. -/
def fnExactRuneBeginSpec : ChangeSpec := { name := "fnExactRuneBegin", fn := fun _ => fun
  | [d] => { results := [.lit (.bool true)], args := [d] }
  | _ => none }
def fnExactRuneBeginRow : OpenClaim := { program := "ytndhhongkigikaa", sum := "4de247ec04c8cfee7888c7b084660a71dc1a0cc258551a1d45c8b076aa703187", func := "loop.example/g00600/laws.FnExactRuneBegin", spec := "fnExactRuneBegin", apart := false }
def FnExactRuneBeginSaid : Prop := fnExactRuneBeginRow.holds Try.pinned (OpenSpec.ofChange fnExactRuneBeginSpec)

/-- ITS FALSE NEIGHBOUR: 'it returns false'. Refute it at one input. -/
def fnExactRuneBeginWrong : ChangeSpec := { name := "fnExactRuneBegin", fn := fun _ => fun
  | [d] => { results := [.lit (.bool false)], args := [d] }
  | _ => none }
def FnExactRuneBeginWrongFalsely : Prop := fnExactRuneBeginRow.holds Try.pinned (OpenSpec.ofChange fnExactRuneBeginWrong)

/-- 'laws.FnExactGridRow': WHATEVER THE INPUT: true; the input reads as it did. -/
def fnExactGridRowSpec : ChangeSpec := { name := "fnExactGridRow", fn := fun _ => fun
  | [d1, d2] => { results := [.lit (.bool true)], args := [d1, d2] }
  | _ => none }
def fnExactGridRowRow : OpenClaim := { program := "ytndhhongkigikaa", sum := "4de247ec04c8cfee7888c7b084660a71dc1a0cc258551a1d45c8b076aa703187", func := "loop.example/g00600/laws.FnExactGridRow", spec := "fnExactGridRow", apart := false }
def FnExactGridRowSaid : Prop := fnExactGridRowRow.holds Try.pinned (OpenSpec.ofChange fnExactGridRowSpec)

/-- ITS FALSE NEIGHBOUR: 'it returns false'. Refute it at one input. -/
def fnExactGridRowWrong : ChangeSpec := { name := "fnExactGridRow", fn := fun _ => fun
  | [d1, d2] => { results := [.lit (.bool false)], args := [d1, d2] }
  | _ => none }
def FnExactGridRowWrongFalsely : Prop := fnExactGridRowRow.holds Try.pinned (OpenSpec.ofChange fnExactGridRowWrong)

/-- 'laws.FnExactGridClear': WHATEVER THE INPUT: true; the input reads as it did. -/
def fnExactGridClearSpec : ChangeSpec := { name := "fnExactGridClear", fn := fun _ => fun
  | [d1, d2, d3] => { results := [.lit (.bool true)], args := [d1, d2, d3] }
  | _ => none }
def fnExactGridClearRow : OpenClaim := { program := "ytndhhongkigikaa", sum := "4de247ec04c8cfee7888c7b084660a71dc1a0cc258551a1d45c8b076aa703187", func := "loop.example/g00600/laws.FnExactGridClear", spec := "fnExactGridClear", apart := false }
def FnExactGridClearSaid : Prop := fnExactGridClearRow.holds Try.pinned (OpenSpec.ofChange fnExactGridClearSpec)

/-- ITS FALSE NEIGHBOUR: 'it returns false'. Refute it at one input. -/
def fnExactGridClearWrong : ChangeSpec := { name := "fnExactGridClear", fn := fun _ => fun
  | [d1, d2, d3] => { results := [.lit (.bool false)], args := [d1, d2, d3] }
  | _ => none }
def FnExactGridClearWrongFalsely : Prop := fnExactGridClearRow.holds Try.pinned (OpenSpec.ofChange fnExactGridClearWrong)

/-- 'laws.FnExactLineOf': WHATEVER THE INPUT: true; the input reads as it did. -/
def fnExactLineOfSpec : ChangeSpec := { name := "fnExactLineOf", fn := fun _ => fun
  | [d] => { results := [.lit (.bool true)], args := [d] }
  | _ => none }
def fnExactLineOfRow : OpenClaim := { program := "ytndhhongkigikaa", sum := "4de247ec04c8cfee7888c7b084660a71dc1a0cc258551a1d45c8b076aa703187", func := "loop.example/g00600/laws.FnExactLineOf", spec := "fnExactLineOf", apart := false }
def FnExactLineOfSaid : Prop := fnExactLineOfRow.holds Try.pinned (OpenSpec.ofChange fnExactLineOfSpec)

/-- ITS FALSE NEIGHBOUR: 'it returns false'. Refute it at one input. -/
def fnExactLineOfWrong : ChangeSpec := { name := "fnExactLineOf", fn := fun _ => fun
  | [d] => { results := [.lit (.bool false)], args := [d] }
  | _ => none }
def FnExactLineOfWrongFalsely : Prop := fnExactLineOfRow.holds Try.pinned (OpenSpec.ofChange fnExactLineOfWrong)

/-- 'laws.FnExactRingPut': WHATEVER THE INPUT: true; the input reads as it did. -/
def fnExactRingPutSpec : ChangeSpec := { name := "fnExactRingPut", fn := fun _ => fun
  | [d1, d2, d3] => { results := [.lit (.bool true)], args := [d1, d2, d3] }
  | _ => none }
def fnExactRingPutRow : OpenClaim := { program := "ytndhhongkigikaa", sum := "4de247ec04c8cfee7888c7b084660a71dc1a0cc258551a1d45c8b076aa703187", func := "loop.example/g00600/laws.FnExactRingPut", spec := "fnExactRingPut", apart := false }
def FnExactRingPutSaid : Prop := fnExactRingPutRow.holds Try.pinned (OpenSpec.ofChange fnExactRingPutSpec)

/-- ITS FALSE NEIGHBOUR: 'it returns false'. Refute it at one input. -/
def fnExactRingPutWrong : ChangeSpec := { name := "fnExactRingPut", fn := fun _ => fun
  | [d1, d2, d3] => { results := [.lit (.bool false)], args := [d1, d2, d3] }
  | _ => none }
def FnExactRingPutWrongFalsely : Prop := fnExactRingPutRow.holds Try.pinned (OpenSpec.ofChange fnExactRingPutWrong)

/-- 'laws.FnExactDecOk': WHATEVER THE INPUT: true; the input reads as it did. -/
def fnExactDecOkSpec : ChangeSpec := { name := "fnExactDecOk", fn := fun _ => fun
  | [d] => { results := [.lit (.bool true)], args := [d] }
  | _ => none }
def fnExactDecOkRow : OpenClaim := { program := "ytndhhongkigikaa", sum := "4de247ec04c8cfee7888c7b084660a71dc1a0cc258551a1d45c8b076aa703187", func := "loop.example/g00600/laws.FnExactDecOk", spec := "fnExactDecOk", apart := false }
def FnExactDecOkSaid : Prop := fnExactDecOkRow.holds Try.pinned (OpenSpec.ofChange fnExactDecOkSpec)

/-- ITS FALSE NEIGHBOUR: 'it returns false'. Refute it at one input. -/
def fnExactDecOkWrong : ChangeSpec := { name := "fnExactDecOk", fn := fun _ => fun
  | [d] => { results := [.lit (.bool false)], args := [d] }
  | _ => none }
def FnExactDecOkWrongFalsely : Prop := fnExactDecOkRow.holds Try.pinned (OpenSpec.ofChange fnExactDecOkWrong)

/- THE SECOND FORM. 'bulk': how many values and letters a reading holds, each counted each time it is reached (what is shared counts as often as it is met; a slice's spare places count too). A statement '..UptoSaid' is the law's where the arguments, and the package variables that the reading takes, are together of bulk at most 1048576: NARROWER than '..Said'. Prove '..Said' where nothing that the law and all that it calls make is longer than what came in: it says more and counts as full. Else prove '..UptoSaid'. A law counts once. -/
mutual
def uptoBulk {H : Type} : DataW H → Nat
  | .lit (.string bytes) => bytes.length + 1
  | .lit _ => 1
  | .nil => 1
  | .ptr d => uptoBulk d + 1
  | .slice elems spare => uptoBulkAll elems + uptoBulkAll spare + 1
  | .agg parts => uptoBulkAll parts + 1
  | .iface _ d => uptoBulk d + 1
  | .map entries => uptoBulkEntries entries + 1
  | .held _ => 1
def uptoBulkAll {H : Type} : List (DataW H) → Nat
  | [] => 0
  | d :: r => uptoBulk d + uptoBulkAll r
def uptoBulkEntries {H : Type} : List (Lit × DataW H) → Nat
  | [] => 0
  | x :: r => uptoBulkEntry x + uptoBulkEntries r
def uptoBulkEntry {H : Type} : Lit × DataW H → Nat
  | (.string bytes, d) => bytes.length + uptoBulk d + 1
  | (_, d) => uptoBulk d + 1
 end
def uptoSmall : (H : Type) → List (DataW H) → Bool := fun _ ds => decide (uptoBulkAll ds ≤ 1048576)
def OpenSpec.upto (s : _root_.Go.ChangeSpec) : _root_.Go.OpenSpec := { _root_.Go.OpenSpec.ofChange s with cond := some uptoSmall }

/-- 'laws.FnExactLineSwap', WHERE WHAT IT READS IS OF BULK AT MOST 1048576: true; the input reads as it did. -/
def fnExactLineSwapUptoRow : OpenClaim := { program := "ytndhhongkigikaa", sum := "4de247ec04c8cfee7888c7b084660a71dc1a0cc258551a1d45c8b076aa703187", func := "loop.example/g00600/laws.FnExactLineSwap", spec := "fnExactLineSwap", apart := false, narrowed := true }
def FnExactLineSwapUptoSaid : Prop := fnExactLineSwapUptoRow.holds Try.pinned (OpenSpec.upto fnExactLineSwapSpec)

/-- 'laws.FnExactUndoPut', WHERE WHAT IT READS IS OF BULK AT MOST 1048576: true; the input reads as it did. -/
def fnExactUndoPutUptoRow : OpenClaim := { program := "ytndhhongkigikaa", sum := "4de247ec04c8cfee7888c7b084660a71dc1a0cc258551a1d45c8b076aa703187", func := "loop.example/g00600/laws.FnExactUndoPut", spec := "fnExactUndoPut", apart := false, narrowed := true }
def FnExactUndoPutUptoSaid : Prop := fnExactUndoPutUptoRow.holds Try.pinned (OpenSpec.upto fnExactUndoPutSpec)

/-- 'laws.FnExactLineCase', WHERE WHAT IT READS IS OF BULK AT MOST 1048576: true; the input reads as it did. -/
def fnExactLineCaseUptoRow : OpenClaim := { program := "ytndhhongkigikaa", sum := "4de247ec04c8cfee7888c7b084660a71dc1a0cc258551a1d45c8b076aa703187", func := "loop.example/g00600/laws.FnExactLineCase", spec := "fnExactLineCase", apart := false, narrowed := true }
def FnExactLineCaseUptoSaid : Prop := fnExactLineCaseUptoRow.holds Try.pinned (OpenSpec.upto fnExactLineCaseSpec)

/-- 'laws.FnExactLinePut', WHERE WHAT IT READS IS OF BULK AT MOST 1048576: true; the input reads as it did. -/
def fnExactLinePutUptoRow : OpenClaim := { program := "ytndhhongkigikaa", sum := "4de247ec04c8cfee7888c7b084660a71dc1a0cc258551a1d45c8b076aa703187", func := "loop.example/g00600/laws.FnExactLinePut", spec := "fnExactLinePut", apart := false, narrowed := true }
def FnExactLinePutUptoSaid : Prop := fnExactLinePutUptoRow.holds Try.pinned (OpenSpec.upto fnExactLinePutSpec)

/-- 'laws.FnExactLineCut', WHERE WHAT IT READS IS OF BULK AT MOST 1048576: true; the input reads as it did. -/
def fnExactLineCutUptoRow : OpenClaim := { program := "ytndhhongkigikaa", sum := "4de247ec04c8cfee7888c7b084660a71dc1a0cc258551a1d45c8b076aa703187", func := "loop.example/g00600/laws.FnExactLineCut", spec := "fnExactLineCut", apart := false, narrowed := true }
def FnExactLineCutUptoSaid : Prop := fnExactLineCutUptoRow.holds Try.pinned (OpenSpec.upto fnExactLineCutSpec)

/-- 'laws.FnExactHistAdd', WHERE WHAT IT READS IS OF BULK AT MOST 1048576: true; the input reads as it did. -/
def fnExactHistAddUptoRow : OpenClaim := { program := "ytndhhongkigikaa", sum := "4de247ec04c8cfee7888c7b084660a71dc1a0cc258551a1d45c8b076aa703187", func := "loop.example/g00600/laws.FnExactHistAdd", spec := "fnExactHistAdd", apart := false, narrowed := true }
def FnExactHistAddUptoSaid : Prop := fnExactHistAddUptoRow.holds Try.pinned (OpenSpec.upto fnExactHistAddSpec)

/-- 'laws.FnExactRuneBegin', WHERE WHAT IT READS IS OF BULK AT MOST 1048576: true; the input reads as it did. -/
def fnExactRuneBeginUptoRow : OpenClaim := { program := "ytndhhongkigikaa", sum := "4de247ec04c8cfee7888c7b084660a71dc1a0cc258551a1d45c8b076aa703187", func := "loop.example/g00600/laws.FnExactRuneBegin", spec := "fnExactRuneBegin", apart := false, narrowed := true }
def FnExactRuneBeginUptoSaid : Prop := fnExactRuneBeginUptoRow.holds Try.pinned (OpenSpec.upto fnExactRuneBeginSpec)

/-- 'laws.FnExactGridRow', WHERE WHAT IT READS IS OF BULK AT MOST 1048576: true; the input reads as it did. -/
def fnExactGridRowUptoRow : OpenClaim := { program := "ytndhhongkigikaa", sum := "4de247ec04c8cfee7888c7b084660a71dc1a0cc258551a1d45c8b076aa703187", func := "loop.example/g00600/laws.FnExactGridRow", spec := "fnExactGridRow", apart := false, narrowed := true }
def FnExactGridRowUptoSaid : Prop := fnExactGridRowUptoRow.holds Try.pinned (OpenSpec.upto fnExactGridRowSpec)

/-- 'laws.FnExactGridClear', WHERE WHAT IT READS IS OF BULK AT MOST 1048576: true; the input reads as it did. -/
def fnExactGridClearUptoRow : OpenClaim := { program := "ytndhhongkigikaa", sum := "4de247ec04c8cfee7888c7b084660a71dc1a0cc258551a1d45c8b076aa703187", func := "loop.example/g00600/laws.FnExactGridClear", spec := "fnExactGridClear", apart := false, narrowed := true }
def FnExactGridClearUptoSaid : Prop := fnExactGridClearUptoRow.holds Try.pinned (OpenSpec.upto fnExactGridClearSpec)

/-- 'laws.FnExactLineOf', WHERE WHAT IT READS IS OF BULK AT MOST 1048576: true; the input reads as it did. -/
def fnExactLineOfUptoRow : OpenClaim := { program := "ytndhhongkigikaa", sum := "4de247ec04c8cfee7888c7b084660a71dc1a0cc258551a1d45c8b076aa703187", func := "loop.example/g00600/laws.FnExactLineOf", spec := "fnExactLineOf", apart := false, narrowed := true }
def FnExactLineOfUptoSaid : Prop := fnExactLineOfUptoRow.holds Try.pinned (OpenSpec.upto fnExactLineOfSpec)

/-- 'laws.FnExactRingPut', WHERE WHAT IT READS IS OF BULK AT MOST 1048576: true; the input reads as it did. -/
def fnExactRingPutUptoRow : OpenClaim := { program := "ytndhhongkigikaa", sum := "4de247ec04c8cfee7888c7b084660a71dc1a0cc258551a1d45c8b076aa703187", func := "loop.example/g00600/laws.FnExactRingPut", spec := "fnExactRingPut", apart := false, narrowed := true }
def FnExactRingPutUptoSaid : Prop := fnExactRingPutUptoRow.holds Try.pinned (OpenSpec.upto fnExactRingPutSpec)

/-- 'laws.FnExactDecOk', WHERE WHAT IT READS IS OF BULK AT MOST 1048576: true; the input reads as it did. -/
def fnExactDecOkUptoRow : OpenClaim := { program := "ytndhhongkigikaa", sum := "4de247ec04c8cfee7888c7b084660a71dc1a0cc258551a1d45c8b076aa703187", func := "loop.example/g00600/laws.FnExactDecOk", spec := "fnExactDecOk", apart := false, narrowed := true }
def FnExactDecOkUptoSaid : Prop := fnExactDecOkUptoRow.holds Try.pinned (OpenSpec.upto fnExactDecOkSpec)

end Rows
end Go.Proofs.Ytndhhongkigikaa
