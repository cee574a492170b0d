/-
  No cell of these rows narrows 'for every input' (looked for: loops, veiled, ifaces, maps, wideKeys, modest, calm, conditions, laid).
  DERIVED. THE GIVEN ROWS OF THIS SEAT. 12 by the template 'for every input the law returns true; each argument reads behind the call as it read before'; 0 by the template 'total and deterministic' (their statements: YtmcfkmlbifhhjaaTotals.lean).
  GIVEN WITH THE SEED: the statements are not yours to turn. If you find one false, say at which input.
  Laid BY PROGRAM, IN A SANDBOX (cutbox-rows.mjs): the forced cells as the released guide's own fill.sh prints them over the translation 65f1ce9618c1d350… (all of the seat's roots in one cut). By AI agents, Wed Nov 11 2026. No macro, syntax, notation, axiom, sorry.
-/
import Derived.Test.YtmcfkmlbifhhjaaChecked
import GoSem.Claim
import GoSem.ClaimJoined
import GoSem.ClaimMapViews
import Derived.JoinedTies
import Derived.KernelRfl
namespace Go.Proofs.Ytmcfkmlbifhhjaa
/- THE CELL 'sum', in the pinned program and in every row, IS THE sha256 OF THE DUMP (.gsa) THAT YtmcfkmlbifhhjaaProg.lean LOADS. Nothing in Lean hashes anything: it is a label: what it is worth is what the hold of that sum in a sandbox is worth. -/
noncomputable def Try.pinned : Pinned := { name := "ytmcfkmlbifhhjaa", sum := "65f1ce9618c1d350c9bb0da2d63e098d4483ef80adb1a8f82e4c71d5ce0b742f", checked := Try.checked }
namespace Rows
def none {H : Type} : Left H := { results := [], args := [] }

/-- 'laws.FnExactRingTurn': WHATEVER THE INPUT: true; the input reads as it did. -/
def fnExactRingTurnSpec : ChangeSpec := { name := "fnExactRingTurn", fn := fun _ => fun
  | [d] => { results := [.lit (.bool true)], args := [d] }
  | _ => none }
def fnExactRingTurnRow : OpenClaim := { program := "ytmcfkmlbifhhjaa", sum := "65f1ce9618c1d350c9bb0da2d63e098d4483ef80adb1a8f82e4c71d5ce0b742f", func := "loop.example/g00600/laws.FnExactRingTurn", spec := "fnExactRingTurn", apart := false }
def FnExactRingTurnSaid : Prop := fnExactRingTurnRow.holds Try.pinned (OpenSpec.ofChange fnExactRingTurnSpec)

/-- ITS FALSE NEIGHBOUR: 'it returns false'. Refute it at one input. -/
def fnExactRingTurnWrong : ChangeSpec := { name := "fnExactRingTurn", fn := fun _ => fun
  | [d] => { results := [.lit (.bool false)], args := [d] }
  | _ => none }
def FnExactRingTurnWrongFalsely : Prop := fnExactRingTurnRow.holds Try.pinned (OpenSpec.ofChange fnExactRingTurnWrong)

/-- 'laws.FnExactRingPut': WHATEVER THE INPUT: true; the input reads as it did. -/
def fnExactRingPutSpec : ChangeSpec := { name := "fnExactRingPut", fn := fun _ => fun
  | [d1, d2, d3] => { results := [.lit (.bool true)], args := [d1, d2, d3] }
  | _ => none }
def fnExactRingPutRow : OpenClaim := { program := "ytmcfkmlbifhhjaa", sum := "65f1ce9618c1d350c9bb0da2d63e098d4483ef80adb1a8f82e4c71d5ce0b742f", func := "loop.example/g00600/laws.FnExactRingPut", spec := "fnExactRingPut", apart := false }
def FnExactRingPutSaid : Prop := fnExactRingPutRow.holds Try.pinned (OpenSpec.ofChange fnExactRingPutSpec)

/-- ITS FALSE NEIGHBOUR: 'it returns false'. Refute it at one input. -/
def fnExactRingPutWrong : ChangeSpec := { name := "fnExactRingPut", fn := fun _ => fun
  | [d1, d2, d3] => { results := [.lit (.bool false)], args := [d1, d2, d3] }
  | _ => none }
def FnExactRingPutWrongFalsely : Prop := fnExactRingPutRow.holds Try.pinned (OpenSpec.ofChange fnExactRingPutWrong)

/-- 'laws.FnRing': WHATEVER THE INPUT: true; the input reads as it did. -/
def fnRingSpec : ChangeSpec := { name := "fnRing", fn := fun _ => fun
  | [d] => { results := [.lit (.bool true)], args := [d] }
  | _ => none }
def fnRingRow : OpenClaim := { program := "ytmcfkmlbifhhjaa", sum := "65f1ce9618c1d350c9bb0da2d63e098d4483ef80adb1a8f82e4c71d5ce0b742f", func := "loop.example/g00600/laws.FnRing", spec := "fnRing", apart := false }
def FnRingSaid : Prop := fnRingRow.holds Try.pinned (OpenSpec.ofChange fnRingSpec)

/-- ITS FALSE NEIGHBOUR: 'it returns false'. Refute it at one input. -/
def fnRingWrong : ChangeSpec := { name := "fnRing", fn := fun _ => fun
  | [d] => { results := [.lit (.bool false)], args := [d] }
  | _ => none }
def FnRingWrongFalsely : Prop := fnRingRow.holds Try.pinned (OpenSpec.ofChange fnRingWrong)

/-- 'laws.FnExactUndoTake': WHATEVER THE INPUT: true; the input reads as it did. -/
def fnExactUndoTakeSpec : ChangeSpec := { name := "fnExactUndoTake", fn := fun _ => fun
  | [d] => { results := [.lit (.bool true)], args := [d] }
  | _ => none }
def fnExactUndoTakeRow : OpenClaim := { program := "ytmcfkmlbifhhjaa", sum := "65f1ce9618c1d350c9bb0da2d63e098d4483ef80adb1a8f82e4c71d5ce0b742f", func := "loop.example/g00600/laws.FnExactUndoTake", spec := "fnExactUndoTake", apart := false }
def FnExactUndoTakeSaid : Prop := fnExactUndoTakeRow.holds Try.pinned (OpenSpec.ofChange fnExactUndoTakeSpec)

/-- ITS FALSE NEIGHBOUR: 'it returns false'. Refute it at one input. -/
def fnExactUndoTakeWrong : ChangeSpec := { name := "fnExactUndoTake", fn := fun _ => fun
  | [d] => { results := [.lit (.bool false)], args := [d] }
  | _ => none }
def FnExactUndoTakeWrongFalsely : Prop := fnExactUndoTakeRow.holds Try.pinned (OpenSpec.ofChange fnExactUndoTakeWrong)

/-- 'laws.FnExactUndoPut': WHATEVER THE INPUT: true; the input reads as it did. -/
def fnExactUndoPutSpec : ChangeSpec := { name := "fnExactUndoPut", fn := fun _ => fun
  | [d1, d2] => { results := [.lit (.bool true)], args := [d1, d2] }
  | _ => none }
def fnExactUndoPutRow : OpenClaim := { program := "ytmcfkmlbifhhjaa", sum := "65f1ce9618c1d350c9bb0da2d63e098d4483ef80adb1a8f82e4c71d5ce0b742f", func := "loop.example/g00600/laws.FnExactUndoPut", spec := "fnExactUndoPut", apart := false }
def FnExactUndoPutSaid : Prop := fnExactUndoPutRow.holds Try.pinned (OpenSpec.ofChange fnExactUndoPutSpec)

/-- ITS FALSE NEIGHBOUR: 'it returns false'. Refute it at one input. -/
def fnExactUndoPutWrong : ChangeSpec := { name := "fnExactUndoPut", fn := fun _ => fun
  | [d1, d2] => { results := [.lit (.bool false)], args := [d1, d2] }
  | _ => none }
def FnExactUndoPutWrongFalsely : Prop := fnExactUndoPutRow.holds Try.pinned (OpenSpec.ofChange fnExactUndoPutWrong)

/-- 'laws.FnUndo': WHATEVER THE INPUT: true; the input reads as it did. -/
def fnUndoSpec : ChangeSpec := { name := "fnUndo", fn := fun _ => fun
  | [d] => { results := [.lit (.bool true)], args := [d] }
  | _ => none }
def fnUndoRow : OpenClaim := { program := "ytmcfkmlbifhhjaa", sum := "65f1ce9618c1d350c9bb0da2d63e098d4483ef80adb1a8f82e4c71d5ce0b742f", func := "loop.example/g00600/laws.FnUndo", spec := "fnUndo", apart := false }
def FnUndoSaid : Prop := fnUndoRow.holds Try.pinned (OpenSpec.ofChange fnUndoSpec)

/-- ITS FALSE NEIGHBOUR: 'it returns false'. Refute it at one input. -/
def fnUndoWrong : ChangeSpec := { name := "fnUndo", fn := fun _ => fun
  | [d] => { results := [.lit (.bool false)], args := [d] }
  | _ => none }
def FnUndoWrongFalsely : Prop := fnUndoRow.holds Try.pinned (OpenSpec.ofChange fnUndoWrong)

/-- 'laws.FnHist': WHATEVER THE INPUT: true; the input reads as it did. -/
def fnHistSpec : ChangeSpec := { name := "fnHist", fn := fun _ => fun
  | [d] => { results := [.lit (.bool true)], args := [d] }
  | _ => none }
def fnHistRow : OpenClaim := { program := "ytmcfkmlbifhhjaa", sum := "65f1ce9618c1d350c9bb0da2d63e098d4483ef80adb1a8f82e4c71d5ce0b742f", func := "loop.example/g00600/laws.FnHist", spec := "fnHist", inPlace := ["internal/bytealg.IndexByteString", "internal/bytealg.IndexString"], named := ["internal/bytealg.MaxLen"], apart := false }
def FnHistSaid : Prop := fnHistRow.holds Try.pinned (OpenSpec.ofChange fnHistSpec)

/-- ITS FALSE NEIGHBOUR: 'it returns false'. Refute it at one input. -/
def fnHistWrong : ChangeSpec := { name := "fnHist", fn := fun _ => fun
  | [d] => { results := [.lit (.bool false)], args := [d] }
  | _ => none }
def FnHistWrongFalsely : Prop := fnHistRow.holds Try.pinned (OpenSpec.ofChange fnHistWrong)

/-- 'laws.FnExactGridOk': WHATEVER THE INPUT: true; the input reads as it did. -/
def fnExactGridOkSpec : ChangeSpec := { name := "fnExactGridOk", fn := fun _ => fun
  | [d] => { results := [.lit (.bool true)], args := [d] }
  | _ => none }
def fnExactGridOkRow : OpenClaim := { program := "ytmcfkmlbifhhjaa", sum := "65f1ce9618c1d350c9bb0da2d63e098d4483ef80adb1a8f82e4c71d5ce0b742f", func := "loop.example/g00600/laws.FnExactGridOk", spec := "fnExactGridOk", apart := false }
def FnExactGridOkSaid : Prop := fnExactGridOkRow.holds Try.pinned (OpenSpec.ofChange fnExactGridOkSpec)

/-- ITS FALSE NEIGHBOUR: 'it returns false'. Refute it at one input. -/
def fnExactGridOkWrong : ChangeSpec := { name := "fnExactGridOk", fn := fun _ => fun
  | [d] => { results := [.lit (.bool false)], args := [d] }
  | _ => none }
def FnExactGridOkWrongFalsely : Prop := fnExactGridOkRow.holds Try.pinned (OpenSpec.ofChange fnExactGridOkWrong)

/-- 'laws.FnExactGridAt': WHATEVER THE INPUT: true; the input reads as it did. -/
def fnExactGridAtSpec : ChangeSpec := { name := "fnExactGridAt", fn := fun _ => fun
  | [d1, d2, d3] => { results := [.lit (.bool true)], args := [d1, d2, d3] }
  | _ => none }
def fnExactGridAtRow : OpenClaim := { program := "ytmcfkmlbifhhjaa", sum := "65f1ce9618c1d350c9bb0da2d63e098d4483ef80adb1a8f82e4c71d5ce0b742f", func := "loop.example/g00600/laws.FnExactGridAt", spec := "fnExactGridAt", apart := false }
def FnExactGridAtSaid : Prop := fnExactGridAtRow.holds Try.pinned (OpenSpec.ofChange fnExactGridAtSpec)

/-- ITS FALSE NEIGHBOUR: 'it returns false'. Refute it at one input. -/
def fnExactGridAtWrong : ChangeSpec := { name := "fnExactGridAt", fn := fun _ => fun
  | [d1, d2, d3] => { results := [.lit (.bool false)], args := [d1, d2, d3] }
  | _ => none }
def FnExactGridAtWrongFalsely : Prop := fnExactGridAtRow.holds Try.pinned (OpenSpec.ofChange fnExactGridAtWrong)

/-- 'laws.FnExactGridRow': WHATEVER THE INPUT: true; the input reads as it did. -/
def fnExactGridRowSpec : ChangeSpec := { name := "fnExactGridRow", fn := fun _ => fun
  | [d1, d2] => { results := [.lit (.bool true)], args := [d1, d2] }
  | _ => none }
def fnExactGridRowRow : OpenClaim := { program := "ytmcfkmlbifhhjaa", sum := "65f1ce9618c1d350c9bb0da2d63e098d4483ef80adb1a8f82e4c71d5ce0b742f", func := "loop.example/g00600/laws.FnExactGridRow", spec := "fnExactGridRow", apart := false }
def FnExactGridRowSaid : Prop := fnExactGridRowRow.holds Try.pinned (OpenSpec.ofChange fnExactGridRowSpec)

/-- ITS FALSE NEIGHBOUR: 'it returns false'. Refute it at one input. -/
def fnExactGridRowWrong : ChangeSpec := { name := "fnExactGridRow", fn := fun _ => fun
  | [d1, d2] => { results := [.lit (.bool false)], args := [d1, d2] }
  | _ => none }
def FnExactGridRowWrongFalsely : Prop := fnExactGridRowRow.holds Try.pinned (OpenSpec.ofChange fnExactGridRowWrong)

/-- 'laws.FnExactVtNew': WHATEVER THE INPUT: true; the input reads as it did. -/
def fnExactVtNewSpec : ChangeSpec := { name := "fnExactVtNew", fn := fun _ => fun
  | [d1, d2] => { results := [.lit (.bool true)], args := [d1, d2] }
  | _ => none }
def fnExactVtNewRow : OpenClaim := { program := "ytmcfkmlbifhhjaa", sum := "65f1ce9618c1d350c9bb0da2d63e098d4483ef80adb1a8f82e4c71d5ce0b742f", func := "loop.example/g00600/laws.FnExactVtNew", spec := "fnExactVtNew", apart := false }
def FnExactVtNewSaid : Prop := fnExactVtNewRow.holds Try.pinned (OpenSpec.ofChange fnExactVtNewSpec)

/-- ITS FALSE NEIGHBOUR: 'it returns false'. Refute it at one input. -/
def fnExactVtNewWrong : ChangeSpec := { name := "fnExactVtNew", fn := fun _ => fun
  | [d1, d2] => { results := [.lit (.bool false)], args := [d1, d2] }
  | _ => none }
def FnExactVtNewWrongFalsely : Prop := fnExactVtNewRow.holds Try.pinned (OpenSpec.ofChange fnExactVtNewWrong)

/-- 'laws.FnExactGridScroll': WHATEVER THE INPUT: true; the input reads as it did. -/
def fnExactGridScrollSpec : ChangeSpec := { name := "fnExactGridScroll", fn := fun _ => fun
  | [d] => { results := [.lit (.bool true)], args := [d] }
  | _ => none }
def fnExactGridScrollRow : OpenClaim := { program := "ytmcfkmlbifhhjaa", sum := "65f1ce9618c1d350c9bb0da2d63e098d4483ef80adb1a8f82e4c71d5ce0b742f", func := "loop.example/g00600/laws.FnExactGridScroll", spec := "fnExactGridScroll", apart := false }
def FnExactGridScrollSaid : Prop := fnExactGridScrollRow.holds Try.pinned (OpenSpec.ofChange fnExactGridScrollSpec)

/-- ITS FALSE NEIGHBOUR: 'it returns false'. Refute it at one input. -/
def fnExactGridScrollWrong : ChangeSpec := { name := "fnExactGridScroll", fn := fun _ => fun
  | [d] => { results := [.lit (.bool false)], args := [d] }
  | _ => none }
def FnExactGridScrollWrongFalsely : Prop := fnExactGridScrollRow.holds Try.pinned (OpenSpec.ofChange fnExactGridScrollWrong)

/- THE SECOND FORM. 'bulk': how many values and letters a reading holds, each counted each time it is reached (what is shared counts as often as it is met; a slice's spare places count too). A statement '..UptoSaid' is the law's where the arguments, and the package variables that the reading takes, are together of bulk at most 1048576: NARROWER than '..Said'. Prove '..Said' where nothing that the law and all that it calls make is longer than what came in: it says more and counts as full. Else prove '..UptoSaid'. A law counts once. -/
mutual
def uptoBulk {H : Type} : DataW H → Nat
  | .lit (.string bytes) => bytes.length + 1
  | .lit _ => 1
  | .nil => 1
  | .ptr d => uptoBulk d + 1
  | .slice elems spare => uptoBulkAll elems + uptoBulkAll spare + 1
  | .agg parts => uptoBulkAll parts + 1
  | .iface _ d => uptoBulk d + 1
  | .map entries => uptoBulkEntries entries + 1
  | .held _ => 1
def uptoBulkAll {H : Type} : List (DataW H) → Nat
  | [] => 0
  | d :: r => uptoBulk d + uptoBulkAll r
def uptoBulkEntries {H : Type} : List (Lit × DataW H) → Nat
  | [] => 0
  | x :: r => uptoBulkEntry x + uptoBulkEntries r
def uptoBulkEntry {H : Type} : Lit × DataW H → Nat
  | (.string bytes, d) => bytes.length + uptoBulk d + 1
  | (_, d) => uptoBulk d + 1
 end
def uptoSmall : (H : Type) → List (DataW H) → Bool := fun _ ds => decide (uptoBulkAll ds ≤ 1048576)
def OpenSpec.upto (s : _root_.Go.ChangeSpec) : _root_.Go.OpenSpec := { _root_.Go.OpenSpec.ofChange s with cond := some uptoSmall }

/-- 'laws.FnExactRingTurn', WHERE WHAT IT READS IS OF BULK AT MOST 1048576: true; the input reads as it did. -/
def fnExactRingTurnUptoRow : OpenClaim := { program := "ytmcfkmlbifhhjaa", sum := "65f1ce9618c1d350c9bb0da2d63e098d4483ef80adb1a8f82e4c71d5ce0b742f", func := "loop.example/g00600/laws.FnExactRingTurn", spec := "fnExactRingTurn", apart := false, narrowed := true }
def FnExactRingTurnUptoSaid : Prop := fnExactRingTurnUptoRow.holds Try.pinned (OpenSpec.upto fnExactRingTurnSpec)

/-- 'laws.FnExactRingPut', WHERE WHAT IT READS IS OF BULK AT MOST 1048576: true; the input reads as it did. -/
def fnExactRingPutUptoRow : OpenClaim := { program := "ytmcfkmlbifhhjaa", sum := "65f1ce9618c1d350c9bb0da2d63e098d4483ef80adb1a8f82e4c71d5ce0b742f", func := "loop.example/g00600/laws.FnExactRingPut", spec := "fnExactRingPut", apart := false, narrowed := true }
def FnExactRingPutUptoSaid : Prop := fnExactRingPutUptoRow.holds Try.pinned (OpenSpec.upto fnExactRingPutSpec)

/-- 'laws.FnRing', WHERE WHAT IT READS IS OF BULK AT MOST 1048576: true; the input reads as it did. -/
def fnRingUptoRow : OpenClaim := { program := "ytmcfkmlbifhhjaa", sum := "65f1ce9618c1d350c9bb0da2d63e098d4483ef80adb1a8f82e4c71d5ce0b742f", func := "loop.example/g00600/laws.FnRing", spec := "fnRing", apart := false, narrowed := true }
def FnRingUptoSaid : Prop := fnRingUptoRow.holds Try.pinned (OpenSpec.upto fnRingSpec)

/-- 'laws.FnExactUndoTake', WHERE WHAT IT READS IS OF BULK AT MOST 1048576: true; the input reads as it did. -/
def fnExactUndoTakeUptoRow : OpenClaim := { program := "ytmcfkmlbifhhjaa", sum := "65f1ce9618c1d350c9bb0da2d63e098d4483ef80adb1a8f82e4c71d5ce0b742f", func := "loop.example/g00600/laws.FnExactUndoTake", spec := "fnExactUndoTake", apart := false, narrowed := true }
def FnExactUndoTakeUptoSaid : Prop := fnExactUndoTakeUptoRow.holds Try.pinned (OpenSpec.upto fnExactUndoTakeSpec)

/-- 'laws.FnExactUndoPut', WHERE WHAT IT READS IS OF BULK AT MOST 1048576: true; the input reads as it did. -/
def fnExactUndoPutUptoRow : OpenClaim := { program := "ytmcfkmlbifhhjaa", sum := "65f1ce9618c1d350c9bb0da2d63e098d4483ef80adb1a8f82e4c71d5ce0b742f", func := "loop.example/g00600/laws.FnExactUndoPut", spec := "fnExactUndoPut", apart := false, narrowed := true }
def FnExactUndoPutUptoSaid : Prop := fnExactUndoPutUptoRow.holds Try.pinned (OpenSpec.upto fnExactUndoPutSpec)

/-- 'laws.FnUndo', WHERE WHAT IT READS IS OF BULK AT MOST 1048576: true; the input reads as it did. -/
def fnUndoUptoRow : OpenClaim := { program := "ytmcfkmlbifhhjaa", sum := "65f1ce9618c1d350c9bb0da2d63e098d4483ef80adb1a8f82e4c71d5ce0b742f", func := "loop.example/g00600/laws.FnUndo", spec := "fnUndo", apart := false, narrowed := true }
def FnUndoUptoSaid : Prop := fnUndoUptoRow.holds Try.pinned (OpenSpec.upto fnUndoSpec)

/-- 'laws.FnHist', WHERE WHAT IT READS IS OF BULK AT MOST 1048576: true; the input reads as it did. -/
def fnHistUptoRow : OpenClaim := { program := "ytmcfkmlbifhhjaa", sum := "65f1ce9618c1d350c9bb0da2d63e098d4483ef80adb1a8f82e4c71d5ce0b742f", func := "loop.example/g00600/laws.FnHist", spec := "fnHist", inPlace := ["internal/bytealg.IndexByteString", "internal/bytealg.IndexString"], named := ["internal/bytealg.MaxLen"], apart := false, narrowed := true }
def FnHistUptoSaid : Prop := fnHistUptoRow.holds Try.pinned (OpenSpec.upto fnHistSpec)

/-- 'laws.FnExactGridOk', WHERE WHAT IT READS IS OF BULK AT MOST 1048576: true; the input reads as it did. -/
def fnExactGridOkUptoRow : OpenClaim := { program := "ytmcfkmlbifhhjaa", sum := "65f1ce9618c1d350c9bb0da2d63e098d4483ef80adb1a8f82e4c71d5ce0b742f", func := "loop.example/g00600/laws.FnExactGridOk", spec := "fnExactGridOk", apart := false, narrowed := true }
def FnExactGridOkUptoSaid : Prop := fnExactGridOkUptoRow.holds Try.pinned (OpenSpec.upto fnExactGridOkSpec)

/-- 'laws.FnExactGridAt', WHERE WHAT IT READS IS OF BULK AT MOST 1048576: true; the input reads as it did. -/
def fnExactGridAtUptoRow : OpenClaim := { program := "ytmcfkmlbifhhjaa", sum := "65f1ce9618c1d350c9bb0da2d63e098d4483ef80adb1a8f82e4c71d5ce0b742f", func := "loop.example/g00600/laws.FnExactGridAt", spec := "fnExactGridAt", apart := false, narrowed := true }
def FnExactGridAtUptoSaid : Prop := fnExactGridAtUptoRow.holds Try.pinned (OpenSpec.upto fnExactGridAtSpec)

/-- 'laws.FnExactGridRow', WHERE WHAT IT READS IS OF BULK AT MOST 1048576: true; the input reads as it did. -/
def fnExactGridRowUptoRow : OpenClaim := { program := "ytmcfkmlbifhhjaa", sum := "65f1ce9618c1d350c9bb0da2d63e098d4483ef80adb1a8f82e4c71d5ce0b742f", func := "loop.example/g00600/laws.FnExactGridRow", spec := "fnExactGridRow", apart := false, narrowed := true }
def FnExactGridRowUptoSaid : Prop := fnExactGridRowUptoRow.holds Try.pinned (OpenSpec.upto fnExactGridRowSpec)

/-- 'laws.FnExactVtNew', WHERE WHAT IT READS IS OF BULK AT MOST 1048576: true; the input reads as it did. -/
def fnExactVtNewUptoRow : OpenClaim := { program := "ytmcfkmlbifhhjaa", sum := "65f1ce9618c1d350c9bb0da2d63e098d4483ef80adb1a8f82e4c71d5ce0b742f", func := "loop.example/g00600/laws.FnExactVtNew", spec := "fnExactVtNew", apart := false, narrowed := true }
def FnExactVtNewUptoSaid : Prop := fnExactVtNewUptoRow.holds Try.pinned (OpenSpec.upto fnExactVtNewSpec)

/-- 'laws.FnExactGridScroll', WHERE WHAT IT READS IS OF BULK AT MOST 1048576: true; the input reads as it did. -/
def fnExactGridScrollUptoRow : OpenClaim := { program := "ytmcfkmlbifhhjaa", sum := "65f1ce9618c1d350c9bb0da2d63e098d4483ef80adb1a8f82e4c71d5ce0b742f", func := "loop.example/g00600/laws.FnExactGridScroll", spec := "fnExactGridScroll", apart := false, narrowed := true }
def FnExactGridScrollUptoSaid : Prop := fnExactGridScrollUptoRow.holds Try.pinned (OpenSpec.upto fnExactGridScrollSpec)

end Rows
end Go.Proofs.Ytmcfkmlbifhhjaa
