/-
  No cell of these rows narrows 'for every input' (looked for: loops, veiled, ifaces, maps, wideKeys, modest, calm, conditions, laid).
  DERIVED. THE GIVEN ROWS OF THIS SEAT. 10 by the template 'for every input the law returns true; each argument reads behind the call as it read before'; 0 by the template 'total and deterministic' (their statements: YthkfmeoealfokaaTotals.lean).
  GIVEN WITH THE SEED: the statements are not yours to turn. If you find one false, say at which input.
  Laid BY PROGRAM, IN A SANDBOX (cutbox-rows.mjs): the forced cells as the released guide's own fill.sh prints them over the translation 6e2c56fb5d775088… (all of the seat's roots in one cut). By AI agents, Wed Nov 11 2026. No macro, syntax, notation, axiom, sorry.
-/
import Derived.Test.YthkfmeoealfokaaChecked
import GoSem.Claim
import GoSem.ClaimJoined
import GoSem.ClaimMapViews
import Derived.JoinedTies
import Derived.KernelRfl
namespace Go.Proofs.Ythkfmeoealfokaa
/- THE CELL 'sum', in the pinned program and in every row, IS THE sha256 OF THE DUMP (.gsa) THAT YthkfmeoealfokaaProg.lean LOADS. Nothing in Lean hashes anything: it is a label: what it is worth is what the hold of that sum in a sandbox is worth. -/
noncomputable def Try.pinned : Pinned := { name := "ythkfmeoealfokaa", sum := "6e2c56fb5d7750884e703184e0a859ca8eda5c19bdf237e8d822220d3deef77a", checked := Try.checked }
namespace Rows
def none {H : Type} : Left H := { results := [], args := [] }

/-- 'laws.FnExactRingOk': WHATEVER THE INPUT: true; the input reads as it did. -/
def fnExactRingOkSpec : ChangeSpec := { name := "fnExactRingOk", fn := fun _ => fun
  | [d] => { results := [.lit (.bool true)], args := [d] }
  | _ => none }
def fnExactRingOkRow : OpenClaim := { program := "ythkfmeoealfokaa", sum := "6e2c56fb5d7750884e703184e0a859ca8eda5c19bdf237e8d822220d3deef77a", func := "loop.example/g00600/laws.FnExactRingOk", spec := "fnExactRingOk", apart := false }
def FnExactRingOkSaid : Prop := fnExactRingOkRow.holds Try.pinned (OpenSpec.ofChange fnExactRingOkSpec)

/-- ITS FALSE NEIGHBOUR: 'it returns false'. Refute it at one input. -/
def fnExactRingOkWrong : ChangeSpec := { name := "fnExactRingOk", fn := fun _ => fun
  | [d] => { results := [.lit (.bool false)], args := [d] }
  | _ => none }
def FnExactRingOkWrongFalsely : Prop := fnExactRingOkRow.holds Try.pinned (OpenSpec.ofChange fnExactRingOkWrong)

/-- 'laws.FnExactUndoOk': WHATEVER THE INPUT: true; the input reads as it did. -/
def fnExactUndoOkSpec : ChangeSpec := { name := "fnExactUndoOk", fn := fun _ => fun
  | [d] => { results := [.lit (.bool true)], args := [d] }
  | _ => none }
def fnExactUndoOkRow : OpenClaim := { program := "ythkfmeoealfokaa", sum := "6e2c56fb5d7750884e703184e0a859ca8eda5c19bdf237e8d822220d3deef77a", func := "loop.example/g00600/laws.FnExactUndoOk", spec := "fnExactUndoOk", apart := false }
def FnExactUndoOkSaid : Prop := fnExactUndoOkRow.holds Try.pinned (OpenSpec.ofChange fnExactUndoOkSpec)

/-- ITS FALSE NEIGHBOUR: 'it returns false'. Refute it at one input. -/
def fnExactUndoOkWrong : ChangeSpec := { name := "fnExactUndoOk", fn := fun _ => fun
  | [d] => { results := [.lit (.bool false)], args := [d] }
  | _ => none }
def FnExactUndoOkWrongFalsely : Prop := fnExactUndoOkRow.holds Try.pinned (OpenSpec.ofChange fnExactUndoOkWrong)

/-- 'laws.FnExactRingTop': WHATEVER THE INPUT: true; the input reads as it did. -/
def fnExactRingTopSpec : ChangeSpec := { name := "fnExactRingTop", fn := fun _ => fun
  | [d] => { results := [.lit (.bool true)], args := [d] }
  | _ => none }
def fnExactRingTopRow : OpenClaim := { program := "ythkfmeoealfokaa", sum := "6e2c56fb5d7750884e703184e0a859ca8eda5c19bdf237e8d822220d3deef77a", func := "loop.example/g00600/laws.FnExactRingTop", spec := "fnExactRingTop", apart := false }
def FnExactRingTopSaid : Prop := fnExactRingTopRow.holds Try.pinned (OpenSpec.ofChange fnExactRingTopSpec)

/-- ITS FALSE NEIGHBOUR: 'it returns false'. Refute it at one input. -/
def fnExactRingTopWrong : ChangeSpec := { name := "fnExactRingTop", fn := fun _ => fun
  | [d] => { results := [.lit (.bool false)], args := [d] }
  | _ => none }
def FnExactRingTopWrongFalsely : Prop := fnExactRingTopRow.holds Try.pinned (OpenSpec.ofChange fnExactRingTopWrong)

/-- 'laws.FnExactRingTurn': WHATEVER THE INPUT: true; the input reads as it did. -/
def fnExactRingTurnSpec : ChangeSpec := { name := "fnExactRingTurn", fn := fun _ => fun
  | [d] => { results := [.lit (.bool true)], args := [d] }
  | _ => none }
def fnExactRingTurnRow : OpenClaim := { program := "ythkfmeoealfokaa", sum := "6e2c56fb5d7750884e703184e0a859ca8eda5c19bdf237e8d822220d3deef77a", func := "loop.example/g00600/laws.FnExactRingTurn", spec := "fnExactRingTurn", apart := false }
def FnExactRingTurnSaid : Prop := fnExactRingTurnRow.holds Try.pinned (OpenSpec.ofChange fnExactRingTurnSpec)

/-- ITS FALSE NEIGHBOUR: 'it returns false'. Refute it at one input. -/
def fnExactRingTurnWrong : ChangeSpec := { name := "fnExactRingTurn", fn := fun _ => fun
  | [d] => { results := [.lit (.bool false)], args := [d] }
  | _ => none }
def FnExactRingTurnWrongFalsely : Prop := fnExactRingTurnRow.holds Try.pinned (OpenSpec.ofChange fnExactRingTurnWrong)

/-- 'laws.FnExactRingPut': WHATEVER THE INPUT: true; the input reads as it did. -/
def fnExactRingPutSpec : ChangeSpec := { name := "fnExactRingPut", fn := fun _ => fun
  | [d1, d2, d3] => { results := [.lit (.bool true)], args := [d1, d2, d3] }
  | _ => none }
def fnExactRingPutRow : OpenClaim := { program := "ythkfmeoealfokaa", sum := "6e2c56fb5d7750884e703184e0a859ca8eda5c19bdf237e8d822220d3deef77a", func := "loop.example/g00600/laws.FnExactRingPut", spec := "fnExactRingPut", apart := false }
def FnExactRingPutSaid : Prop := fnExactRingPutRow.holds Try.pinned (OpenSpec.ofChange fnExactRingPutSpec)

/-- ITS FALSE NEIGHBOUR: 'it returns false'. Refute it at one input. -/
def fnExactRingPutWrong : ChangeSpec := { name := "fnExactRingPut", fn := fun _ => fun
  | [d1, d2, d3] => { results := [.lit (.bool false)], args := [d1, d2, d3] }
  | _ => none }
def FnExactRingPutWrongFalsely : Prop := fnExactRingPutRow.holds Try.pinned (OpenSpec.ofChange fnExactRingPutWrong)

/-- 'laws.FnRing': WHATEVER THE INPUT: true; the input reads as it did. -/
def fnRingSpec : ChangeSpec := { name := "fnRing", fn := fun _ => fun
  | [d] => { results := [.lit (.bool true)], args := [d] }
  | _ => none }
def fnRingRow : OpenClaim := { program := "ythkfmeoealfokaa", sum := "6e2c56fb5d7750884e703184e0a859ca8eda5c19bdf237e8d822220d3deef77a", func := "loop.example/g00600/laws.FnRing", spec := "fnRing", apart := false }
def FnRingSaid : Prop := fnRingRow.holds Try.pinned (OpenSpec.ofChange fnRingSpec)

/-- ITS FALSE NEIGHBOUR: 'it returns false'. Refute it at one input. -/
def fnRingWrong : ChangeSpec := { name := "fnRing", fn := fun _ => fun
  | [d] => { results := [.lit (.bool false)], args := [d] }
  | _ => none }
def FnRingWrongFalsely : Prop := fnRingRow.holds Try.pinned (OpenSpec.ofChange fnRingWrong)

/-- 'laws.FnExactUndoTake': WHATEVER THE INPUT: true; the input reads as it did. -/
def fnExactUndoTakeSpec : ChangeSpec := { name := "fnExactUndoTake", fn := fun _ => fun
  | [d] => { results := [.lit (.bool true)], args := [d] }
  | _ => none }
def fnExactUndoTakeRow : OpenClaim := { program := "ythkfmeoealfokaa", sum := "6e2c56fb5d7750884e703184e0a859ca8eda5c19bdf237e8d822220d3deef77a", func := "loop.example/g00600/laws.FnExactUndoTake", spec := "fnExactUndoTake", apart := false }
def FnExactUndoTakeSaid : Prop := fnExactUndoTakeRow.holds Try.pinned (OpenSpec.ofChange fnExactUndoTakeSpec)

/-- ITS FALSE NEIGHBOUR: 'it returns false'. Refute it at one input. -/
def fnExactUndoTakeWrong : ChangeSpec := { name := "fnExactUndoTake", fn := fun _ => fun
  | [d] => { results := [.lit (.bool false)], args := [d] }
  | _ => none }
def FnExactUndoTakeWrongFalsely : Prop := fnExactUndoTakeRow.holds Try.pinned (OpenSpec.ofChange fnExactUndoTakeWrong)

/-- 'laws.FnExactUndoPut': WHATEVER THE INPUT: true; the input reads as it did. -/
def fnExactUndoPutSpec : ChangeSpec := { name := "fnExactUndoPut", fn := fun _ => fun
  | [d1, d2] => { results := [.lit (.bool true)], args := [d1, d2] }
  | _ => none }
def fnExactUndoPutRow : OpenClaim := { program := "ythkfmeoealfokaa", sum := "6e2c56fb5d7750884e703184e0a859ca8eda5c19bdf237e8d822220d3deef77a", func := "loop.example/g00600/laws.FnExactUndoPut", spec := "fnExactUndoPut", apart := false }
def FnExactUndoPutSaid : Prop := fnExactUndoPutRow.holds Try.pinned (OpenSpec.ofChange fnExactUndoPutSpec)

/-- ITS FALSE NEIGHBOUR: 'it returns false'. Refute it at one input. -/
def fnExactUndoPutWrong : ChangeSpec := { name := "fnExactUndoPut", fn := fun _ => fun
  | [d1, d2] => { results := [.lit (.bool false)], args := [d1, d2] }
  | _ => none }
def FnExactUndoPutWrongFalsely : Prop := fnExactUndoPutRow.holds Try.pinned (OpenSpec.ofChange fnExactUndoPutWrong)

/-- 'laws.FnUndo': WHATEVER THE INPUT: true; the input reads as it did. -/
def fnUndoSpec : ChangeSpec := { name := "fnUndo", fn := fun _ => fun
  | [d] => { results := [.lit (.bool true)], args := [d] }
  | _ => none }
def fnUndoRow : OpenClaim := { program := "ythkfmeoealfokaa", sum := "6e2c56fb5d7750884e703184e0a859ca8eda5c19bdf237e8d822220d3deef77a", func := "loop.example/g00600/laws.FnUndo", spec := "fnUndo", apart := false }
def FnUndoSaid : Prop := fnUndoRow.holds Try.pinned (OpenSpec.ofChange fnUndoSpec)

/-- ITS FALSE NEIGHBOUR: 'it returns false'. Refute it at one input. -/
def fnUndoWrong : ChangeSpec := { name := "fnUndo", fn := fun _ => fun
  | [d] => { results := [.lit (.bool false)], args := [d] }
  | _ => none }
def FnUndoWrongFalsely : Prop := fnUndoRow.holds Try.pinned (OpenSpec.ofChange fnUndoWrong)

/-- 'laws.FnExactHistOf': WHATEVER THE INPUT: true; the input reads as it did. -/
def fnExactHistOfSpec : ChangeSpec := { name := "fnExactHistOf", fn := fun _ => fun
  | [d] => { results := [.lit (.bool true)], args := [d] }
  | _ => none }
def fnExactHistOfRow : OpenClaim := { program := "ythkfmeoealfokaa", sum := "6e2c56fb5d7750884e703184e0a859ca8eda5c19bdf237e8d822220d3deef77a", func := "loop.example/g00600/laws.FnExactHistOf", spec := "fnExactHistOf", apart := false }
def FnExactHistOfSaid : Prop := fnExactHistOfRow.holds Try.pinned (OpenSpec.ofChange fnExactHistOfSpec)

/-- ITS FALSE NEIGHBOUR: 'it returns false'. Refute it at one input. -/
def fnExactHistOfWrong : ChangeSpec := { name := "fnExactHistOf", fn := fun _ => fun
  | [d] => { results := [.lit (.bool false)], args := [d] }
  | _ => none }
def FnExactHistOfWrongFalsely : Prop := fnExactHistOfRow.holds Try.pinned (OpenSpec.ofChange fnExactHistOfWrong)

/- THE SECOND FORM. 'bulk': how many values and letters a reading holds, each counted each time it is reached (what is shared counts as often as it is met; a slice's spare places count too). A statement '..UptoSaid' is the law's where the arguments, and the package variables that the reading takes, are together of bulk at most 1048576: NARROWER than '..Said'. Prove '..Said' where nothing that the law and all that it calls make is longer than what came in: it says more and counts as full. Else prove '..UptoSaid'. A law counts once. -/
mutual
def uptoBulk {H : Type} : DataW H → Nat
  | .lit (.string bytes) => bytes.length + 1
  | .lit _ => 1
  | .nil => 1
  | .ptr d => uptoBulk d + 1
  | .slice elems spare => uptoBulkAll elems + uptoBulkAll spare + 1
  | .agg parts => uptoBulkAll parts + 1
  | .iface _ d => uptoBulk d + 1
  | .map entries => uptoBulkEntries entries + 1
  | .held _ => 1
def uptoBulkAll {H : Type} : List (DataW H) → Nat
  | [] => 0
  | d :: r => uptoBulk d + uptoBulkAll r
def uptoBulkEntries {H : Type} : List (Lit × DataW H) → Nat
  | [] => 0
  | x :: r => uptoBulkEntry x + uptoBulkEntries r
def uptoBulkEntry {H : Type} : Lit × DataW H → Nat
  | (.string bytes, d) => bytes.length + uptoBulk d + 1
  | (_, d) => uptoBulk d + 1
 end
def uptoSmall : (H : Type) → List (DataW H) → Bool := fun _ ds => decide (uptoBulkAll ds ≤ 1048576)
def OpenSpec.upto (s : _root_.Go.ChangeSpec) : _root_.Go.OpenSpec := { _root_.Go.OpenSpec.ofChange s with cond := some uptoSmall }

/-- 'laws.FnExactRingOk', WHERE WHAT IT READS IS OF BULK AT MOST 1048576: true; the input reads as it did. -/
def fnExactRingOkUptoRow : OpenClaim := { program := "ythkfmeoealfokaa", sum := "6e2c56fb5d7750884e703184e0a859ca8eda5c19bdf237e8d822220d3deef77a", func := "loop.example/g00600/laws.FnExactRingOk", spec := "fnExactRingOk", apart := false, narrowed := true }
def FnExactRingOkUptoSaid : Prop := fnExactRingOkUptoRow.holds Try.pinned (OpenSpec.upto fnExactRingOkSpec)

/-- 'laws.FnExactUndoOk', WHERE WHAT IT READS IS OF BULK AT MOST 1048576: true; the input reads as it did. -/
def fnExactUndoOkUptoRow : OpenClaim := { program := "ythkfmeoealfokaa", sum := "6e2c56fb5d7750884e703184e0a859ca8eda5c19bdf237e8d822220d3deef77a", func := "loop.example/g00600/laws.FnExactUndoOk", spec := "fnExactUndoOk", apart := false, narrowed := true }
def FnExactUndoOkUptoSaid : Prop := fnExactUndoOkUptoRow.holds Try.pinned (OpenSpec.upto fnExactUndoOkSpec)

/-- 'laws.FnExactRingTop', WHERE WHAT IT READS IS OF BULK AT MOST 1048576: true; the input reads as it did. -/
def fnExactRingTopUptoRow : OpenClaim := { program := "ythkfmeoealfokaa", sum := "6e2c56fb5d7750884e703184e0a859ca8eda5c19bdf237e8d822220d3deef77a", func := "loop.example/g00600/laws.FnExactRingTop", spec := "fnExactRingTop", apart := false, narrowed := true }
def FnExactRingTopUptoSaid : Prop := fnExactRingTopUptoRow.holds Try.pinned (OpenSpec.upto fnExactRingTopSpec)

/-- 'laws.FnExactRingTurn', WHERE WHAT IT READS IS OF BULK AT MOST 1048576: true; the input reads as it did. -/
def fnExactRingTurnUptoRow : OpenClaim := { program := "ythkfmeoealfokaa", sum := "6e2c56fb5d7750884e703184e0a859ca8eda5c19bdf237e8d822220d3deef77a", func := "loop.example/g00600/laws.FnExactRingTurn", spec := "fnExactRingTurn", apart := false, narrowed := true }
def FnExactRingTurnUptoSaid : Prop := fnExactRingTurnUptoRow.holds Try.pinned (OpenSpec.upto fnExactRingTurnSpec)

/-- 'laws.FnExactRingPut', WHERE WHAT IT READS IS OF BULK AT MOST 1048576: true; the input reads as it did. -/
def fnExactRingPutUptoRow : OpenClaim := { program := "ythkfmeoealfokaa", sum := "6e2c56fb5d7750884e703184e0a859ca8eda5c19bdf237e8d822220d3deef77a", func := "loop.example/g00600/laws.FnExactRingPut", spec := "fnExactRingPut", apart := false, narrowed := true }
def FnExactRingPutUptoSaid : Prop := fnExactRingPutUptoRow.holds Try.pinned (OpenSpec.upto fnExactRingPutSpec)

/-- 'laws.FnRing', WHERE WHAT IT READS IS OF BULK AT MOST 1048576: true; the input reads as it did. -/
def fnRingUptoRow : OpenClaim := { program := "ythkfmeoealfokaa", sum := "6e2c56fb5d7750884e703184e0a859ca8eda5c19bdf237e8d822220d3deef77a", func := "loop.example/g00600/laws.FnRing", spec := "fnRing", apart := false, narrowed := true }
def FnRingUptoSaid : Prop := fnRingUptoRow.holds Try.pinned (OpenSpec.upto fnRingSpec)

/-- 'laws.FnExactUndoTake', WHERE WHAT IT READS IS OF BULK AT MOST 1048576: true; the input reads as it did. -/
def fnExactUndoTakeUptoRow : OpenClaim := { program := "ythkfmeoealfokaa", sum := "6e2c56fb5d7750884e703184e0a859ca8eda5c19bdf237e8d822220d3deef77a", func := "loop.example/g00600/laws.FnExactUndoTake", spec := "fnExactUndoTake", apart := false, narrowed := true }
def FnExactUndoTakeUptoSaid : Prop := fnExactUndoTakeUptoRow.holds Try.pinned (OpenSpec.upto fnExactUndoTakeSpec)

/-- 'laws.FnExactUndoPut', WHERE WHAT IT READS IS OF BULK AT MOST 1048576: true; the input reads as it did. -/
def fnExactUndoPutUptoRow : OpenClaim := { program := "ythkfmeoealfokaa", sum := "6e2c56fb5d7750884e703184e0a859ca8eda5c19bdf237e8d822220d3deef77a", func := "loop.example/g00600/laws.FnExactUndoPut", spec := "fnExactUndoPut", apart := false, narrowed := true }
def FnExactUndoPutUptoSaid : Prop := fnExactUndoPutUptoRow.holds Try.pinned (OpenSpec.upto fnExactUndoPutSpec)

/-- 'laws.FnUndo', WHERE WHAT IT READS IS OF BULK AT MOST 1048576: true; the input reads as it did. -/
def fnUndoUptoRow : OpenClaim := { program := "ythkfmeoealfokaa", sum := "6e2c56fb5d7750884e703184e0a859ca8eda5c19bdf237e8d822220d3deef77a", func := "loop.example/g00600/laws.FnUndo", spec := "fnUndo", apart := false, narrowed := true }
def FnUndoUptoSaid : Prop := fnUndoUptoRow.holds Try.pinned (OpenSpec.upto fnUndoSpec)

/-- 'laws.FnExactHistOf', WHERE WHAT IT READS IS OF BULK AT MOST 1048576: true; the input reads as it did. -/
def fnExactHistOfUptoRow : OpenClaim := { program := "ythkfmeoealfokaa", sum := "6e2c56fb5d7750884e703184e0a859ca8eda5c19bdf237e8d822220d3deef77a", func := "loop.example/g00600/laws.FnExactHistOf", spec := "fnExactHistOf", apart := false, narrowed := true }
def FnExactHistOfUptoSaid : Prop := fnExactHistOfUptoRow.holds Try.pinned (OpenSpec.upto fnExactHistOfSpec)

end Rows
end Go.Proofs.Ythkfmeoealfokaa
