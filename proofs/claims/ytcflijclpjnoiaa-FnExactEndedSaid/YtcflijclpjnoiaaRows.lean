/-
  No cell of these rows narrows 'for every input' (looked for: loops, veiled, ifaces, maps, wideKeys, modest, calm, conditions, laid).
  DERIVED. THE GIVEN ROWS OF THIS SEAT. 11 by the template 'for every input the law returns true; each argument reads behind the call as it read before'; 0 by the template 'total and deterministic' (their statements: YtcflijclpjnoiaaTotals.lean).
  GIVEN WITH THE SEED: the statements are not yours to turn. If you find one false, say at which input.
  Laid BY PROGRAM, IN A SANDBOX (cutbox-rows.mjs): the forced cells as the released guide's own fill.sh prints them over the translation cb0b814e51d99041… (all of the seat's roots in one cut). By AI agents, Wed Nov 11 2026. No macro, syntax, notation, axiom, sorry.
-/
import Derived.Test.YtcflijclpjnoiaaChecked
import GoSem.Claim
import GoSem.ClaimJoined
import GoSem.ClaimMapViews
import Derived.JoinedTies
import Derived.KernelRfl
namespace Go.Proofs.Ytcflijclpjnoiaa
/- THE CELL 'sum', in the pinned program and in every row, IS THE sha256 OF THE DUMP (.gsa) THAT YtcflijclpjnoiaaProg.lean LOADS. Nothing in Lean hashes anything: it is a label: what it is worth is what the hold of that sum in a sandbox is worth. -/
noncomputable def Try.pinned : Pinned := { name := "ytcflijclpjnoiaa", sum := "cb0b814e51d99041e946d8076e7332746b7372ced34f22de0df1252eea238f4b", checked := Try.checked }
namespace Rows
def none {H : Type} : Left H := { results := [], args := [] }

/-- 'laws.FnExactEnded': WHATEVER THE INPUT: true; the input reads as it did. -/
def fnExactEndedSpec : ChangeSpec := { name := "fnExactEnded", fn := fun _ => fun
  | [d] => { results := [.lit (.bool true)], args := [d] }
  | _ => none }
def fnExactEndedRow : OpenClaim := { program := "ytcflijclpjnoiaa", sum := "cb0b814e51d99041e946d8076e7332746b7372ced34f22de0df1252eea238f4b", func := "loop.example/g00600/laws.FnExactEnded", spec := "fnExactEnded", apart := false }
def FnExactEndedSaid : Prop := fnExactEndedRow.holds Try.pinned (OpenSpec.ofChange fnExactEndedSpec)

/-- ITS FALSE NEIGHBOUR: 'it returns false'. Refute it at one input. -/
def fnExactEndedWrong : ChangeSpec := { name := "fnExactEnded", fn := fun _ => fun
  | [d] => { results := [.lit (.bool false)], args := [d] }
  | _ => none }
def FnExactEndedWrongFalsely : Prop := fnExactEndedRow.holds Try.pinned (OpenSpec.ofChange fnExactEndedWrong)

/-- 'laws.FnExactKeyOk': WHATEVER THE INPUT: true; the input reads as it did. -/
def fnExactKeyOkSpec : ChangeSpec := { name := "fnExactKeyOk", fn := fun _ => fun
  | [d] => { results := [.lit (.bool true)], args := [d] }
  | _ => none }
def fnExactKeyOkRow : OpenClaim := { program := "ytcflijclpjnoiaa", sum := "cb0b814e51d99041e946d8076e7332746b7372ced34f22de0df1252eea238f4b", func := "loop.example/g00600/laws.FnExactKeyOk", spec := "fnExactKeyOk", apart := false }
def FnExactKeyOkSaid : Prop := fnExactKeyOkRow.holds Try.pinned (OpenSpec.ofChange fnExactKeyOkSpec)

/-- ITS FALSE NEIGHBOUR: 'it returns false'. Refute it at one input. -/
def fnExactKeyOkWrong : ChangeSpec := { name := "fnExactKeyOk", fn := fun _ => fun
  | [d] => { results := [.lit (.bool false)], args := [d] }
  | _ => none }
def FnExactKeyOkWrongFalsely : Prop := fnExactKeyOkRow.holds Try.pinned (OpenSpec.ofChange fnExactKeyOkWrong)

/-- 'laws.FnExactByteKey': WHATEVER THE INPUT: true; the input reads as it did. -/
def fnExactByteKeySpec : ChangeSpec := { name := "fnExactByteKey", fn := fun _ => fun
  | [d] => { results := [.lit (.bool true)], args := [d] }
  | _ => none }
def fnExactByteKeyRow : OpenClaim := { program := "ytcflijclpjnoiaa", sum := "cb0b814e51d99041e946d8076e7332746b7372ced34f22de0df1252eea238f4b", func := "loop.example/g00600/laws.FnExactByteKey", spec := "fnExactByteKey", apart := false }
def FnExactByteKeySaid : Prop := fnExactByteKeyRow.holds Try.pinned (OpenSpec.ofChange fnExactByteKeySpec)

/-- ITS FALSE NEIGHBOUR: 'it returns false'. Refute it at one input. -/
def fnExactByteKeyWrong : ChangeSpec := { name := "fnExactByteKey", fn := fun _ => fun
  | [d] => { results := [.lit (.bool false)], args := [d] }
  | _ => none }
def FnExactByteKeyWrongFalsely : Prop := fnExactByteKeyRow.holds Try.pinned (OpenSpec.ofChange fnExactByteKeyWrong)

/-- 'laws.FnExactEmitCost': WHATEVER THE INPUT: true; the input reads as it did. -/
def fnExactEmitCostSpec : ChangeSpec := { name := "fnExactEmitCost", fn := fun _ => fun
  | [d] => { results := [.lit (.bool true)], args := [d] }
  | _ => none }
def fnExactEmitCostRow : OpenClaim := { program := "ytcflijclpjnoiaa", sum := "cb0b814e51d99041e946d8076e7332746b7372ced34f22de0df1252eea238f4b", func := "loop.example/g00600/laws.FnExactEmitCost", spec := "fnExactEmitCost", apart := false }
def FnExactEmitCostSaid : Prop := fnExactEmitCostRow.holds Try.pinned (OpenSpec.ofChange fnExactEmitCostSpec)

/-- ITS FALSE NEIGHBOUR: 'it returns false'. Refute it at one input. -/
def fnExactEmitCostWrong : ChangeSpec := { name := "fnExactEmitCost", fn := fun _ => fun
  | [d] => { results := [.lit (.bool false)], args := [d] }
  | _ => none }
def FnExactEmitCostWrongFalsely : Prop := fnExactEmitCostRow.holds Try.pinned (OpenSpec.ofChange fnExactEmitCostWrong)

/-- 'laws.FnExactHistOk': WHATEVER THE INPUT: true; the input reads as it did. -/
def fnExactHistOkSpec : ChangeSpec := { name := "fnExactHistOk", fn := fun _ => fun
  | [d] => { results := [.lit (.bool true)], args := [d] }
  | _ => none }
def fnExactHistOkRow : OpenClaim := { program := "ytcflijclpjnoiaa", sum := "cb0b814e51d99041e946d8076e7332746b7372ced34f22de0df1252eea238f4b", func := "loop.example/g00600/laws.FnExactHistOk", spec := "fnExactHistOk", apart := false }
def FnExactHistOkSaid : Prop := fnExactHistOkRow.holds Try.pinned (OpenSpec.ofChange fnExactHistOkSpec)

/-- ITS FALSE NEIGHBOUR: 'it returns false'. Refute it at one input. -/
def fnExactHistOkWrong : ChangeSpec := { name := "fnExactHistOk", fn := fun _ => fun
  | [d] => { results := [.lit (.bool false)], args := [d] }
  | _ => none }
def FnExactHistOkWrongFalsely : Prop := fnExactHistOkRow.holds Try.pinned (OpenSpec.ofChange fnExactHistOkWrong)

/-- 'laws.FnExactWordBack': WHATEVER THE INPUT: true; the input reads as it did. -/
def fnExactWordBackSpec : ChangeSpec := { name := "fnExactWordBack", fn := fun _ => fun
  | [d1, d2] => { results := [.lit (.bool true)], args := [d1, d2] }
  | _ => none }
def fnExactWordBackRow : OpenClaim := { program := "ytcflijclpjnoiaa", sum := "cb0b814e51d99041e946d8076e7332746b7372ced34f22de0df1252eea238f4b", func := "loop.example/g00600/laws.FnExactWordBack", spec := "fnExactWordBack", apart := false }
def FnExactWordBackSaid : Prop := fnExactWordBackRow.holds Try.pinned (OpenSpec.ofChange fnExactWordBackSpec)

/-- ITS FALSE NEIGHBOUR: 'it returns false'. Refute it at one input. -/
def fnExactWordBackWrong : ChangeSpec := { name := "fnExactWordBack", fn := fun _ => fun
  | [d1, d2] => { results := [.lit (.bool false)], args := [d1, d2] }
  | _ => none }
def FnExactWordBackWrongFalsely : Prop := fnExactWordBackRow.holds Try.pinned (OpenSpec.ofChange fnExactWordBackWrong)

/-- 'laws.FnExactWordOn': WHATEVER THE INPUT: true; the input reads as it did. -/
def fnExactWordOnSpec : ChangeSpec := { name := "fnExactWordOn", fn := fun _ => fun
  | [d1, d2] => { results := [.lit (.bool true)], args := [d1, d2] }
  | _ => none }
def fnExactWordOnRow : OpenClaim := { program := "ytcflijclpjnoiaa", sum := "cb0b814e51d99041e946d8076e7332746b7372ced34f22de0df1252eea238f4b", func := "loop.example/g00600/laws.FnExactWordOn", spec := "fnExactWordOn", apart := false }
def FnExactWordOnSaid : Prop := fnExactWordOnRow.holds Try.pinned (OpenSpec.ofChange fnExactWordOnSpec)

/-- ITS FALSE NEIGHBOUR: 'it returns false'. Refute it at one input. -/
def fnExactWordOnWrong : ChangeSpec := { name := "fnExactWordOn", fn := fun _ => fun
  | [d1, d2] => { results := [.lit (.bool false)], args := [d1, d2] }
  | _ => none }
def FnExactWordOnWrongFalsely : Prop := fnExactWordOnRow.holds Try.pinned (OpenSpec.ofChange fnExactWordOnWrong)

/-- 'laws.FnExactLineOk': WHATEVER THE INPUT: true; the input reads as it did. -/
def fnExactLineOkSpec : ChangeSpec := { name := "fnExactLineOk", fn := fun _ => fun
  | [d] => { results := [.lit (.bool true)], args := [d] }
  | _ => none }
def fnExactLineOkRow : OpenClaim := { program := "ytcflijclpjnoiaa", sum := "cb0b814e51d99041e946d8076e7332746b7372ced34f22de0df1252eea238f4b", func := "loop.example/g00600/laws.FnExactLineOk", spec := "fnExactLineOk", apart := false }
def FnExactLineOkSaid : Prop := fnExactLineOkRow.holds Try.pinned (OpenSpec.ofChange fnExactLineOkSpec)

/-- ITS FALSE NEIGHBOUR: 'it returns false'. Refute it at one input. -/
def fnExactLineOkWrong : ChangeSpec := { name := "fnExactLineOk", fn := fun _ => fun
  | [d] => { results := [.lit (.bool false)], args := [d] }
  | _ => none }
def FnExactLineOkWrongFalsely : Prop := fnExactLineOkRow.holds Try.pinned (OpenSpec.ofChange fnExactLineOkWrong)

/-- 'laws.FnExactFindRune': WHATEVER THE INPUT: true; the input reads as it did. -/
def fnExactFindRuneSpec : ChangeSpec := { name := "fnExactFindRune", fn := fun _ => fun
  | [d1, d2, d3, d4] => { results := [.lit (.bool true)], args := [d1, d2, d3, d4] }
  | _ => none }
def fnExactFindRuneRow : OpenClaim := { program := "ytcflijclpjnoiaa", sum := "cb0b814e51d99041e946d8076e7332746b7372ced34f22de0df1252eea238f4b", func := "loop.example/g00600/laws.FnExactFindRune", spec := "fnExactFindRune", apart := false }
def FnExactFindRuneSaid : Prop := fnExactFindRuneRow.holds Try.pinned (OpenSpec.ofChange fnExactFindRuneSpec)

/-- ITS FALSE NEIGHBOUR: 'it returns false'. Refute it at one input. -/
def fnExactFindRuneWrong : ChangeSpec := { name := "fnExactFindRune", fn := fun _ => fun
  | [d1, d2, d3, d4] => { results := [.lit (.bool false)], args := [d1, d2, d3, d4] }
  | _ => none }
def FnExactFindRuneWrongFalsely : Prop := fnExactFindRuneRow.holds Try.pinned (OpenSpec.ofChange fnExactFindRuneWrong)

/-- 'laws.FnExactGridNew': WHATEVER THE INPUT: true; the input reads as it did. -/
def fnExactGridNewSpec : ChangeSpec := { name := "fnExactGridNew", fn := fun _ => fun
  | [d1, d2] => { results := [.lit (.bool true)], args := [d1, d2] }
  | _ => none }
def fnExactGridNewRow : OpenClaim := { program := "ytcflijclpjnoiaa", sum := "cb0b814e51d99041e946d8076e7332746b7372ced34f22de0df1252eea238f4b", func := "loop.example/g00600/laws.FnExactGridNew", spec := "fnExactGridNew", apart := false }
def FnExactGridNewSaid : Prop := fnExactGridNewRow.holds Try.pinned (OpenSpec.ofChange fnExactGridNewSpec)

/-- ITS FALSE NEIGHBOUR: 'it returns false'. Refute it at one input. -/
def fnExactGridNewWrong : ChangeSpec := { name := "fnExactGridNew", fn := fun _ => fun
  | [d1, d2] => { results := [.lit (.bool false)], args := [d1, d2] }
  | _ => none }
def FnExactGridNewWrongFalsely : Prop := fnExactGridNewRow.holds Try.pinned (OpenSpec.ofChange fnExactGridNewWrong)

/-- 'laws.FnExactHistGet': WHATEVER THE INPUT: true; the input reads as it did. -/
def fnExactHistGetSpec : ChangeSpec := { name := "fnExactHistGet", fn := fun _ => fun
  | [d1, d2] => { results := [.lit (.bool true)], args := [d1, d2] }
  | _ => none }
def fnExactHistGetRow : OpenClaim := { program := "ytcflijclpjnoiaa", sum := "cb0b814e51d99041e946d8076e7332746b7372ced34f22de0df1252eea238f4b", func := "loop.example/g00600/laws.FnExactHistGet", spec := "fnExactHistGet", apart := false }
def FnExactHistGetSaid : Prop := fnExactHistGetRow.holds Try.pinned (OpenSpec.ofChange fnExactHistGetSpec)

/-- ITS FALSE NEIGHBOUR: 'it returns false'. Refute it at one input. -/
def fnExactHistGetWrong : ChangeSpec := { name := "fnExactHistGet", fn := fun _ => fun
  | [d1, d2] => { results := [.lit (.bool false)], args := [d1, d2] }
  | _ => none }
def FnExactHistGetWrongFalsely : Prop := fnExactHistGetRow.holds Try.pinned (OpenSpec.ofChange fnExactHistGetWrong)

/- THE SECOND FORM. 'bulk': how many values and letters a reading holds, each counted each time it is reached (what is shared counts as often as it is met; a slice's spare places count too). A statement '..UptoSaid' is the law's where the arguments, and the package variables that the reading takes, are together of bulk at most 1048576: NARROWER than '..Said'. Prove '..Said' where nothing that the law and all that it calls make is longer than what came in: it says more and counts as full. Else prove '..UptoSaid'. A law counts once. -/
mutual
def uptoBulk {H : Type} : DataW H → Nat
  | .lit (.string bytes) => bytes.length + 1
  | .lit _ => 1
  | .nil => 1
  | .ptr d => uptoBulk d + 1
  | .slice elems spare => uptoBulkAll elems + uptoBulkAll spare + 1
  | .agg parts => uptoBulkAll parts + 1
  | .iface _ d => uptoBulk d + 1
  | .map entries => uptoBulkEntries entries + 1
  | .held _ => 1
def uptoBulkAll {H : Type} : List (DataW H) → Nat
  | [] => 0
  | d :: r => uptoBulk d + uptoBulkAll r
def uptoBulkEntries {H : Type} : List (Lit × DataW H) → Nat
  | [] => 0
  | x :: r => uptoBulkEntry x + uptoBulkEntries r
def uptoBulkEntry {H : Type} : Lit × DataW H → Nat
  | (.string bytes, d) => bytes.length + uptoBulk d + 1
  | (_, d) => uptoBulk d + 1
 end
def uptoSmall : (H : Type) → List (DataW H) → Bool := fun _ ds => decide (uptoBulkAll ds ≤ 1048576)
def OpenSpec.upto (s : _root_.Go.ChangeSpec) : _root_.Go.OpenSpec := { _root_.Go.OpenSpec.ofChange s with cond := some uptoSmall }

/-- 'laws.FnExactEnded', WHERE WHAT IT READS IS OF BULK AT MOST 1048576: true; the input reads as it did. -/
def fnExactEndedUptoRow : OpenClaim := { program := "ytcflijclpjnoiaa", sum := "cb0b814e51d99041e946d8076e7332746b7372ced34f22de0df1252eea238f4b", func := "loop.example/g00600/laws.FnExactEnded", spec := "fnExactEnded", apart := false, narrowed := true }
def FnExactEndedUptoSaid : Prop := fnExactEndedUptoRow.holds Try.pinned (OpenSpec.upto fnExactEndedSpec)

/-- 'laws.FnExactKeyOk', WHERE WHAT IT READS IS OF BULK AT MOST 1048576: true; the input reads as it did. -/
def fnExactKeyOkUptoRow : OpenClaim := { program := "ytcflijclpjnoiaa", sum := "cb0b814e51d99041e946d8076e7332746b7372ced34f22de0df1252eea238f4b", func := "loop.example/g00600/laws.FnExactKeyOk", spec := "fnExactKeyOk", apart := false, narrowed := true }
def FnExactKeyOkUptoSaid : Prop := fnExactKeyOkUptoRow.holds Try.pinned (OpenSpec.upto fnExactKeyOkSpec)

/-- 'laws.FnExactByteKey', WHERE WHAT IT READS IS OF BULK AT MOST 1048576: true; the input reads as it did. -/
def fnExactByteKeyUptoRow : OpenClaim := { program := "ytcflijclpjnoiaa", sum := "cb0b814e51d99041e946d8076e7332746b7372ced34f22de0df1252eea238f4b", func := "loop.example/g00600/laws.FnExactByteKey", spec := "fnExactByteKey", apart := false, narrowed := true }
def FnExactByteKeyUptoSaid : Prop := fnExactByteKeyUptoRow.holds Try.pinned (OpenSpec.upto fnExactByteKeySpec)

/-- 'laws.FnExactEmitCost', WHERE WHAT IT READS IS OF BULK AT MOST 1048576: true; the input reads as it did. -/
def fnExactEmitCostUptoRow : OpenClaim := { program := "ytcflijclpjnoiaa", sum := "cb0b814e51d99041e946d8076e7332746b7372ced34f22de0df1252eea238f4b", func := "loop.example/g00600/laws.FnExactEmitCost", spec := "fnExactEmitCost", apart := false, narrowed := true }
def FnExactEmitCostUptoSaid : Prop := fnExactEmitCostUptoRow.holds Try.pinned (OpenSpec.upto fnExactEmitCostSpec)

/-- 'laws.FnExactHistOk', WHERE WHAT IT READS IS OF BULK AT MOST 1048576: true; the input reads as it did. -/
def fnExactHistOkUptoRow : OpenClaim := { program := "ytcflijclpjnoiaa", sum := "cb0b814e51d99041e946d8076e7332746b7372ced34f22de0df1252eea238f4b", func := "loop.example/g00600/laws.FnExactHistOk", spec := "fnExactHistOk", apart := false, narrowed := true }
def FnExactHistOkUptoSaid : Prop := fnExactHistOkUptoRow.holds Try.pinned (OpenSpec.upto fnExactHistOkSpec)

/-- 'laws.FnExactWordBack', WHERE WHAT IT READS IS OF BULK AT MOST 1048576: true; the input reads as it did. -/
def fnExactWordBackUptoRow : OpenClaim := { program := "ytcflijclpjnoiaa", sum := "cb0b814e51d99041e946d8076e7332746b7372ced34f22de0df1252eea238f4b", func := "loop.example/g00600/laws.FnExactWordBack", spec := "fnExactWordBack", apart := false, narrowed := true }
def FnExactWordBackUptoSaid : Prop := fnExactWordBackUptoRow.holds Try.pinned (OpenSpec.upto fnExactWordBackSpec)

/-- 'laws.FnExactWordOn', WHERE WHAT IT READS IS OF BULK AT MOST 1048576: true; the input reads as it did. -/
def fnExactWordOnUptoRow : OpenClaim := { program := "ytcflijclpjnoiaa", sum := "cb0b814e51d99041e946d8076e7332746b7372ced34f22de0df1252eea238f4b", func := "loop.example/g00600/laws.FnExactWordOn", spec := "fnExactWordOn", apart := false, narrowed := true }
def FnExactWordOnUptoSaid : Prop := fnExactWordOnUptoRow.holds Try.pinned (OpenSpec.upto fnExactWordOnSpec)

/-- 'laws.FnExactLineOk', WHERE WHAT IT READS IS OF BULK AT MOST 1048576: true; the input reads as it did. -/
def fnExactLineOkUptoRow : OpenClaim := { program := "ytcflijclpjnoiaa", sum := "cb0b814e51d99041e946d8076e7332746b7372ced34f22de0df1252eea238f4b", func := "loop.example/g00600/laws.FnExactLineOk", spec := "fnExactLineOk", apart := false, narrowed := true }
def FnExactLineOkUptoSaid : Prop := fnExactLineOkUptoRow.holds Try.pinned (OpenSpec.upto fnExactLineOkSpec)

/-- 'laws.FnExactFindRune', WHERE WHAT IT READS IS OF BULK AT MOST 1048576: true; the input reads as it did. -/
def fnExactFindRuneUptoRow : OpenClaim := { program := "ytcflijclpjnoiaa", sum := "cb0b814e51d99041e946d8076e7332746b7372ced34f22de0df1252eea238f4b", func := "loop.example/g00600/laws.FnExactFindRune", spec := "fnExactFindRune", apart := false, narrowed := true }
def FnExactFindRuneUptoSaid : Prop := fnExactFindRuneUptoRow.holds Try.pinned (OpenSpec.upto fnExactFindRuneSpec)

/-- 'laws.FnExactGridNew', WHERE WHAT IT READS IS OF BULK AT MOST 1048576: true; the input reads as it did. -/
def fnExactGridNewUptoRow : OpenClaim := { program := "ytcflijclpjnoiaa", sum := "cb0b814e51d99041e946d8076e7332746b7372ced34f22de0df1252eea238f4b", func := "loop.example/g00600/laws.FnExactGridNew", spec := "fnExactGridNew", apart := false, narrowed := true }
def FnExactGridNewUptoSaid : Prop := fnExactGridNewUptoRow.holds Try.pinned (OpenSpec.upto fnExactGridNewSpec)

/-- 'laws.FnExactHistGet', WHERE WHAT IT READS IS OF BULK AT MOST 1048576: true; the input reads as it did. -/
def fnExactHistGetUptoRow : OpenClaim := { program := "ytcflijclpjnoiaa", sum := "cb0b814e51d99041e946d8076e7332746b7372ced34f22de0df1252eea238f4b", func := "loop.example/g00600/laws.FnExactHistGet", spec := "fnExactHistGet", apart := false, narrowed := true }
def FnExactHistGetUptoSaid : Prop := fnExactHistGetUptoRow.holds Try.pinned (OpenSpec.upto fnExactHistGetSpec)

end Rows
end Go.Proofs.Ytcflijclpjnoiaa
