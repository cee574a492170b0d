/-
  No cell of these rows narrows 'for every input' (looked for: loops, veiled, ifaces, maps, wideKeys, modest, calm, conditions, laid).
  DERIVED. THE GIVEN ROWS OF THIS SEAT. 12 by the template 'for every input the law returns true; each argument reads behind the call as it read before'; 0 by the template 'total and deterministic' (their statements: YtffinfpnmohnaaaTotals.lean).
  GIVEN WITH THE SEED: the statements are not yours to turn. If you find one false, say at which input.
  Laid BY PROGRAM, IN A SANDBOX (cutbox-rows.mjs): the forced cells as the released guide's own fill.sh prints them over the translation 7994e40c6fc8f43f… (all of the seat's roots in one cut). By AI agents, Wed Nov 11 2026. No macro, syntax, notation, axiom, sorry.
-/
import Derived.Test.YtffinfpnmohnaaaChecked
import GoSem.Claim
import GoSem.ClaimJoined
import GoSem.ClaimMapViews
import Derived.JoinedTies
import Derived.KernelRfl
namespace Go.Proofs.Ytffinfpnmohnaaa
/- THE CELL 'sum', in the pinned program and in every row, IS THE sha256 OF THE DUMP (.gsa) THAT YtffinfpnmohnaaaProg.lean LOADS. Nothing in Lean hashes anything: it is a label: what it is worth is what the hold of that sum in a sandbox is worth. -/
noncomputable def Try.pinned : Pinned := { name := "ytffinfpnmohnaaa", sum := "7994e40c6fc8f43f49b1eba47cbdee5d6be4268c5672e05922570fa456324e21", checked := Try.checked }
namespace Rows
def none {H : Type} : Left H := { results := [], args := [] }

/-- 'laws.FnExactRuneBegin': WHATEVER THE INPUT: true; the input reads as it did. -/
def fnExactRuneBeginSpec : ChangeSpec := { name := "fnExactRuneBegin", fn := fun _ => fun
  | [d] => { results := [.lit (.bool true)], args := [d] }
  | _ => none }
def fnExactRuneBeginRow : OpenClaim := { program := "ytffinfpnmohnaaa", sum := "7994e40c6fc8f43f49b1eba47cbdee5d6be4268c5672e05922570fa456324e21", func := "loop.example/g00600/laws.FnExactRuneBegin", spec := "fnExactRuneBegin", apart := false }
def FnExactRuneBeginSaid : Prop := fnExactRuneBeginRow.holds Try.pinned (OpenSpec.ofChange fnExactRuneBeginSpec)

/-- ITS FALSE NEIGHBOUR: 'it returns false'. Refute it at one input. -/
def fnExactRuneBeginWrong : ChangeSpec := { name := "fnExactRuneBegin", fn := fun _ => fun
  | [d] => { results := [.lit (.bool false)], args := [d] }
  | _ => none }
def FnExactRuneBeginWrongFalsely : Prop := fnExactRuneBeginRow.holds Try.pinned (OpenSpec.ofChange fnExactRuneBeginWrong)

/-- 'laws.FnExactDecOk': WHATEVER THE INPUT: true; the input reads as it did. -/
def fnExactDecOkSpec : ChangeSpec := { name := "fnExactDecOk", fn := fun _ => fun
  | [d] => { results := [.lit (.bool true)], args := [d] }
  | _ => none }
def fnExactDecOkRow : OpenClaim := { program := "ytffinfpnmohnaaa", sum := "7994e40c6fc8f43f49b1eba47cbdee5d6be4268c5672e05922570fa456324e21", func := "loop.example/g00600/laws.FnExactDecOk", spec := "fnExactDecOk", apart := false }
def FnExactDecOkSaid : Prop := fnExactDecOkRow.holds Try.pinned (OpenSpec.ofChange fnExactDecOkSpec)

/-- ITS FALSE NEIGHBOUR: 'it returns false'. Refute it at one input. -/
def fnExactDecOkWrong : ChangeSpec := { name := "fnExactDecOk", fn := fun _ => fun
  | [d] => { results := [.lit (.bool false)], args := [d] }
  | _ => none }
def FnExactDecOkWrongFalsely : Prop := fnExactDecOkRow.holds Try.pinned (OpenSpec.ofChange fnExactDecOkWrong)

/-- 'laws.FnExactVtOk': WHATEVER THE INPUT: true; the input reads as it did. -/
def fnExactVtOkSpec : ChangeSpec := { name := "fnExactVtOk", fn := fun _ => fun
  | [d] => { results := [.lit (.bool true)], args := [d] }
  | _ => none }
def fnExactVtOkRow : OpenClaim := { program := "ytffinfpnmohnaaa", sum := "7994e40c6fc8f43f49b1eba47cbdee5d6be4268c5672e05922570fa456324e21", func := "loop.example/g00600/laws.FnExactVtOk", spec := "fnExactVtOk", apart := false }
def FnExactVtOkSaid : Prop := fnExactVtOkRow.holds Try.pinned (OpenSpec.ofChange fnExactVtOkSpec)

/-- ITS FALSE NEIGHBOUR: 'it returns false'. Refute it at one input. -/
def fnExactVtOkWrong : ChangeSpec := { name := "fnExactVtOk", fn := fun _ => fun
  | [d] => { results := [.lit (.bool false)], args := [d] }
  | _ => none }
def FnExactVtOkWrongFalsely : Prop := fnExactVtOkRow.holds Try.pinned (OpenSpec.ofChange fnExactVtOkWrong)

/-- 'laws.FnExactVtSize': WHATEVER THE INPUT: true; the input reads as it did. -/
def fnExactVtSizeSpec : ChangeSpec := { name := "fnExactVtSize", fn := fun _ => fun
  | [d1, d2, d3] => { results := [.lit (.bool true)], args := [d1, d2, d3] }
  | _ => none }
def fnExactVtSizeRow : OpenClaim := { program := "ytffinfpnmohnaaa", sum := "7994e40c6fc8f43f49b1eba47cbdee5d6be4268c5672e05922570fa456324e21", func := "loop.example/g00600/laws.FnExactVtSize", spec := "fnExactVtSize", apart := false }
def FnExactVtSizeSaid : Prop := fnExactVtSizeRow.holds Try.pinned (OpenSpec.ofChange fnExactVtSizeSpec)

/-- ITS FALSE NEIGHBOUR: 'it returns false'. Refute it at one input. -/
def fnExactVtSizeWrong : ChangeSpec := { name := "fnExactVtSize", fn := fun _ => fun
  | [d1, d2, d3] => { results := [.lit (.bool false)], args := [d1, d2, d3] }
  | _ => none }
def FnExactVtSizeWrongFalsely : Prop := fnExactVtSizeRow.holds Try.pinned (OpenSpec.ofChange fnExactVtSizeWrong)

/-- 'laws.FnExactGridClear': WHATEVER THE INPUT: true; the input reads as it did. -/
def fnExactGridClearSpec : ChangeSpec := { name := "fnExactGridClear", fn := fun _ => fun
  | [d1, d2, d3] => { results := [.lit (.bool true)], args := [d1, d2, d3] }
  | _ => none }
def fnExactGridClearRow : OpenClaim := { program := "ytffinfpnmohnaaa", sum := "7994e40c6fc8f43f49b1eba47cbdee5d6be4268c5672e05922570fa456324e21", func := "loop.example/g00600/laws.FnExactGridClear", spec := "fnExactGridClear", apart := false }
def FnExactGridClearSaid : Prop := fnExactGridClearRow.holds Try.pinned (OpenSpec.ofChange fnExactGridClearSpec)

/-- ITS FALSE NEIGHBOUR: 'it returns false'. Refute it at one input. -/
def fnExactGridClearWrong : ChangeSpec := { name := "fnExactGridClear", fn := fun _ => fun
  | [d1, d2, d3] => { results := [.lit (.bool false)], args := [d1, d2, d3] }
  | _ => none }
def FnExactGridClearWrongFalsely : Prop := fnExactGridClearRow.holds Try.pinned (OpenSpec.ofChange fnExactGridClearWrong)

/-- 'laws.FnExactRingPut': WHATEVER THE INPUT: true; the input reads as it did. -/
def fnExactRingPutSpec : ChangeSpec := { name := "fnExactRingPut", fn := fun _ => fun
  | [d1, d2, d3] => { results := [.lit (.bool true)], args := [d1, d2, d3] }
  | _ => none }
def fnExactRingPutRow : OpenClaim := { program := "ytffinfpnmohnaaa", sum := "7994e40c6fc8f43f49b1eba47cbdee5d6be4268c5672e05922570fa456324e21", func := "loop.example/g00600/laws.FnExactRingPut", spec := "fnExactRingPut", apart := false }
def FnExactRingPutSaid : Prop := fnExactRingPutRow.holds Try.pinned (OpenSpec.ofChange fnExactRingPutSpec)

/-- ITS FALSE NEIGHBOUR: 'it returns false'. Refute it at one input. -/
def fnExactRingPutWrong : ChangeSpec := { name := "fnExactRingPut", fn := fun _ => fun
  | [d1, d2, d3] => { results := [.lit (.bool false)], args := [d1, d2, d3] }
  | _ => none }
def FnExactRingPutWrongFalsely : Prop := fnExactRingPutRow.holds Try.pinned (OpenSpec.ofChange fnExactRingPutWrong)

/-- 'laws.FnExactHistFind': WHATEVER THE INPUT: true; the input reads as it did. -/
def fnExactHistFindSpec : ChangeSpec := { name := "fnExactHistFind", fn := fun _ => fun
  | [d1, d2, d3, d4, d5] => { results := [.lit (.bool true)], args := [d1, d2, d3, d4, d5] }
  | _ => none }
def fnExactHistFindRow : OpenClaim := { program := "ytffinfpnmohnaaa", sum := "7994e40c6fc8f43f49b1eba47cbdee5d6be4268c5672e05922570fa456324e21", func := "loop.example/g00600/laws.FnExactHistFind", spec := "fnExactHistFind", inPlace := ["internal/bytealg.IndexByteString", "internal/bytealg.IndexString"], named := ["internal/bytealg.MaxLen"], apart := false }
def FnExactHistFindSaid : Prop := fnExactHistFindRow.holds Try.pinned (OpenSpec.ofChange fnExactHistFindSpec)

/-- ITS FALSE NEIGHBOUR: 'it returns false'. Refute it at one input. -/
def fnExactHistFindWrong : ChangeSpec := { name := "fnExactHistFind", fn := fun _ => fun
  | [d1, d2, d3, d4, d5] => { results := [.lit (.bool false)], args := [d1, d2, d3, d4, d5] }
  | _ => none }
def FnExactHistFindWrongFalsely : Prop := fnExactHistFindRow.holds Try.pinned (OpenSpec.ofChange fnExactHistFindWrong)

/-- 'laws.FnExactHistOf': WHATEVER THE INPUT: true; the input reads as it did. -/
def fnExactHistOfSpec : ChangeSpec := { name := "fnExactHistOf", fn := fun _ => fun
  | [d] => { results := [.lit (.bool true)], args := [d] }
  | _ => none }
def fnExactHistOfRow : OpenClaim := { program := "ytffinfpnmohnaaa", sum := "7994e40c6fc8f43f49b1eba47cbdee5d6be4268c5672e05922570fa456324e21", func := "loop.example/g00600/laws.FnExactHistOf", spec := "fnExactHistOf", apart := false }
def FnExactHistOfSaid : Prop := fnExactHistOfRow.holds Try.pinned (OpenSpec.ofChange fnExactHistOfSpec)

/-- ITS FALSE NEIGHBOUR: 'it returns false'. Refute it at one input. -/
def fnExactHistOfWrong : ChangeSpec := { name := "fnExactHistOf", fn := fun _ => fun
  | [d] => { results := [.lit (.bool false)], args := [d] }
  | _ => none }
def FnExactHistOfWrongFalsely : Prop := fnExactHistOfRow.holds Try.pinned (OpenSpec.ofChange fnExactHistOfWrong)

/-- 'laws.FnExactTrialNew': WHATEVER THE INPUT: true; the input reads as it did. -/
def fnExactTrialNewSpec : ChangeSpec := { name := "fnExactTrialNew", fn := fun _ => fun
  | [d1, d2, d3] => { results := [.lit (.bool true)], args := [d1, d2, d3] }
  | _ => none }
def fnExactTrialNewRow : OpenClaim := { program := "ytffinfpnmohnaaa", sum := "7994e40c6fc8f43f49b1eba47cbdee5d6be4268c5672e05922570fa456324e21", func := "loop.example/g00600/laws.FnExactTrialNew", spec := "fnExactTrialNew", apart := false }
def FnExactTrialNewSaid : Prop := fnExactTrialNewRow.holds Try.pinned (OpenSpec.ofChange fnExactTrialNewSpec)

/-- ITS FALSE NEIGHBOUR: 'it returns false'. Refute it at one input. -/
def fnExactTrialNewWrong : ChangeSpec := { name := "fnExactTrialNew", fn := fun _ => fun
  | [d1, d2, d3] => { results := [.lit (.bool false)], args := [d1, d2, d3] }
  | _ => none }
def FnExactTrialNewWrongFalsely : Prop := fnExactTrialNewRow.holds Try.pinned (OpenSpec.ofChange fnExactTrialNewWrong)

/-- 'laws.FnExactTrialFair': WHATEVER THE INPUT: true; the input reads as it did. -/
def fnExactTrialFairSpec : ChangeSpec := { name := "fnExactTrialFair", fn := fun _ => fun
  | [d] => { results := [.lit (.bool true)], args := [d] }
  | _ => none }
def fnExactTrialFairRow : OpenClaim := { program := "ytffinfpnmohnaaa", sum := "7994e40c6fc8f43f49b1eba47cbdee5d6be4268c5672e05922570fa456324e21", func := "loop.example/g00600/laws.FnExactTrialFair", spec := "fnExactTrialFair", apart := false }
def FnExactTrialFairSaid : Prop := fnExactTrialFairRow.holds Try.pinned (OpenSpec.ofChange fnExactTrialFairSpec)

/-- ITS FALSE NEIGHBOUR: 'it returns false'. Refute it at one input. -/
def fnExactTrialFairWrong : ChangeSpec := { name := "fnExactTrialFair", fn := fun _ => fun
  | [d] => { results := [.lit (.bool false)], args := [d] }
  | _ => none }
def FnExactTrialFairWrongFalsely : Prop := fnExactTrialFairRow.holds Try.pinned (OpenSpec.ofChange fnExactTrialFairWrong)

/-- 'laws.FnWords': WHATEVER THE INPUT: true; the input reads as it did. -/
def fnWordsSpec : ChangeSpec := { name := "fnWords", fn := fun _ => fun
  | [d] => { results := [.lit (.bool true)], args := [d] }
  | _ => none }
def fnWordsRow : OpenClaim := { program := "ytffinfpnmohnaaa", sum := "7994e40c6fc8f43f49b1eba47cbdee5d6be4268c5672e05922570fa456324e21", func := "loop.example/g00600/laws.FnWords", spec := "fnWords", apart := false }
def FnWordsSaid : Prop := fnWordsRow.holds Try.pinned (OpenSpec.ofChange fnWordsSpec)

/-- ITS FALSE NEIGHBOUR: 'it returns false'. Refute it at one input. -/
def fnWordsWrong : ChangeSpec := { name := "fnWords", fn := fun _ => fun
  | [d] => { results := [.lit (.bool false)], args := [d] }
  | _ => none }
def FnWordsWrongFalsely : Prop := fnWordsRow.holds Try.pinned (OpenSpec.ofChange fnWordsWrong)

/-- 'laws.FnHist': WHATEVER THE INPUT: true; the input reads as it did. -/
def fnHistSpec : ChangeSpec := { name := "fnHist", fn := fun _ => fun
  | [d] => { results := [.lit (.bool true)], args := [d] }
  | _ => none }
def fnHistRow : OpenClaim := { program := "ytffinfpnmohnaaa", sum := "7994e40c6fc8f43f49b1eba47cbdee5d6be4268c5672e05922570fa456324e21", func := "loop.example/g00600/laws.FnHist", spec := "fnHist", inPlace := ["internal/bytealg.IndexByteString", "internal/bytealg.IndexString"], named := ["internal/bytealg.MaxLen"], apart := false }
def FnHistSaid : Prop := fnHistRow.holds Try.pinned (OpenSpec.ofChange fnHistSpec)

/-- ITS FALSE NEIGHBOUR: 'it returns false'. Refute it at one input. -/
def fnHistWrong : ChangeSpec := { name := "fnHist", fn := fun _ => fun
  | [d] => { results := [.lit (.bool false)], args := [d] }
  | _ => none }
def FnHistWrongFalsely : Prop := fnHistRow.holds Try.pinned (OpenSpec.ofChange fnHistWrong)

/- THE SECOND FORM. 'bulk': how many values and letters a reading holds, each counted each time it is reached (what is shared counts as often as it is met; a slice's spare places count too). A statement '..UptoSaid' is the law's where the arguments, and the package variables that the reading takes, are together of bulk at most 1048576: NARROWER than '..Said'. Prove '..Said' where nothing that the law and all that it calls make is longer than what came in: it says more and counts as full. Else prove '..UptoSaid'. A law counts once. -/
mutual
def uptoBulk {H : Type} : DataW H → Nat
  | .lit (.string bytes) => bytes.length + 1
  | .lit _ => 1
  | .nil => 1
  | .ptr d => uptoBulk d + 1
  | .slice elems spare => uptoBulkAll elems + uptoBulkAll spare + 1
  | .agg parts => uptoBulkAll parts + 1
  | .iface _ d => uptoBulk d + 1
  | .map entries => uptoBulkEntries entries + 1
  | .held _ => 1
def uptoBulkAll {H : Type} : List (DataW H) → Nat
  | [] => 0
  | d :: r => uptoBulk d + uptoBulkAll r
def uptoBulkEntries {H : Type} : List (Lit × DataW H) → Nat
  | [] => 0
  | x :: r => uptoBulkEntry x + uptoBulkEntries r
def uptoBulkEntry {H : Type} : Lit × DataW H → Nat
  | (.string bytes, d) => bytes.length + uptoBulk d + 1
  | (_, d) => uptoBulk d + 1
 end
def uptoSmall : (H : Type) → List (DataW H) → Bool := fun _ ds => decide (uptoBulkAll ds ≤ 1048576)
def OpenSpec.upto (s : _root_.Go.ChangeSpec) : _root_.Go.OpenSpec := { _root_.Go.OpenSpec.ofChange s with cond := some uptoSmall }

/-- 'laws.FnExactRuneBegin', WHERE WHAT IT READS IS OF BULK AT MOST 1048576: true; the input reads as it did. -/
def fnExactRuneBeginUptoRow : OpenClaim := { program := "ytffinfpnmohnaaa", sum := "7994e40c6fc8f43f49b1eba47cbdee5d6be4268c5672e05922570fa456324e21", func := "loop.example/g00600/laws.FnExactRuneBegin", spec := "fnExactRuneBegin", apart := false, narrowed := true }
def FnExactRuneBeginUptoSaid : Prop := fnExactRuneBeginUptoRow.holds Try.pinned (OpenSpec.upto fnExactRuneBeginSpec)

/-- 'laws.FnExactDecOk', WHERE WHAT IT READS IS OF BULK AT MOST 1048576: true; the input reads as it did. -/
def fnExactDecOkUptoRow : OpenClaim := { program := "ytffinfpnmohnaaa", sum := "7994e40c6fc8f43f49b1eba47cbdee5d6be4268c5672e05922570fa456324e21", func := "loop.example/g00600/laws.FnExactDecOk", spec := "fnExactDecOk", apart := false, narrowed := true }
def FnExactDecOkUptoSaid : Prop := fnExactDecOkUptoRow.holds Try.pinned (OpenSpec.upto fnExactDecOkSpec)

/-- 'laws.FnExactVtOk', WHERE WHAT IT READS IS OF BULK AT MOST 1048576: true; the input reads as it did. -/
def fnExactVtOkUptoRow : OpenClaim := { program := "ytffinfpnmohnaaa", sum := "7994e40c6fc8f43f49b1eba47cbdee5d6be4268c5672e05922570fa456324e21", func := "loop.example/g00600/laws.FnExactVtOk", spec := "fnExactVtOk", apart := false, narrowed := true }
def FnExactVtOkUptoSaid : Prop := fnExactVtOkUptoRow.holds Try.pinned (OpenSpec.upto fnExactVtOkSpec)

/-- 'laws.FnExactVtSize', WHERE WHAT IT READS IS OF BULK AT MOST 1048576: true; the input reads as it did. -/
def fnExactVtSizeUptoRow : OpenClaim := { program := "ytffinfpnmohnaaa", sum := "7994e40c6fc8f43f49b1eba47cbdee5d6be4268c5672e05922570fa456324e21", func := "loop.example/g00600/laws.FnExactVtSize", spec := "fnExactVtSize", apart := false, narrowed := true }
def FnExactVtSizeUptoSaid : Prop := fnExactVtSizeUptoRow.holds Try.pinned (OpenSpec.upto fnExactVtSizeSpec)

/-- 'laws.FnExactGridClear', WHERE WHAT IT READS IS OF BULK AT MOST 1048576: true; the input reads as it did. -/
def fnExactGridClearUptoRow : OpenClaim := { program := "ytffinfpnmohnaaa", sum := "7994e40c6fc8f43f49b1eba47cbdee5d6be4268c5672e05922570fa456324e21", func := "loop.example/g00600/laws.FnExactGridClear", spec := "fnExactGridClear", apart := false, narrowed := true }
def FnExactGridClearUptoSaid : Prop := fnExactGridClearUptoRow.holds Try.pinned (OpenSpec.upto fnExactGridClearSpec)

/-- 'laws.FnExactRingPut', WHERE WHAT IT READS IS OF BULK AT MOST 1048576: true; the input reads as it did. -/
def fnExactRingPutUptoRow : OpenClaim := { program := "ytffinfpnmohnaaa", sum := "7994e40c6fc8f43f49b1eba47cbdee5d6be4268c5672e05922570fa456324e21", func := "loop.example/g00600/laws.FnExactRingPut", spec := "fnExactRingPut", apart := false, narrowed := true }
def FnExactRingPutUptoSaid : Prop := fnExactRingPutUptoRow.holds Try.pinned (OpenSpec.upto fnExactRingPutSpec)

/-- 'laws.FnExactHistFind', WHERE WHAT IT READS IS OF BULK AT MOST 1048576: true; the input reads as it did. -/
def fnExactHistFindUptoRow : OpenClaim := { program := "ytffinfpnmohnaaa", sum := "7994e40c6fc8f43f49b1eba47cbdee5d6be4268c5672e05922570fa456324e21", func := "loop.example/g00600/laws.FnExactHistFind", spec := "fnExactHistFind", inPlace := ["internal/bytealg.IndexByteString", "internal/bytealg.IndexString"], named := ["internal/bytealg.MaxLen"], apart := false, narrowed := true }
def FnExactHistFindUptoSaid : Prop := fnExactHistFindUptoRow.holds Try.pinned (OpenSpec.upto fnExactHistFindSpec)

/-- 'laws.FnExactHistOf', WHERE WHAT IT READS IS OF BULK AT MOST 1048576: true; the input reads as it did. -/
def fnExactHistOfUptoRow : OpenClaim := { program := "ytffinfpnmohnaaa", sum := "7994e40c6fc8f43f49b1eba47cbdee5d6be4268c5672e05922570fa456324e21", func := "loop.example/g00600/laws.FnExactHistOf", spec := "fnExactHistOf", apart := false, narrowed := true }
def FnExactHistOfUptoSaid : Prop := fnExactHistOfUptoRow.holds Try.pinned (OpenSpec.upto fnExactHistOfSpec)

/-- 'laws.FnExactTrialNew', WHERE WHAT IT READS IS OF BULK AT MOST 1048576: true; the input reads as it did. -/
def fnExactTrialNewUptoRow : OpenClaim := { program := "ytffinfpnmohnaaa", sum := "7994e40c6fc8f43f49b1eba47cbdee5d6be4268c5672e05922570fa456324e21", func := "loop.example/g00600/laws.FnExactTrialNew", spec := "fnExactTrialNew", apart := false, narrowed := true }
def FnExactTrialNewUptoSaid : Prop := fnExactTrialNewUptoRow.holds Try.pinned (OpenSpec.upto fnExactTrialNewSpec)

/-- 'laws.FnExactTrialFair', WHERE WHAT IT READS IS OF BULK AT MOST 1048576: true; the input reads as it did. -/
def fnExactTrialFairUptoRow : OpenClaim := { program := "ytffinfpnmohnaaa", sum := "7994e40c6fc8f43f49b1eba47cbdee5d6be4268c5672e05922570fa456324e21", func := "loop.example/g00600/laws.FnExactTrialFair", spec := "fnExactTrialFair", apart := false, narrowed := true }
def FnExactTrialFairUptoSaid : Prop := fnExactTrialFairUptoRow.holds Try.pinned (OpenSpec.upto fnExactTrialFairSpec)

/-- 'laws.FnWords', WHERE WHAT IT READS IS OF BULK AT MOST 1048576: true; the input reads as it did. -/
def fnWordsUptoRow : OpenClaim := { program := "ytffinfpnmohnaaa", sum := "7994e40c6fc8f43f49b1eba47cbdee5d6be4268c5672e05922570fa456324e21", func := "loop.example/g00600/laws.FnWords", spec := "fnWords", apart := false, narrowed := true }
def FnWordsUptoSaid : Prop := fnWordsUptoRow.holds Try.pinned (OpenSpec.upto fnWordsSpec)

/-- 'laws.FnHist', WHERE WHAT IT READS IS OF BULK AT MOST 1048576: true; the input reads as it did. -/
def fnHistUptoRow : OpenClaim := { program := "ytffinfpnmohnaaa", sum := "7994e40c6fc8f43f49b1eba47cbdee5d6be4268c5672e05922570fa456324e21", func := "loop.example/g00600/laws.FnHist", spec := "fnHist", inPlace := ["internal/bytealg.IndexByteString", "internal/bytealg.IndexString"], named := ["internal/bytealg.MaxLen"], apart := false, narrowed := true }
def FnHistUptoSaid : Prop := fnHistUptoRow.holds Try.pinned (OpenSpec.upto fnHistSpec)

end Rows
end Go.Proofs.Ytffinfpnmohnaaa
