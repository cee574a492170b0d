/-
  No cell of these rows narrows 'for every input' (looked for: loops, veiled, ifaces, maps, wideKeys, modest, calm, conditions, laid).
  DERIVED. THE GIVEN ROWS OF THIS SEAT. 9 by the template 'for every input the law returns true; each argument reads behind the call as it read before'; 0 by the template 'total and deterministic' (their statements: YtdfpjchneofndaaTotals.lean).
  GIVEN WITH THE SEED: the statements are not yours to turn. If you find one false, say at which input.
  Laid BY PROGRAM, IN A SANDBOX (cutbox-rows.mjs): the forced cells as the released guide's own fill.sh prints them over the translation ec69fac578bed4ce… (all of the seat's roots in one cut). By AI agents, Wed Nov 11 2026. No macro, syntax, notation, axiom, sorry.
-/
import Derived.Test.YtdfpjchneofndaaChecked
import GoSem.Claim
import GoSem.ClaimJoined
import GoSem.ClaimMapViews
import Derived.JoinedTies
import Derived.KernelRfl
namespace Go.Proofs.Ytdfpjchneofndaa
/- THE CELL 'sum', in the pinned program and in every row, IS THE sha256 OF THE DUMP (.gsa) THAT YtdfpjchneofndaaProg.lean LOADS. Nothing in Lean hashes anything: it is a label: what it is worth is what the hold of that sum in a sandbox is worth. -/
noncomputable def Try.pinned : Pinned := { name := "ytdfpjchneofndaa", sum := "ec69fac578bed4cebf17c40b38067916c69a943965cc66ea49eb3bedaa6705e4", checked := Try.checked }
namespace Rows
def none {H : Type} : Left H := { results := [], args := [] }

/-- 'laws.FnExactTrialFair': WHATEVER THE INPUT: true; the input reads as it did. -/
def fnExactTrialFairSpec : ChangeSpec := { name := "fnExactTrialFair", fn := fun _ => fun
  | [d] => { results := [.lit (.bool true)], args := [d] }
  | _ => none }
def fnExactTrialFairRow : OpenClaim := { program := "ytdfpjchneofndaa", sum := "ec69fac578bed4cebf17c40b38067916c69a943965cc66ea49eb3bedaa6705e4", func := "loop.example/g00600/laws.FnExactTrialFair", spec := "fnExactTrialFair", apart := false }
def FnExactTrialFairSaid : Prop := fnExactTrialFairRow.holds Try.pinned (OpenSpec.ofChange fnExactTrialFairSpec)

/-- ITS FALSE NEIGHBOUR: 'it returns false'. Refute it at one input. -/
def fnExactTrialFairWrong : ChangeSpec := { name := "fnExactTrialFair", fn := fun _ => fun
  | [d] => { results := [.lit (.bool false)], args := [d] }
  | _ => none }
def FnExactTrialFairWrongFalsely : Prop := fnExactTrialFairRow.holds Try.pinned (OpenSpec.ofChange fnExactTrialFairWrong)

/-- 'laws.FnExactTrialNew': WHATEVER THE INPUT: true; the input reads as it did. -/
def fnExactTrialNewSpec : ChangeSpec := { name := "fnExactTrialNew", fn := fun _ => fun
  | [d1, d2, d3] => { results := [.lit (.bool true)], args := [d1, d2, d3] }
  | _ => none }
def fnExactTrialNewRow : OpenClaim := { program := "ytdfpjchneofndaa", sum := "ec69fac578bed4cebf17c40b38067916c69a943965cc66ea49eb3bedaa6705e4", func := "loop.example/g00600/laws.FnExactTrialNew", spec := "fnExactTrialNew", apart := false }
def FnExactTrialNewSaid : Prop := fnExactTrialNewRow.holds Try.pinned (OpenSpec.ofChange fnExactTrialNewSpec)

/-- ITS FALSE NEIGHBOUR: 'it returns false'. Refute it at one input. -/
def fnExactTrialNewWrong : ChangeSpec := { name := "fnExactTrialNew", fn := fun _ => fun
  | [d1, d2, d3] => { results := [.lit (.bool false)], args := [d1, d2, d3] }
  | _ => none }
def FnExactTrialNewWrongFalsely : Prop := fnExactTrialNewRow.holds Try.pinned (OpenSpec.ofChange fnExactTrialNewWrong)

/-- 'laws.FnExactHistOf': WHATEVER THE INPUT: true; the input reads as it did. -/
def fnExactHistOfSpec : ChangeSpec := { name := "fnExactHistOf", fn := fun _ => fun
  | [d] => { results := [.lit (.bool true)], args := [d] }
  | _ => none }
def fnExactHistOfRow : OpenClaim := { program := "ytdfpjchneofndaa", sum := "ec69fac578bed4cebf17c40b38067916c69a943965cc66ea49eb3bedaa6705e4", func := "loop.example/g00600/laws.FnExactHistOf", spec := "fnExactHistOf", apart := false }
def FnExactHistOfSaid : Prop := fnExactHistOfRow.holds Try.pinned (OpenSpec.ofChange fnExactHistOfSpec)

/-- ITS FALSE NEIGHBOUR: 'it returns false'. Refute it at one input. -/
def fnExactHistOfWrong : ChangeSpec := { name := "fnExactHistOf", fn := fun _ => fun
  | [d] => { results := [.lit (.bool false)], args := [d] }
  | _ => none }
def FnExactHistOfWrongFalsely : Prop := fnExactHistOfRow.holds Try.pinned (OpenSpec.ofChange fnExactHistOfWrong)

/-- 'laws.FnExactRingPut': WHATEVER THE INPUT: true; the input reads as it did. -/
def fnExactRingPutSpec : ChangeSpec := { name := "fnExactRingPut", fn := fun _ => fun
  | [d1, d2, d3] => { results := [.lit (.bool true)], args := [d1, d2, d3] }
  | _ => none }
def fnExactRingPutRow : OpenClaim := { program := "ytdfpjchneofndaa", sum := "ec69fac578bed4cebf17c40b38067916c69a943965cc66ea49eb3bedaa6705e4", func := "loop.example/g00600/laws.FnExactRingPut", spec := "fnExactRingPut", apart := false }
def FnExactRingPutSaid : Prop := fnExactRingPutRow.holds Try.pinned (OpenSpec.ofChange fnExactRingPutSpec)

/-- ITS FALSE NEIGHBOUR: 'it returns false'. Refute it at one input. -/
def fnExactRingPutWrong : ChangeSpec := { name := "fnExactRingPut", fn := fun _ => fun
  | [d1, d2, d3] => { results := [.lit (.bool false)], args := [d1, d2, d3] }
  | _ => none }
def FnExactRingPutWrongFalsely : Prop := fnExactRingPutRow.holds Try.pinned (OpenSpec.ofChange fnExactRingPutWrong)

/-- 'laws.FnWords': WHATEVER THE INPUT: true; the input reads as it did. -/
def fnWordsSpec : ChangeSpec := { name := "fnWords", fn := fun _ => fun
  | [d] => { results := [.lit (.bool true)], args := [d] }
  | _ => none }
def fnWordsRow : OpenClaim := { program := "ytdfpjchneofndaa", sum := "ec69fac578bed4cebf17c40b38067916c69a943965cc66ea49eb3bedaa6705e4", func := "loop.example/g00600/laws.FnWords", spec := "fnWords", apart := false }
def FnWordsSaid : Prop := fnWordsRow.holds Try.pinned (OpenSpec.ofChange fnWordsSpec)

/-- ITS FALSE NEIGHBOUR: 'it returns false'. Refute it at one input. -/
def fnWordsWrong : ChangeSpec := { name := "fnWords", fn := fun _ => fun
  | [d] => { results := [.lit (.bool false)], args := [d] }
  | _ => none }
def FnWordsWrongFalsely : Prop := fnWordsRow.holds Try.pinned (OpenSpec.ofChange fnWordsWrong)

/-- 'laws.FnHist': WHATEVER THE INPUT: true; the input reads as it did. -/
def fnHistSpec : ChangeSpec := { name := "fnHist", fn := fun _ => fun
  | [d] => { results := [.lit (.bool true)], args := [d] }
  | _ => none }
def fnHistRow : OpenClaim := { program := "ytdfpjchneofndaa", sum := "ec69fac578bed4cebf17c40b38067916c69a943965cc66ea49eb3bedaa6705e4", func := "loop.example/g00600/laws.FnHist", spec := "fnHist", inPlace := ["internal/bytealg.IndexByteString", "internal/bytealg.IndexString"], named := ["internal/bytealg.MaxLen"], apart := false }
def FnHistSaid : Prop := fnHistRow.holds Try.pinned (OpenSpec.ofChange fnHistSpec)

/-- ITS FALSE NEIGHBOUR: 'it returns false'. Refute it at one input. -/
def fnHistWrong : ChangeSpec := { name := "fnHist", fn := fun _ => fun
  | [d] => { results := [.lit (.bool false)], args := [d] }
  | _ => none }
def FnHistWrongFalsely : Prop := fnHistRow.holds Try.pinned (OpenSpec.ofChange fnHistWrong)

/-- 'laws.FnRing': WHATEVER THE INPUT: true; the input reads as it did. -/
def fnRingSpec : ChangeSpec := { name := "fnRing", fn := fun _ => fun
  | [d] => { results := [.lit (.bool true)], args := [d] }
  | _ => none }
def fnRingRow : OpenClaim := { program := "ytdfpjchneofndaa", sum := "ec69fac578bed4cebf17c40b38067916c69a943965cc66ea49eb3bedaa6705e4", func := "loop.example/g00600/laws.FnRing", spec := "fnRing", apart := false }
def FnRingSaid : Prop := fnRingRow.holds Try.pinned (OpenSpec.ofChange fnRingSpec)

/-- ITS FALSE NEIGHBOUR: 'it returns false'. Refute it at one input. -/
def fnRingWrong : ChangeSpec := { name := "fnRing", fn := fun _ => fun
  | [d] => { results := [.lit (.bool false)], args := [d] }
  | _ => none }
def FnRingWrongFalsely : Prop := fnRingRow.holds Try.pinned (OpenSpec.ofChange fnRingWrong)

/-- 'laws.FnUndo': WHATEVER THE INPUT: true; the input reads as it did. -/
def fnUndoSpec : ChangeSpec := { name := "fnUndo", fn := fun _ => fun
  | [d] => { results := [.lit (.bool true)], args := [d] }
  | _ => none }
def fnUndoRow : OpenClaim := { program := "ytdfpjchneofndaa", sum := "ec69fac578bed4cebf17c40b38067916c69a943965cc66ea49eb3bedaa6705e4", func := "loop.example/g00600/laws.FnUndo", spec := "fnUndo", apart := false }
def FnUndoSaid : Prop := fnUndoRow.holds Try.pinned (OpenSpec.ofChange fnUndoSpec)

/-- ITS FALSE NEIGHBOUR: 'it returns false'. Refute it at one input. -/
def fnUndoWrong : ChangeSpec := { name := "fnUndo", fn := fun _ => fun
  | [d] => { results := [.lit (.bool false)], args := [d] }
  | _ => none }
def FnUndoWrongFalsely : Prop := fnUndoRow.holds Try.pinned (OpenSpec.ofChange fnUndoWrong)

/-- 'laws.FnLine': WHATEVER THE INPUT: true; the input reads as it did. -/
def fnLineSpec : ChangeSpec := { name := "fnLine", fn := fun _ => fun
  | [d] => { results := [.lit (.bool true)], args := [d] }
  | _ => none }
def fnLineRow : OpenClaim := { program := "ytdfpjchneofndaa", sum := "ec69fac578bed4cebf17c40b38067916c69a943965cc66ea49eb3bedaa6705e4", func := "loop.example/g00600/laws.FnLine", spec := "fnLine", apart := false }
def FnLineSaid : Prop := fnLineRow.holds Try.pinned (OpenSpec.ofChange fnLineSpec)

/-- ITS FALSE NEIGHBOUR: 'it returns false'. Refute it at one input. -/
def fnLineWrong : ChangeSpec := { name := "fnLine", fn := fun _ => fun
  | [d] => { results := [.lit (.bool false)], args := [d] }
  | _ => none }
def FnLineWrongFalsely : Prop := fnLineRow.holds Try.pinned (OpenSpec.ofChange fnLineWrong)

/- THE SECOND FORM. 'bulk': how many values and letters a reading holds, each counted each time it is reached (what is shared counts as often as it is met; a slice's spare places count too). A statement '..UptoSaid' is the law's where the arguments, and the package variables that the reading takes, are together of bulk at most 1048576: NARROWER than '..Said'. Prove '..Said' where nothing that the law and all that it calls make is longer than what came in: it says more and counts as full. Else prove '..UptoSaid'. A law counts once. -/
mutual
def uptoBulk {H : Type} : DataW H → Nat
  | .lit (.string bytes) => bytes.length + 1
  | .lit _ => 1
  | .nil => 1
  | .ptr d => uptoBulk d + 1
  | .slice elems spare => uptoBulkAll elems + uptoBulkAll spare + 1
  | .agg parts => uptoBulkAll parts + 1
  | .iface _ d => uptoBulk d + 1
  | .map entries => uptoBulkEntries entries + 1
  | .held _ => 1
def uptoBulkAll {H : Type} : List (DataW H) → Nat
  | [] => 0
  | d :: r => uptoBulk d + uptoBulkAll r
def uptoBulkEntries {H : Type} : List (Lit × DataW H) → Nat
  | [] => 0
  | x :: r => uptoBulkEntry x + uptoBulkEntries r
def uptoBulkEntry {H : Type} : Lit × DataW H → Nat
  | (.string bytes, d) => bytes.length + uptoBulk d + 1
  | (_, d) => uptoBulk d + 1
 end
def uptoSmall : (H : Type) → List (DataW H) → Bool := fun _ ds => decide (uptoBulkAll ds ≤ 1048576)
def OpenSpec.upto (s : _root_.Go.ChangeSpec) : _root_.Go.OpenSpec := { _root_.Go.OpenSpec.ofChange s with cond := some uptoSmall }

/-- 'laws.FnExactTrialFair', WHERE WHAT IT READS IS OF BULK AT MOST 1048576: true; the input reads as it did. -/
def fnExactTrialFairUptoRow : OpenClaim := { program := "ytdfpjchneofndaa", sum := "ec69fac578bed4cebf17c40b38067916c69a943965cc66ea49eb3bedaa6705e4", func := "loop.example/g00600/laws.FnExactTrialFair", spec := "fnExactTrialFair", apart := false, narrowed := true }
def FnExactTrialFairUptoSaid : Prop := fnExactTrialFairUptoRow.holds Try.pinned (OpenSpec.upto fnExactTrialFairSpec)

/-- 'laws.FnExactTrialNew', WHERE WHAT IT READS IS OF BULK AT MOST 1048576: true; the input reads as it did. -/
def fnExactTrialNewUptoRow : OpenClaim := { program := "ytdfpjchneofndaa", sum := "ec69fac578bed4cebf17c40b38067916c69a943965cc66ea49eb3bedaa6705e4", func := "loop.example/g00600/laws.FnExactTrialNew", spec := "fnExactTrialNew", apart := false, narrowed := true }
def FnExactTrialNewUptoSaid : Prop := fnExactTrialNewUptoRow.holds Try.pinned (OpenSpec.upto fnExactTrialNewSpec)

/-- 'laws.FnExactHistOf', WHERE WHAT IT READS IS OF BULK AT MOST 1048576: true; the input reads as it did. -/
def fnExactHistOfUptoRow : OpenClaim := { program := "ytdfpjchneofndaa", sum := "ec69fac578bed4cebf17c40b38067916c69a943965cc66ea49eb3bedaa6705e4", func := "loop.example/g00600/laws.FnExactHistOf", spec := "fnExactHistOf", apart := false, narrowed := true }
def FnExactHistOfUptoSaid : Prop := fnExactHistOfUptoRow.holds Try.pinned (OpenSpec.upto fnExactHistOfSpec)

/-- 'laws.FnExactRingPut', WHERE WHAT IT READS IS OF BULK AT MOST 1048576: true; the input reads as it did. -/
def fnExactRingPutUptoRow : OpenClaim := { program := "ytdfpjchneofndaa", sum := "ec69fac578bed4cebf17c40b38067916c69a943965cc66ea49eb3bedaa6705e4", func := "loop.example/g00600/laws.FnExactRingPut", spec := "fnExactRingPut", apart := false, narrowed := true }
def FnExactRingPutUptoSaid : Prop := fnExactRingPutUptoRow.holds Try.pinned (OpenSpec.upto fnExactRingPutSpec)

/-- 'laws.FnWords', WHERE WHAT IT READS IS OF BULK AT MOST 1048576: true; the input reads as it did. -/
def fnWordsUptoRow : OpenClaim := { program := "ytdfpjchneofndaa", sum := "ec69fac578bed4cebf17c40b38067916c69a943965cc66ea49eb3bedaa6705e4", func := "loop.example/g00600/laws.FnWords", spec := "fnWords", apart := false, narrowed := true }
def FnWordsUptoSaid : Prop := fnWordsUptoRow.holds Try.pinned (OpenSpec.upto fnWordsSpec)

/-- 'laws.FnHist', WHERE WHAT IT READS IS OF BULK AT MOST 1048576: true; the input reads as it did. -/
def fnHistUptoRow : OpenClaim := { program := "ytdfpjchneofndaa", sum := "ec69fac578bed4cebf17c40b38067916c69a943965cc66ea49eb3bedaa6705e4", func := "loop.example/g00600/laws.FnHist", spec := "fnHist", inPlace := ["internal/bytealg.IndexByteString", "internal/bytealg.IndexString"], named := ["internal/bytealg.MaxLen"], apart := false, narrowed := true }
def FnHistUptoSaid : Prop := fnHistUptoRow.holds Try.pinned (OpenSpec.upto fnHistSpec)

/-- 'laws.FnRing', WHERE WHAT IT READS IS OF BULK AT MOST 1048576: true; the input reads as it did. -/
def fnRingUptoRow : OpenClaim := { program := "ytdfpjchneofndaa", sum := "ec69fac578bed4cebf17c40b38067916c69a943965cc66ea49eb3bedaa6705e4", func := "loop.example/g00600/laws.FnRing", spec := "fnRing", apart := false, narrowed := true }
def FnRingUptoSaid : Prop := fnRingUptoRow.holds Try.pinned (OpenSpec.upto fnRingSpec)

/-- 'laws.FnUndo', WHERE WHAT IT READS IS OF BULK AT MOST 1048576: true; the input reads as it did. -/
def fnUndoUptoRow : OpenClaim := { program := "ytdfpjchneofndaa", sum := "ec69fac578bed4cebf17c40b38067916c69a943965cc66ea49eb3bedaa6705e4", func := "loop.example/g00600/laws.FnUndo", spec := "fnUndo", apart := false, narrowed := true }
def FnUndoUptoSaid : Prop := fnUndoUptoRow.holds Try.pinned (OpenSpec.upto fnUndoSpec)

/-- 'laws.FnLine', WHERE WHAT IT READS IS OF BULK AT MOST 1048576: true; the input reads as it did. -/
def fnLineUptoRow : OpenClaim := { program := "ytdfpjchneofndaa", sum := "ec69fac578bed4cebf17c40b38067916c69a943965cc66ea49eb3bedaa6705e4", func := "loop.example/g00600/laws.FnLine", spec := "fnLine", apart := false, narrowed := true }
def FnLineUptoSaid : Prop := fnLineUptoRow.holds Try.pinned (OpenSpec.upto fnLineSpec)

end Rows
end Go.Proofs.Ytdfpjchneofndaa
