/-
  No cell of these rows narrows 'for every input' (looked for: loops, veiled, ifaces, maps, wideKeys, modest, calm, conditions, laid).
  DERIVED. THE GIVEN ROWS OF THIS SEAT. 6 by the template 'for every input the law returns true; each argument reads behind the call as it read before'; 0 by the template 'total and deterministic' (their statements: YtcgpgdndnfoabaaTotals.lean).
  GIVEN WITH THE SEED: the statements are not yours to turn. If you find one false, say at which input.
  Laid BY PROGRAM, IN A SANDBOX (cutbox-rows.mjs): the forced cells as the released guide's own fill.sh prints them over the translation e5689210fc9e9227… (all of the seat's roots in one cut). By AI agents, Wed Nov 11 2026. No macro, syntax, notation, axiom, sorry.
-/
import Derived.Test.YtcgpgdndnfoabaaChecked
import GoSem.Claim
import GoSem.ClaimJoined
import GoSem.ClaimMapViews
import Derived.JoinedTies
import Derived.KernelRfl
namespace Go.Proofs.Ytcgpgdndnfoabaa
/- THE CELL 'sum', in the pinned program and in every row, IS THE sha256 OF THE DUMP (.gsa) THAT YtcgpgdndnfoabaaProg.lean LOADS. Nothing in Lean hashes anything: it is a label: what it is worth is what the hold of that sum in a sandbox is worth. -/
noncomputable def Try.pinned : Pinned := { name := "ytcgpgdndnfoabaa", sum := "e5689210fc9e9227c8ba7bf24c7a7db73ef73ac212d985cb9ff11fb86764b172", checked := Try.checked }
namespace Rows
def none {H : Type} : Left H := { results := [], args := [] }

/-- 'laws.FnExactGridGo': WHATEVER THE INPUT: true; the input reads as it did. -/
def fnExactGridGoSpec : ChangeSpec := { name := "fnExactGridGo", fn := fun _ => fun
  | [d1, d2, d3] => { results := [.lit (.bool true)], args := [d1, d2, d3] }
  | _ => none }
def fnExactGridGoRow : OpenClaim := { program := "ytcgpgdndnfoabaa", sum := "e5689210fc9e9227c8ba7bf24c7a7db73ef73ac212d985cb9ff11fb86764b172", func := "loop.example/g00600/laws.FnExactGridGo", spec := "fnExactGridGo", apart := false }
def FnExactGridGoSaid : Prop := fnExactGridGoRow.holds Try.pinned (OpenSpec.ofChange fnExactGridGoSpec)

/-- ITS FALSE NEIGHBOUR: 'it returns false'. Refute it at one input. -/
def fnExactGridGoWrong : ChangeSpec := { name := "fnExactGridGo", fn := fun _ => fun
  | [d1, d2, d3] => { results := [.lit (.bool false)], args := [d1, d2, d3] }
  | _ => none }
def FnExactGridGoWrongFalsely : Prop := fnExactGridGoRow.holds Try.pinned (OpenSpec.ofChange fnExactGridGoWrong)

/-- 'laws.FnExactGridClear': WHATEVER THE INPUT: true; the input reads as it did. -/
def fnExactGridClearSpec : ChangeSpec := { name := "fnExactGridClear", fn := fun _ => fun
  | [d1, d2, d3] => { results := [.lit (.bool true)], args := [d1, d2, d3] }
  | _ => none }
def fnExactGridClearRow : OpenClaim := { program := "ytcgpgdndnfoabaa", sum := "e5689210fc9e9227c8ba7bf24c7a7db73ef73ac212d985cb9ff11fb86764b172", func := "loop.example/g00600/laws.FnExactGridClear", spec := "fnExactGridClear", apart := false }
def FnExactGridClearSaid : Prop := fnExactGridClearRow.holds Try.pinned (OpenSpec.ofChange fnExactGridClearSpec)

/-- ITS FALSE NEIGHBOUR: 'it returns false'. Refute it at one input. -/
def fnExactGridClearWrong : ChangeSpec := { name := "fnExactGridClear", fn := fun _ => fun
  | [d1, d2, d3] => { results := [.lit (.bool false)], args := [d1, d2, d3] }
  | _ => none }
def FnExactGridClearWrongFalsely : Prop := fnExactGridClearRow.holds Try.pinned (OpenSpec.ofChange fnExactGridClearWrong)

/-- 'laws.FnExactVtOk': WHATEVER THE INPUT: true; the input reads as it did. -/
def fnExactVtOkSpec : ChangeSpec := { name := "fnExactVtOk", fn := fun _ => fun
  | [d] => { results := [.lit (.bool true)], args := [d] }
  | _ => none }
def fnExactVtOkRow : OpenClaim := { program := "ytcgpgdndnfoabaa", sum := "e5689210fc9e9227c8ba7bf24c7a7db73ef73ac212d985cb9ff11fb86764b172", func := "loop.example/g00600/laws.FnExactVtOk", spec := "fnExactVtOk", apart := false }
def FnExactVtOkSaid : Prop := fnExactVtOkRow.holds Try.pinned (OpenSpec.ofChange fnExactVtOkSpec)

/-- ITS FALSE NEIGHBOUR: 'it returns false'. Refute it at one input. -/
def fnExactVtOkWrong : ChangeSpec := { name := "fnExactVtOk", fn := fun _ => fun
  | [d] => { results := [.lit (.bool false)], args := [d] }
  | _ => none }
def FnExactVtOkWrongFalsely : Prop := fnExactVtOkRow.holds Try.pinned (OpenSpec.ofChange fnExactVtOkWrong)

/-- 'laws.FnExactVtSize': WHATEVER THE INPUT: true; the input reads as it did. -/
def fnExactVtSizeSpec : ChangeSpec := { name := "fnExactVtSize", fn := fun _ => fun
  | [d1, d2, d3] => { results := [.lit (.bool true)], args := [d1, d2, d3] }
  | _ => none }
def fnExactVtSizeRow : OpenClaim := { program := "ytcgpgdndnfoabaa", sum := "e5689210fc9e9227c8ba7bf24c7a7db73ef73ac212d985cb9ff11fb86764b172", func := "loop.example/g00600/laws.FnExactVtSize", spec := "fnExactVtSize", apart := false }
def FnExactVtSizeSaid : Prop := fnExactVtSizeRow.holds Try.pinned (OpenSpec.ofChange fnExactVtSizeSpec)

/-- ITS FALSE NEIGHBOUR: 'it returns false'. Refute it at one input. -/
def fnExactVtSizeWrong : ChangeSpec := { name := "fnExactVtSize", fn := fun _ => fun
  | [d1, d2, d3] => { results := [.lit (.bool false)], args := [d1, d2, d3] }
  | _ => none }
def FnExactVtSizeWrongFalsely : Prop := fnExactVtSizeRow.holds Try.pinned (OpenSpec.ofChange fnExactVtSizeWrong)

/-- 'laws.FnExactTrialNew': WHATEVER THE INPUT: true; the input reads as it did. -/
def fnExactTrialNewSpec : ChangeSpec := { name := "fnExactTrialNew", fn := fun _ => fun
  | [d1, d2, d3] => { results := [.lit (.bool true)], args := [d1, d2, d3] }
  | _ => none }
def fnExactTrialNewRow : OpenClaim := { program := "ytcgpgdndnfoabaa", sum := "e5689210fc9e9227c8ba7bf24c7a7db73ef73ac212d985cb9ff11fb86764b172", func := "loop.example/g00600/laws.FnExactTrialNew", spec := "fnExactTrialNew", apart := false }
def FnExactTrialNewSaid : Prop := fnExactTrialNewRow.holds Try.pinned (OpenSpec.ofChange fnExactTrialNewSpec)

/-- ITS FALSE NEIGHBOUR: 'it returns false'. Refute it at one input. -/
def fnExactTrialNewWrong : ChangeSpec := { name := "fnExactTrialNew", fn := fun _ => fun
  | [d1, d2, d3] => { results := [.lit (.bool false)], args := [d1, d2, d3] }
  | _ => none }
def FnExactTrialNewWrongFalsely : Prop := fnExactTrialNewRow.holds Try.pinned (OpenSpec.ofChange fnExactTrialNewWrong)

/-- 'laws.FnExactTrialFair': WHATEVER THE INPUT: true; the input reads as it did. -/
def fnExactTrialFairSpec : ChangeSpec := { name := "fnExactTrialFair", fn := fun _ => fun
  | [d] => { results := [.lit (.bool true)], args := [d] }
  | _ => none }
def fnExactTrialFairRow : OpenClaim := { program := "ytcgpgdndnfoabaa", sum := "e5689210fc9e9227c8ba7bf24c7a7db73ef73ac212d985cb9ff11fb86764b172", func := "loop.example/g00600/laws.FnExactTrialFair", spec := "fnExactTrialFair", apart := false }
def FnExactTrialFairSaid : Prop := fnExactTrialFairRow.holds Try.pinned (OpenSpec.ofChange fnExactTrialFairSpec)

/-- ITS FALSE NEIGHBOUR: 'it returns false'. Refute it at one input. -/
def fnExactTrialFairWrong : ChangeSpec := { name := "fnExactTrialFair", fn := fun _ => fun
  | [d] => { results := [.lit (.bool false)], args := [d] }
  | _ => none }
def FnExactTrialFairWrongFalsely : Prop := fnExactTrialFairRow.holds Try.pinned (OpenSpec.ofChange fnExactTrialFairWrong)

/- THE SECOND FORM. 'bulk': how many values and letters a reading holds, each counted each time it is reached (what is shared counts as often as it is met; a slice's spare places count too). A statement '..UptoSaid' is the law's where the arguments, and the package variables that the reading takes, are together of bulk at most 1048576: NARROWER than '..Said'. Prove '..Said' where nothing that the law and all that it calls make is longer than what came in: it says more and counts as full. Else prove '..UptoSaid'. A law counts once. -/
mutual
def uptoBulk {H : Type} : DataW H → Nat
  | .lit (.string bytes) => bytes.length + 1
  | .lit _ => 1
  | .nil => 1
  | .ptr d => uptoBulk d + 1
  | .slice elems spare => uptoBulkAll elems + uptoBulkAll spare + 1
  | .agg parts => uptoBulkAll parts + 1
  | .iface _ d => uptoBulk d + 1
  | .map entries => uptoBulkEntries entries + 1
  | .held _ => 1
def uptoBulkAll {H : Type} : List (DataW H) → Nat
  | [] => 0
  | d :: r => uptoBulk d + uptoBulkAll r
def uptoBulkEntries {H : Type} : List (Lit × DataW H) → Nat
  | [] => 0
  | x :: r => uptoBulkEntry x + uptoBulkEntries r
def uptoBulkEntry {H : Type} : Lit × DataW H → Nat
  | (.string bytes, d) => bytes.length + uptoBulk d + 1
  | (_, d) => uptoBulk d + 1
 end
def uptoSmall : (H : Type) → List (DataW H) → Bool := fun _ ds => decide (uptoBulkAll ds ≤ 1048576)
def OpenSpec.upto (s : _root_.Go.ChangeSpec) : _root_.Go.OpenSpec := { _root_.Go.OpenSpec.ofChange s with cond := some uptoSmall }

/-- 'laws.FnExactGridGo', WHERE WHAT IT READS IS OF BULK AT MOST 1048576: true; the input reads as it did. -/
def fnExactGridGoUptoRow : OpenClaim := { program := "ytcgpgdndnfoabaa", sum := "e5689210fc9e9227c8ba7bf24c7a7db73ef73ac212d985cb9ff11fb86764b172", func := "loop.example/g00600/laws.FnExactGridGo", spec := "fnExactGridGo", apart := false, narrowed := true }
def FnExactGridGoUptoSaid : Prop := fnExactGridGoUptoRow.holds Try.pinned (OpenSpec.upto fnExactGridGoSpec)

/-- 'laws.FnExactGridClear', WHERE WHAT IT READS IS OF BULK AT MOST 1048576: true; the input reads as it did. -/
def fnExactGridClearUptoRow : OpenClaim := { program := "ytcgpgdndnfoabaa", sum := "e5689210fc9e9227c8ba7bf24c7a7db73ef73ac212d985cb9ff11fb86764b172", func := "loop.example/g00600/laws.FnExactGridClear", spec := "fnExactGridClear", apart := false, narrowed := true }
def FnExactGridClearUptoSaid : Prop := fnExactGridClearUptoRow.holds Try.pinned (OpenSpec.upto fnExactGridClearSpec)

/-- 'laws.FnExactVtOk', WHERE WHAT IT READS IS OF BULK AT MOST 1048576: true; the input reads as it did. -/
def fnExactVtOkUptoRow : OpenClaim := { program := "ytcgpgdndnfoabaa", sum := "e5689210fc9e9227c8ba7bf24c7a7db73ef73ac212d985cb9ff11fb86764b172", func := "loop.example/g00600/laws.FnExactVtOk", spec := "fnExactVtOk", apart := false, narrowed := true }
def FnExactVtOkUptoSaid : Prop := fnExactVtOkUptoRow.holds Try.pinned (OpenSpec.upto fnExactVtOkSpec)

/-- 'laws.FnExactVtSize', WHERE WHAT IT READS IS OF BULK AT MOST 1048576: true; the input reads as it did. -/
def fnExactVtSizeUptoRow : OpenClaim := { program := "ytcgpgdndnfoabaa", sum := "e5689210fc9e9227c8ba7bf24c7a7db73ef73ac212d985cb9ff11fb86764b172", func := "loop.example/g00600/laws.FnExactVtSize", spec := "fnExactVtSize", apart := false, narrowed := true }
def FnExactVtSizeUptoSaid : Prop := fnExactVtSizeUptoRow.holds Try.pinned (OpenSpec.upto fnExactVtSizeSpec)

/-- 'laws.FnExactTrialNew', WHERE WHAT IT READS IS OF BULK AT MOST 1048576: true; the input reads as it did. -/
def fnExactTrialNewUptoRow : OpenClaim := { program := "ytcgpgdndnfoabaa", sum := "e5689210fc9e9227c8ba7bf24c7a7db73ef73ac212d985cb9ff11fb86764b172", func := "loop.example/g00600/laws.FnExactTrialNew", spec := "fnExactTrialNew", apart := false, narrowed := true }
def FnExactTrialNewUptoSaid : Prop := fnExactTrialNewUptoRow.holds Try.pinned (OpenSpec.upto fnExactTrialNewSpec)

/-- 'laws.FnExactTrialFair', WHERE WHAT IT READS IS OF BULK AT MOST 1048576: true; the input reads as it did. -/
def fnExactTrialFairUptoRow : OpenClaim := { program := "ytcgpgdndnfoabaa", sum := "e5689210fc9e9227c8ba7bf24c7a7db73ef73ac212d985cb9ff11fb86764b172", func := "loop.example/g00600/laws.FnExactTrialFair", spec := "fnExactTrialFair", apart := false, narrowed := true }
def FnExactTrialFairUptoSaid : Prop := fnExactTrialFairUptoRow.holds Try.pinned (OpenSpec.upto fnExactTrialFairSpec)

end Rows
end Go.Proofs.Ytcgpgdndnfoabaa
