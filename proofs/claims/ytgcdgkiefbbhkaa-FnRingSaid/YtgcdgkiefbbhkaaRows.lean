/-
  No cell of these rows narrows 'for every input' (looked for: loops, veiled, ifaces, maps, wideKeys, modest, calm, conditions, laid).
  DERIVED. THE GIVEN ROWS OF THIS SEAT. 4 by the template 'for every input the law returns true; each argument reads behind the call as it read before'; 0 by the template 'total and deterministic' (their statements: YtgcdgkiefbbhkaaTotals.lean).
  GIVEN WITH THE SEED: the statements are not yours to turn. If you find one false, say at which input.
  Laid BY PROGRAM, IN A SANDBOX (cutbox-rows.mjs): the forced cells as the released guide's own fill.sh prints them over the translation 52d9e83b8d26710b… (all of the seat's roots in one cut). By AI agents, Wed Nov 11 2026. No macro, syntax, notation, axiom, sorry.
-/
import Derived.Test.YtgcdgkiefbbhkaaChecked
import GoSem.Claim
import GoSem.ClaimJoined
import GoSem.ClaimMapViews
import Derived.JoinedTies
import Derived.KernelRfl
namespace Go.Proofs.Ytgcdgkiefbbhkaa
/- THE CELL 'sum', in the pinned program and in every row, IS THE sha256 OF THE DUMP (.gsa) THAT YtgcdgkiefbbhkaaProg.lean LOADS. Nothing in Lean hashes anything: it is a label: what it is worth is what the hold of that sum in a sandbox is worth. -/
noncomputable def Try.pinned : Pinned := { name := "ytgcdgkiefbbhkaa", sum := "52d9e83b8d26710b59b4c13d54fd6a54fbbf7af47e437e95cbe7811a1f4af6bb", checked := Try.checked }
namespace Rows
def none {H : Type} : Left H := { results := [], args := [] }

/-- 'laws.FnExactTrialFair': WHATEVER THE INPUT: true; the input reads as it did. -/
def fnExactTrialFairSpec : ChangeSpec := { name := "fnExactTrialFair", fn := fun _ => fun
  | [d] => { results := [.lit (.bool true)], args := [d] }
  | _ => none }
def fnExactTrialFairRow : OpenClaim := { program := "ytgcdgkiefbbhkaa", sum := "52d9e83b8d26710b59b4c13d54fd6a54fbbf7af47e437e95cbe7811a1f4af6bb", func := "loop.example/g00600/laws.FnExactTrialFair", spec := "fnExactTrialFair", apart := false }
def FnExactTrialFairSaid : Prop := fnExactTrialFairRow.holds Try.pinned (OpenSpec.ofChange fnExactTrialFairSpec)

/-- ITS FALSE NEIGHBOUR: 'it returns false'. Refute it at one input. -/
def fnExactTrialFairWrong : ChangeSpec := { name := "fnExactTrialFair", fn := fun _ => fun
  | [d] => { results := [.lit (.bool false)], args := [d] }
  | _ => none }
def FnExactTrialFairWrongFalsely : Prop := fnExactTrialFairRow.holds Try.pinned (OpenSpec.ofChange fnExactTrialFairWrong)

/-- 'laws.FnExactTrialNew': WHATEVER THE INPUT: true; the input reads as it did. -/
def fnExactTrialNewSpec : ChangeSpec := { name := "fnExactTrialNew", fn := fun _ => fun
  | [d1, d2, d3] => { results := [.lit (.bool true)], args := [d1, d2, d3] }
  | _ => none }
def fnExactTrialNewRow : OpenClaim := { program := "ytgcdgkiefbbhkaa", sum := "52d9e83b8d26710b59b4c13d54fd6a54fbbf7af47e437e95cbe7811a1f4af6bb", func := "loop.example/g00600/laws.FnExactTrialNew", spec := "fnExactTrialNew", apart := false }
def FnExactTrialNewSaid : Prop := fnExactTrialNewRow.holds Try.pinned (OpenSpec.ofChange fnExactTrialNewSpec)

/-- ITS FALSE NEIGHBOUR: 'it returns false'. Refute it at one input. -/
def fnExactTrialNewWrong : ChangeSpec := { name := "fnExactTrialNew", fn := fun _ => fun
  | [d1, d2, d3] => { results := [.lit (.bool false)], args := [d1, d2, d3] }
  | _ => none }
def FnExactTrialNewWrongFalsely : Prop := fnExactTrialNewRow.holds Try.pinned (OpenSpec.ofChange fnExactTrialNewWrong)

/-- 'laws.FnExactRingPut': WHATEVER THE INPUT: true; the input reads as it did. -/
def fnExactRingPutSpec : ChangeSpec := { name := "fnExactRingPut", fn := fun _ => fun
  | [d1, d2, d3] => { results := [.lit (.bool true)], args := [d1, d2, d3] }
  | _ => none }
def fnExactRingPutRow : OpenClaim := { program := "ytgcdgkiefbbhkaa", sum := "52d9e83b8d26710b59b4c13d54fd6a54fbbf7af47e437e95cbe7811a1f4af6bb", func := "loop.example/g00600/laws.FnExactRingPut", spec := "fnExactRingPut", apart := false }
def FnExactRingPutSaid : Prop := fnExactRingPutRow.holds Try.pinned (OpenSpec.ofChange fnExactRingPutSpec)

/-- ITS FALSE NEIGHBOUR: 'it returns false'. Refute it at one input. -/
def fnExactRingPutWrong : ChangeSpec := { name := "fnExactRingPut", fn := fun _ => fun
  | [d1, d2, d3] => { results := [.lit (.bool false)], args := [d1, d2, d3] }
  | _ => none }
def FnExactRingPutWrongFalsely : Prop := fnExactRingPutRow.holds Try.pinned (OpenSpec.ofChange fnExactRingPutWrong)

/-- 'laws.FnRing': WHATEVER THE INPUT: true; the input reads as it did. -/
def fnRingSpec : ChangeSpec := { name := "fnRing", fn := fun _ => fun
  | [d] => { results := [.lit (.bool true)], args := [d] }
  | _ => none }
def fnRingRow : OpenClaim := { program := "ytgcdgkiefbbhkaa", sum := "52d9e83b8d26710b59b4c13d54fd6a54fbbf7af47e437e95cbe7811a1f4af6bb", func := "loop.example/g00600/laws.FnRing", spec := "fnRing", apart := false }
def FnRingSaid : Prop := fnRingRow.holds Try.pinned (OpenSpec.ofChange fnRingSpec)

/-- ITS FALSE NEIGHBOUR: 'it returns false'. Refute it at one input. -/
def fnRingWrong : ChangeSpec := { name := "fnRing", fn := fun _ => fun
  | [d] => { results := [.lit (.bool false)], args := [d] }
  | _ => none }
def FnRingWrongFalsely : Prop := fnRingRow.holds Try.pinned (OpenSpec.ofChange fnRingWrong)

/- THE SECOND FORM. 'bulk': how many values and letters a reading holds, each counted each time it is reached (what is shared counts as often as it is met; a slice's spare places count too). A statement '..UptoSaid' is the law's where the arguments, and the package variables that the reading takes, are together of bulk at most 1048576: NARROWER than '..Said'. Prove '..Said' where nothing that the law and all that it calls make is longer than what came in: it says more and counts as full. Else prove '..UptoSaid'. A law counts once. -/
mutual
def uptoBulk {H : Type} : DataW H → Nat
  | .lit (.string bytes) => bytes.length + 1
  | .lit _ => 1
  | .nil => 1
  | .ptr d => uptoBulk d + 1
  | .slice elems spare => uptoBulkAll elems + uptoBulkAll spare + 1
  | .agg parts => uptoBulkAll parts + 1
  | .iface _ d => uptoBulk d + 1
  | .map entries => uptoBulkEntries entries + 1
  | .held _ => 1
def uptoBulkAll {H : Type} : List (DataW H) → Nat
  | [] => 0
  | d :: r => uptoBulk d + uptoBulkAll r
def uptoBulkEntries {H : Type} : List (Lit × DataW H) → Nat
  | [] => 0
  | x :: r => uptoBulkEntry x + uptoBulkEntries r
def uptoBulkEntry {H : Type} : Lit × DataW H → Nat
  | (.string bytes, d) => bytes.length + uptoBulk d + 1
  | (_, d) => uptoBulk d + 1
 end
def uptoSmall : (H : Type) → List (DataW H) → Bool := fun _ ds => decide (uptoBulkAll ds ≤ 1048576)
def OpenSpec.upto (s : _root_.Go.ChangeSpec) : _root_.Go.OpenSpec := { _root_.Go.OpenSpec.ofChange s with cond := some uptoSmall }

/-- 'laws.FnExactTrialFair', WHERE WHAT IT READS IS OF BULK AT MOST 1048576: true; the input reads as it did. -/
def fnExactTrialFairUptoRow : OpenClaim := { program := "ytgcdgkiefbbhkaa", sum := "52d9e83b8d26710b59b4c13d54fd6a54fbbf7af47e437e95cbe7811a1f4af6bb", func := "loop.example/g00600/laws.FnExactTrialFair", spec := "fnExactTrialFair", apart := false, narrowed := true }
def FnExactTrialFairUptoSaid : Prop := fnExactTrialFairUptoRow.holds Try.pinned (OpenSpec.upto fnExactTrialFairSpec)

/-- 'laws.FnExactTrialNew', WHERE WHAT IT READS IS OF BULK AT MOST 1048576: true; the input reads as it did. -/
def fnExactTrialNewUptoRow : OpenClaim := { program := "ytgcdgkiefbbhkaa", sum := "52d9e83b8d26710b59b4c13d54fd6a54fbbf7af47e437e95cbe7811a1f4af6bb", func := "loop.example/g00600/laws.FnExactTrialNew", spec := "fnExactTrialNew", apart := false, narrowed := true }
def FnExactTrialNewUptoSaid : Prop := fnExactTrialNewUptoRow.holds Try.pinned (OpenSpec.upto fnExactTrialNewSpec)

/-- 'laws.FnExactRingPut', WHERE WHAT IT READS IS OF BULK AT MOST 1048576: true; the input reads as it did. -/
def fnExactRingPutUptoRow : OpenClaim := { program := "ytgcdgkiefbbhkaa", sum := "52d9e83b8d26710b59b4c13d54fd6a54fbbf7af47e437e95cbe7811a1f4af6bb", func := "loop.example/g00600/laws.FnExactRingPut", spec := "fnExactRingPut", apart := false, narrowed := true }
def FnExactRingPutUptoSaid : Prop := fnExactRingPutUptoRow.holds Try.pinned (OpenSpec.upto fnExactRingPutSpec)

/-- 'laws.FnRing', WHERE WHAT IT READS IS OF BULK AT MOST 1048576: true; the input reads as it did. -/
def fnRingUptoRow : OpenClaim := { program := "ytgcdgkiefbbhkaa", sum := "52d9e83b8d26710b59b4c13d54fd6a54fbbf7af47e437e95cbe7811a1f4af6bb", func := "loop.example/g00600/laws.FnRing", spec := "fnRing", apart := false, narrowed := true }
def FnRingUptoSaid : Prop := fnRingUptoRow.holds Try.pinned (OpenSpec.upto fnRingSpec)

end Rows
end Go.Proofs.Ytgcdgkiefbbhkaa
