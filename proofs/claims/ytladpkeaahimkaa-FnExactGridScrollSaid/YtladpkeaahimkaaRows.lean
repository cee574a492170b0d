/-
  No cell of these rows narrows 'for every input' (looked for: loops, veiled, ifaces, maps, wideKeys, modest, calm, conditions, laid).
  DERIVED. THE GIVEN ROWS OF THIS SEAT. 9 by the template 'for every input the law returns true; each argument reads behind the call as it read before'; 0 by the template 'total and deterministic' (their statements: YtladpkeaahimkaaTotals.lean).
  GIVEN WITH THE SEED: the statements are not yours to turn. If you find one false, say at which input.
  Laid BY PROGRAM, IN A SANDBOX (cutbox-rows.mjs): the forced cells as the released guide's own fill.sh prints them over the translation 1a3857b7d582ef7e… (all of the seat's roots in one cut). By AI agents, Wed Nov 11 2026. No macro, syntax, notation, axiom, sorry.
-/
import Derived.Test.YtladpkeaahimkaaChecked
import GoSem.Claim
import GoSem.ClaimJoined
import GoSem.ClaimMapViews
import Derived.JoinedTies
import Derived.KernelRfl
namespace Go.Proofs.Ytladpkeaahimkaa
/- THE CELL 'sum', in the pinned program and in every row, IS THE sha256 OF THE DUMP (.gsa) THAT YtladpkeaahimkaaProg.lean LOADS. Nothing in Lean hashes anything: it is a label: what it is worth is what the hold of that sum in a sandbox is worth. -/
noncomputable def Try.pinned : Pinned := { name := "ytladpkeaahimkaa", sum := "1a3857b7d582ef7e1ba25d8ecbfded937467874ff54598e0c6ffe78d38d7ff77", checked := Try.checked }
namespace Rows
def none {H : Type} : Left H := { results := [], args := [] }

/-- 'laws.FnExactLineSwap': WHATEVER THE INPUT: true; the input reads as it did. -/
def fnExactLineSwapSpec : ChangeSpec := { name := "fnExactLineSwap", fn := fun _ => fun
  | [d] => { results := [.lit (.bool true)], args := [d] }
  | _ => none }
def fnExactLineSwapRow : OpenClaim := { program := "ytladpkeaahimkaa", sum := "1a3857b7d582ef7e1ba25d8ecbfded937467874ff54598e0c6ffe78d38d7ff77", func := "loop.example/g00600/laws.FnExactLineSwap", spec := "fnExactLineSwap", apart := false }
def FnExactLineSwapSaid : Prop := fnExactLineSwapRow.holds Try.pinned (OpenSpec.ofChange fnExactLineSwapSpec)

/-- ITS FALSE NEIGHBOUR: 'it returns false'. Refute it at one input. -/
def fnExactLineSwapWrong : ChangeSpec := { name := "fnExactLineSwap", fn := fun _ => fun
  | [d] => { results := [.lit (.bool false)], args := [d] }
  | _ => none }
def FnExactLineSwapWrongFalsely : Prop := fnExactLineSwapRow.holds Try.pinned (OpenSpec.ofChange fnExactLineSwapWrong)

/-- 'laws.FnExactLineCut': WHATEVER THE INPUT: true; the input reads as it did. -/
def fnExactLineCutSpec : ChangeSpec := { name := "fnExactLineCut", fn := fun _ => fun
  | [d1, d2, d3] => { results := [.lit (.bool true)], args := [d1, d2, d3] }
  | _ => none }
def fnExactLineCutRow : OpenClaim := { program := "ytladpkeaahimkaa", sum := "1a3857b7d582ef7e1ba25d8ecbfded937467874ff54598e0c6ffe78d38d7ff77", func := "loop.example/g00600/laws.FnExactLineCut", spec := "fnExactLineCut", apart := false }
def FnExactLineCutSaid : Prop := fnExactLineCutRow.holds Try.pinned (OpenSpec.ofChange fnExactLineCutSpec)

/-- ITS FALSE NEIGHBOUR: 'it returns false'. Refute it at one input. -/
def fnExactLineCutWrong : ChangeSpec := { name := "fnExactLineCut", fn := fun _ => fun
  | [d1, d2, d3] => { results := [.lit (.bool false)], args := [d1, d2, d3] }
  | _ => none }
def FnExactLineCutWrongFalsely : Prop := fnExactLineCutRow.holds Try.pinned (OpenSpec.ofChange fnExactLineCutWrong)

/-- 'laws.FnExactLineCase': WHATEVER THE INPUT: true; the input reads as it did. -/
def fnExactLineCaseSpec : ChangeSpec := { name := "fnExactLineCase", fn := fun _ => fun
  | [d1, d2, d3, d4] => { results := [.lit (.bool true)], args := [d1, d2, d3, d4] }
  | _ => none }
def fnExactLineCaseRow : OpenClaim := { program := "ytladpkeaahimkaa", sum := "1a3857b7d582ef7e1ba25d8ecbfded937467874ff54598e0c6ffe78d38d7ff77", func := "loop.example/g00600/laws.FnExactLineCase", spec := "fnExactLineCase", apart := false }
def FnExactLineCaseSaid : Prop := fnExactLineCaseRow.holds Try.pinned (OpenSpec.ofChange fnExactLineCaseSpec)

/-- ITS FALSE NEIGHBOUR: 'it returns false'. Refute it at one input. -/
def fnExactLineCaseWrong : ChangeSpec := { name := "fnExactLineCase", fn := fun _ => fun
  | [d1, d2, d3, d4] => { results := [.lit (.bool false)], args := [d1, d2, d3, d4] }
  | _ => none }
def FnExactLineCaseWrongFalsely : Prop := fnExactLineCaseRow.holds Try.pinned (OpenSpec.ofChange fnExactLineCaseWrong)

/-- 'laws.FnExactLineOf': WHATEVER THE INPUT: true; the input reads as it did. -/
def fnExactLineOfSpec : ChangeSpec := { name := "fnExactLineOf", fn := fun _ => fun
  | [d] => { results := [.lit (.bool true)], args := [d] }
  | _ => none }
def fnExactLineOfRow : OpenClaim := { program := "ytladpkeaahimkaa", sum := "1a3857b7d582ef7e1ba25d8ecbfded937467874ff54598e0c6ffe78d38d7ff77", func := "loop.example/g00600/laws.FnExactLineOf", spec := "fnExactLineOf", apart := false }
def FnExactLineOfSaid : Prop := fnExactLineOfRow.holds Try.pinned (OpenSpec.ofChange fnExactLineOfSpec)

/-- ITS FALSE NEIGHBOUR: 'it returns false'. Refute it at one input. -/
def fnExactLineOfWrong : ChangeSpec := { name := "fnExactLineOf", fn := fun _ => fun
  | [d] => { results := [.lit (.bool false)], args := [d] }
  | _ => none }
def FnExactLineOfWrongFalsely : Prop := fnExactLineOfRow.holds Try.pinned (OpenSpec.ofChange fnExactLineOfWrong)

/-- 'laws.FnExactLinePut': WHATEVER THE INPUT: true; the input reads as it did. -/
def fnExactLinePutSpec : ChangeSpec := { name := "fnExactLinePut", fn := fun _ => fun
  | [d1, d2] => { results := [.lit (.bool true)], args := [d1, d2] }
  | _ => none }
def fnExactLinePutRow : OpenClaim := { program := "ytladpkeaahimkaa", sum := "1a3857b7d582ef7e1ba25d8ecbfded937467874ff54598e0c6ffe78d38d7ff77", func := "loop.example/g00600/laws.FnExactLinePut", spec := "fnExactLinePut", apart := false }
def FnExactLinePutSaid : Prop := fnExactLinePutRow.holds Try.pinned (OpenSpec.ofChange fnExactLinePutSpec)

/-- ITS FALSE NEIGHBOUR: 'it returns false'. Refute it at one input. -/
def fnExactLinePutWrong : ChangeSpec := { name := "fnExactLinePut", fn := fun _ => fun
  | [d1, d2] => { results := [.lit (.bool false)], args := [d1, d2] }
  | _ => none }
def FnExactLinePutWrongFalsely : Prop := fnExactLinePutRow.holds Try.pinned (OpenSpec.ofChange fnExactLinePutWrong)

/-- 'laws.FnExactHistAdd': WHATEVER THE INPUT: true; the input reads as it did. -/
def fnExactHistAddSpec : ChangeSpec := { name := "fnExactHistAdd", fn := fun _ => fun
  | [d1, d2] => { results := [.lit (.bool true)], args := [d1, d2] }
  | _ => none }
def fnExactHistAddRow : OpenClaim := { program := "ytladpkeaahimkaa", sum := "1a3857b7d582ef7e1ba25d8ecbfded937467874ff54598e0c6ffe78d38d7ff77", func := "loop.example/g00600/laws.FnExactHistAdd", spec := "fnExactHistAdd", apart := false }
def FnExactHistAddSaid : Prop := fnExactHistAddRow.holds Try.pinned (OpenSpec.ofChange fnExactHistAddSpec)

/-- ITS FALSE NEIGHBOUR: 'it returns false'. Refute it at one input. -/
def fnExactHistAddWrong : ChangeSpec := { name := "fnExactHistAdd", fn := fun _ => fun
  | [d1, d2] => { results := [.lit (.bool false)], args := [d1, d2] }
  | _ => none }
def FnExactHistAddWrongFalsely : Prop := fnExactHistAddRow.holds Try.pinned (OpenSpec.ofChange fnExactHistAddWrong)

/-- 'laws.FnExactGridScroll': WHATEVER THE INPUT: true; the input reads as it did. -/
def fnExactGridScrollSpec : ChangeSpec := { name := "fnExactGridScroll", fn := fun _ => fun
  | [d] => { results := [.lit (.bool true)], args := [d] }
  | _ => none }
def fnExactGridScrollRow : OpenClaim := { program := "ytladpkeaahimkaa", sum := "1a3857b7d582ef7e1ba25d8ecbfded937467874ff54598e0c6ffe78d38d7ff77", func := "loop.example/g00600/laws.FnExactGridScroll", spec := "fnExactGridScroll", apart := false }
def FnExactGridScrollSaid : Prop := fnExactGridScrollRow.holds Try.pinned (OpenSpec.ofChange fnExactGridScrollSpec)

/-- ITS FALSE NEIGHBOUR: 'it returns false'. Refute it at one input. -/
def fnExactGridScrollWrong : ChangeSpec := { name := "fnExactGridScroll", fn := fun _ => fun
  | [d] => { results := [.lit (.bool false)], args := [d] }
  | _ => none }
def FnExactGridScrollWrongFalsely : Prop := fnExactGridScrollRow.holds Try.pinned (OpenSpec.ofChange fnExactGridScrollWrong)

/-- 'laws.FnExactGridRow': WHATEVER THE INPUT: true; the input reads as it did. -/
def fnExactGridRowSpec : ChangeSpec := { name := "fnExactGridRow", fn := fun _ => fun
  | [d1, d2] => { results := [.lit (.bool true)], args := [d1, d2] }
  | _ => none }
def fnExactGridRowRow : OpenClaim := { program := "ytladpkeaahimkaa", sum := "1a3857b7d582ef7e1ba25d8ecbfded937467874ff54598e0c6ffe78d38d7ff77", func := "loop.example/g00600/laws.FnExactGridRow", spec := "fnExactGridRow", apart := false }
def FnExactGridRowSaid : Prop := fnExactGridRowRow.holds Try.pinned (OpenSpec.ofChange fnExactGridRowSpec)

/-- ITS FALSE NEIGHBOUR: 'it returns false'. Refute it at one input. -/
def fnExactGridRowWrong : ChangeSpec := { name := "fnExactGridRow", fn := fun _ => fun
  | [d1, d2] => { results := [.lit (.bool false)], args := [d1, d2] }
  | _ => none }
def FnExactGridRowWrongFalsely : Prop := fnExactGridRowRow.holds Try.pinned (OpenSpec.ofChange fnExactGridRowWrong)

/-- 'laws.FnExactGridClear': WHATEVER THE INPUT: true; the input reads as it did. -/
def fnExactGridClearSpec : ChangeSpec := { name := "fnExactGridClear", fn := fun _ => fun
  | [d1, d2, d3] => { results := [.lit (.bool true)], args := [d1, d2, d3] }
  | _ => none }
def fnExactGridClearRow : OpenClaim := { program := "ytladpkeaahimkaa", sum := "1a3857b7d582ef7e1ba25d8ecbfded937467874ff54598e0c6ffe78d38d7ff77", func := "loop.example/g00600/laws.FnExactGridClear", spec := "fnExactGridClear", apart := false }
def FnExactGridClearSaid : Prop := fnExactGridClearRow.holds Try.pinned (OpenSpec.ofChange fnExactGridClearSpec)

/-- ITS FALSE NEIGHBOUR: 'it returns false'. Refute it at one input. -/
def fnExactGridClearWrong : ChangeSpec := { name := "fnExactGridClear", fn := fun _ => fun
  | [d1, d2, d3] => { results := [.lit (.bool false)], args := [d1, d2, d3] }
  | _ => none }
def FnExactGridClearWrongFalsely : Prop := fnExactGridClearRow.holds Try.pinned (OpenSpec.ofChange fnExactGridClearWrong)

/- THE SECOND FORM. 'bulk': how many values and letters a reading holds, each counted each time it is reached (what is shared counts as often as it is met; a slice's spare places count too). A statement '..UptoSaid' is the law's where the arguments, and the package variables that the reading takes, are together of bulk at most 1048576: NARROWER than '..Said'. Prove '..Said' where nothing that the law and all that it calls make is longer than what came in: it says more and counts as full. Else prove '..UptoSaid'. A law counts once. -/
mutual
def uptoBulk {H : Type} : DataW H → Nat
  | .lit (.string bytes) => bytes.length + 1
  | .lit _ => 1
  | .nil => 1
  | .ptr d => uptoBulk d + 1
  | .slice elems spare => uptoBulkAll elems + uptoBulkAll spare + 1
  | .agg parts => uptoBulkAll parts + 1
  | .iface _ d => uptoBulk d + 1
  | .map entries => uptoBulkEntries entries + 1
  | .held _ => 1
def uptoBulkAll {H : Type} : List (DataW H) → Nat
  | [] => 0
  | d :: r => uptoBulk d + uptoBulkAll r
def uptoBulkEntries {H : Type} : List (Lit × DataW H) → Nat
  | [] => 0
  | x :: r => uptoBulkEntry x + uptoBulkEntries r
def uptoBulkEntry {H : Type} : Lit × DataW H → Nat
  | (.string bytes, d) => bytes.length + uptoBulk d + 1
  | (_, d) => uptoBulk d + 1
 end
def uptoSmall : (H : Type) → List (DataW H) → Bool := fun _ ds => decide (uptoBulkAll ds ≤ 1048576)
def OpenSpec.upto (s : _root_.Go.ChangeSpec) : _root_.Go.OpenSpec := { _root_.Go.OpenSpec.ofChange s with cond := some uptoSmall }

/-- 'laws.FnExactLineSwap', WHERE WHAT IT READS IS OF BULK AT MOST 1048576: true; the input reads as it did. -/
def fnExactLineSwapUptoRow : OpenClaim := { program := "ytladpkeaahimkaa", sum := "1a3857b7d582ef7e1ba25d8ecbfded937467874ff54598e0c6ffe78d38d7ff77", func := "loop.example/g00600/laws.FnExactLineSwap", spec := "fnExactLineSwap", apart := false, narrowed := true }
def FnExactLineSwapUptoSaid : Prop := fnExactLineSwapUptoRow.holds Try.pinned (OpenSpec.upto fnExactLineSwapSpec)

/-- 'laws.FnExactLineCut', WHERE WHAT IT READS IS OF BULK AT MOST 1048576: true; the input reads as it did. -/
def fnExactLineCutUptoRow : OpenClaim := { program := "ytladpkeaahimkaa", sum := "1a3857b7d582ef7e1ba25d8ecbfded937467874ff54598e0c6ffe78d38d7ff77", func := "loop.example/g00600/laws.FnExactLineCut", spec := "fnExactLineCut", apart := false, narrowed := true }
def FnExactLineCutUptoSaid : Prop := fnExactLineCutUptoRow.holds Try.pinned (OpenSpec.upto fnExactLineCutSpec)

/-- 'laws.FnExactLineCase', WHERE WHAT IT READS IS OF BULK AT MOST 1048576: true; the input reads as it did. -/
def fnExactLineCaseUptoRow : OpenClaim := { program := "ytladpkeaahimkaa", sum := "1a3857b7d582ef7e1ba25d8ecbfded937467874ff54598e0c6ffe78d38d7ff77", func := "loop.example/g00600/laws.FnExactLineCase", spec := "fnExactLineCase", apart := false, narrowed := true }
def FnExactLineCaseUptoSaid : Prop := fnExactLineCaseUptoRow.holds Try.pinned (OpenSpec.upto fnExactLineCaseSpec)

/-- 'laws.FnExactLineOf', WHERE WHAT IT READS IS OF BULK AT MOST 1048576: true; the input reads as it did. -/
def fnExactLineOfUptoRow : OpenClaim := { program := "ytladpkeaahimkaa", sum := "1a3857b7d582ef7e1ba25d8ecbfded937467874ff54598e0c6ffe78d38d7ff77", func := "loop.example/g00600/laws.FnExactLineOf", spec := "fnExactLineOf", apart := false, narrowed := true }
def FnExactLineOfUptoSaid : Prop := fnExactLineOfUptoRow.holds Try.pinned (OpenSpec.upto fnExactLineOfSpec)

/-- 'laws.FnExactLinePut', WHERE WHAT IT READS IS OF BULK AT MOST 1048576: true; the input reads as it did. -/
def fnExactLinePutUptoRow : OpenClaim := { program := "ytladpkeaahimkaa", sum := "1a3857b7d582ef7e1ba25d8ecbfded937467874ff54598e0c6ffe78d38d7ff77", func := "loop.example/g00600/laws.FnExactLinePut", spec := "fnExactLinePut", apart := false, narrowed := true }
def FnExactLinePutUptoSaid : Prop := fnExactLinePutUptoRow.holds Try.pinned (OpenSpec.upto fnExactLinePutSpec)

/-- 'laws.FnExactHistAdd', WHERE WHAT IT READS IS OF BULK AT MOST 1048576: true; the input reads as it did. -/
def fnExactHistAddUptoRow : OpenClaim := { program := "ytladpkeaahimkaa", sum := "1a3857b7d582ef7e1ba25d8ecbfded937467874ff54598e0c6ffe78d38d7ff77", func := "loop.example/g00600/laws.FnExactHistAdd", spec := "fnExactHistAdd", apart := false, narrowed := true }
def FnExactHistAddUptoSaid : Prop := fnExactHistAddUptoRow.holds Try.pinned (OpenSpec.upto fnExactHistAddSpec)

/-- 'laws.FnExactGridScroll', WHERE WHAT IT READS IS OF BULK AT MOST 1048576: true; the input reads as it did. -/
def fnExactGridScrollUptoRow : OpenClaim := { program := "ytladpkeaahimkaa", sum := "1a3857b7d582ef7e1ba25d8ecbfded937467874ff54598e0c6ffe78d38d7ff77", func := "loop.example/g00600/laws.FnExactGridScroll", spec := "fnExactGridScroll", apart := false, narrowed := true }
def FnExactGridScrollUptoSaid : Prop := fnExactGridScrollUptoRow.holds Try.pinned (OpenSpec.upto fnExactGridScrollSpec)

/-- 'laws.FnExactGridRow', WHERE WHAT IT READS IS OF BULK AT MOST 1048576: true; the input reads as it did. -/
def fnExactGridRowUptoRow : OpenClaim := { program := "ytladpkeaahimkaa", sum := "1a3857b7d582ef7e1ba25d8ecbfded937467874ff54598e0c6ffe78d38d7ff77", func := "loop.example/g00600/laws.FnExactGridRow", spec := "fnExactGridRow", apart := false, narrowed := true }
def FnExactGridRowUptoSaid : Prop := fnExactGridRowUptoRow.holds Try.pinned (OpenSpec.upto fnExactGridRowSpec)

/-- 'laws.FnExactGridClear', WHERE WHAT IT READS IS OF BULK AT MOST 1048576: true; the input reads as it did. -/
def fnExactGridClearUptoRow : OpenClaim := { program := "ytladpkeaahimkaa", sum := "1a3857b7d582ef7e1ba25d8ecbfded937467874ff54598e0c6ffe78d38d7ff77", func := "loop.example/g00600/laws.FnExactGridClear", spec := "fnExactGridClear", apart := false, narrowed := true }
def FnExactGridClearUptoSaid : Prop := fnExactGridClearUptoRow.holds Try.pinned (OpenSpec.upto fnExactGridClearSpec)

end Rows
end Go.Proofs.Ytladpkeaahimkaa
