/-
  No cell of these rows narrows 'for every input' (looked for: loops, veiled, ifaces, maps, wideKeys, modest, calm, conditions, laid).
  DERIVED. THE GIVEN ROWS OF THIS SEAT. 12 by the template 'for every input the law returns true; each argument reads behind the call as it read before'; 0 by the template 'total and deterministic' (their statements: YtodbnphofjpmeaaTotals.lean).
  GIVEN WITH THE SEED: the statements are not yours to turn. If you find one false, say at which input.
  Laid BY PROGRAM, IN A SANDBOX (cutbox-rows.mjs): the forced cells as the released guide's own fill.sh prints them over the translation 1961da3f9c2a428e… (all of the seat's roots in one cut). By AI agents, Wed Nov 11 2026. No macro, syntax, notation, axiom, sorry.
-/
import Derived.Test.YtodbnphofjpmeaaChecked
import GoSem.Claim
import GoSem.ClaimJoined
import GoSem.ClaimMapViews
import Derived.JoinedTies
import Derived.KernelRfl
namespace Go.Proofs.Ytodbnphofjpmeaa
/- THE CELL 'sum', in the pinned program and in every row, IS THE sha256 OF THE DUMP (.gsa) THAT YtodbnphofjpmeaaProg.lean LOADS. Nothing in Lean hashes anything: it is a label: what it is worth is what the hold of that sum in a sandbox is worth. -/
noncomputable def Try.pinned : Pinned := { name := "ytodbnphofjpmeaa", sum := "1961da3f9c2a428eeae7d0070f0aab01710d89c2e06194e9a9cad79453255728", checked := Try.checked }
namespace Rows
def none {H : Type} : Left H := { results := [], args := [] }

/-- 'laws.FnExactSameGrid': WHATEVER THE INPUT: true; the input reads as it did. -/
def fnExactSameGridSpec : ChangeSpec := { name := "fnExactSameGrid", fn := fun _ => fun
  | [d1, d2] => { results := [.lit (.bool true)], args := [d1, d2] }
  | _ => none }
def fnExactSameGridRow : OpenClaim := { program := "ytodbnphofjpmeaa", sum := "1961da3f9c2a428eeae7d0070f0aab01710d89c2e06194e9a9cad79453255728", func := "loop.example/g00600/laws.FnExactSameGrid", spec := "fnExactSameGrid", apart := false }
def FnExactSameGridSaid : Prop := fnExactSameGridRow.holds Try.pinned (OpenSpec.ofChange fnExactSameGridSpec)

/-- ITS FALSE NEIGHBOUR: 'it returns false'. Refute it at one input. -/
def fnExactSameGridWrong : ChangeSpec := { name := "fnExactSameGrid", fn := fun _ => fun
  | [d1, d2] => { results := [.lit (.bool false)], args := [d1, d2] }
  | _ => none }
def FnExactSameGridWrongFalsely : Prop := fnExactSameGridRow.holds Try.pinned (OpenSpec.ofChange fnExactSameGridWrong)

/-- 'laws.FnExactViWordBack': WHATEVER THE INPUT: true; the input reads as it did. -/
def fnExactViWordBackSpec : ChangeSpec := { name := "fnExactViWordBack", fn := fun _ => fun
  | [d1, d2, d3] => { results := [.lit (.bool true)], args := [d1, d2, d3] }
  | _ => none }
def fnExactViWordBackRow : OpenClaim := { program := "ytodbnphofjpmeaa", sum := "1961da3f9c2a428eeae7d0070f0aab01710d89c2e06194e9a9cad79453255728", func := "loop.example/g00600/laws.FnExactViWordBack", spec := "fnExactViWordBack", apart := false }
def FnExactViWordBackSaid : Prop := fnExactViWordBackRow.holds Try.pinned (OpenSpec.ofChange fnExactViWordBackSpec)

/-- ITS FALSE NEIGHBOUR: 'it returns false'. Refute it at one input. -/
def fnExactViWordBackWrong : ChangeSpec := { name := "fnExactViWordBack", fn := fun _ => fun
  | [d1, d2, d3] => { results := [.lit (.bool false)], args := [d1, d2, d3] }
  | _ => none }
def FnExactViWordBackWrongFalsely : Prop := fnExactViWordBackRow.holds Try.pinned (OpenSpec.ofChange fnExactViWordBackWrong)

/-- 'laws.FnExactViWordOn': WHATEVER THE INPUT: true; the input reads as it did. -/
def fnExactViWordOnSpec : ChangeSpec := { name := "fnExactViWordOn", fn := fun _ => fun
  | [d1, d2, d3] => { results := [.lit (.bool true)], args := [d1, d2, d3] }
  | _ => none }
def fnExactViWordOnRow : OpenClaim := { program := "ytodbnphofjpmeaa", sum := "1961da3f9c2a428eeae7d0070f0aab01710d89c2e06194e9a9cad79453255728", func := "loop.example/g00600/laws.FnExactViWordOn", spec := "fnExactViWordOn", apart := false }
def FnExactViWordOnSaid : Prop := fnExactViWordOnRow.holds Try.pinned (OpenSpec.ofChange fnExactViWordOnSpec)

/-- ITS FALSE NEIGHBOUR: 'it returns false'. Refute it at one input. -/
def fnExactViWordOnWrong : ChangeSpec := { name := "fnExactViWordOn", fn := fun _ => fun
  | [d1, d2, d3] => { results := [.lit (.bool false)], args := [d1, d2, d3] }
  | _ => none }
def FnExactViWordOnWrongFalsely : Prop := fnExactViWordOnRow.holds Try.pinned (OpenSpec.ofChange fnExactViWordOnWrong)

/-- 'laws.FnExactEmitRunes': WHATEVER THE INPUT: true; the input reads as it did. -/
def fnExactEmitRunesSpec : ChangeSpec := { name := "fnExactEmitRunes", fn := fun _ => fun
  | [d] => { results := [.lit (.bool true)], args := [d] }
  | _ => none }
def fnExactEmitRunesRow : OpenClaim := { program := "ytodbnphofjpmeaa", sum := "1961da3f9c2a428eeae7d0070f0aab01710d89c2e06194e9a9cad79453255728", func := "loop.example/g00600/laws.FnExactEmitRunes", spec := "fnExactEmitRunes", apart := false }
def FnExactEmitRunesSaid : Prop := fnExactEmitRunesRow.holds Try.pinned (OpenSpec.ofChange fnExactEmitRunesSpec)

/-- ITS FALSE NEIGHBOUR: 'it returns false'. Refute it at one input. -/
def fnExactEmitRunesWrong : ChangeSpec := { name := "fnExactEmitRunes", fn := fun _ => fun
  | [d] => { results := [.lit (.bool false)], args := [d] }
  | _ => none }
def FnExactEmitRunesWrongFalsely : Prop := fnExactEmitRunesRow.holds Try.pinned (OpenSpec.ofChange fnExactEmitRunesWrong)

/-- 'laws.FnExactViWordEnd': WHATEVER THE INPUT: true; the input reads as it did. -/
def fnExactViWordEndSpec : ChangeSpec := { name := "fnExactViWordEnd", fn := fun _ => fun
  | [d1, d2, d3] => { results := [.lit (.bool true)], args := [d1, d2, d3] }
  | _ => none }
def fnExactViWordEndRow : OpenClaim := { program := "ytodbnphofjpmeaa", sum := "1961da3f9c2a428eeae7d0070f0aab01710d89c2e06194e9a9cad79453255728", func := "loop.example/g00600/laws.FnExactViWordEnd", spec := "fnExactViWordEnd", apart := false }
def FnExactViWordEndSaid : Prop := fnExactViWordEndRow.holds Try.pinned (OpenSpec.ofChange fnExactViWordEndSpec)

/-- ITS FALSE NEIGHBOUR: 'it returns false'. Refute it at one input. -/
def fnExactViWordEndWrong : ChangeSpec := { name := "fnExactViWordEnd", fn := fun _ => fun
  | [d1, d2, d3] => { results := [.lit (.bool false)], args := [d1, d2, d3] }
  | _ => none }
def FnExactViWordEndWrongFalsely : Prop := fnExactViWordEndRow.holds Try.pinned (OpenSpec.ofChange fnExactViWordEndWrong)

/-- 'laws.FnExactRuneBegin': WHATEVER THE INPUT: true; the input reads as it did. -/
def fnExactRuneBeginSpec : ChangeSpec := { name := "fnExactRuneBegin", fn := fun _ => fun
  | [d] => { results := [.lit (.bool true)], args := [d] }
  | _ => none }
def fnExactRuneBeginRow : OpenClaim := { program := "ytodbnphofjpmeaa", sum := "1961da3f9c2a428eeae7d0070f0aab01710d89c2e06194e9a9cad79453255728", func := "loop.example/g00600/laws.FnExactRuneBegin", spec := "fnExactRuneBegin", apart := false }
def FnExactRuneBeginSaid : Prop := fnExactRuneBeginRow.holds Try.pinned (OpenSpec.ofChange fnExactRuneBeginSpec)

/-- ITS FALSE NEIGHBOUR: 'it returns false'. Refute it at one input. -/
def fnExactRuneBeginWrong : ChangeSpec := { name := "fnExactRuneBegin", fn := fun _ => fun
  | [d] => { results := [.lit (.bool false)], args := [d] }
  | _ => none }
def FnExactRuneBeginWrongFalsely : Prop := fnExactRuneBeginRow.holds Try.pinned (OpenSpec.ofChange fnExactRuneBeginWrong)

/-- 'laws.FnExactKeyBytes': WHATEVER THE INPUT: true; the input reads as it did. -/
def fnExactKeyBytesSpec : ChangeSpec := { name := "fnExactKeyBytes", fn := fun _ => fun
  | [d] => { results := [.lit (.bool true)], args := [d] }
  | _ => none }
def fnExactKeyBytesRow : OpenClaim := { program := "ytodbnphofjpmeaa", sum := "1961da3f9c2a428eeae7d0070f0aab01710d89c2e06194e9a9cad79453255728", func := "loop.example/g00600/laws.FnExactKeyBytes", spec := "fnExactKeyBytes", apart := false }
def FnExactKeyBytesSaid : Prop := fnExactKeyBytesRow.holds Try.pinned (OpenSpec.ofChange fnExactKeyBytesSpec)

/-- ITS FALSE NEIGHBOUR: 'it returns false'. Refute it at one input. -/
def fnExactKeyBytesWrong : ChangeSpec := { name := "fnExactKeyBytes", fn := fun _ => fun
  | [d] => { results := [.lit (.bool false)], args := [d] }
  | _ => none }
def FnExactKeyBytesWrongFalsely : Prop := fnExactKeyBytesRow.holds Try.pinned (OpenSpec.ofChange fnExactKeyBytesWrong)

/-- 'laws.FnExactDecOk': WHATEVER THE INPUT: true; the input reads as it did. -/
def fnExactDecOkSpec : ChangeSpec := { name := "fnExactDecOk", fn := fun _ => fun
  | [d] => { results := [.lit (.bool true)], args := [d] }
  | _ => none }
def fnExactDecOkRow : OpenClaim := { program := "ytodbnphofjpmeaa", sum := "1961da3f9c2a428eeae7d0070f0aab01710d89c2e06194e9a9cad79453255728", func := "loop.example/g00600/laws.FnExactDecOk", spec := "fnExactDecOk", apart := false }
def FnExactDecOkSaid : Prop := fnExactDecOkRow.holds Try.pinned (OpenSpec.ofChange fnExactDecOkSpec)

/-- ITS FALSE NEIGHBOUR: 'it returns false'. Refute it at one input. -/
def fnExactDecOkWrong : ChangeSpec := { name := "fnExactDecOk", fn := fun _ => fun
  | [d] => { results := [.lit (.bool false)], args := [d] }
  | _ => none }
def FnExactDecOkWrongFalsely : Prop := fnExactDecOkRow.holds Try.pinned (OpenSpec.ofChange fnExactDecOkWrong)

/-- 'laws.FnExactHistLast': WHATEVER THE INPUT: true; the input reads as it did. -/
def fnExactHistLastSpec : ChangeSpec := { name := "fnExactHistLast", fn := fun _ => fun
  | [d] => { results := [.lit (.bool true)], args := [d] }
  | _ => none }
def fnExactHistLastRow : OpenClaim := { program := "ytodbnphofjpmeaa", sum := "1961da3f9c2a428eeae7d0070f0aab01710d89c2e06194e9a9cad79453255728", func := "loop.example/g00600/laws.FnExactHistLast", spec := "fnExactHistLast", apart := false }
def FnExactHistLastSaid : Prop := fnExactHistLastRow.holds Try.pinned (OpenSpec.ofChange fnExactHistLastSpec)

/-- ITS FALSE NEIGHBOUR: 'it returns false'. Refute it at one input. -/
def fnExactHistLastWrong : ChangeSpec := { name := "fnExactHistLast", fn := fun _ => fun
  | [d] => { results := [.lit (.bool false)], args := [d] }
  | _ => none }
def FnExactHistLastWrongFalsely : Prop := fnExactHistLastRow.holds Try.pinned (OpenSpec.ofChange fnExactHistLastWrong)

/-- 'laws.FnExactHistAdd': WHATEVER THE INPUT: true; the input reads as it did. -/
def fnExactHistAddSpec : ChangeSpec := { name := "fnExactHistAdd", fn := fun _ => fun
  | [d1, d2] => { results := [.lit (.bool true)], args := [d1, d2] }
  | _ => none }
def fnExactHistAddRow : OpenClaim := { program := "ytodbnphofjpmeaa", sum := "1961da3f9c2a428eeae7d0070f0aab01710d89c2e06194e9a9cad79453255728", func := "loop.example/g00600/laws.FnExactHistAdd", spec := "fnExactHistAdd", apart := false }
def FnExactHistAddSaid : Prop := fnExactHistAddRow.holds Try.pinned (OpenSpec.ofChange fnExactHistAddSpec)

/-- ITS FALSE NEIGHBOUR: 'it returns false'. Refute it at one input. -/
def fnExactHistAddWrong : ChangeSpec := { name := "fnExactHistAdd", fn := fun _ => fun
  | [d1, d2] => { results := [.lit (.bool false)], args := [d1, d2] }
  | _ => none }
def FnExactHistAddWrongFalsely : Prop := fnExactHistAddRow.holds Try.pinned (OpenSpec.ofChange fnExactHistAddWrong)

/-- 'laws.FnExactHistOf': WHATEVER THE INPUT: true; the input reads as it did. -/
def fnExactHistOfSpec : ChangeSpec := { name := "fnExactHistOf", fn := fun _ => fun
  | [d] => { results := [.lit (.bool true)], args := [d] }
  | _ => none }
def fnExactHistOfRow : OpenClaim := { program := "ytodbnphofjpmeaa", sum := "1961da3f9c2a428eeae7d0070f0aab01710d89c2e06194e9a9cad79453255728", func := "loop.example/g00600/laws.FnExactHistOf", spec := "fnExactHistOf", apart := false }
def FnExactHistOfSaid : Prop := fnExactHistOfRow.holds Try.pinned (OpenSpec.ofChange fnExactHistOfSpec)

/-- ITS FALSE NEIGHBOUR: 'it returns false'. Refute it at one input. -/
def fnExactHistOfWrong : ChangeSpec := { name := "fnExactHistOf", fn := fun _ => fun
  | [d] => { results := [.lit (.bool false)], args := [d] }
  | _ => none }
def FnExactHistOfWrongFalsely : Prop := fnExactHistOfRow.holds Try.pinned (OpenSpec.ofChange fnExactHistOfWrong)

/-- 'laws.FnExactHistFind': WHATEVER THE INPUT: true; the input reads as it did. -/
def fnExactHistFindSpec : ChangeSpec := { name := "fnExactHistFind", fn := fun _ => fun
  | [d1, d2, d3, d4, d5] => { results := [.lit (.bool true)], args := [d1, d2, d3, d4, d5] }
  | _ => none }
def fnExactHistFindRow : OpenClaim := { program := "ytodbnphofjpmeaa", sum := "1961da3f9c2a428eeae7d0070f0aab01710d89c2e06194e9a9cad79453255728", func := "loop.example/g00600/laws.FnExactHistFind", spec := "fnExactHistFind", inPlace := ["internal/bytealg.IndexByteString", "internal/bytealg.IndexString"], named := ["internal/bytealg.MaxLen"], apart := false }
def FnExactHistFindSaid : Prop := fnExactHistFindRow.holds Try.pinned (OpenSpec.ofChange fnExactHistFindSpec)

/-- ITS FALSE NEIGHBOUR: 'it returns false'. Refute it at one input. -/
def fnExactHistFindWrong : ChangeSpec := { name := "fnExactHistFind", fn := fun _ => fun
  | [d1, d2, d3, d4, d5] => { results := [.lit (.bool false)], args := [d1, d2, d3, d4, d5] }
  | _ => none }
def FnExactHistFindWrongFalsely : Prop := fnExactHistFindRow.holds Try.pinned (OpenSpec.ofChange fnExactHistFindWrong)

/- THE SECOND FORM. 'bulk': how many values and letters a reading holds, each counted each time it is reached (what is shared counts as often as it is met; a slice's spare places count too). A statement '..UptoSaid' is the law's where the arguments, and the package variables that the reading takes, are together of bulk at most 1048576: NARROWER than '..Said'. Prove '..Said' where nothing that the law and all that it calls make is longer than what came in: it says more and counts as full. Else prove '..UptoSaid'. A law counts once. -/
mutual
def uptoBulk {H : Type} : DataW H → Nat
  | .lit (.string bytes) => bytes.length + 1
  | .lit _ => 1
  | .nil => 1
  | .ptr d => uptoBulk d + 1
  | .slice elems spare => uptoBulkAll elems + uptoBulkAll spare + 1
  | .agg parts => uptoBulkAll parts + 1
  | .iface _ d => uptoBulk d + 1
  | .map entries => uptoBulkEntries entries + 1
  | .held _ => 1
def uptoBulkAll {H : Type} : List (DataW H) → Nat
  | [] => 0
  | d :: r => uptoBulk d + uptoBulkAll r
def uptoBulkEntries {H : Type} : List (Lit × DataW H) → Nat
  | [] => 0
  | x :: r => uptoBulkEntry x + uptoBulkEntries r
def uptoBulkEntry {H : Type} : Lit × DataW H → Nat
  | (.string bytes, d) => bytes.length + uptoBulk d + 1
  | (_, d) => uptoBulk d + 1
 end
def uptoSmall : (H : Type) → List (DataW H) → Bool := fun _ ds => decide (uptoBulkAll ds ≤ 1048576)
def OpenSpec.upto (s : _root_.Go.ChangeSpec) : _root_.Go.OpenSpec := { _root_.Go.OpenSpec.ofChange s with cond := some uptoSmall }

/-- 'laws.FnExactSameGrid', WHERE WHAT IT READS IS OF BULK AT MOST 1048576: true; the input reads as it did. -/
def fnExactSameGridUptoRow : OpenClaim := { program := "ytodbnphofjpmeaa", sum := "1961da3f9c2a428eeae7d0070f0aab01710d89c2e06194e9a9cad79453255728", func := "loop.example/g00600/laws.FnExactSameGrid", spec := "fnExactSameGrid", apart := false, narrowed := true }
def FnExactSameGridUptoSaid : Prop := fnExactSameGridUptoRow.holds Try.pinned (OpenSpec.upto fnExactSameGridSpec)

/-- 'laws.FnExactViWordBack', WHERE WHAT IT READS IS OF BULK AT MOST 1048576: true; the input reads as it did. -/
def fnExactViWordBackUptoRow : OpenClaim := { program := "ytodbnphofjpmeaa", sum := "1961da3f9c2a428eeae7d0070f0aab01710d89c2e06194e9a9cad79453255728", func := "loop.example/g00600/laws.FnExactViWordBack", spec := "fnExactViWordBack", apart := false, narrowed := true }
def FnExactViWordBackUptoSaid : Prop := fnExactViWordBackUptoRow.holds Try.pinned (OpenSpec.upto fnExactViWordBackSpec)

/-- 'laws.FnExactViWordOn', WHERE WHAT IT READS IS OF BULK AT MOST 1048576: true; the input reads as it did. -/
def fnExactViWordOnUptoRow : OpenClaim := { program := "ytodbnphofjpmeaa", sum := "1961da3f9c2a428eeae7d0070f0aab01710d89c2e06194e9a9cad79453255728", func := "loop.example/g00600/laws.FnExactViWordOn", spec := "fnExactViWordOn", apart := false, narrowed := true }
def FnExactViWordOnUptoSaid : Prop := fnExactViWordOnUptoRow.holds Try.pinned (OpenSpec.upto fnExactViWordOnSpec)

/-- 'laws.FnExactEmitRunes', WHERE WHAT IT READS IS OF BULK AT MOST 1048576: true; the input reads as it did. -/
def fnExactEmitRunesUptoRow : OpenClaim := { program := "ytodbnphofjpmeaa", sum := "1961da3f9c2a428eeae7d0070f0aab01710d89c2e06194e9a9cad79453255728", func := "loop.example/g00600/laws.FnExactEmitRunes", spec := "fnExactEmitRunes", apart := false, narrowed := true }
def FnExactEmitRunesUptoSaid : Prop := fnExactEmitRunesUptoRow.holds Try.pinned (OpenSpec.upto fnExactEmitRunesSpec)

/-- 'laws.FnExactViWordEnd', WHERE WHAT IT READS IS OF BULK AT MOST 1048576: true; the input reads as it did. -/
def fnExactViWordEndUptoRow : OpenClaim := { program := "ytodbnphofjpmeaa", sum := "1961da3f9c2a428eeae7d0070f0aab01710d89c2e06194e9a9cad79453255728", func := "loop.example/g00600/laws.FnExactViWordEnd", spec := "fnExactViWordEnd", apart := false, narrowed := true }
def FnExactViWordEndUptoSaid : Prop := fnExactViWordEndUptoRow.holds Try.pinned (OpenSpec.upto fnExactViWordEndSpec)

/-- 'laws.FnExactRuneBegin', WHERE WHAT IT READS IS OF BULK AT MOST 1048576: true; the input reads as it did. -/
def fnExactRuneBeginUptoRow : OpenClaim := { program := "ytodbnphofjpmeaa", sum := "1961da3f9c2a428eeae7d0070f0aab01710d89c2e06194e9a9cad79453255728", func := "loop.example/g00600/laws.FnExactRuneBegin", spec := "fnExactRuneBegin", apart := false, narrowed := true }
def FnExactRuneBeginUptoSaid : Prop := fnExactRuneBeginUptoRow.holds Try.pinned (OpenSpec.upto fnExactRuneBeginSpec)

/-- 'laws.FnExactKeyBytes', WHERE WHAT IT READS IS OF BULK AT MOST 1048576: true; the input reads as it did. -/
def fnExactKeyBytesUptoRow : OpenClaim := { program := "ytodbnphofjpmeaa", sum := "1961da3f9c2a428eeae7d0070f0aab01710d89c2e06194e9a9cad79453255728", func := "loop.example/g00600/laws.FnExactKeyBytes", spec := "fnExactKeyBytes", apart := false, narrowed := true }
def FnExactKeyBytesUptoSaid : Prop := fnExactKeyBytesUptoRow.holds Try.pinned (OpenSpec.upto fnExactKeyBytesSpec)

/-- 'laws.FnExactDecOk', WHERE WHAT IT READS IS OF BULK AT MOST 1048576: true; the input reads as it did. -/
def fnExactDecOkUptoRow : OpenClaim := { program := "ytodbnphofjpmeaa", sum := "1961da3f9c2a428eeae7d0070f0aab01710d89c2e06194e9a9cad79453255728", func := "loop.example/g00600/laws.FnExactDecOk", spec := "fnExactDecOk", apart := false, narrowed := true }
def FnExactDecOkUptoSaid : Prop := fnExactDecOkUptoRow.holds Try.pinned (OpenSpec.upto fnExactDecOkSpec)

/-- 'laws.FnExactHistLast', WHERE WHAT IT READS IS OF BULK AT MOST 1048576: true; the input reads as it did. -/
def fnExactHistLastUptoRow : OpenClaim := { program := "ytodbnphofjpmeaa", sum := "1961da3f9c2a428eeae7d0070f0aab01710d89c2e06194e9a9cad79453255728", func := "loop.example/g00600/laws.FnExactHistLast", spec := "fnExactHistLast", apart := false, narrowed := true }
def FnExactHistLastUptoSaid : Prop := fnExactHistLastUptoRow.holds Try.pinned (OpenSpec.upto fnExactHistLastSpec)

/-- 'laws.FnExactHistAdd', WHERE WHAT IT READS IS OF BULK AT MOST 1048576: true; the input reads as it did. -/
def fnExactHistAddUptoRow : OpenClaim := { program := "ytodbnphofjpmeaa", sum := "1961da3f9c2a428eeae7d0070f0aab01710d89c2e06194e9a9cad79453255728", func := "loop.example/g00600/laws.FnExactHistAdd", spec := "fnExactHistAdd", apart := false, narrowed := true }
def FnExactHistAddUptoSaid : Prop := fnExactHistAddUptoRow.holds Try.pinned (OpenSpec.upto fnExactHistAddSpec)

/-- 'laws.FnExactHistOf', WHERE WHAT IT READS IS OF BULK AT MOST 1048576: true; the input reads as it did. -/
def fnExactHistOfUptoRow : OpenClaim := { program := "ytodbnphofjpmeaa", sum := "1961da3f9c2a428eeae7d0070f0aab01710d89c2e06194e9a9cad79453255728", func := "loop.example/g00600/laws.FnExactHistOf", spec := "fnExactHistOf", apart := false, narrowed := true }
def FnExactHistOfUptoSaid : Prop := fnExactHistOfUptoRow.holds Try.pinned (OpenSpec.upto fnExactHistOfSpec)

/-- 'laws.FnExactHistFind', WHERE WHAT IT READS IS OF BULK AT MOST 1048576: true; the input reads as it did. -/
def fnExactHistFindUptoRow : OpenClaim := { program := "ytodbnphofjpmeaa", sum := "1961da3f9c2a428eeae7d0070f0aab01710d89c2e06194e9a9cad79453255728", func := "loop.example/g00600/laws.FnExactHistFind", spec := "fnExactHistFind", inPlace := ["internal/bytealg.IndexByteString", "internal/bytealg.IndexString"], named := ["internal/bytealg.MaxLen"], apart := false, narrowed := true }
def FnExactHistFindUptoSaid : Prop := fnExactHistFindUptoRow.holds Try.pinned (OpenSpec.upto fnExactHistFindSpec)

end Rows
end Go.Proofs.Ytodbnphofjpmeaa
