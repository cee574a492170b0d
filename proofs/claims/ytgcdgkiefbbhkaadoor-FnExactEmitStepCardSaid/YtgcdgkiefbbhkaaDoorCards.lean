/-
  DERIVED. GIVEN WITH THE SEED: THE CARDS: each row of YtgcdgkiefbbhkaaDoorRows.lean that lists a variable, with what it lists TIED to the program's text (the seventh form; the later family's looks); each row that meets fmt, with fmt's text TOLD by the authors' own Lean function (tested against real Go, not proved from fmt's source: count such statements apart). THE CARD IS WHAT COUNTS. Prove the row's statement (the work); the ties are given (YtgcdgkiefbbhkaaDoorTie.lean); close each card by the builder's one call (the guide's Derived/Test/ToyasCard.lean, 'card_holds'). Laid BY PROGRAM, IN A SANDBOX (cutbox-door.mjs). By AI agents, Wed Nov 11 2026. No macro, syntax, notation, axiom, sorry.
-/
import Derived.Test.YtgcdgkiefbbhkaaDoorRows
import GoSem.ClaimSeven
namespace Go.Proofs.YtgcdgkiefbbhkaaDoor
namespace Rows

/-- THE TIED CARD OF 'laws.FnExactTextKey'. -/
def fnExactTextKeyCard : Claim7 := { stood := { row := fnExactTextKeyRow, standIns := [], harness := (true, "a69aee26ab5ada158d807a26be31d55461a2e33b79684530007043824ee1c075"), looks := false }, kinds := [], alts := [], laidByText := true, laidKinds := [.data, .pinned], laidTests := true, laidLooks := .later }
def FnExactTextKeyCardSaid : Prop := Claim7.holds Tryd.pinned (.plain (OpenSpec.ofChange fnExactTextKeySpec)) fnExactTextKeyCard

/-- THE TIED CARD OF 'laws.FnExactKeyText'. -/
def fnExactKeyTextCard : Claim7 := { stood := { row := fnExactKeyTextRow, standIns := [], harness := (true, "a69aee26ab5ada158d807a26be31d55461a2e33b79684530007043824ee1c075"), looks := false }, kinds := [], alts := [], laidByText := true, laidKinds := [.data, .pinned], laidTests := true, laidLooks := .later }
def FnExactKeyTextCardSaid : Prop := Claim7.holds Tryd.pinned (.plain (OpenSpec.ofChange fnExactKeyTextSpec)) fnExactKeyTextCard

/-- THE TIED CARD OF 'laws.FnExactEmitGoto'. -/
def fnExactEmitGotoCard : Claim7 := { stood := { row := fnExactEmitGotoRow, standIns := [], harness := (true, "a69aee26ab5ada158d807a26be31d55461a2e33b79684530007043824ee1c075"), looks := false }, kinds := [], alts := [], laidByText := true, laidKinds := [.data, .data, .data], laidTests := true, laidLooks := .later }
def FnExactEmitGotoCardSaid : Prop := Claim7.holds Tryd.pinned (.plain (OpenSpec.ofChange fnExactEmitGotoSpec)) fnExactEmitGotoCard

/-- THE TIED CARD OF 'laws.FnExactEmitStep'. -/
def fnExactEmitStepCard : Claim7 := { stood := { row := fnExactEmitStepRow, standIns := [], harness := (true, "a69aee26ab5ada158d807a26be31d55461a2e33b79684530007043824ee1c075"), looks := false }, kinds := [], alts := [], laidByText := true, laidKinds := [.data, .data, .data], laidTests := true, laidLooks := .later }
def FnExactEmitStepCardSaid : Prop := Claim7.holds Tryd.pinned (.plain (OpenSpec.ofChange fnExactEmitStepSpec)) fnExactEmitStepCard

/-- THE SECOND FORM's CARD OF 'laws.FnExactTextKey'. -/
def fnExactTextKeyUptoCard : Claim7 := { stood := { row := fnExactTextKeyUptoRow, standIns := [], harness := (true, "a69aee26ab5ada158d807a26be31d55461a2e33b79684530007043824ee1c075"), looks := false }, kinds := [], alts := [], laidByText := true, laidKinds := [.data, .pinned], laidTests := true, laidLooks := .later }
def FnExactTextKeyUptoCardSaid : Prop := Claim7.holds Tryd.pinned (.plain (OpenSpec.upto fnExactTextKeySpec)) fnExactTextKeyUptoCard

/-- THE SECOND FORM's CARD OF 'laws.FnExactKeyText'. -/
def fnExactKeyTextUptoCard : Claim7 := { stood := { row := fnExactKeyTextUptoRow, standIns := [], harness := (true, "a69aee26ab5ada158d807a26be31d55461a2e33b79684530007043824ee1c075"), looks := false }, kinds := [], alts := [], laidByText := true, laidKinds := [.data, .pinned], laidTests := true, laidLooks := .later }
def FnExactKeyTextUptoCardSaid : Prop := Claim7.holds Tryd.pinned (.plain (OpenSpec.upto fnExactKeyTextSpec)) fnExactKeyTextUptoCard

/-- THE SECOND FORM's CARD OF 'laws.FnExactEmitGoto'. -/
def fnExactEmitGotoUptoCard : Claim7 := { stood := { row := fnExactEmitGotoUptoRow, standIns := [], harness := (true, "a69aee26ab5ada158d807a26be31d55461a2e33b79684530007043824ee1c075"), looks := false }, kinds := [], alts := [], laidByText := true, laidKinds := [.data, .data, .data], laidTests := true, laidLooks := .later }
def FnExactEmitGotoUptoCardSaid : Prop := Claim7.holds Tryd.pinned (.plain (OpenSpec.upto fnExactEmitGotoSpec)) fnExactEmitGotoUptoCard

/-- THE SECOND FORM's CARD OF 'laws.FnExactEmitStep'. -/
def fnExactEmitStepUptoCard : Claim7 := { stood := { row := fnExactEmitStepUptoRow, standIns := [], harness := (true, "a69aee26ab5ada158d807a26be31d55461a2e33b79684530007043824ee1c075"), looks := false }, kinds := [], alts := [], laidByText := true, laidKinds := [.data, .data, .data], laidTests := true, laidLooks := .later }
def FnExactEmitStepUptoCardSaid : Prop := Claim7.holds Tryd.pinned (.plain (OpenSpec.upto fnExactEmitStepSpec)) fnExactEmitStepUptoCard
end Rows
end Go.Proofs.YtgcdgkiefbbhkaaDoor
