/-
  DERIVED. GIVEN WITH THE SEED: THE CARDS: each row of YtoledfhjmdpihaaGreatDoorRows.lean that lists a variable, with what it lists TIED to the program's text (the seventh form; the later family's looks); each row that meets fmt, with fmt's text TOLD by the authors' own Lean function (tested against real Go, not proved from fmt's source: count such statements apart). THE CARD IS WHAT COUNTS. Prove the row's statement (the work); the ties are given (YtoledfhjmdpihaaGreatDoorTie.lean); close each card by the builder's one call (the guide's Derived/Test/ToyasCard.lean, 'card_holds'). Laid BY PROGRAM, IN A SANDBOX (cutbox-door.mjs). By AI agents, Wed Nov 11 2026. No macro, syntax, notation, axiom, sorry.
-/
import Derived.Test.YtoledfhjmdpihaaGreatDoorRows
import GoSem.ClaimSeven
namespace Go.Proofs.YtoledfhjmdpihaaGreatDoor
namespace Rows

/-- THE TIED CARD OF 'laws.FnExactMsgRead'. -/
def fnExactMsgReadCard : Claim7 := { stood := { row := fnExactMsgReadRow, standIns := [], harness := (true, "7eaea9fdd19cfb36c738031c368d2bb7695b680a82e7bf0edc09a40e12f55fd3"), looks := true }, kinds := [], alts := [], laidByText := true, laidKinds := [.data, .data, .data, .data, .sentinel, .sentinel, .pinned], laidTests := true, laidLooks := .later }
def FnExactMsgReadCardSaid : Prop := Claim7.holds Tryz.pinned (.plain (OpenSpec.ofChange fnExactMsgReadSpec)) fnExactMsgReadCard

/-- THE TIED CARD OF 'laws.FnLinesMeet'. -/
def fnLinesMeetCard : Claim7 := { stood := { row := fnLinesMeetRow, standIns := [], harness := (true, "7eaea9fdd19cfb36c738031c368d2bb7695b680a82e7bf0edc09a40e12f55fd3"), looks := true }, kinds := [], alts := [], laidByText := true, laidKinds := [.data, .data, .data, .data, .pinned], laidTests := true, laidLooks := .later }
def FnLinesMeetCardSaid : Prop := Claim7.holds Tryz.pinned (.plain (OpenSpec.ofChange fnLinesMeetSpec)) fnLinesMeetCard

/-- THE TIED CARD OF 'laws.FnLinesRun'. -/
def fnLinesRunCard : Claim7 := { stood := { row := fnLinesRunRow, standIns := [], harness := (true, "7eaea9fdd19cfb36c738031c368d2bb7695b680a82e7bf0edc09a40e12f55fd3"), looks := true }, kinds := [], alts := [], laidByText := true, laidKinds := [.data, .data, .data, .data, .pinned], laidTests := true, laidLooks := .later }
def FnLinesRunCardSaid : Prop := Claim7.holds Tryz.pinned (.plain (OpenSpec.ofChange fnLinesRunSpec)) fnLinesRunCard

/-- THE SECOND FORM's CARD OF 'laws.FnExactMsgRead'. -/
def fnExactMsgReadUptoCard : Claim7 := { stood := { row := fnExactMsgReadUptoRow, standIns := [], harness := (true, "7eaea9fdd19cfb36c738031c368d2bb7695b680a82e7bf0edc09a40e12f55fd3"), looks := true }, kinds := [], alts := [], laidByText := true, laidKinds := [.data, .data, .data, .data, .sentinel, .sentinel, .pinned], laidTests := true, laidLooks := .later }
def FnExactMsgReadUptoCardSaid : Prop := Claim7.holds Tryz.pinned (.plain (OpenSpec.upto fnExactMsgReadSpec)) fnExactMsgReadUptoCard

/-- THE SECOND FORM's CARD OF 'laws.FnLinesMeet'. -/
def fnLinesMeetUptoCard : Claim7 := { stood := { row := fnLinesMeetUptoRow, standIns := [], harness := (true, "7eaea9fdd19cfb36c738031c368d2bb7695b680a82e7bf0edc09a40e12f55fd3"), looks := true }, kinds := [], alts := [], laidByText := true, laidKinds := [.data, .data, .data, .data, .pinned], laidTests := true, laidLooks := .later }
def FnLinesMeetUptoCardSaid : Prop := Claim7.holds Tryz.pinned (.plain (OpenSpec.upto fnLinesMeetSpec)) fnLinesMeetUptoCard

/-- THE SECOND FORM's CARD OF 'laws.FnLinesRun'. -/
def fnLinesRunUptoCard : Claim7 := { stood := { row := fnLinesRunUptoRow, standIns := [], harness := (true, "7eaea9fdd19cfb36c738031c368d2bb7695b680a82e7bf0edc09a40e12f55fd3"), looks := true }, kinds := [], alts := [], laidByText := true, laidKinds := [.data, .data, .data, .data, .pinned], laidTests := true, laidLooks := .later }
def FnLinesRunUptoCardSaid : Prop := Claim7.holds Tryz.pinned (.plain (OpenSpec.upto fnLinesRunSpec)) fnLinesRunUptoCard
end Rows
end Go.Proofs.YtoledfhjmdpihaaGreatDoor
