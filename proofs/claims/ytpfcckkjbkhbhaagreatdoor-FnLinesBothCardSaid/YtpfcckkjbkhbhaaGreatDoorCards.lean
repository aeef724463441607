/-
  DERIVED. GIVEN WITH THE SEED: THE CARDS: each row of YtpfcckkjbkhbhaaGreatDoorRows.lean that lists a variable, with what it lists TIED to the program's text (the seventh form; the later family's looks); each row that meets fmt, with fmt's text TOLD by the authors' own Lean function (tested against real Go, not proved from fmt's source: count such statements apart). THE CARD IS WHAT COUNTS. Prove the row's statement (the work); the ties are given (YtpfcckkjbkhbhaaGreatDoorTie.lean); close each card by the builder's one call (the guide's Derived/Test/ToyasCard.lean, 'card_holds'). Laid BY PROGRAM, IN A SANDBOX (cutbox-door.mjs). By AI agents, Wed Nov 11 2026. No macro, syntax, notation, axiom, sorry.
-/
import Derived.Test.YtpfcckkjbkhbhaaGreatDoorRows
import GoSem.ClaimSeven
namespace Go.Proofs.YtpfcckkjbkhbhaaGreatDoor
namespace Rows

/-- THE TIED CARD OF 'laws.FnMsgBack'. -/
def fnMsgBackCard : Claim7 := { stood := { row := fnMsgBackRow, standIns := [], harness := (true, "d655095645653a6eb0f7838515b82f6e1d2871671602eb6266f5eb3d3a7cd9f4"), looks := true }, kinds := [], alts := [], laidByText := true, laidKinds := [.data, .data, .data, .data, .sentinel, .sentinel, .pinned], laidTests := true, laidLooks := .later }
def FnMsgBackCardSaid : Prop := Claim7.holds Tryz.pinned (.plain (OpenSpec.ofChange fnMsgBackSpec)) fnMsgBackCard

/-- THE TIED CARD OF 'laws.FnLinesSteps'. -/
def fnLinesStepsCard : Claim7 := { stood := { row := fnLinesStepsRow, standIns := [], harness := (true, "d655095645653a6eb0f7838515b82f6e1d2871671602eb6266f5eb3d3a7cd9f4"), looks := true }, kinds := [], alts := [], laidByText := true, laidKinds := [.data, .data, .data, .data, .pinned], laidTests := true, laidLooks := .later }
def FnLinesStepsCardSaid : Prop := Claim7.holds Tryz.pinned (.plain (OpenSpec.ofChange fnLinesStepsSpec)) fnLinesStepsCard

/-- THE TIED CARD OF 'laws.FnExactMsgRead'. -/
def fnExactMsgReadCard : Claim7 := { stood := { row := fnExactMsgReadRow, standIns := [], harness := (true, "d655095645653a6eb0f7838515b82f6e1d2871671602eb6266f5eb3d3a7cd9f4"), looks := true }, kinds := [], alts := [], laidByText := true, laidKinds := [.data, .data, .data, .data, .sentinel, .sentinel, .pinned], laidTests := true, laidLooks := .later }
def FnExactMsgReadCardSaid : Prop := Claim7.holds Tryz.pinned (.plain (OpenSpec.ofChange fnExactMsgReadSpec)) fnExactMsgReadCard

/-- THE TIED CARD OF 'laws.FnLinesTick'. -/
def fnLinesTickCard : Claim7 := { stood := { row := fnLinesTickRow, standIns := [], harness := (true, "d655095645653a6eb0f7838515b82f6e1d2871671602eb6266f5eb3d3a7cd9f4"), looks := true }, kinds := [], alts := [], laidByText := true, laidKinds := [.data, .data, .data, .data, .pinned], laidTests := true, laidLooks := .later }
def FnLinesTickCardSaid : Prop := Claim7.holds Tryz.pinned (.plain (OpenSpec.ofChange fnLinesTickSpec)) fnLinesTickCard

/-- THE TIED CARD OF 'laws.FnMsgStrict'. -/
def fnMsgStrictCard : Claim7 := { stood := { row := fnMsgStrictRow, standIns := [], harness := (true, "d655095645653a6eb0f7838515b82f6e1d2871671602eb6266f5eb3d3a7cd9f4"), looks := true }, kinds := [], alts := [], laidByText := true, laidKinds := [.data, .data, .data, .data, .sentinel, .sentinel, .pinned], laidTests := true, laidLooks := .later }
def FnMsgStrictCardSaid : Prop := Claim7.holds Tryz.pinned (.plain (OpenSpec.ofChange fnMsgStrictSpec)) fnMsgStrictCard

/-- THE TIED CARD OF 'laws.FnExactLinesRun'. -/
def fnExactLinesRunCard : Claim7 := { stood := { row := fnExactLinesRunRow, standIns := [], harness := (true, "d655095645653a6eb0f7838515b82f6e1d2871671602eb6266f5eb3d3a7cd9f4"), looks := true }, kinds := [], alts := [], laidByText := true, laidKinds := [.data, .data, .data, .data, .pinned], laidTests := true, laidLooks := .later }
def FnExactLinesRunCardSaid : Prop := Claim7.holds Tryz.pinned (.plain (OpenSpec.ofChange fnExactLinesRunSpec)) fnExactLinesRunCard

/-- THE TIED CARD OF 'laws.FnLinesBoth'. -/
def fnLinesBothCard : Claim7 := { stood := { row := fnLinesBothRow, standIns := [], harness := (true, "d655095645653a6eb0f7838515b82f6e1d2871671602eb6266f5eb3d3a7cd9f4"), looks := true }, kinds := [], alts := [], laidByText := true, laidKinds := [.data, .data, .data, .data, .pinned], laidTests := true, laidLooks := .later }
def FnLinesBothCardSaid : Prop := Claim7.holds Tryz.pinned (.plain (OpenSpec.ofChange fnLinesBothSpec)) fnLinesBothCard

/-- THE TIED CARD OF 'laws.FnLinesFall'. -/
def fnLinesFallCard : Claim7 := { stood := { row := fnLinesFallRow, standIns := [], harness := (true, "d655095645653a6eb0f7838515b82f6e1d2871671602eb6266f5eb3d3a7cd9f4"), looks := true }, kinds := [], alts := [], laidByText := true, laidKinds := [.data, .data, .data, .data, .pinned], laidTests := true, laidLooks := .later }
def FnLinesFallCardSaid : Prop := Claim7.holds Tryz.pinned (.plain (OpenSpec.ofChange fnLinesFallSpec)) fnLinesFallCard

/-- THE TIED CARD OF 'laws.FnLinesKeys'. -/
def fnLinesKeysCard : Claim7 := { stood := { row := fnLinesKeysRow, standIns := [], harness := (true, "d655095645653a6eb0f7838515b82f6e1d2871671602eb6266f5eb3d3a7cd9f4"), looks := true }, kinds := [], alts := [], laidByText := true, laidKinds := [.data, .data, .data, .data, .pinned], laidTests := true, laidLooks := .later }
def FnLinesKeysCardSaid : Prop := Claim7.holds Tryz.pinned (.plain (OpenSpec.ofChange fnLinesKeysSpec)) fnLinesKeysCard

/-- THE TIED CARD OF 'laws.FnLinesLong'. -/
def fnLinesLongCard : Claim7 := { stood := { row := fnLinesLongRow, standIns := [], harness := (true, "d655095645653a6eb0f7838515b82f6e1d2871671602eb6266f5eb3d3a7cd9f4"), looks := true }, kinds := [], alts := [], laidByText := true, laidKinds := [.data, .data, .data, .data, .pinned], laidTests := true, laidLooks := .later }
def FnLinesLongCardSaid : Prop := Claim7.holds Tryz.pinned (.plain (OpenSpec.ofChange fnLinesLongSpec)) fnLinesLongCard

/-- THE TIED CARD OF 'laws.FnLinesMeet'. -/
def fnLinesMeetCard : Claim7 := { stood := { row := fnLinesMeetRow, standIns := [], harness := (true, "d655095645653a6eb0f7838515b82f6e1d2871671602eb6266f5eb3d3a7cd9f4"), looks := true }, kinds := [], alts := [], laidByText := true, laidKinds := [.data, .data, .data, .data, .pinned], laidTests := true, laidLooks := .later }
def FnLinesMeetCardSaid : Prop := Claim7.holds Tryz.pinned (.plain (OpenSpec.ofChange fnLinesMeetSpec)) fnLinesMeetCard

/-- THE TIED CARD OF 'laws.FnLinesQuiet'. -/
def fnLinesQuietCard : Claim7 := { stood := { row := fnLinesQuietRow, standIns := [], harness := (true, "d655095645653a6eb0f7838515b82f6e1d2871671602eb6266f5eb3d3a7cd9f4"), looks := true }, kinds := [], alts := [], laidByText := true, laidKinds := [.data, .data, .data, .data, .pinned], laidTests := true, laidLooks := .later }
def FnLinesQuietCardSaid : Prop := Claim7.holds Tryz.pinned (.plain (OpenSpec.ofChange fnLinesQuietSpec)) fnLinesQuietCard

/-- THE TIED CARD OF 'laws.FnLinesReplay'. -/
def fnLinesReplayCard : Claim7 := { stood := { row := fnLinesReplayRow, standIns := [], harness := (true, "d655095645653a6eb0f7838515b82f6e1d2871671602eb6266f5eb3d3a7cd9f4"), looks := true }, kinds := [], alts := [], laidByText := true, laidKinds := [.data, .data, .data, .data, .pinned], laidTests := true, laidLooks := .later }
def FnLinesReplayCardSaid : Prop := Claim7.holds Tryz.pinned (.plain (OpenSpec.ofChange fnLinesReplaySpec)) fnLinesReplayCard

/-- THE TIED CARD OF 'laws.FnLinesRun'. -/
def fnLinesRunCard : Claim7 := { stood := { row := fnLinesRunRow, standIns := [], harness := (true, "d655095645653a6eb0f7838515b82f6e1d2871671602eb6266f5eb3d3a7cd9f4"), looks := true }, kinds := [], alts := [], laidByText := true, laidKinds := [.data, .data, .data, .data, .pinned], laidTests := true, laidLooks := .later }
def FnLinesRunCardSaid : Prop := Claim7.holds Tryz.pinned (.plain (OpenSpec.ofChange fnLinesRunSpec)) fnLinesRunCard

/-- THE SECOND FORM's CARD OF 'laws.FnMsgBack'. -/
def fnMsgBackUptoCard : Claim7 := { stood := { row := fnMsgBackUptoRow, standIns := [], harness := (true, "d655095645653a6eb0f7838515b82f6e1d2871671602eb6266f5eb3d3a7cd9f4"), looks := true }, kinds := [], alts := [], laidByText := true, laidKinds := [.data, .data, .data, .data, .sentinel, .sentinel, .pinned], laidTests := true, laidLooks := .later }
def FnMsgBackUptoCardSaid : Prop := Claim7.holds Tryz.pinned (.plain (OpenSpec.upto fnMsgBackSpec)) fnMsgBackUptoCard

/-- THE SECOND FORM's CARD OF 'laws.FnLinesSteps'. -/
def fnLinesStepsUptoCard : Claim7 := { stood := { row := fnLinesStepsUptoRow, standIns := [], harness := (true, "d655095645653a6eb0f7838515b82f6e1d2871671602eb6266f5eb3d3a7cd9f4"), looks := true }, kinds := [], alts := [], laidByText := true, laidKinds := [.data, .data, .data, .data, .pinned], laidTests := true, laidLooks := .later }
def FnLinesStepsUptoCardSaid : Prop := Claim7.holds Tryz.pinned (.plain (OpenSpec.upto fnLinesStepsSpec)) fnLinesStepsUptoCard

/-- THE SECOND FORM's CARD OF 'laws.FnExactMsgRead'. -/
def fnExactMsgReadUptoCard : Claim7 := { stood := { row := fnExactMsgReadUptoRow, standIns := [], harness := (true, "d655095645653a6eb0f7838515b82f6e1d2871671602eb6266f5eb3d3a7cd9f4"), looks := true }, kinds := [], alts := [], laidByText := true, laidKinds := [.data, .data, .data, .data, .sentinel, .sentinel, .pinned], laidTests := true, laidLooks := .later }
def FnExactMsgReadUptoCardSaid : Prop := Claim7.holds Tryz.pinned (.plain (OpenSpec.upto fnExactMsgReadSpec)) fnExactMsgReadUptoCard

/-- THE SECOND FORM's CARD OF 'laws.FnLinesTick'. -/
def fnLinesTickUptoCard : Claim7 := { stood := { row := fnLinesTickUptoRow, standIns := [], harness := (true, "d655095645653a6eb0f7838515b82f6e1d2871671602eb6266f5eb3d3a7cd9f4"), looks := true }, kinds := [], alts := [], laidByText := true, laidKinds := [.data, .data, .data, .data, .pinned], laidTests := true, laidLooks := .later }
def FnLinesTickUptoCardSaid : Prop := Claim7.holds Tryz.pinned (.plain (OpenSpec.upto fnLinesTickSpec)) fnLinesTickUptoCard

/-- THE SECOND FORM's CARD OF 'laws.FnMsgStrict'. -/
def fnMsgStrictUptoCard : Claim7 := { stood := { row := fnMsgStrictUptoRow, standIns := [], harness := (true, "d655095645653a6eb0f7838515b82f6e1d2871671602eb6266f5eb3d3a7cd9f4"), looks := true }, kinds := [], alts := [], laidByText := true, laidKinds := [.data, .data, .data, .data, .sentinel, .sentinel, .pinned], laidTests := true, laidLooks := .later }
def FnMsgStrictUptoCardSaid : Prop := Claim7.holds Tryz.pinned (.plain (OpenSpec.upto fnMsgStrictSpec)) fnMsgStrictUptoCard

/-- THE SECOND FORM's CARD OF 'laws.FnExactLinesRun'. -/
def fnExactLinesRunUptoCard : Claim7 := { stood := { row := fnExactLinesRunUptoRow, standIns := [], harness := (true, "d655095645653a6eb0f7838515b82f6e1d2871671602eb6266f5eb3d3a7cd9f4"), looks := true }, kinds := [], alts := [], laidByText := true, laidKinds := [.data, .data, .data, .data, .pinned], laidTests := true, laidLooks := .later }
def FnExactLinesRunUptoCardSaid : Prop := Claim7.holds Tryz.pinned (.plain (OpenSpec.upto fnExactLinesRunSpec)) fnExactLinesRunUptoCard

/-- THE SECOND FORM's CARD OF 'laws.FnLinesBoth'. -/
def fnLinesBothUptoCard : Claim7 := { stood := { row := fnLinesBothUptoRow, standIns := [], harness := (true, "d655095645653a6eb0f7838515b82f6e1d2871671602eb6266f5eb3d3a7cd9f4"), looks := true }, kinds := [], alts := [], laidByText := true, laidKinds := [.data, .data, .data, .data, .pinned], laidTests := true, laidLooks := .later }
def FnLinesBothUptoCardSaid : Prop := Claim7.holds Tryz.pinned (.plain (OpenSpec.upto fnLinesBothSpec)) fnLinesBothUptoCard

/-- THE SECOND FORM's CARD OF 'laws.FnLinesFall'. -/
def fnLinesFallUptoCard : Claim7 := { stood := { row := fnLinesFallUptoRow, standIns := [], harness := (true, "d655095645653a6eb0f7838515b82f6e1d2871671602eb6266f5eb3d3a7cd9f4"), looks := true }, kinds := [], alts := [], laidByText := true, laidKinds := [.data, .data, .data, .data, .pinned], laidTests := true, laidLooks := .later }
def FnLinesFallUptoCardSaid : Prop := Claim7.holds Tryz.pinned (.plain (OpenSpec.upto fnLinesFallSpec)) fnLinesFallUptoCard

/-- THE SECOND FORM's CARD OF 'laws.FnLinesKeys'. -/
def fnLinesKeysUptoCard : Claim7 := { stood := { row := fnLinesKeysUptoRow, standIns := [], harness := (true, "d655095645653a6eb0f7838515b82f6e1d2871671602eb6266f5eb3d3a7cd9f4"), looks := true }, kinds := [], alts := [], laidByText := true, laidKinds := [.data, .data, .data, .data, .pinned], laidTests := true, laidLooks := .later }
def FnLinesKeysUptoCardSaid : Prop := Claim7.holds Tryz.pinned (.plain (OpenSpec.upto fnLinesKeysSpec)) fnLinesKeysUptoCard

/-- THE SECOND FORM's CARD OF 'laws.FnLinesLong'. -/
def fnLinesLongUptoCard : Claim7 := { stood := { row := fnLinesLongUptoRow, standIns := [], harness := (true, "d655095645653a6eb0f7838515b82f6e1d2871671602eb6266f5eb3d3a7cd9f4"), looks := true }, kinds := [], alts := [], laidByText := true, laidKinds := [.data, .data, .data, .data, .pinned], laidTests := true, laidLooks := .later }
def FnLinesLongUptoCardSaid : Prop := Claim7.holds Tryz.pinned (.plain (OpenSpec.upto fnLinesLongSpec)) fnLinesLongUptoCard

/-- THE SECOND FORM's CARD OF 'laws.FnLinesMeet'. -/
def fnLinesMeetUptoCard : Claim7 := { stood := { row := fnLinesMeetUptoRow, standIns := [], harness := (true, "d655095645653a6eb0f7838515b82f6e1d2871671602eb6266f5eb3d3a7cd9f4"), looks := true }, kinds := [], alts := [], laidByText := true, laidKinds := [.data, .data, .data, .data, .pinned], laidTests := true, laidLooks := .later }
def FnLinesMeetUptoCardSaid : Prop := Claim7.holds Tryz.pinned (.plain (OpenSpec.upto fnLinesMeetSpec)) fnLinesMeetUptoCard

/-- THE SECOND FORM's CARD OF 'laws.FnLinesQuiet'. -/
def fnLinesQuietUptoCard : Claim7 := { stood := { row := fnLinesQuietUptoRow, standIns := [], harness := (true, "d655095645653a6eb0f7838515b82f6e1d2871671602eb6266f5eb3d3a7cd9f4"), looks := true }, kinds := [], alts := [], laidByText := true, laidKinds := [.data, .data, .data, .data, .pinned], laidTests := true, laidLooks := .later }
def FnLinesQuietUptoCardSaid : Prop := Claim7.holds Tryz.pinned (.plain (OpenSpec.upto fnLinesQuietSpec)) fnLinesQuietUptoCard

/-- THE SECOND FORM's CARD OF 'laws.FnLinesReplay'. -/
def fnLinesReplayUptoCard : Claim7 := { stood := { row := fnLinesReplayUptoRow, standIns := [], harness := (true, "d655095645653a6eb0f7838515b82f6e1d2871671602eb6266f5eb3d3a7cd9f4"), looks := true }, kinds := [], alts := [], laidByText := true, laidKinds := [.data, .data, .data, .data, .pinned], laidTests := true, laidLooks := .later }
def FnLinesReplayUptoCardSaid : Prop := Claim7.holds Tryz.pinned (.plain (OpenSpec.upto fnLinesReplaySpec)) fnLinesReplayUptoCard

/-- THE SECOND FORM's CARD OF 'laws.FnLinesRun'. -/
def fnLinesRunUptoCard : Claim7 := { stood := { row := fnLinesRunUptoRow, standIns := [], harness := (true, "d655095645653a6eb0f7838515b82f6e1d2871671602eb6266f5eb3d3a7cd9f4"), looks := true }, kinds := [], alts := [], laidByText := true, laidKinds := [.data, .data, .data, .data, .pinned], laidTests := true, laidLooks := .later }
def FnLinesRunUptoCardSaid : Prop := Claim7.holds Tryz.pinned (.plain (OpenSpec.upto fnLinesRunSpec)) fnLinesRunUptoCard
end Rows
end Go.Proofs.YtpfcckkjbkhbhaaGreatDoor
