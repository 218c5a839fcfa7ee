/-
  DERIVED. GIVEN WITH THE SEED: THE CARDS: each row of YtolholkjeehamaaDoorRows.lean that lists a variable, with what it lists TIED to the program's text (the seventh form; the later family's looks); each row that meets fmt, with fmt's text TOLD by the authors' own Lean function (tested against real Go, not proved from fmt's source: count such statements apart). THE CARD IS WHAT COUNTS. Prove the row's statement (the work); the ties are given (YtolholkjeehamaaDoorTie.lean); close each card by the builder's one call (the guide's Derived/Test/ToyasCard.lean, 'card_holds'). Laid BY PROGRAM, IN A SANDBOX (cutbox-door.mjs). By AI agents, Wed Nov 11 2026. No macro, syntax, notation, axiom, sorry.
-/
import Derived.Test.YtolholkjeehamaaDoorRows
import GoSem.ClaimSeven
namespace Go.Proofs.YtolholkjeehamaaDoor
namespace Rows

/-- THE TIED CARD OF 'crocuslaw02.TurnHours'. -/
def turnHoursCard : Claim7 := { stood := { row := turnHoursRow, standIns := [], harness := (true, "13bbfa5877394a3cde13138796d6bb679173f8167c87f9ccc98cd9f3e99a425f"), looks := false }, kinds := [], alts := [], goes := true, laidByText := true, laidKinds := [.funcs, .data], laidTests := true, laidLooks := .later }
def TurnHoursCardSaid : Prop := Claim7.holds Tryd.pinned (.plain (OpenSpec.ofChange turnHoursSpec)) turnHoursCard

/-- THE TIED CARD OF 'crocuslaw02.TurnNext'. -/
def turnNextCard : Claim7 := { stood := { row := turnNextRow, standIns := [], harness := (true, "13bbfa5877394a3cde13138796d6bb679173f8167c87f9ccc98cd9f3e99a425f"), looks := false }, kinds := [], alts := [], goes := true, laidByText := true, laidKinds := [.funcs, .data], laidTests := true, laidLooks := .later }
def TurnNextCardSaid : Prop := Claim7.holds Tryd.pinned (.plain (OpenSpec.ofChange turnNextSpec)) turnNextCard

/-- THE TIED CARD OF 'crocuslaw02.TurnChanges'. -/
def turnChangesCard : Claim7 := { stood := { row := turnChangesRow, standIns := [], harness := (true, "13bbfa5877394a3cde13138796d6bb679173f8167c87f9ccc98cd9f3e99a425f"), looks := false }, kinds := [], alts := [], goes := true, laidByText := true, laidKinds := [.funcs, .data], laidTests := true, laidLooks := .later }
def TurnChangesCardSaid : Prop := Claim7.holds Tryd.pinned (.plain (OpenSpec.ofChange turnChangesSpec)) turnChangesCard

/-- THE TIED CARD OF 'crocuslaw02.TurnClock'. -/
def turnClockCard : Claim7 := { stood := { row := turnClockRow, standIns := [], harness := (true, "13bbfa5877394a3cde13138796d6bb679173f8167c87f9ccc98cd9f3e99a425f"), looks := false }, kinds := [], alts := [], goes := true, laidByText := true, laidKinds := [.funcs, .data], laidTests := true, laidLooks := .later }
def TurnClockCardSaid : Prop := Claim7.holds Tryd.pinned (.plain (OpenSpec.ofChange turnClockSpec)) turnClockCard

/-- THE TIED CARD OF 'crocuslaw02.TurnBlame'. -/
def turnBlameCard : Claim7 := { stood := { row := turnBlameRow, standIns := [], harness := (true, "13bbfa5877394a3cde13138796d6bb679173f8167c87f9ccc98cd9f3e99a425f"), looks := false }, kinds := [], alts := [], goes := true, laidByText := true, laidKinds := [.funcs, .data], laidTests := true, laidLooks := .later }
def TurnBlameCardSaid : Prop := Claim7.holds Tryd.pinned (.plain (OpenSpec.ofChange turnBlameSpec)) turnBlameCard

/-- THE TIED CARD OF 'crocuslaw02.TurnKnown'. -/
def turnKnownCard : Claim7 := { stood := { row := turnKnownRow, standIns := [], harness := (true, "13bbfa5877394a3cde13138796d6bb679173f8167c87f9ccc98cd9f3e99a425f"), looks := false }, kinds := [], alts := [], goes := true, laidByText := true, laidKinds := [.funcs, .data], laidTests := true, laidLooks := .later }
def TurnKnownCardSaid : Prop := Claim7.holds Tryd.pinned (.plain (OpenSpec.ofChange turnKnownSpec)) turnKnownCard

/-- THE TIED CARD OF 'crocuslaw02.TurnLogs'. -/
def turnLogsCard : Claim7 := { stood := { row := turnLogsRow, standIns := [], harness := (true, "13bbfa5877394a3cde13138796d6bb679173f8167c87f9ccc98cd9f3e99a425f"), looks := false }, kinds := [], alts := [], goes := true, laidByText := true, laidKinds := [.funcs, .data], laidTests := true, laidLooks := .later }
def TurnLogsCardSaid : Prop := Claim7.holds Tryd.pinned (.plain (OpenSpec.ofChange turnLogsSpec)) turnLogsCard

/-- THE TIED CARD OF 'crocuslaw02.TurnOwners'. -/
def turnOwnersCard : Claim7 := { stood := { row := turnOwnersRow, standIns := [], harness := (true, "13bbfa5877394a3cde13138796d6bb679173f8167c87f9ccc98cd9f3e99a425f"), looks := false }, kinds := [], alts := [], goes := true, laidByText := true, laidKinds := [.funcs, .data], laidTests := true, laidLooks := .later }
def TurnOwnersCardSaid : Prop := Claim7.holds Tryd.pinned (.plain (OpenSpec.ofChange turnOwnersSpec)) turnOwnersCard

/-- THE TIED CARD OF 'crocuslaw02.TurnOne'. -/
def turnOneCard : Claim7 := { stood := { row := turnOneRow, standIns := [], harness := (true, "13bbfa5877394a3cde13138796d6bb679173f8167c87f9ccc98cd9f3e99a425f"), looks := false }, kinds := [], alts := [], goes := true, laidByText := true, laidKinds := [.funcs, .data], laidTests := true, laidLooks := .later }
def TurnOneCardSaid : Prop := Claim7.holds Tryd.pinned (.plain (OpenSpec.ofChange turnOneSpec)) turnOneCard

/-- THE TIED CARD OF 'crocuslaw02.TurnSum'. -/
def turnSumCard : Claim7 := { stood := { row := turnSumRow, standIns := [], harness := (true, "13bbfa5877394a3cde13138796d6bb679173f8167c87f9ccc98cd9f3e99a425f"), looks := false }, kinds := [], alts := [], goes := true, laidByText := true, laidKinds := [.funcs, .data], laidTests := true, laidLooks := .later }
def TurnSumCardSaid : Prop := Claim7.holds Tryd.pinned (.plain (OpenSpec.ofChange turnSumSpec)) turnSumCard

/-- THE TIED CARD OF 'crocuslaw02.TurnShares'. -/
def turnSharesCard : Claim7 := { stood := { row := turnSharesRow, standIns := [], harness := (true, "13bbfa5877394a3cde13138796d6bb679173f8167c87f9ccc98cd9f3e99a425f"), looks := false }, kinds := [], alts := [], goes := true, laidByText := true, laidKinds := [.funcs, .data], laidTests := true, laidLooks := .later }
def TurnSharesCardSaid : Prop := Claim7.holds Tryd.pinned (.plain (OpenSpec.ofChange turnSharesSpec)) turnSharesCard

/-- THE TIED CARD OF 'crocuslaw02.TurnFeast'. -/
def turnFeastCard : Claim7 := { stood := { row := turnFeastRow, standIns := [], harness := (true, "13bbfa5877394a3cde13138796d6bb679173f8167c87f9ccc98cd9f3e99a425f"), looks := false }, kinds := [], alts := [], goes := true, laidByText := true, laidKinds := [.funcs, .data], laidTests := true, laidLooks := .later }
def TurnFeastCardSaid : Prop := Claim7.holds Tryd.pinned (.plain (OpenSpec.ofChange turnFeastSpec)) turnFeastCard

/-- THE TIED CARD OF 'crocuslaw02.TurnGets'. -/
def turnGetsCard : Claim7 := { stood := { row := turnGetsRow, standIns := [], harness := (true, "13bbfa5877394a3cde13138796d6bb679173f8167c87f9ccc98cd9f3e99a425f"), looks := false }, kinds := [], alts := [], goes := true, laidByText := true, laidKinds := [.funcs, .data], laidTests := true, laidLooks := .later }
def TurnGetsCardSaid : Prop := Claim7.holds Tryd.pinned (.plain (OpenSpec.ofChange turnGetsSpec)) turnGetsCard

/-- THE TIED CARD OF 'crocuslaw02.TurnWater'. -/
def turnWaterCard : Claim7 := { stood := { row := turnWaterRow, standIns := [], harness := (true, "13bbfa5877394a3cde13138796d6bb679173f8167c87f9ccc98cd9f3e99a425f"), looks := false }, kinds := [], alts := [], goes := true, laidByText := true, laidKinds := [.funcs, .data], laidTests := true, laidLooks := .later }
def TurnWaterCardSaid : Prop := Claim7.holds Tryd.pinned (.plain (OpenSpec.ofChange turnWaterSpec)) turnWaterCard

/-- THE TIED CARD OF 'crocuslaw02.TurnMore'. -/
def turnMoreCard : Claim7 := { stood := { row := turnMoreRow, standIns := [], harness := (true, "13bbfa5877394a3cde13138796d6bb679173f8167c87f9ccc98cd9f3e99a425f"), looks := false }, kinds := [], alts := [], goes := true, laidByText := true, laidKinds := [.funcs, .data], laidTests := true, laidLooks := .later }
def TurnMoreCardSaid : Prop := Claim7.holds Tryd.pinned (.plain (OpenSpec.ofChange turnMoreSpec)) turnMoreCard

/-- THE TIED CARD OF 'crocuslaw02.TurnPlots'. -/
def turnPlotsCard : Claim7 := { stood := { row := turnPlotsRow, standIns := [], harness := (true, "13bbfa5877394a3cde13138796d6bb679173f8167c87f9ccc98cd9f3e99a425f"), looks := false }, kinds := [], alts := [], goes := true, laidByText := true, laidKinds := [.funcs, .data], laidTests := true, laidLooks := .later }
def TurnPlotsCardSaid : Prop := Claim7.holds Tryd.pinned (.plain (OpenSpec.ofChange turnPlotsSpec)) turnPlotsCard

/-- THE SECOND FORM's CARD OF 'crocuslaw02.TurnHours'. -/
def turnHoursUptoCard : Claim7 := { stood := { row := turnHoursUptoRow, standIns := [], harness := (true, "13bbfa5877394a3cde13138796d6bb679173f8167c87f9ccc98cd9f3e99a425f"), looks := false }, kinds := [], alts := [], goes := true, laidByText := true, laidKinds := [.funcs, .data], laidTests := true, laidLooks := .later }
def TurnHoursUptoCardSaid : Prop := Claim7.holds Tryd.pinned (.plain (OpenSpec.upto turnHoursSpec)) turnHoursUptoCard

/-- THE SECOND FORM's CARD OF 'crocuslaw02.TurnNext'. -/
def turnNextUptoCard : Claim7 := { stood := { row := turnNextUptoRow, standIns := [], harness := (true, "13bbfa5877394a3cde13138796d6bb679173f8167c87f9ccc98cd9f3e99a425f"), looks := false }, kinds := [], alts := [], goes := true, laidByText := true, laidKinds := [.funcs, .data], laidTests := true, laidLooks := .later }
def TurnNextUptoCardSaid : Prop := Claim7.holds Tryd.pinned (.plain (OpenSpec.upto turnNextSpec)) turnNextUptoCard

/-- THE SECOND FORM's CARD OF 'crocuslaw02.TurnChanges'. -/
def turnChangesUptoCard : Claim7 := { stood := { row := turnChangesUptoRow, standIns := [], harness := (true, "13bbfa5877394a3cde13138796d6bb679173f8167c87f9ccc98cd9f3e99a425f"), looks := false }, kinds := [], alts := [], goes := true, laidByText := true, laidKinds := [.funcs, .data], laidTests := true, laidLooks := .later }
def TurnChangesUptoCardSaid : Prop := Claim7.holds Tryd.pinned (.plain (OpenSpec.upto turnChangesSpec)) turnChangesUptoCard

/-- THE SECOND FORM's CARD OF 'crocuslaw02.TurnClock'. -/
def turnClockUptoCard : Claim7 := { stood := { row := turnClockUptoRow, standIns := [], harness := (true, "13bbfa5877394a3cde13138796d6bb679173f8167c87f9ccc98cd9f3e99a425f"), looks := false }, kinds := [], alts := [], goes := true, laidByText := true, laidKinds := [.funcs, .data], laidTests := true, laidLooks := .later }
def TurnClockUptoCardSaid : Prop := Claim7.holds Tryd.pinned (.plain (OpenSpec.upto turnClockSpec)) turnClockUptoCard

/-- THE SECOND FORM's CARD OF 'crocuslaw02.TurnBlame'. -/
def turnBlameUptoCard : Claim7 := { stood := { row := turnBlameUptoRow, standIns := [], harness := (true, "13bbfa5877394a3cde13138796d6bb679173f8167c87f9ccc98cd9f3e99a425f"), looks := false }, kinds := [], alts := [], goes := true, laidByText := true, laidKinds := [.funcs, .data], laidTests := true, laidLooks := .later }
def TurnBlameUptoCardSaid : Prop := Claim7.holds Tryd.pinned (.plain (OpenSpec.upto turnBlameSpec)) turnBlameUptoCard

/-- THE SECOND FORM's CARD OF 'crocuslaw02.TurnKnown'. -/
def turnKnownUptoCard : Claim7 := { stood := { row := turnKnownUptoRow, standIns := [], harness := (true, "13bbfa5877394a3cde13138796d6bb679173f8167c87f9ccc98cd9f3e99a425f"), looks := false }, kinds := [], alts := [], goes := true, laidByText := true, laidKinds := [.funcs, .data], laidTests := true, laidLooks := .later }
def TurnKnownUptoCardSaid : Prop := Claim7.holds Tryd.pinned (.plain (OpenSpec.upto turnKnownSpec)) turnKnownUptoCard

/-- THE SECOND FORM's CARD OF 'crocuslaw02.TurnLogs'. -/
def turnLogsUptoCard : Claim7 := { stood := { row := turnLogsUptoRow, standIns := [], harness := (true, "13bbfa5877394a3cde13138796d6bb679173f8167c87f9ccc98cd9f3e99a425f"), looks := false }, kinds := [], alts := [], goes := true, laidByText := true, laidKinds := [.funcs, .data], laidTests := true, laidLooks := .later }
def TurnLogsUptoCardSaid : Prop := Claim7.holds Tryd.pinned (.plain (OpenSpec.upto turnLogsSpec)) turnLogsUptoCard

/-- THE SECOND FORM's CARD OF 'crocuslaw02.TurnOwners'. -/
def turnOwnersUptoCard : Claim7 := { stood := { row := turnOwnersUptoRow, standIns := [], harness := (true, "13bbfa5877394a3cde13138796d6bb679173f8167c87f9ccc98cd9f3e99a425f"), looks := false }, kinds := [], alts := [], goes := true, laidByText := true, laidKinds := [.funcs, .data], laidTests := true, laidLooks := .later }
def TurnOwnersUptoCardSaid : Prop := Claim7.holds Tryd.pinned (.plain (OpenSpec.upto turnOwnersSpec)) turnOwnersUptoCard

/-- THE SECOND FORM's CARD OF 'crocuslaw02.TurnOne'. -/
def turnOneUptoCard : Claim7 := { stood := { row := turnOneUptoRow, standIns := [], harness := (true, "13bbfa5877394a3cde13138796d6bb679173f8167c87f9ccc98cd9f3e99a425f"), looks := false }, kinds := [], alts := [], goes := true, laidByText := true, laidKinds := [.funcs, .data], laidTests := true, laidLooks := .later }
def TurnOneUptoCardSaid : Prop := Claim7.holds Tryd.pinned (.plain (OpenSpec.upto turnOneSpec)) turnOneUptoCard

/-- THE SECOND FORM's CARD OF 'crocuslaw02.TurnSum'. -/
def turnSumUptoCard : Claim7 := { stood := { row := turnSumUptoRow, standIns := [], harness := (true, "13bbfa5877394a3cde13138796d6bb679173f8167c87f9ccc98cd9f3e99a425f"), looks := false }, kinds := [], alts := [], goes := true, laidByText := true, laidKinds := [.funcs, .data], laidTests := true, laidLooks := .later }
def TurnSumUptoCardSaid : Prop := Claim7.holds Tryd.pinned (.plain (OpenSpec.upto turnSumSpec)) turnSumUptoCard

/-- THE SECOND FORM's CARD OF 'crocuslaw02.TurnShares'. -/
def turnSharesUptoCard : Claim7 := { stood := { row := turnSharesUptoRow, standIns := [], harness := (true, "13bbfa5877394a3cde13138796d6bb679173f8167c87f9ccc98cd9f3e99a425f"), looks := false }, kinds := [], alts := [], goes := true, laidByText := true, laidKinds := [.funcs, .data], laidTests := true, laidLooks := .later }
def TurnSharesUptoCardSaid : Prop := Claim7.holds Tryd.pinned (.plain (OpenSpec.upto turnSharesSpec)) turnSharesUptoCard

/-- THE SECOND FORM's CARD OF 'crocuslaw02.TurnFeast'. -/
def turnFeastUptoCard : Claim7 := { stood := { row := turnFeastUptoRow, standIns := [], harness := (true, "13bbfa5877394a3cde13138796d6bb679173f8167c87f9ccc98cd9f3e99a425f"), looks := false }, kinds := [], alts := [], goes := true, laidByText := true, laidKinds := [.funcs, .data], laidTests := true, laidLooks := .later }
def TurnFeastUptoCardSaid : Prop := Claim7.holds Tryd.pinned (.plain (OpenSpec.upto turnFeastSpec)) turnFeastUptoCard

/-- THE SECOND FORM's CARD OF 'crocuslaw02.TurnGets'. -/
def turnGetsUptoCard : Claim7 := { stood := { row := turnGetsUptoRow, standIns := [], harness := (true, "13bbfa5877394a3cde13138796d6bb679173f8167c87f9ccc98cd9f3e99a425f"), looks := false }, kinds := [], alts := [], goes := true, laidByText := true, laidKinds := [.funcs, .data], laidTests := true, laidLooks := .later }
def TurnGetsUptoCardSaid : Prop := Claim7.holds Tryd.pinned (.plain (OpenSpec.upto turnGetsSpec)) turnGetsUptoCard

/-- THE SECOND FORM's CARD OF 'crocuslaw02.TurnWater'. -/
def turnWaterUptoCard : Claim7 := { stood := { row := turnWaterUptoRow, standIns := [], harness := (true, "13bbfa5877394a3cde13138796d6bb679173f8167c87f9ccc98cd9f3e99a425f"), looks := false }, kinds := [], alts := [], goes := true, laidByText := true, laidKinds := [.funcs, .data], laidTests := true, laidLooks := .later }
def TurnWaterUptoCardSaid : Prop := Claim7.holds Tryd.pinned (.plain (OpenSpec.upto turnWaterSpec)) turnWaterUptoCard

/-- THE SECOND FORM's CARD OF 'crocuslaw02.TurnMore'. -/
def turnMoreUptoCard : Claim7 := { stood := { row := turnMoreUptoRow, standIns := [], harness := (true, "13bbfa5877394a3cde13138796d6bb679173f8167c87f9ccc98cd9f3e99a425f"), looks := false }, kinds := [], alts := [], goes := true, laidByText := true, laidKinds := [.funcs, .data], laidTests := true, laidLooks := .later }
def TurnMoreUptoCardSaid : Prop := Claim7.holds Tryd.pinned (.plain (OpenSpec.upto turnMoreSpec)) turnMoreUptoCard

/-- THE SECOND FORM's CARD OF 'crocuslaw02.TurnPlots'. -/
def turnPlotsUptoCard : Claim7 := { stood := { row := turnPlotsUptoRow, standIns := [], harness := (true, "13bbfa5877394a3cde13138796d6bb679173f8167c87f9ccc98cd9f3e99a425f"), looks := false }, kinds := [], alts := [], goes := true, laidByText := true, laidKinds := [.funcs, .data], laidTests := true, laidLooks := .later }
def TurnPlotsUptoCardSaid : Prop := Claim7.holds Tryd.pinned (.plain (OpenSpec.upto turnPlotsSpec)) turnPlotsUptoCard
end Rows
end Go.Proofs.YtolholkjeehamaaDoor
