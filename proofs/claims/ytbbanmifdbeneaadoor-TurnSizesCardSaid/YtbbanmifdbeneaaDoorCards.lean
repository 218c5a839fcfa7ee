/-
  DERIVED. GIVEN WITH THE SEED: THE CARDS: each row of YtbbanmifdbeneaaDoorRows.lean that lists a variable, with what it lists TIED to the program's text (the seventh form; the later family's looks); each row that meets fmt, with fmt's text TOLD by the authors' own Lean function (tested against real Go, not proved from fmt's source: count such statements apart). THE CARD IS WHAT COUNTS. Prove the row's statement (the work); the ties are given (YtbbanmifdbeneaaDoorTie.lean); close each card by the builder's one call (the guide's Derived/Test/ToyasCard.lean, 'card_holds'). Laid BY PROGRAM, IN A SANDBOX (cutbox-door.mjs). By AI agents, Wed Nov 11 2026. No macro, syntax, notation, axiom, sorry.
-/
import Derived.Test.YtbbanmifdbeneaaDoorRows
import GoSem.ClaimSeven
namespace Go.Proofs.YtbbanmifdbeneaaDoor
namespace Rows

/-- THE TIED CARD OF 'crocuslaw02.TurnRises'. -/
def turnRisesCard : Claim7 := { stood := { row := turnRisesRow, standIns := [], harness := (true, "0d731badf4e0ccf12345af2f94122e0e61a4db1cce3b3ab7c1cb0e3c5f870caa"), looks := false }, kinds := [], alts := [], goes := true, laidByText := true, laidKinds := [.funcs, .data], laidTests := true, laidLooks := .later }
def TurnRisesCardSaid : Prop := Claim7.holds Tryd.pinned (.plain (OpenSpec.ofChange turnRisesSpec)) turnRisesCard

/-- THE TIED CARD OF 'crocuslaw02.TurnSizes'. -/
def turnSizesCard : Claim7 := { stood := { row := turnSizesRow, standIns := [], harness := (true, "0d731badf4e0ccf12345af2f94122e0e61a4db1cce3b3ab7c1cb0e3c5f870caa"), looks := false }, kinds := [], alts := [], goes := true, laidByText := true, laidKinds := [.funcs, .data], laidTests := true, laidLooks := .later }
def TurnSizesCardSaid : Prop := Claim7.holds Tryd.pinned (.plain (OpenSpec.ofChange turnSizesSpec)) turnSizesCard

/-- THE SECOND FORM's CARD OF 'crocuslaw02.TurnRises'. -/
def turnRisesUptoCard : Claim7 := { stood := { row := turnRisesUptoRow, standIns := [], harness := (true, "0d731badf4e0ccf12345af2f94122e0e61a4db1cce3b3ab7c1cb0e3c5f870caa"), looks := false }, kinds := [], alts := [], goes := true, laidByText := true, laidKinds := [.funcs, .data], laidTests := true, laidLooks := .later }
def TurnRisesUptoCardSaid : Prop := Claim7.holds Tryd.pinned (.plain (OpenSpec.upto turnRisesSpec)) turnRisesUptoCard

/-- THE SECOND FORM's CARD OF 'crocuslaw02.TurnSizes'. -/
def turnSizesUptoCard : Claim7 := { stood := { row := turnSizesUptoRow, standIns := [], harness := (true, "0d731badf4e0ccf12345af2f94122e0e61a4db1cce3b3ab7c1cb0e3c5f870caa"), looks := false }, kinds := [], alts := [], goes := true, laidByText := true, laidKinds := [.funcs, .data], laidTests := true, laidLooks := .later }
def TurnSizesUptoCardSaid : Prop := Claim7.holds Tryd.pinned (.plain (OpenSpec.upto turnSizesSpec)) turnSizesUptoCard
end Rows
end Go.Proofs.YtbbanmifdbeneaaDoor
