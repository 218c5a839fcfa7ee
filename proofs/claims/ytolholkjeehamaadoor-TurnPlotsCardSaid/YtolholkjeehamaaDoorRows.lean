/-
  NARROWER THAN 'FOR EVERY INPUT', by the rows' own cells (each row's printed sentence says how): TurnHours: laid · TurnNext: laid · TurnChanges: laid · TurnClock: laid · TurnBlame: laid · TurnKnown: laid · TurnLogs: laid · TurnOwners: laid · TurnOne: laid · TurnSum: laid · TurnShares: laid · TurnFeast: laid · TurnGets: laid · TurnWater: laid · TurnMore: laid · TurnPlots: laid.
  DERIVED. THE GIVEN ROWS OF THIS SEAT. 16 by the template 'for every input the law returns true; each argument reads behind the call as it read before'; 0 by the template 'total and deterministic' (their statements: YtolholkjeehamaaDoorTotals.lean).
  GIVEN WITH THE SEED: the statements are not yours to turn. If you find one false, say at which input.
  Laid BY PROGRAM, IN A SANDBOX (cutbox-rows.mjs): the forced cells as the released guide's own fill.sh prints them over the translation 1f0a095cd571b08c… (all of the seat's roots in one cut). By AI agents, Wed Nov 11 2026. No macro, syntax, notation, axiom, sorry.
-/
import Derived.Test.YtolholkjeehamaaDoorChecked
import GoSem.Claim
import GoSem.ClaimJoined
import GoSem.ClaimMapViews
import Derived.JoinedTies
import Derived.KernelRfl
namespace Go.Proofs.YtolholkjeehamaaDoor
/- THE CELL 'sum', in the pinned program and in every row, IS THE sha256 OF THE DUMP (.gsa) THAT YtolholkjeehamaaDoorProg.lean LOADS. Nothing in Lean hashes anything: it is a label: what it is worth is what the hold of that sum in a sandbox is worth. -/
noncomputable def Tryd.pinned : Pinned := { name := "ytolholkjeehamaadoor", sum := "1f0a095cd571b08c2b9030ae0e424a1d4485d0287600ab84b4f2ce92b3818116", checked := Tryd.checked }
namespace Rows
def none {H : Type} : Left H := { results := [], args := [] }

/- WHAT THE LISTED PACKAGE-LEVEL VARIABLES READ AS WHEN THE CALL BEGINS. Each datum BY PROGRAM (the guide's laid-datum.mjs) off the statement by which the dump's own 'gosem.cut.vars' lays the variable. In a bare row this is a premise. The card (YtolholkjeehamaaDoorCards.lean) ties it to the program's text. -/
def laid_crocus_turn_checks {H : Type} : DataW H := .iface "func table" (.agg [.iface "func" (.lit (.string [40, 42, 99, 114, 111, 99, 117, 115, 47, 116, 117, 114, 110, 46, 100, 105, 116, 99, 104, 41, 46, 112, 101, 111, 112, 108, 101])), .iface "func" (.lit (.string [40, 42, 99, 114, 111, 99, 117, 115, 47, 116, 117, 114, 110, 46, 100, 105, 116, 99, 104, 41, 46, 116, 105, 109, 101, 115])), .iface "func" (.lit (.string [40, 42, 99, 114, 111, 99, 117, 115, 47, 116, 117, 114, 110, 46, 100, 105, 116, 99, 104, 41, 46, 99, 104, 97, 110, 103, 101, 115])), .iface "func" (.lit (.string [40, 42, 99, 114, 111, 99, 117, 115, 47, 116, 117, 114, 110, 46, 100, 105, 116, 99, 104, 41, 46, 103, 114, 111, 117, 110, 100]))])
def laid_crocus_turn_nowhere {H : Type} : DataW H := .agg [.lit (.int .i64 (-1)), .lit (.int .i64 (-1))]

/-- 'crocuslaw02.TurnHours': WHATEVER THE INPUT: true; the input reads as it did. -/
def turnHoursSpec : ChangeSpec := { name := "turnHours", fn := fun _ => fun
  | [d1, d2, d3, d4] => { results := [.lit (.bool true)], args := [d1, d2, d3, d4] }
  | _ => none }
def turnHoursRow : OpenClaim := { program := "ytolholkjeehamaadoor", sum := "1f0a095cd571b08c2b9030ae0e424a1d4485d0287600ab84b4f2ce92b3818116", func := "crocus/crocuslaw02.TurnHours", spec := "turnHours", unfollowed := true, recurses := true, named := ["crocus/turn.checks", "crocus/turn.nowhere"], leaving := true, apart := false, laid := [("crocus/turn.checks", laid_crocus_turn_checks), ("crocus/turn.nowhere", laid_crocus_turn_nowhere)] }
def TurnHoursSaid : Prop := turnHoursRow.holds Tryd.pinned (OpenSpec.ofChange turnHoursSpec)

/-- ITS FALSE NEIGHBOUR: 'it returns false'. Refute it at one input. -/
def turnHoursWrong : ChangeSpec := { name := "turnHours", fn := fun _ => fun
  | [d1, d2, d3, d4] => { results := [.lit (.bool false)], args := [d1, d2, d3, d4] }
  | _ => none }
def TurnHoursWrongFalsely : Prop := turnHoursRow.holds Tryd.pinned (OpenSpec.ofChange turnHoursWrong)

/-- 'crocuslaw02.TurnNext': WHATEVER THE INPUT: true; the input reads as it did. -/
def turnNextSpec : ChangeSpec := { name := "turnNext", fn := fun _ => fun
  | [d1, d2, d3] => { results := [.lit (.bool true)], args := [d1, d2, d3] }
  | _ => none }
def turnNextRow : OpenClaim := { program := "ytolholkjeehamaadoor", sum := "1f0a095cd571b08c2b9030ae0e424a1d4485d0287600ab84b4f2ce92b3818116", func := "crocus/crocuslaw02.TurnNext", spec := "turnNext", unfollowed := true, recurses := true, named := ["crocus/turn.checks", "crocus/turn.nowhere"], leaving := true, apart := false, laid := [("crocus/turn.checks", laid_crocus_turn_checks), ("crocus/turn.nowhere", laid_crocus_turn_nowhere)] }
def TurnNextSaid : Prop := turnNextRow.holds Tryd.pinned (OpenSpec.ofChange turnNextSpec)

/-- ITS FALSE NEIGHBOUR: 'it returns false'. Refute it at one input. -/
def turnNextWrong : ChangeSpec := { name := "turnNext", fn := fun _ => fun
  | [d1, d2, d3] => { results := [.lit (.bool false)], args := [d1, d2, d3] }
  | _ => none }
def TurnNextWrongFalsely : Prop := turnNextRow.holds Tryd.pinned (OpenSpec.ofChange turnNextWrong)

/-- 'crocuslaw02.TurnChanges': WHATEVER THE INPUT: true; the input reads as it did. -/
def turnChangesSpec : ChangeSpec := { name := "turnChanges", fn := fun _ => fun
  | [d1, d2, d3, d4] => { results := [.lit (.bool true)], args := [d1, d2, d3, d4] }
  | _ => none }
def turnChangesRow : OpenClaim := { program := "ytolholkjeehamaadoor", sum := "1f0a095cd571b08c2b9030ae0e424a1d4485d0287600ab84b4f2ce92b3818116", func := "crocus/crocuslaw02.TurnChanges", spec := "turnChanges", unfollowed := true, recurses := true, named := ["crocus/turn.checks", "crocus/turn.nowhere"], leaving := true, apart := false, laid := [("crocus/turn.checks", laid_crocus_turn_checks), ("crocus/turn.nowhere", laid_crocus_turn_nowhere)] }
def TurnChangesSaid : Prop := turnChangesRow.holds Tryd.pinned (OpenSpec.ofChange turnChangesSpec)

/-- ITS FALSE NEIGHBOUR: 'it returns false'. Refute it at one input. -/
def turnChangesWrong : ChangeSpec := { name := "turnChanges", fn := fun _ => fun
  | [d1, d2, d3, d4] => { results := [.lit (.bool false)], args := [d1, d2, d3, d4] }
  | _ => none }
def TurnChangesWrongFalsely : Prop := turnChangesRow.holds Tryd.pinned (OpenSpec.ofChange turnChangesWrong)

/-- 'crocuslaw02.TurnClock': WHATEVER THE INPUT: true; the input reads as it did. -/
def turnClockSpec : ChangeSpec := { name := "turnClock", fn := fun _ => fun
  | [d1, d2, d3] => { results := [.lit (.bool true)], args := [d1, d2, d3] }
  | _ => none }
def turnClockRow : OpenClaim := { program := "ytolholkjeehamaadoor", sum := "1f0a095cd571b08c2b9030ae0e424a1d4485d0287600ab84b4f2ce92b3818116", func := "crocus/crocuslaw02.TurnClock", spec := "turnClock", unfollowed := true, recurses := true, named := ["crocus/turn.checks", "crocus/turn.nowhere"], leaving := true, apart := false, laid := [("crocus/turn.checks", laid_crocus_turn_checks), ("crocus/turn.nowhere", laid_crocus_turn_nowhere)] }
def TurnClockSaid : Prop := turnClockRow.holds Tryd.pinned (OpenSpec.ofChange turnClockSpec)

/-- ITS FALSE NEIGHBOUR: 'it returns false'. Refute it at one input. -/
def turnClockWrong : ChangeSpec := { name := "turnClock", fn := fun _ => fun
  | [d1, d2, d3] => { results := [.lit (.bool false)], args := [d1, d2, d3] }
  | _ => none }
def TurnClockWrongFalsely : Prop := turnClockRow.holds Tryd.pinned (OpenSpec.ofChange turnClockWrong)

/-- 'crocuslaw02.TurnBlame': WHATEVER THE INPUT: true; the input reads as it did. -/
def turnBlameSpec : ChangeSpec := { name := "turnBlame", fn := fun _ => fun
  | [d1, d2, d3] => { results := [.lit (.bool true)], args := [d1, d2, d3] }
  | _ => none }
def turnBlameRow : OpenClaim := { program := "ytolholkjeehamaadoor", sum := "1f0a095cd571b08c2b9030ae0e424a1d4485d0287600ab84b4f2ce92b3818116", func := "crocus/crocuslaw02.TurnBlame", spec := "turnBlame", unfollowed := true, recurses := true, named := ["crocus/turn.checks", "crocus/turn.nowhere"], leaving := true, apart := false, laid := [("crocus/turn.checks", laid_crocus_turn_checks), ("crocus/turn.nowhere", laid_crocus_turn_nowhere)] }
def TurnBlameSaid : Prop := turnBlameRow.holds Tryd.pinned (OpenSpec.ofChange turnBlameSpec)

/-- ITS FALSE NEIGHBOUR: 'it returns false'. Refute it at one input. -/
def turnBlameWrong : ChangeSpec := { name := "turnBlame", fn := fun _ => fun
  | [d1, d2, d3] => { results := [.lit (.bool false)], args := [d1, d2, d3] }
  | _ => none }
def TurnBlameWrongFalsely : Prop := turnBlameRow.holds Tryd.pinned (OpenSpec.ofChange turnBlameWrong)

/-- 'crocuslaw02.TurnKnown': WHATEVER THE INPUT: true; the input reads as it did. -/
def turnKnownSpec : ChangeSpec := { name := "turnKnown", fn := fun _ => fun
  | [d1, d2, d3, d4, d5, d6] => { results := [.lit (.bool true)], args := [d1, d2, d3, d4, d5, d6] }
  | _ => none }
def turnKnownRow : OpenClaim := { program := "ytolholkjeehamaadoor", sum := "1f0a095cd571b08c2b9030ae0e424a1d4485d0287600ab84b4f2ce92b3818116", func := "crocus/crocuslaw02.TurnKnown", spec := "turnKnown", unfollowed := true, recurses := true, named := ["crocus/turn.checks", "crocus/turn.nowhere"], leaving := true, apart := false, laid := [("crocus/turn.checks", laid_crocus_turn_checks), ("crocus/turn.nowhere", laid_crocus_turn_nowhere)] }
def TurnKnownSaid : Prop := turnKnownRow.holds Tryd.pinned (OpenSpec.ofChange turnKnownSpec)

/-- ITS FALSE NEIGHBOUR: 'it returns false'. Refute it at one input. -/
def turnKnownWrong : ChangeSpec := { name := "turnKnown", fn := fun _ => fun
  | [d1, d2, d3, d4, d5, d6] => { results := [.lit (.bool false)], args := [d1, d2, d3, d4, d5, d6] }
  | _ => none }
def TurnKnownWrongFalsely : Prop := turnKnownRow.holds Tryd.pinned (OpenSpec.ofChange turnKnownWrong)

/-- 'crocuslaw02.TurnLogs': WHATEVER THE INPUT: true; the input reads as it did. -/
def turnLogsSpec : ChangeSpec := { name := "turnLogs", fn := fun _ => fun
  | [d1, d2] => { results := [.lit (.bool true)], args := [d1, d2] }
  | _ => none }
def turnLogsRow : OpenClaim := { program := "ytolholkjeehamaadoor", sum := "1f0a095cd571b08c2b9030ae0e424a1d4485d0287600ab84b4f2ce92b3818116", func := "crocus/crocuslaw02.TurnLogs", spec := "turnLogs", unfollowed := true, recurses := true, named := ["crocus/turn.checks", "crocus/turn.nowhere"], leaving := true, apart := false, laid := [("crocus/turn.checks", laid_crocus_turn_checks), ("crocus/turn.nowhere", laid_crocus_turn_nowhere)] }
def TurnLogsSaid : Prop := turnLogsRow.holds Tryd.pinned (OpenSpec.ofChange turnLogsSpec)

/-- ITS FALSE NEIGHBOUR: 'it returns false'. Refute it at one input. -/
def turnLogsWrong : ChangeSpec := { name := "turnLogs", fn := fun _ => fun
  | [d1, d2] => { results := [.lit (.bool false)], args := [d1, d2] }
  | _ => none }
def TurnLogsWrongFalsely : Prop := turnLogsRow.holds Tryd.pinned (OpenSpec.ofChange turnLogsWrong)

/-- 'crocuslaw02.TurnOwners': WHATEVER THE INPUT: true; the input reads as it did. -/
def turnOwnersSpec : ChangeSpec := { name := "turnOwners", fn := fun _ => fun
  | [d1, d2, d3] => { results := [.lit (.bool true)], args := [d1, d2, d3] }
  | _ => none }
def turnOwnersRow : OpenClaim := { program := "ytolholkjeehamaadoor", sum := "1f0a095cd571b08c2b9030ae0e424a1d4485d0287600ab84b4f2ce92b3818116", func := "crocus/crocuslaw02.TurnOwners", spec := "turnOwners", unfollowed := true, recurses := true, named := ["crocus/turn.checks", "crocus/turn.nowhere"], leaving := true, apart := false, laid := [("crocus/turn.checks", laid_crocus_turn_checks), ("crocus/turn.nowhere", laid_crocus_turn_nowhere)] }
def TurnOwnersSaid : Prop := turnOwnersRow.holds Tryd.pinned (OpenSpec.ofChange turnOwnersSpec)

/-- ITS FALSE NEIGHBOUR: 'it returns false'. Refute it at one input. -/
def turnOwnersWrong : ChangeSpec := { name := "turnOwners", fn := fun _ => fun
  | [d1, d2, d3] => { results := [.lit (.bool false)], args := [d1, d2, d3] }
  | _ => none }
def TurnOwnersWrongFalsely : Prop := turnOwnersRow.holds Tryd.pinned (OpenSpec.ofChange turnOwnersWrong)

/-- 'crocuslaw02.TurnOne': WHATEVER THE INPUT: true; the input reads as it did. -/
def turnOneSpec : ChangeSpec := { name := "turnOne", fn := fun _ => fun
  | [d1, d2] => { results := [.lit (.bool true)], args := [d1, d2] }
  | _ => none }
def turnOneRow : OpenClaim := { program := "ytolholkjeehamaadoor", sum := "1f0a095cd571b08c2b9030ae0e424a1d4485d0287600ab84b4f2ce92b3818116", func := "crocus/crocuslaw02.TurnOne", spec := "turnOne", unfollowed := true, recurses := true, named := ["crocus/turn.checks", "crocus/turn.nowhere"], leaving := true, apart := false, laid := [("crocus/turn.checks", laid_crocus_turn_checks), ("crocus/turn.nowhere", laid_crocus_turn_nowhere)] }
def TurnOneSaid : Prop := turnOneRow.holds Tryd.pinned (OpenSpec.ofChange turnOneSpec)

/-- ITS FALSE NEIGHBOUR: 'it returns false'. Refute it at one input. -/
def turnOneWrong : ChangeSpec := { name := "turnOne", fn := fun _ => fun
  | [d1, d2] => { results := [.lit (.bool false)], args := [d1, d2] }
  | _ => none }
def TurnOneWrongFalsely : Prop := turnOneRow.holds Tryd.pinned (OpenSpec.ofChange turnOneWrong)

/-- 'crocuslaw02.TurnSum': WHATEVER THE INPUT: true; the input reads as it did. -/
def turnSumSpec : ChangeSpec := { name := "turnSum", fn := fun _ => fun
  | [d1, d2, d3, d4] => { results := [.lit (.bool true)], args := [d1, d2, d3, d4] }
  | _ => none }
def turnSumRow : OpenClaim := { program := "ytolholkjeehamaadoor", sum := "1f0a095cd571b08c2b9030ae0e424a1d4485d0287600ab84b4f2ce92b3818116", func := "crocus/crocuslaw02.TurnSum", spec := "turnSum", unfollowed := true, recurses := true, named := ["crocus/turn.checks", "crocus/turn.nowhere"], leaving := true, apart := false, laid := [("crocus/turn.checks", laid_crocus_turn_checks), ("crocus/turn.nowhere", laid_crocus_turn_nowhere)] }
def TurnSumSaid : Prop := turnSumRow.holds Tryd.pinned (OpenSpec.ofChange turnSumSpec)

/-- ITS FALSE NEIGHBOUR: 'it returns false'. Refute it at one input. -/
def turnSumWrong : ChangeSpec := { name := "turnSum", fn := fun _ => fun
  | [d1, d2, d3, d4] => { results := [.lit (.bool false)], args := [d1, d2, d3, d4] }
  | _ => none }
def TurnSumWrongFalsely : Prop := turnSumRow.holds Tryd.pinned (OpenSpec.ofChange turnSumWrong)

/-- 'crocuslaw02.TurnShares': WHATEVER THE INPUT: true; the input reads as it did. -/
def turnSharesSpec : ChangeSpec := { name := "turnShares", fn := fun _ => fun
  | [d1, d2, d3] => { results := [.lit (.bool true)], args := [d1, d2, d3] }
  | _ => none }
def turnSharesRow : OpenClaim := { program := "ytolholkjeehamaadoor", sum := "1f0a095cd571b08c2b9030ae0e424a1d4485d0287600ab84b4f2ce92b3818116", func := "crocus/crocuslaw02.TurnShares", spec := "turnShares", unfollowed := true, recurses := true, named := ["crocus/turn.checks", "crocus/turn.nowhere"], leaving := true, apart := false, laid := [("crocus/turn.checks", laid_crocus_turn_checks), ("crocus/turn.nowhere", laid_crocus_turn_nowhere)] }
def TurnSharesSaid : Prop := turnSharesRow.holds Tryd.pinned (OpenSpec.ofChange turnSharesSpec)

/-- ITS FALSE NEIGHBOUR: 'it returns false'. Refute it at one input. -/
def turnSharesWrong : ChangeSpec := { name := "turnShares", fn := fun _ => fun
  | [d1, d2, d3] => { results := [.lit (.bool false)], args := [d1, d2, d3] }
  | _ => none }
def TurnSharesWrongFalsely : Prop := turnSharesRow.holds Tryd.pinned (OpenSpec.ofChange turnSharesWrong)

/-- 'crocuslaw02.TurnFeast': WHATEVER THE INPUT: true; the input reads as it did. -/
def turnFeastSpec : ChangeSpec := { name := "turnFeast", fn := fun _ => fun
  | [d1, d2, d3] => { results := [.lit (.bool true)], args := [d1, d2, d3] }
  | _ => none }
def turnFeastRow : OpenClaim := { program := "ytolholkjeehamaadoor", sum := "1f0a095cd571b08c2b9030ae0e424a1d4485d0287600ab84b4f2ce92b3818116", func := "crocus/crocuslaw02.TurnFeast", spec := "turnFeast", unfollowed := true, recurses := true, named := ["crocus/turn.checks", "crocus/turn.nowhere"], leaving := true, apart := false, laid := [("crocus/turn.checks", laid_crocus_turn_checks), ("crocus/turn.nowhere", laid_crocus_turn_nowhere)] }
def TurnFeastSaid : Prop := turnFeastRow.holds Tryd.pinned (OpenSpec.ofChange turnFeastSpec)

/-- ITS FALSE NEIGHBOUR: 'it returns false'. Refute it at one input. -/
def turnFeastWrong : ChangeSpec := { name := "turnFeast", fn := fun _ => fun
  | [d1, d2, d3] => { results := [.lit (.bool false)], args := [d1, d2, d3] }
  | _ => none }
def TurnFeastWrongFalsely : Prop := turnFeastRow.holds Tryd.pinned (OpenSpec.ofChange turnFeastWrong)

/-- 'crocuslaw02.TurnGets': WHATEVER THE INPUT: true; the input reads as it did. -/
def turnGetsSpec : ChangeSpec := { name := "turnGets", fn := fun _ => fun
  | [d1, d2, d3, d4, d5] => { results := [.lit (.bool true)], args := [d1, d2, d3, d4, d5] }
  | _ => none }
def turnGetsRow : OpenClaim := { program := "ytolholkjeehamaadoor", sum := "1f0a095cd571b08c2b9030ae0e424a1d4485d0287600ab84b4f2ce92b3818116", func := "crocus/crocuslaw02.TurnGets", spec := "turnGets", unfollowed := true, recurses := true, named := ["crocus/turn.checks", "crocus/turn.nowhere"], leaving := true, apart := false, laid := [("crocus/turn.checks", laid_crocus_turn_checks), ("crocus/turn.nowhere", laid_crocus_turn_nowhere)] }
def TurnGetsSaid : Prop := turnGetsRow.holds Tryd.pinned (OpenSpec.ofChange turnGetsSpec)

/-- ITS FALSE NEIGHBOUR: 'it returns false'. Refute it at one input. -/
def turnGetsWrong : ChangeSpec := { name := "turnGets", fn := fun _ => fun
  | [d1, d2, d3, d4, d5] => { results := [.lit (.bool false)], args := [d1, d2, d3, d4, d5] }
  | _ => none }
def TurnGetsWrongFalsely : Prop := turnGetsRow.holds Tryd.pinned (OpenSpec.ofChange turnGetsWrong)

/-- 'crocuslaw02.TurnWater': WHATEVER THE INPUT: true; the input reads as it did. -/
def turnWaterSpec : ChangeSpec := { name := "turnWater", fn := fun _ => fun
  | [d1, d2, d3, d4, d5, d6, d7] => { results := [.lit (.bool true)], args := [d1, d2, d3, d4, d5, d6, d7] }
  | _ => none }
def turnWaterRow : OpenClaim := { program := "ytolholkjeehamaadoor", sum := "1f0a095cd571b08c2b9030ae0e424a1d4485d0287600ab84b4f2ce92b3818116", func := "crocus/crocuslaw02.TurnWater", spec := "turnWater", unfollowed := true, recurses := true, named := ["crocus/turn.checks", "crocus/turn.nowhere"], leaving := true, apart := false, laid := [("crocus/turn.checks", laid_crocus_turn_checks), ("crocus/turn.nowhere", laid_crocus_turn_nowhere)] }
def TurnWaterSaid : Prop := turnWaterRow.holds Tryd.pinned (OpenSpec.ofChange turnWaterSpec)

/-- ITS FALSE NEIGHBOUR: 'it returns false'. Refute it at one input. -/
def turnWaterWrong : ChangeSpec := { name := "turnWater", fn := fun _ => fun
  | [d1, d2, d3, d4, d5, d6, d7] => { results := [.lit (.bool false)], args := [d1, d2, d3, d4, d5, d6, d7] }
  | _ => none }
def TurnWaterWrongFalsely : Prop := turnWaterRow.holds Tryd.pinned (OpenSpec.ofChange turnWaterWrong)

/-- 'crocuslaw02.TurnMore': WHATEVER THE INPUT: true; the input reads as it did. -/
def turnMoreSpec : ChangeSpec := { name := "turnMore", fn := fun _ => fun
  | [d1, d2, d3, d4, d5, d6, d7] => { results := [.lit (.bool true)], args := [d1, d2, d3, d4, d5, d6, d7] }
  | _ => none }
def turnMoreRow : OpenClaim := { program := "ytolholkjeehamaadoor", sum := "1f0a095cd571b08c2b9030ae0e424a1d4485d0287600ab84b4f2ce92b3818116", func := "crocus/crocuslaw02.TurnMore", spec := "turnMore", unfollowed := true, recurses := true, named := ["crocus/turn.checks", "crocus/turn.nowhere"], leaving := true, apart := false, laid := [("crocus/turn.checks", laid_crocus_turn_checks), ("crocus/turn.nowhere", laid_crocus_turn_nowhere)] }
def TurnMoreSaid : Prop := turnMoreRow.holds Tryd.pinned (OpenSpec.ofChange turnMoreSpec)

/-- ITS FALSE NEIGHBOUR: 'it returns false'. Refute it at one input. -/
def turnMoreWrong : ChangeSpec := { name := "turnMore", fn := fun _ => fun
  | [d1, d2, d3, d4, d5, d6, d7] => { results := [.lit (.bool false)], args := [d1, d2, d3, d4, d5, d6, d7] }
  | _ => none }
def TurnMoreWrongFalsely : Prop := turnMoreRow.holds Tryd.pinned (OpenSpec.ofChange turnMoreWrong)

/-- 'crocuslaw02.TurnPlots': WHATEVER THE INPUT: true; the input reads as it did. -/
def turnPlotsSpec : ChangeSpec := { name := "turnPlots", fn := fun _ => fun
  | [d1, d2, d3, d4, d5, d6] => { results := [.lit (.bool true)], args := [d1, d2, d3, d4, d5, d6] }
  | _ => none }
def turnPlotsRow : OpenClaim := { program := "ytolholkjeehamaadoor", sum := "1f0a095cd571b08c2b9030ae0e424a1d4485d0287600ab84b4f2ce92b3818116", func := "crocus/crocuslaw02.TurnPlots", spec := "turnPlots", unfollowed := true, recurses := true, named := ["crocus/turn.checks", "crocus/turn.nowhere"], leaving := true, apart := false, laid := [("crocus/turn.checks", laid_crocus_turn_checks), ("crocus/turn.nowhere", laid_crocus_turn_nowhere)] }
def TurnPlotsSaid : Prop := turnPlotsRow.holds Tryd.pinned (OpenSpec.ofChange turnPlotsSpec)

/-- ITS FALSE NEIGHBOUR: 'it returns false'. Refute it at one input. -/
def turnPlotsWrong : ChangeSpec := { name := "turnPlots", fn := fun _ => fun
  | [d1, d2, d3, d4, d5, d6] => { results := [.lit (.bool false)], args := [d1, d2, d3, d4, d5, d6] }
  | _ => none }
def TurnPlotsWrongFalsely : Prop := turnPlotsRow.holds Tryd.pinned (OpenSpec.ofChange turnPlotsWrong)

/- THE SECOND FORM. 'bulk': how many values and letters a reading holds, each counted each time it is reached (what is shared counts as often as it is met; a slice's spare places count too). A statement '..UptoSaid' is the law's where the arguments, and the package variables that the reading takes, are together of bulk at most 1048576: NARROWER than '..Said'. Prove '..Said' where nothing that the law and all that it calls make is longer than what came in: it says more and counts as full. Else prove '..UptoSaid'. A law counts once. -/
mutual
def uptoBulk {H : Type} : DataW H → Nat
  | .lit (.string bytes) => bytes.length + 1
  | .lit _ => 1
  | .nil => 1
  | .ptr d => uptoBulk d + 1
  | .slice elems spare => uptoBulkAll elems + uptoBulkAll spare + 1
  | .agg parts => uptoBulkAll parts + 1
  | .iface _ d => uptoBulk d + 1
  | .map entries => uptoBulkEntries entries + 1
  | .held _ => 1
def uptoBulkAll {H : Type} : List (DataW H) → Nat
  | [] => 0
  | d :: r => uptoBulk d + uptoBulkAll r
def uptoBulkEntries {H : Type} : List (Lit × DataW H) → Nat
  | [] => 0
  | x :: r => uptoBulkEntry x + uptoBulkEntries r
def uptoBulkEntry {H : Type} : Lit × DataW H → Nat
  | (.string bytes, d) => bytes.length + uptoBulk d + 1
  | (_, d) => uptoBulk d + 1
 end
def uptoSmall : (H : Type) → List (DataW H) → Bool := fun _ ds => decide (uptoBulkAll ds ≤ 1048576)
def OpenSpec.upto (s : _root_.Go.ChangeSpec) : _root_.Go.OpenSpec := { _root_.Go.OpenSpec.ofChange s with cond := some uptoSmall }

/-- 'crocuslaw02.TurnHours', WHERE WHAT IT READS IS OF BULK AT MOST 1048576: true; the input reads as it did. -/
def turnHoursUptoRow : OpenClaim := { program := "ytolholkjeehamaadoor", sum := "1f0a095cd571b08c2b9030ae0e424a1d4485d0287600ab84b4f2ce92b3818116", func := "crocus/crocuslaw02.TurnHours", spec := "turnHours", unfollowed := true, recurses := true, named := ["crocus/turn.checks", "crocus/turn.nowhere"], leaving := true, apart := false, laid := [("crocus/turn.checks", laid_crocus_turn_checks), ("crocus/turn.nowhere", laid_crocus_turn_nowhere)], narrowed := true }
def TurnHoursUptoSaid : Prop := turnHoursUptoRow.holds Tryd.pinned (OpenSpec.upto turnHoursSpec)

/-- 'crocuslaw02.TurnNext', WHERE WHAT IT READS IS OF BULK AT MOST 1048576: true; the input reads as it did. -/
def turnNextUptoRow : OpenClaim := { program := "ytolholkjeehamaadoor", sum := "1f0a095cd571b08c2b9030ae0e424a1d4485d0287600ab84b4f2ce92b3818116", func := "crocus/crocuslaw02.TurnNext", spec := "turnNext", unfollowed := true, recurses := true, named := ["crocus/turn.checks", "crocus/turn.nowhere"], leaving := true, apart := false, laid := [("crocus/turn.checks", laid_crocus_turn_checks), ("crocus/turn.nowhere", laid_crocus_turn_nowhere)], narrowed := true }
def TurnNextUptoSaid : Prop := turnNextUptoRow.holds Tryd.pinned (OpenSpec.upto turnNextSpec)

/-- 'crocuslaw02.TurnChanges', WHERE WHAT IT READS IS OF BULK AT MOST 1048576: true; the input reads as it did. -/
def turnChangesUptoRow : OpenClaim := { program := "ytolholkjeehamaadoor", sum := "1f0a095cd571b08c2b9030ae0e424a1d4485d0287600ab84b4f2ce92b3818116", func := "crocus/crocuslaw02.TurnChanges", spec := "turnChanges", unfollowed := true, recurses := true, named := ["crocus/turn.checks", "crocus/turn.nowhere"], leaving := true, apart := false, laid := [("crocus/turn.checks", laid_crocus_turn_checks), ("crocus/turn.nowhere", laid_crocus_turn_nowhere)], narrowed := true }
def TurnChangesUptoSaid : Prop := turnChangesUptoRow.holds Tryd.pinned (OpenSpec.upto turnChangesSpec)

/-- 'crocuslaw02.TurnClock', WHERE WHAT IT READS IS OF BULK AT MOST 1048576: true; the input reads as it did. -/
def turnClockUptoRow : OpenClaim := { program := "ytolholkjeehamaadoor", sum := "1f0a095cd571b08c2b9030ae0e424a1d4485d0287600ab84b4f2ce92b3818116", func := "crocus/crocuslaw02.TurnClock", spec := "turnClock", unfollowed := true, recurses := true, named := ["crocus/turn.checks", "crocus/turn.nowhere"], leaving := true, apart := false, laid := [("crocus/turn.checks", laid_crocus_turn_checks), ("crocus/turn.nowhere", laid_crocus_turn_nowhere)], narrowed := true }
def TurnClockUptoSaid : Prop := turnClockUptoRow.holds Tryd.pinned (OpenSpec.upto turnClockSpec)

/-- 'crocuslaw02.TurnBlame', WHERE WHAT IT READS IS OF BULK AT MOST 1048576: true; the input reads as it did. -/
def turnBlameUptoRow : OpenClaim := { program := "ytolholkjeehamaadoor", sum := "1f0a095cd571b08c2b9030ae0e424a1d4485d0287600ab84b4f2ce92b3818116", func := "crocus/crocuslaw02.TurnBlame", spec := "turnBlame", unfollowed := true, recurses := true, named := ["crocus/turn.checks", "crocus/turn.nowhere"], leaving := true, apart := false, laid := [("crocus/turn.checks", laid_crocus_turn_checks), ("crocus/turn.nowhere", laid_crocus_turn_nowhere)], narrowed := true }
def TurnBlameUptoSaid : Prop := turnBlameUptoRow.holds Tryd.pinned (OpenSpec.upto turnBlameSpec)

/-- 'crocuslaw02.TurnKnown', WHERE WHAT IT READS IS OF BULK AT MOST 1048576: true; the input reads as it did. -/
def turnKnownUptoRow : OpenClaim := { program := "ytolholkjeehamaadoor", sum := "1f0a095cd571b08c2b9030ae0e424a1d4485d0287600ab84b4f2ce92b3818116", func := "crocus/crocuslaw02.TurnKnown", spec := "turnKnown", unfollowed := true, recurses := true, named := ["crocus/turn.checks", "crocus/turn.nowhere"], leaving := true, apart := false, laid := [("crocus/turn.checks", laid_crocus_turn_checks), ("crocus/turn.nowhere", laid_crocus_turn_nowhere)], narrowed := true }
def TurnKnownUptoSaid : Prop := turnKnownUptoRow.holds Tryd.pinned (OpenSpec.upto turnKnownSpec)

/-- 'crocuslaw02.TurnLogs', WHERE WHAT IT READS IS OF BULK AT MOST 1048576: true; the input reads as it did. -/
def turnLogsUptoRow : OpenClaim := { program := "ytolholkjeehamaadoor", sum := "1f0a095cd571b08c2b9030ae0e424a1d4485d0287600ab84b4f2ce92b3818116", func := "crocus/crocuslaw02.TurnLogs", spec := "turnLogs", unfollowed := true, recurses := true, named := ["crocus/turn.checks", "crocus/turn.nowhere"], leaving := true, apart := false, laid := [("crocus/turn.checks", laid_crocus_turn_checks), ("crocus/turn.nowhere", laid_crocus_turn_nowhere)], narrowed := true }
def TurnLogsUptoSaid : Prop := turnLogsUptoRow.holds Tryd.pinned (OpenSpec.upto turnLogsSpec)

/-- 'crocuslaw02.TurnOwners', WHERE WHAT IT READS IS OF BULK AT MOST 1048576: true; the input reads as it did. -/
def turnOwnersUptoRow : OpenClaim := { program := "ytolholkjeehamaadoor", sum := "1f0a095cd571b08c2b9030ae0e424a1d4485d0287600ab84b4f2ce92b3818116", func := "crocus/crocuslaw02.TurnOwners", spec := "turnOwners", unfollowed := true, recurses := true, named := ["crocus/turn.checks", "crocus/turn.nowhere"], leaving := true, apart := false, laid := [("crocus/turn.checks", laid_crocus_turn_checks), ("crocus/turn.nowhere", laid_crocus_turn_nowhere)], narrowed := true }
def TurnOwnersUptoSaid : Prop := turnOwnersUptoRow.holds Tryd.pinned (OpenSpec.upto turnOwnersSpec)

/-- 'crocuslaw02.TurnOne', WHERE WHAT IT READS IS OF BULK AT MOST 1048576: true; the input reads as it did. -/
def turnOneUptoRow : OpenClaim := { program := "ytolholkjeehamaadoor", sum := "1f0a095cd571b08c2b9030ae0e424a1d4485d0287600ab84b4f2ce92b3818116", func := "crocus/crocuslaw02.TurnOne", spec := "turnOne", unfollowed := true, recurses := true, named := ["crocus/turn.checks", "crocus/turn.nowhere"], leaving := true, apart := false, laid := [("crocus/turn.checks", laid_crocus_turn_checks), ("crocus/turn.nowhere", laid_crocus_turn_nowhere)], narrowed := true }
def TurnOneUptoSaid : Prop := turnOneUptoRow.holds Tryd.pinned (OpenSpec.upto turnOneSpec)

/-- 'crocuslaw02.TurnSum', WHERE WHAT IT READS IS OF BULK AT MOST 1048576: true; the input reads as it did. -/
def turnSumUptoRow : OpenClaim := { program := "ytolholkjeehamaadoor", sum := "1f0a095cd571b08c2b9030ae0e424a1d4485d0287600ab84b4f2ce92b3818116", func := "crocus/crocuslaw02.TurnSum", spec := "turnSum", unfollowed := true, recurses := true, named := ["crocus/turn.checks", "crocus/turn.nowhere"], leaving := true, apart := false, laid := [("crocus/turn.checks", laid_crocus_turn_checks), ("crocus/turn.nowhere", laid_crocus_turn_nowhere)], narrowed := true }
def TurnSumUptoSaid : Prop := turnSumUptoRow.holds Tryd.pinned (OpenSpec.upto turnSumSpec)

/-- 'crocuslaw02.TurnShares', WHERE WHAT IT READS IS OF BULK AT MOST 1048576: true; the input reads as it did. -/
def turnSharesUptoRow : OpenClaim := { program := "ytolholkjeehamaadoor", sum := "1f0a095cd571b08c2b9030ae0e424a1d4485d0287600ab84b4f2ce92b3818116", func := "crocus/crocuslaw02.TurnShares", spec := "turnShares", unfollowed := true, recurses := true, named := ["crocus/turn.checks", "crocus/turn.nowhere"], leaving := true, apart := false, laid := [("crocus/turn.checks", laid_crocus_turn_checks), ("crocus/turn.nowhere", laid_crocus_turn_nowhere)], narrowed := true }
def TurnSharesUptoSaid : Prop := turnSharesUptoRow.holds Tryd.pinned (OpenSpec.upto turnSharesSpec)

/-- 'crocuslaw02.TurnFeast', WHERE WHAT IT READS IS OF BULK AT MOST 1048576: true; the input reads as it did. -/
def turnFeastUptoRow : OpenClaim := { program := "ytolholkjeehamaadoor", sum := "1f0a095cd571b08c2b9030ae0e424a1d4485d0287600ab84b4f2ce92b3818116", func := "crocus/crocuslaw02.TurnFeast", spec := "turnFeast", unfollowed := true, recurses := true, named := ["crocus/turn.checks", "crocus/turn.nowhere"], leaving := true, apart := false, laid := [("crocus/turn.checks", laid_crocus_turn_checks), ("crocus/turn.nowhere", laid_crocus_turn_nowhere)], narrowed := true }
def TurnFeastUptoSaid : Prop := turnFeastUptoRow.holds Tryd.pinned (OpenSpec.upto turnFeastSpec)

/-- 'crocuslaw02.TurnGets', WHERE WHAT IT READS IS OF BULK AT MOST 1048576: true; the input reads as it did. -/
def turnGetsUptoRow : OpenClaim := { program := "ytolholkjeehamaadoor", sum := "1f0a095cd571b08c2b9030ae0e424a1d4485d0287600ab84b4f2ce92b3818116", func := "crocus/crocuslaw02.TurnGets", spec := "turnGets", unfollowed := true, recurses := true, named := ["crocus/turn.checks", "crocus/turn.nowhere"], leaving := true, apart := false, laid := [("crocus/turn.checks", laid_crocus_turn_checks), ("crocus/turn.nowhere", laid_crocus_turn_nowhere)], narrowed := true }
def TurnGetsUptoSaid : Prop := turnGetsUptoRow.holds Tryd.pinned (OpenSpec.upto turnGetsSpec)

/-- 'crocuslaw02.TurnWater', WHERE WHAT IT READS IS OF BULK AT MOST 1048576: true; the input reads as it did. -/
def turnWaterUptoRow : OpenClaim := { program := "ytolholkjeehamaadoor", sum := "1f0a095cd571b08c2b9030ae0e424a1d4485d0287600ab84b4f2ce92b3818116", func := "crocus/crocuslaw02.TurnWater", spec := "turnWater", unfollowed := true, recurses := true, named := ["crocus/turn.checks", "crocus/turn.nowhere"], leaving := true, apart := false, laid := [("crocus/turn.checks", laid_crocus_turn_checks), ("crocus/turn.nowhere", laid_crocus_turn_nowhere)], narrowed := true }
def TurnWaterUptoSaid : Prop := turnWaterUptoRow.holds Tryd.pinned (OpenSpec.upto turnWaterSpec)

/-- 'crocuslaw02.TurnMore', WHERE WHAT IT READS IS OF BULK AT MOST 1048576: true; the input reads as it did. -/
def turnMoreUptoRow : OpenClaim := { program := "ytolholkjeehamaadoor", sum := "1f0a095cd571b08c2b9030ae0e424a1d4485d0287600ab84b4f2ce92b3818116", func := "crocus/crocuslaw02.TurnMore", spec := "turnMore", unfollowed := true, recurses := true, named := ["crocus/turn.checks", "crocus/turn.nowhere"], leaving := true, apart := false, laid := [("crocus/turn.checks", laid_crocus_turn_checks), ("crocus/turn.nowhere", laid_crocus_turn_nowhere)], narrowed := true }
def TurnMoreUptoSaid : Prop := turnMoreUptoRow.holds Tryd.pinned (OpenSpec.upto turnMoreSpec)

/-- 'crocuslaw02.TurnPlots', WHERE WHAT IT READS IS OF BULK AT MOST 1048576: true; the input reads as it did. -/
def turnPlotsUptoRow : OpenClaim := { program := "ytolholkjeehamaadoor", sum := "1f0a095cd571b08c2b9030ae0e424a1d4485d0287600ab84b4f2ce92b3818116", func := "crocus/crocuslaw02.TurnPlots", spec := "turnPlots", unfollowed := true, recurses := true, named := ["crocus/turn.checks", "crocus/turn.nowhere"], leaving := true, apart := false, laid := [("crocus/turn.checks", laid_crocus_turn_checks), ("crocus/turn.nowhere", laid_crocus_turn_nowhere)], narrowed := true }
def TurnPlotsUptoSaid : Prop := turnPlotsUptoRow.holds Tryd.pinned (OpenSpec.upto turnPlotsSpec)

end Rows
end Go.Proofs.YtolholkjeehamaaDoor
