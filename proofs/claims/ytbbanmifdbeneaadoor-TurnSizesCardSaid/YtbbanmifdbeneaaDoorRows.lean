/-
  NARROWER THAN 'FOR EVERY INPUT', by the rows' own cells (each row's printed sentence says how): TurnRises: laid · TurnSizes: laid.
  DERIVED. THE GIVEN ROWS OF THIS SEAT. 2 by the template 'for every input the law returns true; each argument reads behind the call as it read before'; 0 by the template 'total and deterministic' (their statements: YtbbanmifdbeneaaDoorTotals.lean).
  GIVEN WITH THE SEED: the statements are not yours to turn. If you find one false, say at which input.
  Laid BY PROGRAM, IN A SANDBOX (cutbox-rows.mjs): the forced cells as the released guide's own fill.sh prints them over the translation 631a88f70159090c… (all of the seat's roots in one cut). By AI agents, Wed Nov 11 2026. No macro, syntax, notation, axiom, sorry.
-/
import Derived.Test.YtbbanmifdbeneaaDoorChecked
import GoSem.Claim
import GoSem.ClaimJoined
import GoSem.ClaimMapViews
import Derived.JoinedTies
import Derived.KernelRfl
namespace Go.Proofs.YtbbanmifdbeneaaDoor
/- THE CELL 'sum', in the pinned program and in every row, IS THE sha256 OF THE DUMP (.gsa) THAT YtbbanmifdbeneaaDoorProg.lean LOADS. Nothing in Lean hashes anything: it is a label: what it is worth is what the hold of that sum in a sandbox is worth. -/
noncomputable def Tryd.pinned : Pinned := { name := "ytbbanmifdbeneaadoor", sum := "631a88f70159090c251122fdaa6c2eb0e4c02e47738af4cc46581eb0ec68a51a", checked := Tryd.checked }
namespace Rows
def none {H : Type} : Left H := { results := [], args := [] }

/- WHAT THE LISTED PACKAGE-LEVEL VARIABLES READ AS WHEN THE CALL BEGINS. Each datum BY PROGRAM (the guide's laid-datum.mjs) off the statement by which the dump's own 'gosem.cut.vars' lays the variable. In a bare row this is a premise. The card (YtbbanmifdbeneaaDoorCards.lean) ties it to the program's text. -/
def laid_crocus_turn_checks {H : Type} : DataW H := .iface "func table" (.agg [.iface "func" (.lit (.string [40, 42, 99, 114, 111, 99, 117, 115, 47, 116, 117, 114, 110, 46, 100, 105, 116, 99, 104, 41, 46, 112, 101, 111, 112, 108, 101])), .iface "func" (.lit (.string [40, 42, 99, 114, 111, 99, 117, 115, 47, 116, 117, 114, 110, 46, 100, 105, 116, 99, 104, 41, 46, 116, 105, 109, 101, 115])), .iface "func" (.lit (.string [40, 42, 99, 114, 111, 99, 117, 115, 47, 116, 117, 114, 110, 46, 100, 105, 116, 99, 104, 41, 46, 99, 104, 97, 110, 103, 101, 115])), .iface "func" (.lit (.string [40, 42, 99, 114, 111, 99, 117, 115, 47, 116, 117, 114, 110, 46, 100, 105, 116, 99, 104, 41, 46, 103, 114, 111, 117, 110, 100]))])
def laid_crocus_turn_nowhere {H : Type} : DataW H := .agg [.lit (.int .i64 (-1)), .lit (.int .i64 (-1))]

/-- 'crocuslaw02.TurnRises': WHATEVER THE INPUT: true; the input reads as it did. -/
def turnRisesSpec : ChangeSpec := { name := "turnRises", fn := fun _ => fun
  | [d1, d2, d3, d4, d5, d6] => { results := [.lit (.bool true)], args := [d1, d2, d3, d4, d5, d6] }
  | _ => none }
def turnRisesRow : OpenClaim := { program := "ytbbanmifdbeneaadoor", sum := "631a88f70159090c251122fdaa6c2eb0e4c02e47738af4cc46581eb0ec68a51a", func := "crocus/crocuslaw02.TurnRises", spec := "turnRises", unfollowed := true, recurses := true, named := ["crocus/turn.checks", "crocus/turn.nowhere"], leaving := true, apart := false, laid := [("crocus/turn.checks", laid_crocus_turn_checks), ("crocus/turn.nowhere", laid_crocus_turn_nowhere)] }
def TurnRisesSaid : Prop := turnRisesRow.holds Tryd.pinned (OpenSpec.ofChange turnRisesSpec)

/-- ITS FALSE NEIGHBOUR: 'it returns false'. Refute it at one input. -/
def turnRisesWrong : ChangeSpec := { name := "turnRises", fn := fun _ => fun
  | [d1, d2, d3, d4, d5, d6] => { results := [.lit (.bool false)], args := [d1, d2, d3, d4, d5, d6] }
  | _ => none }
def TurnRisesWrongFalsely : Prop := turnRisesRow.holds Tryd.pinned (OpenSpec.ofChange turnRisesWrong)

/-- 'crocuslaw02.TurnSizes': WHATEVER THE INPUT: true; the input reads as it did. -/
def turnSizesSpec : ChangeSpec := { name := "turnSizes", fn := fun _ => fun
  | [d1, d2, d3, d4, d5, d6, d7, d8] => { results := [.lit (.bool true)], args := [d1, d2, d3, d4, d5, d6, d7, d8] }
  | _ => none }
def turnSizesRow : OpenClaim := { program := "ytbbanmifdbeneaadoor", sum := "631a88f70159090c251122fdaa6c2eb0e4c02e47738af4cc46581eb0ec68a51a", func := "crocus/crocuslaw02.TurnSizes", spec := "turnSizes", unfollowed := true, recurses := true, named := ["crocus/turn.checks", "crocus/turn.nowhere"], leaving := true, apart := false, laid := [("crocus/turn.checks", laid_crocus_turn_checks), ("crocus/turn.nowhere", laid_crocus_turn_nowhere)] }
def TurnSizesSaid : Prop := turnSizesRow.holds Tryd.pinned (OpenSpec.ofChange turnSizesSpec)

/-- ITS FALSE NEIGHBOUR: 'it returns false'. Refute it at one input. -/
def turnSizesWrong : ChangeSpec := { name := "turnSizes", fn := fun _ => fun
  | [d1, d2, d3, d4, d5, d6, d7, d8] => { results := [.lit (.bool false)], args := [d1, d2, d3, d4, d5, d6, d7, d8] }
  | _ => none }
def TurnSizesWrongFalsely : Prop := turnSizesRow.holds Tryd.pinned (OpenSpec.ofChange turnSizesWrong)

/- THE SECOND FORM. 'bulk': how many values and letters a reading holds, each counted each time it is reached (what is shared counts as often as it is met; a slice's spare places count too). A statement '..UptoSaid' is the law's where the arguments, and the package variables that the reading takes, are together of bulk at most 1048576: NARROWER than '..Said'. Prove '..Said' where nothing that the law and all that it calls make is longer than what came in: it says more and counts as full. Else prove '..UptoSaid'. A law counts once. -/
mutual
def uptoBulk {H : Type} : DataW H → Nat
  | .lit (.string bytes) => bytes.length + 1
  | .lit _ => 1
  | .nil => 1
  | .ptr d => uptoBulk d + 1
  | .slice elems spare => uptoBulkAll elems + uptoBulkAll spare + 1
  | .agg parts => uptoBulkAll parts + 1
  | .iface _ d => uptoBulk d + 1
  | .map entries => uptoBulkEntries entries + 1
  | .held _ => 1
def uptoBulkAll {H : Type} : List (DataW H) → Nat
  | [] => 0
  | d :: r => uptoBulk d + uptoBulkAll r
def uptoBulkEntries {H : Type} : List (Lit × DataW H) → Nat
  | [] => 0
  | x :: r => uptoBulkEntry x + uptoBulkEntries r
def uptoBulkEntry {H : Type} : Lit × DataW H → Nat
  | (.string bytes, d) => bytes.length + uptoBulk d + 1
  | (_, d) => uptoBulk d + 1
 end
def uptoSmall : (H : Type) → List (DataW H) → Bool := fun _ ds => decide (uptoBulkAll ds ≤ 1048576)
def OpenSpec.upto (s : _root_.Go.ChangeSpec) : _root_.Go.OpenSpec := { _root_.Go.OpenSpec.ofChange s with cond := some uptoSmall }

/-- 'crocuslaw02.TurnRises', WHERE WHAT IT READS IS OF BULK AT MOST 1048576: true; the input reads as it did. -/
def turnRisesUptoRow : OpenClaim := { program := "ytbbanmifdbeneaadoor", sum := "631a88f70159090c251122fdaa6c2eb0e4c02e47738af4cc46581eb0ec68a51a", func := "crocus/crocuslaw02.TurnRises", spec := "turnRises", unfollowed := true, recurses := true, named := ["crocus/turn.checks", "crocus/turn.nowhere"], leaving := true, apart := false, laid := [("crocus/turn.checks", laid_crocus_turn_checks), ("crocus/turn.nowhere", laid_crocus_turn_nowhere)], narrowed := true }
def TurnRisesUptoSaid : Prop := turnRisesUptoRow.holds Tryd.pinned (OpenSpec.upto turnRisesSpec)

/-- 'crocuslaw02.TurnSizes', WHERE WHAT IT READS IS OF BULK AT MOST 1048576: true; the input reads as it did. -/
def turnSizesUptoRow : OpenClaim := { program := "ytbbanmifdbeneaadoor", sum := "631a88f70159090c251122fdaa6c2eb0e4c02e47738af4cc46581eb0ec68a51a", func := "crocus/crocuslaw02.TurnSizes", spec := "turnSizes", unfollowed := true, recurses := true, named := ["crocus/turn.checks", "crocus/turn.nowhere"], leaving := true, apart := false, laid := [("crocus/turn.checks", laid_crocus_turn_checks), ("crocus/turn.nowhere", laid_crocus_turn_nowhere)], narrowed := true }
def TurnSizesUptoSaid : Prop := turnSizesUptoRow.holds Tryd.pinned (OpenSpec.upto turnSizesSpec)

end Rows
end Go.Proofs.YtbbanmifdbeneaaDoor
