/-
  No cell of these rows narrows 'for every input' (looked for: loops, veiled, ifaces, maps, wideKeys, modest, calm, conditions, laid).
  DERIVED. THE GIVEN ROWS OF THIS SEAT. 13 by the template 'for every input the law returns true; each argument reads behind the call as it read before'; 0 by the template 'total and deterministic' (their statements: YtedomogjmhommaaTotals.lean).
  GIVEN WITH THE SEED: the statements are not yours to turn. If you find one false, say at which input.
  Laid BY PROGRAM, IN A SANDBOX (cutbox-rows.mjs): the forced cells as the released guide's own fill.sh prints them over the translation ff89d83744706a7b… (all of the seat's roots in one cut). By AI agents, Wed Nov 11 2026. No macro, syntax, notation, axiom, sorry.
-/
import Derived.Test.YtedomogjmhommaaChecked
import GoSem.Claim
import GoSem.ClaimJoined
import GoSem.ClaimMapViews
import Derived.JoinedTies
import Derived.KernelRfl
namespace Go.Proofs.Ytedomogjmhommaa
/- THE CELL 'sum', in the pinned program and in every row, IS THE sha256 OF THE DUMP (.gsa) THAT YtedomogjmhommaaProg.lean LOADS. Nothing in Lean hashes anything: it is a label: what it is worth is what the hold of that sum in a sandbox is worth. -/
noncomputable def Try.pinned : Pinned := { name := "ytedomogjmhommaa", sum := "ff89d83744706a7b49ad6c1fcdc7cfd6c49b529f1fbb91cca986aa96d145bbfe", checked := Try.checked }
namespace Rows
def none {H : Type} : Left H := { results := [], args := [] }

/-- 'crocuslaw06.DryChooses': WHATEVER THE INPUT: true; the input reads as it did. -/
def dryChoosesSpec : ChangeSpec := { name := "dryChooses", fn := fun _ => fun
  | [d1, d2, d3] => { results := [.lit (.bool true)], args := [d1, d2, d3] }
  | _ => none }
def dryChoosesRow : OpenClaim := { program := "ytedomogjmhommaa", sum := "ff89d83744706a7b49ad6c1fcdc7cfd6c49b529f1fbb91cca986aa96d145bbfe", func := "crocus/crocuslaw06.DryChooses", spec := "dryChooses", unfollowed := true, recurses := true, plainKeys := false, leaving := true, apart := false }
def DryChoosesSaid : Prop := dryChoosesRow.holds Try.pinned (OpenSpec.ofChange dryChoosesSpec)

/-- ITS FALSE NEIGHBOUR: 'it returns false'. Refute it at one input. -/
def dryChoosesWrong : ChangeSpec := { name := "dryChooses", fn := fun _ => fun
  | [d1, d2, d3] => { results := [.lit (.bool false)], args := [d1, d2, d3] }
  | _ => none }
def DryChoosesWrongFalsely : Prop := dryChoosesRow.holds Try.pinned (OpenSpec.ofChange dryChoosesWrong)

/-- 'crocuslaw06.DryPlans': WHATEVER THE INPUT: true; the input reads as it did. -/
def dryPlansSpec : ChangeSpec := { name := "dryPlans", fn := fun _ => fun
  | [d1, d2] => { results := [.lit (.bool true)], args := [d1, d2] }
  | _ => none }
def dryPlansRow : OpenClaim := { program := "ytedomogjmhommaa", sum := "ff89d83744706a7b49ad6c1fcdc7cfd6c49b529f1fbb91cca986aa96d145bbfe", func := "crocus/crocuslaw06.DryPlans", spec := "dryPlans", unfollowed := true, recurses := true, plainKeys := false, leaving := true, apart := false }
def DryPlansSaid : Prop := dryPlansRow.holds Try.pinned (OpenSpec.ofChange dryPlansSpec)

/-- ITS FALSE NEIGHBOUR: 'it returns false'. Refute it at one input. -/
def dryPlansWrong : ChangeSpec := { name := "dryPlans", fn := fun _ => fun
  | [d1, d2] => { results := [.lit (.bool false)], args := [d1, d2] }
  | _ => none }
def DryPlansWrongFalsely : Prop := dryPlansRow.holds Try.pinned (OpenSpec.ofChange dryPlansWrong)

/-- 'crocuslaw06.DryDamps': WHATEVER THE INPUT: true; the input reads as it did. -/
def dryDampsSpec : ChangeSpec := { name := "dryDamps", fn := fun _ => fun
  | [d1, d2, d3] => { results := [.lit (.bool true)], args := [d1, d2, d3] }
  | _ => none }
def dryDampsRow : OpenClaim := { program := "ytedomogjmhommaa", sum := "ff89d83744706a7b49ad6c1fcdc7cfd6c49b529f1fbb91cca986aa96d145bbfe", func := "crocus/crocuslaw06.DryDamps", spec := "dryDamps", unfollowed := true, recurses := true, plainKeys := false, leaving := true, apart := false }
def DryDampsSaid : Prop := dryDampsRow.holds Try.pinned (OpenSpec.ofChange dryDampsSpec)

/-- ITS FALSE NEIGHBOUR: 'it returns false'. Refute it at one input. -/
def dryDampsWrong : ChangeSpec := { name := "dryDamps", fn := fun _ => fun
  | [d1, d2, d3] => { results := [.lit (.bool false)], args := [d1, d2, d3] }
  | _ => none }
def DryDampsWrongFalsely : Prop := dryDampsRow.holds Try.pinned (OpenSpec.ofChange dryDampsWrong)

/-- 'crocuslaw06.DryLeast': WHATEVER THE INPUT: true; the input reads as it did. -/
def dryLeastSpec : ChangeSpec := { name := "dryLeast", fn := fun _ => fun
  | [d1, d2, d3, d4] => { results := [.lit (.bool true)], args := [d1, d2, d3, d4] }
  | _ => none }
def dryLeastRow : OpenClaim := { program := "ytedomogjmhommaa", sum := "ff89d83744706a7b49ad6c1fcdc7cfd6c49b529f1fbb91cca986aa96d145bbfe", func := "crocus/crocuslaw06.DryLeast", spec := "dryLeast", unfollowed := true, recurses := true, plainKeys := false, leaving := true, apart := false }
def DryLeastSaid : Prop := dryLeastRow.holds Try.pinned (OpenSpec.ofChange dryLeastSpec)

/-- ITS FALSE NEIGHBOUR: 'it returns false'. Refute it at one input. -/
def dryLeastWrong : ChangeSpec := { name := "dryLeast", fn := fun _ => fun
  | [d1, d2, d3, d4] => { results := [.lit (.bool false)], args := [d1, d2, d3, d4] }
  | _ => none }
def DryLeastWrongFalsely : Prop := dryLeastRow.holds Try.pinned (OpenSpec.ofChange dryLeastWrong)

/-- 'crocuslaw06.DryBlind': WHATEVER THE INPUT: true; the input reads as it did. -/
def dryBlindSpec : ChangeSpec := { name := "dryBlind", fn := fun _ => fun
  | [d1, d2] => { results := [.lit (.bool true)], args := [d1, d2] }
  | _ => none }
def dryBlindRow : OpenClaim := { program := "ytedomogjmhommaa", sum := "ff89d83744706a7b49ad6c1fcdc7cfd6c49b529f1fbb91cca986aa96d145bbfe", func := "crocus/crocuslaw06.DryBlind", spec := "dryBlind", unfollowed := true, recurses := true, plainKeys := false, leaving := true, apart := false }
def DryBlindSaid : Prop := dryBlindRow.holds Try.pinned (OpenSpec.ofChange dryBlindSpec)

/-- ITS FALSE NEIGHBOUR: 'it returns false'. Refute it at one input. -/
def dryBlindWrong : ChangeSpec := { name := "dryBlind", fn := fun _ => fun
  | [d1, d2] => { results := [.lit (.bool false)], args := [d1, d2] }
  | _ => none }
def DryBlindWrongFalsely : Prop := dryBlindRow.holds Try.pinned (OpenSpec.ofChange dryBlindWrong)

/-- 'crocuslaw06.DryEasier': WHATEVER THE INPUT: true; the input reads as it did. -/
def dryEasierSpec : ChangeSpec := { name := "dryEasier", fn := fun _ => fun
  | [d1, d2, d3, d4] => { results := [.lit (.bool true)], args := [d1, d2, d3, d4] }
  | _ => none }
def dryEasierRow : OpenClaim := { program := "ytedomogjmhommaa", sum := "ff89d83744706a7b49ad6c1fcdc7cfd6c49b529f1fbb91cca986aa96d145bbfe", func := "crocus/crocuslaw06.DryEasier", spec := "dryEasier", unfollowed := true, recurses := true, plainKeys := false, leaving := true, apart := false }
def DryEasierSaid : Prop := dryEasierRow.holds Try.pinned (OpenSpec.ofChange dryEasierSpec)

/-- ITS FALSE NEIGHBOUR: 'it returns false'. Refute it at one input. -/
def dryEasierWrong : ChangeSpec := { name := "dryEasier", fn := fun _ => fun
  | [d1, d2, d3, d4] => { results := [.lit (.bool false)], args := [d1, d2, d3, d4] }
  | _ => none }
def DryEasierWrongFalsely : Prop := dryEasierRow.holds Try.pinned (OpenSpec.ofChange dryEasierWrong)

/-- 'crocuslaw06.DryFollows': WHATEVER THE INPUT: true; the input reads as it did. -/
def dryFollowsSpec : ChangeSpec := { name := "dryFollows", fn := fun _ => fun
  | [d1, d2, d3] => { results := [.lit (.bool true)], args := [d1, d2, d3] }
  | _ => none }
def dryFollowsRow : OpenClaim := { program := "ytedomogjmhommaa", sum := "ff89d83744706a7b49ad6c1fcdc7cfd6c49b529f1fbb91cca986aa96d145bbfe", func := "crocus/crocuslaw06.DryFollows", spec := "dryFollows", unfollowed := true, recurses := true, plainKeys := false, leaving := true, apart := false }
def DryFollowsSaid : Prop := dryFollowsRow.holds Try.pinned (OpenSpec.ofChange dryFollowsSpec)

/-- ITS FALSE NEIGHBOUR: 'it returns false'. Refute it at one input. -/
def dryFollowsWrong : ChangeSpec := { name := "dryFollows", fn := fun _ => fun
  | [d1, d2, d3] => { results := [.lit (.bool false)], args := [d1, d2, d3] }
  | _ => none }
def DryFollowsWrongFalsely : Prop := dryFollowsRow.holds Try.pinned (OpenSpec.ofChange dryFollowsWrong)

/-- 'crocuslaw06.DrySpoils': WHATEVER THE INPUT: true; the input reads as it did. -/
def drySpoilsSpec : ChangeSpec := { name := "drySpoils", fn := fun _ => fun
  | [d1, d2] => { results := [.lit (.bool true)], args := [d1, d2] }
  | _ => none }
def drySpoilsRow : OpenClaim := { program := "ytedomogjmhommaa", sum := "ff89d83744706a7b49ad6c1fcdc7cfd6c49b529f1fbb91cca986aa96d145bbfe", func := "crocus/crocuslaw06.DrySpoils", spec := "drySpoils", unfollowed := true, recurses := true, plainKeys := false, leaving := true, apart := false }
def DrySpoilsSaid : Prop := drySpoilsRow.holds Try.pinned (OpenSpec.ofChange drySpoilsSpec)

/-- ITS FALSE NEIGHBOUR: 'it returns false'. Refute it at one input. -/
def drySpoilsWrong : ChangeSpec := { name := "drySpoils", fn := fun _ => fun
  | [d1, d2] => { results := [.lit (.bool false)], args := [d1, d2] }
  | _ => none }
def DrySpoilsWrongFalsely : Prop := drySpoilsRow.holds Try.pinned (OpenSpec.ofChange drySpoilsWrong)

/-- 'crocuslaw06.DryGone': WHATEVER THE INPUT: true; the input reads as it did. -/
def dryGoneSpec : ChangeSpec := { name := "dryGone", fn := fun _ => fun
  | [d1, d2, d3] => { results := [.lit (.bool true)], args := [d1, d2, d3] }
  | _ => none }
def dryGoneRow : OpenClaim := { program := "ytedomogjmhommaa", sum := "ff89d83744706a7b49ad6c1fcdc7cfd6c49b529f1fbb91cca986aa96d145bbfe", func := "crocus/crocuslaw06.DryGone", spec := "dryGone", unfollowed := true, recurses := true, plainKeys := false, leaving := true, apart := false }
def DryGoneSaid : Prop := dryGoneRow.holds Try.pinned (OpenSpec.ofChange dryGoneSpec)

/-- ITS FALSE NEIGHBOUR: 'it returns false'. Refute it at one input. -/
def dryGoneWrong : ChangeSpec := { name := "dryGone", fn := fun _ => fun
  | [d1, d2, d3] => { results := [.lit (.bool false)], args := [d1, d2, d3] }
  | _ => none }
def DryGoneWrongFalsely : Prop := dryGoneRow.holds Try.pinned (OpenSpec.ofChange dryGoneWrong)

/-- 'crocuslaw06.DrySeen': WHATEVER THE INPUT: true; the input reads as it did. -/
def drySeenSpec : ChangeSpec := { name := "drySeen", fn := fun _ => fun
  | [d1, d2, d3] => { results := [.lit (.bool true)], args := [d1, d2, d3] }
  | _ => none }
def drySeenRow : OpenClaim := { program := "ytedomogjmhommaa", sum := "ff89d83744706a7b49ad6c1fcdc7cfd6c49b529f1fbb91cca986aa96d145bbfe", func := "crocus/crocuslaw06.DrySeen", spec := "drySeen", unfollowed := true, recurses := true, plainKeys := false, leaving := true, apart := false }
def DrySeenSaid : Prop := drySeenRow.holds Try.pinned (OpenSpec.ofChange drySeenSpec)

/-- ITS FALSE NEIGHBOUR: 'it returns false'. Refute it at one input. -/
def drySeenWrong : ChangeSpec := { name := "drySeen", fn := fun _ => fun
  | [d1, d2, d3] => { results := [.lit (.bool false)], args := [d1, d2, d3] }
  | _ => none }
def DrySeenWrongFalsely : Prop := drySeenRow.holds Try.pinned (OpenSpec.ofChange drySeenWrong)

/-- 'crocuslaw06.DryProofs': WHATEVER THE INPUT: true; the input reads as it did. -/
def dryProofsSpec : ChangeSpec := { name := "dryProofs", fn := fun _ => fun
  | [d1, d2] => { results := [.lit (.bool true)], args := [d1, d2] }
  | _ => none }
def dryProofsRow : OpenClaim := { program := "ytedomogjmhommaa", sum := "ff89d83744706a7b49ad6c1fcdc7cfd6c49b529f1fbb91cca986aa96d145bbfe", func := "crocus/crocuslaw06.DryProofs", spec := "dryProofs", unfollowed := true, recurses := true, plainKeys := false, leaving := true, apart := false }
def DryProofsSaid : Prop := dryProofsRow.holds Try.pinned (OpenSpec.ofChange dryProofsSpec)

/-- ITS FALSE NEIGHBOUR: 'it returns false'. Refute it at one input. -/
def dryProofsWrong : ChangeSpec := { name := "dryProofs", fn := fun _ => fun
  | [d1, d2] => { results := [.lit (.bool false)], args := [d1, d2] }
  | _ => none }
def DryProofsWrongFalsely : Prop := dryProofsRow.holds Try.pinned (OpenSpec.ofChange dryProofsWrong)

/-- 'crocuslaw06.DryTrue': WHATEVER THE INPUT: true; the input reads as it did. -/
def dryTrueSpec : ChangeSpec := { name := "dryTrue", fn := fun _ => fun
  | [d1, d2] => { results := [.lit (.bool true)], args := [d1, d2] }
  | _ => none }
def dryTrueRow : OpenClaim := { program := "ytedomogjmhommaa", sum := "ff89d83744706a7b49ad6c1fcdc7cfd6c49b529f1fbb91cca986aa96d145bbfe", func := "crocus/crocuslaw06.DryTrue", spec := "dryTrue", unfollowed := true, recurses := true, plainKeys := false, leaving := true, apart := false }
def DryTrueSaid : Prop := dryTrueRow.holds Try.pinned (OpenSpec.ofChange dryTrueSpec)

/-- ITS FALSE NEIGHBOUR: 'it returns false'. Refute it at one input. -/
def dryTrueWrong : ChangeSpec := { name := "dryTrue", fn := fun _ => fun
  | [d1, d2] => { results := [.lit (.bool false)], args := [d1, d2] }
  | _ => none }
def DryTrueWrongFalsely : Prop := dryTrueRow.holds Try.pinned (OpenSpec.ofChange dryTrueWrong)

/-- 'crocuslaw06.DryProof': WHATEVER THE INPUT: true; the input reads as it did. -/
def dryProofSpec : ChangeSpec := { name := "dryProof", fn := fun _ => fun
  | [d1, d2, d3, d4] => { results := [.lit (.bool true)], args := [d1, d2, d3, d4] }
  | _ => none }
def dryProofRow : OpenClaim := { program := "ytedomogjmhommaa", sum := "ff89d83744706a7b49ad6c1fcdc7cfd6c49b529f1fbb91cca986aa96d145bbfe", func := "crocus/crocuslaw06.DryProof", spec := "dryProof", unfollowed := true, recurses := true, plainKeys := false, leaving := true, apart := false }
def DryProofSaid : Prop := dryProofRow.holds Try.pinned (OpenSpec.ofChange dryProofSpec)

/-- ITS FALSE NEIGHBOUR: 'it returns false'. Refute it at one input. -/
def dryProofWrong : ChangeSpec := { name := "dryProof", fn := fun _ => fun
  | [d1, d2, d3, d4] => { results := [.lit (.bool false)], args := [d1, d2, d3, d4] }
  | _ => none }
def DryProofWrongFalsely : Prop := dryProofRow.holds Try.pinned (OpenSpec.ofChange dryProofWrong)

/- THE SECOND FORM. 'bulk': how many values and letters a reading holds, each counted each time it is reached (what is shared counts as often as it is met; a slice's spare places count too). A statement '..UptoSaid' is the law's where the arguments, and the package variables that the reading takes, are together of bulk at most 1048576: NARROWER than '..Said'. Prove '..Said' where nothing that the law and all that it calls make is longer than what came in: it says more and counts as full. Else prove '..UptoSaid'. A law counts once. -/
mutual
def uptoBulk {H : Type} : DataW H → Nat
  | .lit (.string bytes) => bytes.length + 1
  | .lit _ => 1
  | .nil => 1
  | .ptr d => uptoBulk d + 1
  | .slice elems spare => uptoBulkAll elems + uptoBulkAll spare + 1
  | .agg parts => uptoBulkAll parts + 1
  | .iface _ d => uptoBulk d + 1
  | .map entries => uptoBulkEntries entries + 1
  | .held _ => 1
def uptoBulkAll {H : Type} : List (DataW H) → Nat
  | [] => 0
  | d :: r => uptoBulk d + uptoBulkAll r
def uptoBulkEntries {H : Type} : List (Lit × DataW H) → Nat
  | [] => 0
  | x :: r => uptoBulkEntry x + uptoBulkEntries r
def uptoBulkEntry {H : Type} : Lit × DataW H → Nat
  | (.string bytes, d) => bytes.length + uptoBulk d + 1
  | (_, d) => uptoBulk d + 1
 end
def uptoSmall : (H : Type) → List (DataW H) → Bool := fun _ ds => decide (uptoBulkAll ds ≤ 1048576)
def OpenSpec.upto (s : _root_.Go.ChangeSpec) : _root_.Go.OpenSpec := { _root_.Go.OpenSpec.ofChange s with cond := some uptoSmall }

/-- 'crocuslaw06.DryChooses', WHERE WHAT IT READS IS OF BULK AT MOST 1048576: true; the input reads as it did. -/
def dryChoosesUptoRow : OpenClaim := { program := "ytedomogjmhommaa", sum := "ff89d83744706a7b49ad6c1fcdc7cfd6c49b529f1fbb91cca986aa96d145bbfe", func := "crocus/crocuslaw06.DryChooses", spec := "dryChooses", unfollowed := true, recurses := true, plainKeys := false, leaving := true, apart := false, narrowed := true }
def DryChoosesUptoSaid : Prop := dryChoosesUptoRow.holds Try.pinned (OpenSpec.upto dryChoosesSpec)

/-- 'crocuslaw06.DryPlans', WHERE WHAT IT READS IS OF BULK AT MOST 1048576: true; the input reads as it did. -/
def dryPlansUptoRow : OpenClaim := { program := "ytedomogjmhommaa", sum := "ff89d83744706a7b49ad6c1fcdc7cfd6c49b529f1fbb91cca986aa96d145bbfe", func := "crocus/crocuslaw06.DryPlans", spec := "dryPlans", unfollowed := true, recurses := true, plainKeys := false, leaving := true, apart := false, narrowed := true }
def DryPlansUptoSaid : Prop := dryPlansUptoRow.holds Try.pinned (OpenSpec.upto dryPlansSpec)

/-- 'crocuslaw06.DryDamps', WHERE WHAT IT READS IS OF BULK AT MOST 1048576: true; the input reads as it did. -/
def dryDampsUptoRow : OpenClaim := { program := "ytedomogjmhommaa", sum := "ff89d83744706a7b49ad6c1fcdc7cfd6c49b529f1fbb91cca986aa96d145bbfe", func := "crocus/crocuslaw06.DryDamps", spec := "dryDamps", unfollowed := true, recurses := true, plainKeys := false, leaving := true, apart := false, narrowed := true }
def DryDampsUptoSaid : Prop := dryDampsUptoRow.holds Try.pinned (OpenSpec.upto dryDampsSpec)

/-- 'crocuslaw06.DryLeast', WHERE WHAT IT READS IS OF BULK AT MOST 1048576: true; the input reads as it did. -/
def dryLeastUptoRow : OpenClaim := { program := "ytedomogjmhommaa", sum := "ff89d83744706a7b49ad6c1fcdc7cfd6c49b529f1fbb91cca986aa96d145bbfe", func := "crocus/crocuslaw06.DryLeast", spec := "dryLeast", unfollowed := true, recurses := true, plainKeys := false, leaving := true, apart := false, narrowed := true }
def DryLeastUptoSaid : Prop := dryLeastUptoRow.holds Try.pinned (OpenSpec.upto dryLeastSpec)

/-- 'crocuslaw06.DryBlind', WHERE WHAT IT READS IS OF BULK AT MOST 1048576: true; the input reads as it did. -/
def dryBlindUptoRow : OpenClaim := { program := "ytedomogjmhommaa", sum := "ff89d83744706a7b49ad6c1fcdc7cfd6c49b529f1fbb91cca986aa96d145bbfe", func := "crocus/crocuslaw06.DryBlind", spec := "dryBlind", unfollowed := true, recurses := true, plainKeys := false, leaving := true, apart := false, narrowed := true }
def DryBlindUptoSaid : Prop := dryBlindUptoRow.holds Try.pinned (OpenSpec.upto dryBlindSpec)

/-- 'crocuslaw06.DryEasier', WHERE WHAT IT READS IS OF BULK AT MOST 1048576: true; the input reads as it did. -/
def dryEasierUptoRow : OpenClaim := { program := "ytedomogjmhommaa", sum := "ff89d83744706a7b49ad6c1fcdc7cfd6c49b529f1fbb91cca986aa96d145bbfe", func := "crocus/crocuslaw06.DryEasier", spec := "dryEasier", unfollowed := true, recurses := true, plainKeys := false, leaving := true, apart := false, narrowed := true }
def DryEasierUptoSaid : Prop := dryEasierUptoRow.holds Try.pinned (OpenSpec.upto dryEasierSpec)

/-- 'crocuslaw06.DryFollows', WHERE WHAT IT READS IS OF BULK AT MOST 1048576: true; the input reads as it did. -/
def dryFollowsUptoRow : OpenClaim := { program := "ytedomogjmhommaa", sum := "ff89d83744706a7b49ad6c1fcdc7cfd6c49b529f1fbb91cca986aa96d145bbfe", func := "crocus/crocuslaw06.DryFollows", spec := "dryFollows", unfollowed := true, recurses := true, plainKeys := false, leaving := true, apart := false, narrowed := true }
def DryFollowsUptoSaid : Prop := dryFollowsUptoRow.holds Try.pinned (OpenSpec.upto dryFollowsSpec)

/-- 'crocuslaw06.DrySpoils', WHERE WHAT IT READS IS OF BULK AT MOST 1048576: true; the input reads as it did. -/
def drySpoilsUptoRow : OpenClaim := { program := "ytedomogjmhommaa", sum := "ff89d83744706a7b49ad6c1fcdc7cfd6c49b529f1fbb91cca986aa96d145bbfe", func := "crocus/crocuslaw06.DrySpoils", spec := "drySpoils", unfollowed := true, recurses := true, plainKeys := false, leaving := true, apart := false, narrowed := true }
def DrySpoilsUptoSaid : Prop := drySpoilsUptoRow.holds Try.pinned (OpenSpec.upto drySpoilsSpec)

/-- 'crocuslaw06.DryGone', WHERE WHAT IT READS IS OF BULK AT MOST 1048576: true; the input reads as it did. -/
def dryGoneUptoRow : OpenClaim := { program := "ytedomogjmhommaa", sum := "ff89d83744706a7b49ad6c1fcdc7cfd6c49b529f1fbb91cca986aa96d145bbfe", func := "crocus/crocuslaw06.DryGone", spec := "dryGone", unfollowed := true, recurses := true, plainKeys := false, leaving := true, apart := false, narrowed := true }
def DryGoneUptoSaid : Prop := dryGoneUptoRow.holds Try.pinned (OpenSpec.upto dryGoneSpec)

/-- 'crocuslaw06.DrySeen', WHERE WHAT IT READS IS OF BULK AT MOST 1048576: true; the input reads as it did. -/
def drySeenUptoRow : OpenClaim := { program := "ytedomogjmhommaa", sum := "ff89d83744706a7b49ad6c1fcdc7cfd6c49b529f1fbb91cca986aa96d145bbfe", func := "crocus/crocuslaw06.DrySeen", spec := "drySeen", unfollowed := true, recurses := true, plainKeys := false, leaving := true, apart := false, narrowed := true }
def DrySeenUptoSaid : Prop := drySeenUptoRow.holds Try.pinned (OpenSpec.upto drySeenSpec)

/-- 'crocuslaw06.DryProofs', WHERE WHAT IT READS IS OF BULK AT MOST 1048576: true; the input reads as it did. -/
def dryProofsUptoRow : OpenClaim := { program := "ytedomogjmhommaa", sum := "ff89d83744706a7b49ad6c1fcdc7cfd6c49b529f1fbb91cca986aa96d145bbfe", func := "crocus/crocuslaw06.DryProofs", spec := "dryProofs", unfollowed := true, recurses := true, plainKeys := false, leaving := true, apart := false, narrowed := true }
def DryProofsUptoSaid : Prop := dryProofsUptoRow.holds Try.pinned (OpenSpec.upto dryProofsSpec)

/-- 'crocuslaw06.DryTrue', WHERE WHAT IT READS IS OF BULK AT MOST 1048576: true; the input reads as it did. -/
def dryTrueUptoRow : OpenClaim := { program := "ytedomogjmhommaa", sum := "ff89d83744706a7b49ad6c1fcdc7cfd6c49b529f1fbb91cca986aa96d145bbfe", func := "crocus/crocuslaw06.DryTrue", spec := "dryTrue", unfollowed := true, recurses := true, plainKeys := false, leaving := true, apart := false, narrowed := true }
def DryTrueUptoSaid : Prop := dryTrueUptoRow.holds Try.pinned (OpenSpec.upto dryTrueSpec)

/-- 'crocuslaw06.DryProof', WHERE WHAT IT READS IS OF BULK AT MOST 1048576: true; the input reads as it did. -/
def dryProofUptoRow : OpenClaim := { program := "ytedomogjmhommaa", sum := "ff89d83744706a7b49ad6c1fcdc7cfd6c49b529f1fbb91cca986aa96d145bbfe", func := "crocus/crocuslaw06.DryProof", spec := "dryProof", unfollowed := true, recurses := true, plainKeys := false, leaving := true, apart := false, narrowed := true }
def DryProofUptoSaid : Prop := dryProofUptoRow.holds Try.pinned (OpenSpec.upto dryProofSpec)

end Rows
end Go.Proofs.Ytedomogjmhommaa
