/-
  No cell of these rows narrows 'for every input' (looked for: loops, veiled, ifaces, maps, wideKeys, modest, calm, conditions, laid).
  DERIVED. THE GIVEN ROWS OF THIS SEAT. 10 by the template 'for every input the law returns true; each argument reads behind the call as it read before'; 0 by the template 'total and deterministic' (their statements: YthiclneaehbhoaaTotals.lean).
  GIVEN WITH THE SEED: the statements are not yours to turn. If you find one false, say at which input.
  Laid BY PROGRAM, IN A SANDBOX (cutbox-rows.mjs): the forced cells as the released guide's own fill.sh prints them over the translation 42cfdcdfeadab644… (all of the seat's roots in one cut). By AI agents, Wed Nov 11 2026. No macro, syntax, notation, axiom, sorry.
-/
import Derived.Test.YthiclneaehbhoaaChecked
import GoSem.Claim
import GoSem.ClaimJoined
import GoSem.ClaimMapViews
import Derived.JoinedTies
import Derived.KernelRfl
namespace Go.Proofs.Ythiclneaehbhoaa
/- THE CELL 'sum', in the pinned program and in every row, IS THE sha256 OF THE DUMP (.gsa) THAT YthiclneaehbhoaaProg.lean LOADS. Nothing in Lean hashes anything: it is a label: what it is worth is what the hold of that sum in a sandbox is worth. -/
noncomputable def Try.pinned : Pinned := { name := "ythiclneaehbhoaa", sum := "42cfdcdfeadab6448ed45da3c6de4db9a95cca0feebb707380e4fc63a590ad49", checked := Try.checked }
namespace Rows
def none {H : Type} : Left H := { results := [], args := [] }

/-- 'laws.FnExactAreStakes': WHATEVER THE INPUT: true; the input reads as it did. -/
def fnExactAreStakesSpec : ChangeSpec := { name := "fnExactAreStakes", fn := fun _ => fun
  | [d] => { results := [.lit (.bool true)], args := [d] }
  | _ => none }
def fnExactAreStakesRow : OpenClaim := { program := "ythiclneaehbhoaa", sum := "42cfdcdfeadab6448ed45da3c6de4db9a95cca0feebb707380e4fc63a590ad49", func := "loop.example/g01337/laws.FnExactAreStakes", spec := "fnExactAreStakes", apart := false }
def FnExactAreStakesSaid : Prop := fnExactAreStakesRow.holds Try.pinned (OpenSpec.ofChange fnExactAreStakesSpec)

/-- ITS FALSE NEIGHBOUR: 'it returns false'. Refute it at one input. -/
def fnExactAreStakesWrong : ChangeSpec := { name := "fnExactAreStakes", fn := fun _ => fun
  | [d] => { results := [.lit (.bool false)], args := [d] }
  | _ => none }
def FnExactAreStakesWrongFalsely : Prop := fnExactAreStakesRow.holds Try.pinned (OpenSpec.ofChange fnExactAreStakesWrong)

/-- 'laws.FnExactIsFairPlay': WHATEVER THE INPUT: true; the input reads as it did. -/
def fnExactIsFairPlaySpec : ChangeSpec := { name := "fnExactIsFairPlay", fn := fun _ => fun
  | [d1, d2, d3] => { results := [.lit (.bool true)], args := [d1, d2, d3] }
  | _ => none }
def fnExactIsFairPlayRow : OpenClaim := { program := "ythiclneaehbhoaa", sum := "42cfdcdfeadab6448ed45da3c6de4db9a95cca0feebb707380e4fc63a590ad49", func := "loop.example/g01337/laws.FnExactIsFairPlay", spec := "fnExactIsFairPlay", apart := false }
def FnExactIsFairPlaySaid : Prop := fnExactIsFairPlayRow.holds Try.pinned (OpenSpec.ofChange fnExactIsFairPlaySpec)

/-- ITS FALSE NEIGHBOUR: 'it returns false'. Refute it at one input. -/
def fnExactIsFairPlayWrong : ChangeSpec := { name := "fnExactIsFairPlay", fn := fun _ => fun
  | [d1, d2, d3] => { results := [.lit (.bool false)], args := [d1, d2, d3] }
  | _ => none }
def FnExactIsFairPlayWrongFalsely : Prop := fnExactIsFairPlayRow.holds Try.pinned (OpenSpec.ofChange fnExactIsFairPlayWrong)

/-- 'laws.FnExactIsHidden': WHATEVER THE INPUT: true; the input reads as it did. -/
def fnExactIsHiddenSpec : ChangeSpec := { name := "fnExactIsHidden", fn := fun _ => fun
  | [d] => { results := [.lit (.bool true)], args := [d] }
  | _ => none }
def fnExactIsHiddenRow : OpenClaim := { program := "ythiclneaehbhoaa", sum := "42cfdcdfeadab6448ed45da3c6de4db9a95cca0feebb707380e4fc63a590ad49", func := "loop.example/g01337/laws.FnExactIsHidden", spec := "fnExactIsHidden", apart := false }
def FnExactIsHiddenSaid : Prop := fnExactIsHiddenRow.holds Try.pinned (OpenSpec.ofChange fnExactIsHiddenSpec)

/-- ITS FALSE NEIGHBOUR: 'it returns false'. Refute it at one input. -/
def fnExactIsHiddenWrong : ChangeSpec := { name := "fnExactIsHidden", fn := fun _ => fun
  | [d] => { results := [.lit (.bool false)], args := [d] }
  | _ => none }
def FnExactIsHiddenWrongFalsely : Prop := fnExactIsHiddenRow.holds Try.pinned (OpenSpec.ofChange fnExactIsHiddenWrong)

/-- 'laws.FnExactTurnStakes': WHATEVER THE INPUT: true; the input reads as it did. -/
def fnExactTurnStakesSpec : ChangeSpec := { name := "fnExactTurnStakes", fn := fun _ => fun
  | [d] => { results := [.lit (.bool true)], args := [d] }
  | _ => none }
def fnExactTurnStakesRow : OpenClaim := { program := "ythiclneaehbhoaa", sum := "42cfdcdfeadab6448ed45da3c6de4db9a95cca0feebb707380e4fc63a590ad49", func := "loop.example/g01337/laws.FnExactTurnStakes", spec := "fnExactTurnStakes", apart := false }
def FnExactTurnStakesSaid : Prop := fnExactTurnStakesRow.holds Try.pinned (OpenSpec.ofChange fnExactTurnStakesSpec)

/-- ITS FALSE NEIGHBOUR: 'it returns false'. Refute it at one input. -/
def fnExactTurnStakesWrong : ChangeSpec := { name := "fnExactTurnStakes", fn := fun _ => fun
  | [d] => { results := [.lit (.bool false)], args := [d] }
  | _ => none }
def FnExactTurnStakesWrongFalsely : Prop := fnExactTurnStakesRow.holds Try.pinned (OpenSpec.ofChange fnExactTurnStakesWrong)

/-- 'laws.FnExactBoldStake': WHATEVER THE INPUT: true; the input reads as it did. -/
def fnExactBoldStakeSpec : ChangeSpec := { name := "fnExactBoldStake", fn := fun _ => fun
  | [d] => { results := [.lit (.bool true)], args := [d] }
  | _ => none }
def fnExactBoldStakeRow : OpenClaim := { program := "ythiclneaehbhoaa", sum := "42cfdcdfeadab6448ed45da3c6de4db9a95cca0feebb707380e4fc63a590ad49", func := "loop.example/g01337/laws.FnExactBoldStake", spec := "fnExactBoldStake", apart := false }
def FnExactBoldStakeSaid : Prop := fnExactBoldStakeRow.holds Try.pinned (OpenSpec.ofChange fnExactBoldStakeSpec)

/-- ITS FALSE NEIGHBOUR: 'it returns false'. Refute it at one input. -/
def fnExactBoldStakeWrong : ChangeSpec := { name := "fnExactBoldStake", fn := fun _ => fun
  | [d] => { results := [.lit (.bool false)], args := [d] }
  | _ => none }
def FnExactBoldStakeWrongFalsely : Prop := fnExactBoldStakeRow.holds Try.pinned (OpenSpec.ofChange fnExactBoldStakeWrong)

/-- 'laws.FnExactIsClue': WHATEVER THE INPUT: true; the input reads as it did. -/
def fnExactIsClueSpec : ChangeSpec := { name := "fnExactIsClue", fn := fun _ => fun
  | [d1, d2] => { results := [.lit (.bool true)], args := [d1, d2] }
  | _ => none }
def fnExactIsClueRow : OpenClaim := { program := "ythiclneaehbhoaa", sum := "42cfdcdfeadab6448ed45da3c6de4db9a95cca0feebb707380e4fc63a590ad49", func := "loop.example/g01337/laws.FnExactIsClue", spec := "fnExactIsClue", apart := false }
def FnExactIsClueSaid : Prop := fnExactIsClueRow.holds Try.pinned (OpenSpec.ofChange fnExactIsClueSpec)

/-- ITS FALSE NEIGHBOUR: 'it returns false'. Refute it at one input. -/
def fnExactIsClueWrong : ChangeSpec := { name := "fnExactIsClue", fn := fun _ => fun
  | [d1, d2] => { results := [.lit (.bool false)], args := [d1, d2] }
  | _ => none }
def FnExactIsClueWrongFalsely : Prop := fnExactIsClueRow.holds Try.pinned (OpenSpec.ofChange fnExactIsClueWrong)

/-- 'laws.FnExactDoSignsTell': WHATEVER THE INPUT: true; the input reads as it did. -/
def fnExactDoSignsTellSpec : ChangeSpec := { name := "fnExactDoSignsTell", fn := fun _ => fun
  | [d] => { results := [.lit (.bool true)], args := [d] }
  | _ => none }
def fnExactDoSignsTellRow : OpenClaim := { program := "ythiclneaehbhoaa", sum := "42cfdcdfeadab6448ed45da3c6de4db9a95cca0feebb707380e4fc63a590ad49", func := "loop.example/g01337/laws.FnExactDoSignsTell", spec := "fnExactDoSignsTell", apart := false }
def FnExactDoSignsTellSaid : Prop := fnExactDoSignsTellRow.holds Try.pinned (OpenSpec.ofChange fnExactDoSignsTellSpec)

/-- ITS FALSE NEIGHBOUR: 'it returns false'. Refute it at one input. -/
def fnExactDoSignsTellWrong : ChangeSpec := { name := "fnExactDoSignsTell", fn := fun _ => fun
  | [d] => { results := [.lit (.bool false)], args := [d] }
  | _ => none }
def FnExactDoSignsTellWrongFalsely : Prop := fnExactDoSignsTellRow.holds Try.pinned (OpenSpec.ofChange fnExactDoSignsTellWrong)

/-- 'laws.FnExactMeanPurse': WHATEVER THE INPUT: true; the input reads as it did. -/
def fnExactMeanPurseSpec : ChangeSpec := { name := "fnExactMeanPurse", fn := fun _ => fun
  | [d1, d2, d3] => { results := [.lit (.bool true)], args := [d1, d2, d3] }
  | _ => none }
def fnExactMeanPurseRow : OpenClaim := { program := "ythiclneaehbhoaa", sum := "42cfdcdfeadab6448ed45da3c6de4db9a95cca0feebb707380e4fc63a590ad49", func := "loop.example/g01337/laws.FnExactMeanPurse", spec := "fnExactMeanPurse", apart := false }
def FnExactMeanPurseSaid : Prop := fnExactMeanPurseRow.holds Try.pinned (OpenSpec.ofChange fnExactMeanPurseSpec)

/-- ITS FALSE NEIGHBOUR: 'it returns false'. Refute it at one input. -/
def fnExactMeanPurseWrong : ChangeSpec := { name := "fnExactMeanPurse", fn := fun _ => fun
  | [d1, d2, d3] => { results := [.lit (.bool false)], args := [d1, d2, d3] }
  | _ => none }
def FnExactMeanPurseWrongFalsely : Prop := fnExactMeanPurseRow.holds Try.pinned (OpenSpec.ofChange fnExactMeanPurseWrong)

/-- 'laws.FnExactIsDesk': WHATEVER THE INPUT: true; the input reads as it did. -/
def fnExactIsDeskSpec : ChangeSpec := { name := "fnExactIsDesk", fn := fun _ => fun
  | [d] => { results := [.lit (.bool true)], args := [d] }
  | _ => none }
def fnExactIsDeskRow : OpenClaim := { program := "ythiclneaehbhoaa", sum := "42cfdcdfeadab6448ed45da3c6de4db9a95cca0feebb707380e4fc63a590ad49", func := "loop.example/g01337/laws.FnExactIsDesk", spec := "fnExactIsDesk", apart := false }
def FnExactIsDeskSaid : Prop := fnExactIsDeskRow.holds Try.pinned (OpenSpec.ofChange fnExactIsDeskSpec)

/-- ITS FALSE NEIGHBOUR: 'it returns false'. Refute it at one input. -/
def fnExactIsDeskWrong : ChangeSpec := { name := "fnExactIsDesk", fn := fun _ => fun
  | [d] => { results := [.lit (.bool false)], args := [d] }
  | _ => none }
def FnExactIsDeskWrongFalsely : Prop := fnExactIsDeskRow.holds Try.pinned (OpenSpec.ofChange fnExactIsDeskWrong)

/-- 'laws.FnExactFirstDesk': WHATEVER THE INPUT: true; the input reads as it did. -/
def fnExactFirstDeskSpec : ChangeSpec := { name := "fnExactFirstDesk", fn := fun _ => fun
  | [] => { results := [.lit (.bool true)], args := [] }
  | _ => none }
def fnExactFirstDeskRow : OpenClaim := { program := "ythiclneaehbhoaa", sum := "42cfdcdfeadab6448ed45da3c6de4db9a95cca0feebb707380e4fc63a590ad49", func := "loop.example/g01337/laws.FnExactFirstDesk", spec := "fnExactFirstDesk", apart := false }
def FnExactFirstDeskSaid : Prop := fnExactFirstDeskRow.holds Try.pinned (OpenSpec.ofChange fnExactFirstDeskSpec)

/-- ITS FALSE NEIGHBOUR: 'it returns false'. Refute it at one input. -/
def fnExactFirstDeskWrong : ChangeSpec := { name := "fnExactFirstDesk", fn := fun _ => fun
  | [] => { results := [.lit (.bool false)], args := [] }
  | _ => none }
def FnExactFirstDeskWrongFalsely : Prop := fnExactFirstDeskRow.holds Try.pinned (OpenSpec.ofChange fnExactFirstDeskWrong)

/- THE SECOND FORM. 'bulk': how many values and letters a reading holds, each counted each time it is reached (what is shared counts as often as it is met; a slice's spare places count too). A statement '..UptoSaid' is the law's where the arguments, and the package variables that the reading takes, are together of bulk at most 1048576: NARROWER than '..Said'. Prove '..Said' where nothing that the law and all that it calls make is longer than what came in: it says more and counts as full. Else prove '..UptoSaid'. A law counts once. -/
mutual
def uptoBulk {H : Type} : DataW H → Nat
  | .lit (.string bytes) => bytes.length + 1
  | .lit _ => 1
  | .nil => 1
  | .ptr d => uptoBulk d + 1
  | .slice elems spare => uptoBulkAll elems + uptoBulkAll spare + 1
  | .agg parts => uptoBulkAll parts + 1
  | .iface _ d => uptoBulk d + 1
  | .map entries => uptoBulkEntries entries + 1
  | .held _ => 1
def uptoBulkAll {H : Type} : List (DataW H) → Nat
  | [] => 0
  | d :: r => uptoBulk d + uptoBulkAll r
def uptoBulkEntries {H : Type} : List (Lit × DataW H) → Nat
  | [] => 0
  | x :: r => uptoBulkEntry x + uptoBulkEntries r
def uptoBulkEntry {H : Type} : Lit × DataW H → Nat
  | (.string bytes, d) => bytes.length + uptoBulk d + 1
  | (_, d) => uptoBulk d + 1
 end
def uptoSmall : (H : Type) → List (DataW H) → Bool := fun _ ds => decide (uptoBulkAll ds ≤ 1048576)
def OpenSpec.upto (s : _root_.Go.ChangeSpec) : _root_.Go.OpenSpec := { _root_.Go.OpenSpec.ofChange s with cond := some uptoSmall }

/-- 'laws.FnExactAreStakes', WHERE WHAT IT READS IS OF BULK AT MOST 1048576: true; the input reads as it did. -/
def fnExactAreStakesUptoRow : OpenClaim := { program := "ythiclneaehbhoaa", sum := "42cfdcdfeadab6448ed45da3c6de4db9a95cca0feebb707380e4fc63a590ad49", func := "loop.example/g01337/laws.FnExactAreStakes", spec := "fnExactAreStakes", apart := false, narrowed := true }
def FnExactAreStakesUptoSaid : Prop := fnExactAreStakesUptoRow.holds Try.pinned (OpenSpec.upto fnExactAreStakesSpec)

/-- 'laws.FnExactIsFairPlay', WHERE WHAT IT READS IS OF BULK AT MOST 1048576: true; the input reads as it did. -/
def fnExactIsFairPlayUptoRow : OpenClaim := { program := "ythiclneaehbhoaa", sum := "42cfdcdfeadab6448ed45da3c6de4db9a95cca0feebb707380e4fc63a590ad49", func := "loop.example/g01337/laws.FnExactIsFairPlay", spec := "fnExactIsFairPlay", apart := false, narrowed := true }
def FnExactIsFairPlayUptoSaid : Prop := fnExactIsFairPlayUptoRow.holds Try.pinned (OpenSpec.upto fnExactIsFairPlaySpec)

/-- 'laws.FnExactIsHidden', WHERE WHAT IT READS IS OF BULK AT MOST 1048576: true; the input reads as it did. -/
def fnExactIsHiddenUptoRow : OpenClaim := { program := "ythiclneaehbhoaa", sum := "42cfdcdfeadab6448ed45da3c6de4db9a95cca0feebb707380e4fc63a590ad49", func := "loop.example/g01337/laws.FnExactIsHidden", spec := "fnExactIsHidden", apart := false, narrowed := true }
def FnExactIsHiddenUptoSaid : Prop := fnExactIsHiddenUptoRow.holds Try.pinned (OpenSpec.upto fnExactIsHiddenSpec)

/-- 'laws.FnExactTurnStakes', WHERE WHAT IT READS IS OF BULK AT MOST 1048576: true; the input reads as it did. -/
def fnExactTurnStakesUptoRow : OpenClaim := { program := "ythiclneaehbhoaa", sum := "42cfdcdfeadab6448ed45da3c6de4db9a95cca0feebb707380e4fc63a590ad49", func := "loop.example/g01337/laws.FnExactTurnStakes", spec := "fnExactTurnStakes", apart := false, narrowed := true }
def FnExactTurnStakesUptoSaid : Prop := fnExactTurnStakesUptoRow.holds Try.pinned (OpenSpec.upto fnExactTurnStakesSpec)

/-- 'laws.FnExactBoldStake', WHERE WHAT IT READS IS OF BULK AT MOST 1048576: true; the input reads as it did. -/
def fnExactBoldStakeUptoRow : OpenClaim := { program := "ythiclneaehbhoaa", sum := "42cfdcdfeadab6448ed45da3c6de4db9a95cca0feebb707380e4fc63a590ad49", func := "loop.example/g01337/laws.FnExactBoldStake", spec := "fnExactBoldStake", apart := false, narrowed := true }
def FnExactBoldStakeUptoSaid : Prop := fnExactBoldStakeUptoRow.holds Try.pinned (OpenSpec.upto fnExactBoldStakeSpec)

/-- 'laws.FnExactIsClue', WHERE WHAT IT READS IS OF BULK AT MOST 1048576: true; the input reads as it did. -/
def fnExactIsClueUptoRow : OpenClaim := { program := "ythiclneaehbhoaa", sum := "42cfdcdfeadab6448ed45da3c6de4db9a95cca0feebb707380e4fc63a590ad49", func := "loop.example/g01337/laws.FnExactIsClue", spec := "fnExactIsClue", apart := false, narrowed := true }
def FnExactIsClueUptoSaid : Prop := fnExactIsClueUptoRow.holds Try.pinned (OpenSpec.upto fnExactIsClueSpec)

/-- 'laws.FnExactDoSignsTell', WHERE WHAT IT READS IS OF BULK AT MOST 1048576: true; the input reads as it did. -/
def fnExactDoSignsTellUptoRow : OpenClaim := { program := "ythiclneaehbhoaa", sum := "42cfdcdfeadab6448ed45da3c6de4db9a95cca0feebb707380e4fc63a590ad49", func := "loop.example/g01337/laws.FnExactDoSignsTell", spec := "fnExactDoSignsTell", apart := false, narrowed := true }
def FnExactDoSignsTellUptoSaid : Prop := fnExactDoSignsTellUptoRow.holds Try.pinned (OpenSpec.upto fnExactDoSignsTellSpec)

/-- 'laws.FnExactMeanPurse', WHERE WHAT IT READS IS OF BULK AT MOST 1048576: true; the input reads as it did. -/
def fnExactMeanPurseUptoRow : OpenClaim := { program := "ythiclneaehbhoaa", sum := "42cfdcdfeadab6448ed45da3c6de4db9a95cca0feebb707380e4fc63a590ad49", func := "loop.example/g01337/laws.FnExactMeanPurse", spec := "fnExactMeanPurse", apart := false, narrowed := true }
def FnExactMeanPurseUptoSaid : Prop := fnExactMeanPurseUptoRow.holds Try.pinned (OpenSpec.upto fnExactMeanPurseSpec)

/-- 'laws.FnExactIsDesk', WHERE WHAT IT READS IS OF BULK AT MOST 1048576: true; the input reads as it did. -/
def fnExactIsDeskUptoRow : OpenClaim := { program := "ythiclneaehbhoaa", sum := "42cfdcdfeadab6448ed45da3c6de4db9a95cca0feebb707380e4fc63a590ad49", func := "loop.example/g01337/laws.FnExactIsDesk", spec := "fnExactIsDesk", apart := false, narrowed := true }
def FnExactIsDeskUptoSaid : Prop := fnExactIsDeskUptoRow.holds Try.pinned (OpenSpec.upto fnExactIsDeskSpec)

/-- 'laws.FnExactFirstDesk', WHERE WHAT IT READS IS OF BULK AT MOST 1048576: true; the input reads as it did. -/
def fnExactFirstDeskUptoRow : OpenClaim := { program := "ythiclneaehbhoaa", sum := "42cfdcdfeadab6448ed45da3c6de4db9a95cca0feebb707380e4fc63a590ad49", func := "loop.example/g01337/laws.FnExactFirstDesk", spec := "fnExactFirstDesk", apart := false, narrowed := true }
def FnExactFirstDeskUptoSaid : Prop := fnExactFirstDeskUptoRow.holds Try.pinned (OpenSpec.upto fnExactFirstDeskSpec)

end Rows
end Go.Proofs.Ythiclneaehbhoaa
