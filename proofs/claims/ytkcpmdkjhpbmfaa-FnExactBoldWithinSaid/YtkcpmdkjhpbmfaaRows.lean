/-
  No cell of these rows narrows 'for every input' (looked for: loops, veiled, ifaces, maps, wideKeys, modest, calm, conditions, laid).
  DERIVED. THE GIVEN ROWS OF THIS SEAT. 11 by the template 'for every input the law returns true; each argument reads behind the call as it read before'; 0 by the template 'total and deterministic' (their statements: YtkcpmdkjhpbmfaaTotals.lean).
  GIVEN WITH THE SEED: the statements are not yours to turn. If you find one false, say at which input.
  Laid BY PROGRAM, IN A SANDBOX (cutbox-rows.mjs): the forced cells as the released guide's own fill.sh prints them over the translation 3281f748307cbda1… (all of the seat's roots in one cut). By AI agents, Wed Nov 11 2026. No macro, syntax, notation, axiom, sorry.
-/
import Derived.Test.YtkcpmdkjhpbmfaaChecked
import GoSem.Claim
import GoSem.ClaimJoined
import GoSem.ClaimMapViews
import Derived.JoinedTies
import Derived.KernelRfl
namespace Go.Proofs.Ytkcpmdkjhpbmfaa
/- THE CELL 'sum', in the pinned program and in every row, IS THE sha256 OF THE DUMP (.gsa) THAT YtkcpmdkjhpbmfaaProg.lean LOADS. Nothing in Lean hashes anything: it is a label: what it is worth is what the hold of that sum in a sandbox is worth. -/
noncomputable def Try.pinned : Pinned := { name := "ytkcpmdkjhpbmfaa", sum := "3281f748307cbda1afc609920c80cedea4b98719719e15a708ea26de51b60015", checked := Try.checked }
namespace Rows
def none {H : Type} : Left H := { results := [], args := [] }

/-- 'laws.FnExactCountGoals': WHATEVER THE INPUT: true; the input reads as it did. -/
def fnExactCountGoalsSpec : ChangeSpec := { name := "fnExactCountGoals", fn := fun _ => fun
  | [d1, d2] => { results := [.lit (.bool true)], args := [d1, d2] }
  | _ => none }
def fnExactCountGoalsRow : OpenClaim := { program := "ytkcpmdkjhpbmfaa", sum := "3281f748307cbda1afc609920c80cedea4b98719719e15a708ea26de51b60015", func := "loop.example/g01337/laws.FnExactCountGoals", spec := "fnExactCountGoals", apart := false }
def FnExactCountGoalsSaid : Prop := fnExactCountGoalsRow.holds Try.pinned (OpenSpec.ofChange fnExactCountGoalsSpec)

/-- ITS FALSE NEIGHBOUR: 'it returns false'. Refute it at one input. -/
def fnExactCountGoalsWrong : ChangeSpec := { name := "fnExactCountGoals", fn := fun _ => fun
  | [d1, d2] => { results := [.lit (.bool false)], args := [d1, d2] }
  | _ => none }
def FnExactCountGoalsWrongFalsely : Prop := fnExactCountGoalsRow.holds Try.pinned (OpenSpec.ofChange fnExactCountGoalsWrong)

/-- 'laws.FnExactCountRuins': WHATEVER THE INPUT: true; the input reads as it did. -/
def fnExactCountRuinsSpec : ChangeSpec := { name := "fnExactCountRuins", fn := fun _ => fun
  | [d1, d2] => { results := [.lit (.bool true)], args := [d1, d2] }
  | _ => none }
def fnExactCountRuinsRow : OpenClaim := { program := "ytkcpmdkjhpbmfaa", sum := "3281f748307cbda1afc609920c80cedea4b98719719e15a708ea26de51b60015", func := "loop.example/g01337/laws.FnExactCountRuins", spec := "fnExactCountRuins", apart := false }
def FnExactCountRuinsSaid : Prop := fnExactCountRuinsRow.holds Try.pinned (OpenSpec.ofChange fnExactCountRuinsSpec)

/-- ITS FALSE NEIGHBOUR: 'it returns false'. Refute it at one input. -/
def fnExactCountRuinsWrong : ChangeSpec := { name := "fnExactCountRuins", fn := fun _ => fun
  | [d1, d2] => { results := [.lit (.bool false)], args := [d1, d2] }
  | _ => none }
def FnExactCountRuinsWrongFalsely : Prop := fnExactCountRuinsRow.holds Try.pinned (OpenSpec.ofChange fnExactCountRuinsWrong)

/-- 'laws.FnExactCountInPlay': WHATEVER THE INPUT: true; the input reads as it did. -/
def fnExactCountInPlaySpec : ChangeSpec := { name := "fnExactCountInPlay", fn := fun _ => fun
  | [d1, d2] => { results := [.lit (.bool true)], args := [d1, d2] }
  | _ => none }
def fnExactCountInPlayRow : OpenClaim := { program := "ytkcpmdkjhpbmfaa", sum := "3281f748307cbda1afc609920c80cedea4b98719719e15a708ea26de51b60015", func := "loop.example/g01337/laws.FnExactCountInPlay", spec := "fnExactCountInPlay", apart := false }
def FnExactCountInPlaySaid : Prop := fnExactCountInPlayRow.holds Try.pinned (OpenSpec.ofChange fnExactCountInPlaySpec)

/-- ITS FALSE NEIGHBOUR: 'it returns false'. Refute it at one input. -/
def fnExactCountInPlayWrong : ChangeSpec := { name := "fnExactCountInPlay", fn := fun _ => fun
  | [d1, d2] => { results := [.lit (.bool false)], args := [d1, d2] }
  | _ => none }
def FnExactCountInPlayWrongFalsely : Prop := fnExactCountInPlayRow.holds Try.pinned (OpenSpec.ofChange fnExactCountInPlayWrong)

/-- 'laws.FnExactChanceOfGoal': WHATEVER THE INPUT: true; the input reads as it did. -/
def fnExactChanceOfGoalSpec : ChangeSpec := { name := "fnExactChanceOfGoal", fn := fun _ => fun
  | [d1, d2] => { results := [.lit (.bool true)], args := [d1, d2] }
  | _ => none }
def fnExactChanceOfGoalRow : OpenClaim := { program := "ytkcpmdkjhpbmfaa", sum := "3281f748307cbda1afc609920c80cedea4b98719719e15a708ea26de51b60015", func := "loop.example/g01337/laws.FnExactChanceOfGoal", spec := "fnExactChanceOfGoal", apart := false }
def FnExactChanceOfGoalSaid : Prop := fnExactChanceOfGoalRow.holds Try.pinned (OpenSpec.ofChange fnExactChanceOfGoalSpec)

/-- ITS FALSE NEIGHBOUR: 'it returns false'. Refute it at one input. -/
def fnExactChanceOfGoalWrong : ChangeSpec := { name := "fnExactChanceOfGoal", fn := fun _ => fun
  | [d1, d2] => { results := [.lit (.bool false)], args := [d1, d2] }
  | _ => none }
def FnExactChanceOfGoalWrongFalsely : Prop := fnExactChanceOfGoalRow.holds Try.pinned (OpenSpec.ofChange fnExactChanceOfGoalWrong)

/-- 'laws.FnExactChanceOfRuin': WHATEVER THE INPUT: true; the input reads as it did. -/
def fnExactChanceOfRuinSpec : ChangeSpec := { name := "fnExactChanceOfRuin", fn := fun _ => fun
  | [d1, d2] => { results := [.lit (.bool true)], args := [d1, d2] }
  | _ => none }
def fnExactChanceOfRuinRow : OpenClaim := { program := "ytkcpmdkjhpbmfaa", sum := "3281f748307cbda1afc609920c80cedea4b98719719e15a708ea26de51b60015", func := "loop.example/g01337/laws.FnExactChanceOfRuin", spec := "fnExactChanceOfRuin", apart := false }
def FnExactChanceOfRuinSaid : Prop := fnExactChanceOfRuinRow.holds Try.pinned (OpenSpec.ofChange fnExactChanceOfRuinSpec)

/-- ITS FALSE NEIGHBOUR: 'it returns false'. Refute it at one input. -/
def fnExactChanceOfRuinWrong : ChangeSpec := { name := "fnExactChanceOfRuin", fn := fun _ => fun
  | [d1, d2] => { results := [.lit (.bool false)], args := [d1, d2] }
  | _ => none }
def FnExactChanceOfRuinWrongFalsely : Prop := fnExactChanceOfRuinRow.holds Try.pinned (OpenSpec.ofChange fnExactChanceOfRuinWrong)

/-- 'laws.FnExactNeededPurse': WHATEVER THE INPUT: true; the input reads as it did. -/
def fnExactNeededPurseSpec : ChangeSpec := { name := "fnExactNeededPurse", fn := fun _ => fun
  | [d1, d2, d3, d4] => { results := [.lit (.bool true)], args := [d1, d2, d3, d4] }
  | _ => none }
def fnExactNeededPurseRow : OpenClaim := { program := "ytkcpmdkjhpbmfaa", sum := "3281f748307cbda1afc609920c80cedea4b98719719e15a708ea26de51b60015", func := "loop.example/g01337/laws.FnExactNeededPurse", spec := "fnExactNeededPurse", apart := false }
def FnExactNeededPurseSaid : Prop := fnExactNeededPurseRow.holds Try.pinned (OpenSpec.ofChange fnExactNeededPurseSpec)

/-- ITS FALSE NEIGHBOUR: 'it returns false'. Refute it at one input. -/
def fnExactNeededPurseWrong : ChangeSpec := { name := "fnExactNeededPurse", fn := fun _ => fun
  | [d1, d2, d3, d4] => { results := [.lit (.bool false)], args := [d1, d2, d3, d4] }
  | _ => none }
def FnExactNeededPurseWrongFalsely : Prop := fnExactNeededPurseRow.holds Try.pinned (OpenSpec.ofChange fnExactNeededPurseWrong)

/-- 'laws.FnExactMeanPlays': WHATEVER THE INPUT: true; the input reads as it did. -/
def fnExactMeanPlaysSpec : ChangeSpec := { name := "fnExactMeanPlays", fn := fun _ => fun
  | [d1, d2] => { results := [.lit (.bool true)], args := [d1, d2] }
  | _ => none }
def fnExactMeanPlaysRow : OpenClaim := { program := "ytkcpmdkjhpbmfaa", sum := "3281f748307cbda1afc609920c80cedea4b98719719e15a708ea26de51b60015", func := "loop.example/g01337/laws.FnExactMeanPlays", spec := "fnExactMeanPlays", apart := false }
def FnExactMeanPlaysSaid : Prop := fnExactMeanPlaysRow.holds Try.pinned (OpenSpec.ofChange fnExactMeanPlaysSpec)

/-- ITS FALSE NEIGHBOUR: 'it returns false'. Refute it at one input. -/
def fnExactMeanPlaysWrong : ChangeSpec := { name := "fnExactMeanPlays", fn := fun _ => fun
  | [d1, d2] => { results := [.lit (.bool false)], args := [d1, d2] }
  | _ => none }
def FnExactMeanPlaysWrongFalsely : Prop := fnExactMeanPlaysRow.holds Try.pinned (OpenSpec.ofChange fnExactMeanPlaysWrong)

/-- 'laws.FnExactTimidWithin': WHATEVER THE INPUT: true; the input reads as it did. -/
def fnExactTimidWithinSpec : ChangeSpec := { name := "fnExactTimidWithin", fn := fun _ => fun
  | [d1, d2, d3] => { results := [.lit (.bool true)], args := [d1, d2, d3] }
  | _ => none }
def fnExactTimidWithinRow : OpenClaim := { program := "ytkcpmdkjhpbmfaa", sum := "3281f748307cbda1afc609920c80cedea4b98719719e15a708ea26de51b60015", func := "loop.example/g01337/laws.FnExactTimidWithin", spec := "fnExactTimidWithin", unfollowed := true, recurses := true, apart := false }
def FnExactTimidWithinSaid : Prop := fnExactTimidWithinRow.holds Try.pinned (OpenSpec.ofChange fnExactTimidWithinSpec)

/-- ITS FALSE NEIGHBOUR: 'it returns false'. Refute it at one input. -/
def fnExactTimidWithinWrong : ChangeSpec := { name := "fnExactTimidWithin", fn := fun _ => fun
  | [d1, d2, d3] => { results := [.lit (.bool false)], args := [d1, d2, d3] }
  | _ => none }
def FnExactTimidWithinWrongFalsely : Prop := fnExactTimidWithinRow.holds Try.pinned (OpenSpec.ofChange fnExactTimidWithinWrong)

/-- 'laws.FnExactBoldWithin': WHATEVER THE INPUT: true; the input reads as it did. -/
def fnExactBoldWithinSpec : ChangeSpec := { name := "fnExactBoldWithin", fn := fun _ => fun
  | [d1, d2, d3] => { results := [.lit (.bool true)], args := [d1, d2, d3] }
  | _ => none }
def fnExactBoldWithinRow : OpenClaim := { program := "ytkcpmdkjhpbmfaa", sum := "3281f748307cbda1afc609920c80cedea4b98719719e15a708ea26de51b60015", func := "loop.example/g01337/laws.FnExactBoldWithin", spec := "fnExactBoldWithin", unfollowed := true, recurses := true, apart := false }
def FnExactBoldWithinSaid : Prop := fnExactBoldWithinRow.holds Try.pinned (OpenSpec.ofChange fnExactBoldWithinSpec)

/-- ITS FALSE NEIGHBOUR: 'it returns false'. Refute it at one input. -/
def fnExactBoldWithinWrong : ChangeSpec := { name := "fnExactBoldWithin", fn := fun _ => fun
  | [d1, d2, d3] => { results := [.lit (.bool false)], args := [d1, d2, d3] }
  | _ => none }
def FnExactBoldWithinWrongFalsely : Prop := fnExactBoldWithinRow.holds Try.pinned (OpenSpec.ofChange fnExactBoldWithinWrong)

/-- 'laws.FnExactMostWithin': WHATEVER THE INPUT: true; the input reads as it did. -/
def fnExactMostWithinSpec : ChangeSpec := { name := "fnExactMostWithin", fn := fun _ => fun
  | [d1, d2, d3] => { results := [.lit (.bool true)], args := [d1, d2, d3] }
  | _ => none }
def fnExactMostWithinRow : OpenClaim := { program := "ytkcpmdkjhpbmfaa", sum := "3281f748307cbda1afc609920c80cedea4b98719719e15a708ea26de51b60015", func := "loop.example/g01337/laws.FnExactMostWithin", spec := "fnExactMostWithin", apart := false }
def FnExactMostWithinSaid : Prop := fnExactMostWithinRow.holds Try.pinned (OpenSpec.ofChange fnExactMostWithinSpec)

/-- ITS FALSE NEIGHBOUR: 'it returns false'. Refute it at one input. -/
def fnExactMostWithinWrong : ChangeSpec := { name := "fnExactMostWithin", fn := fun _ => fun
  | [d1, d2, d3] => { results := [.lit (.bool false)], args := [d1, d2, d3] }
  | _ => none }
def FnExactMostWithinWrongFalsely : Prop := fnExactMostWithinRow.holds Try.pinned (OpenSpec.ofChange fnExactMostWithinWrong)

/-- 'laws.FnExactBestStakes': WHATEVER THE INPUT: true; the input reads as it did. -/
def fnExactBestStakesSpec : ChangeSpec := { name := "fnExactBestStakes", fn := fun _ => fun
  | [d1, d2, d3] => { results := [.lit (.bool true)], args := [d1, d2, d3] }
  | _ => none }
def fnExactBestStakesRow : OpenClaim := { program := "ytkcpmdkjhpbmfaa", sum := "3281f748307cbda1afc609920c80cedea4b98719719e15a708ea26de51b60015", func := "loop.example/g01337/laws.FnExactBestStakes", spec := "fnExactBestStakes", apart := false }
def FnExactBestStakesSaid : Prop := fnExactBestStakesRow.holds Try.pinned (OpenSpec.ofChange fnExactBestStakesSpec)

/-- ITS FALSE NEIGHBOUR: 'it returns false'. Refute it at one input. -/
def fnExactBestStakesWrong : ChangeSpec := { name := "fnExactBestStakes", fn := fun _ => fun
  | [d1, d2, d3] => { results := [.lit (.bool false)], args := [d1, d2, d3] }
  | _ => none }
def FnExactBestStakesWrongFalsely : Prop := fnExactBestStakesRow.holds Try.pinned (OpenSpec.ofChange fnExactBestStakesWrong)

/- THE SECOND FORM. 'bulk': how many values and letters a reading holds, each counted each time it is reached (what is shared counts as often as it is met; a slice's spare places count too). A statement '..UptoSaid' is the law's where the arguments, and the package variables that the reading takes, are together of bulk at most 1048576: NARROWER than '..Said'. Prove '..Said' where nothing that the law and all that it calls make is longer than what came in: it says more and counts as full. Else prove '..UptoSaid'. A law counts once. -/
mutual
def uptoBulk {H : Type} : DataW H → Nat
  | .lit (.string bytes) => bytes.length + 1
  | .lit _ => 1
  | .nil => 1
  | .ptr d => uptoBulk d + 1
  | .slice elems spare => uptoBulkAll elems + uptoBulkAll spare + 1
  | .agg parts => uptoBulkAll parts + 1
  | .iface _ d => uptoBulk d + 1
  | .map entries => uptoBulkEntries entries + 1
  | .held _ => 1
def uptoBulkAll {H : Type} : List (DataW H) → Nat
  | [] => 0
  | d :: r => uptoBulk d + uptoBulkAll r
def uptoBulkEntries {H : Type} : List (Lit × DataW H) → Nat
  | [] => 0
  | x :: r => uptoBulkEntry x + uptoBulkEntries r
def uptoBulkEntry {H : Type} : Lit × DataW H → Nat
  | (.string bytes, d) => bytes.length + uptoBulk d + 1
  | (_, d) => uptoBulk d + 1
 end
def uptoSmall : (H : Type) → List (DataW H) → Bool := fun _ ds => decide (uptoBulkAll ds ≤ 1048576)
def OpenSpec.upto (s : _root_.Go.ChangeSpec) : _root_.Go.OpenSpec := { _root_.Go.OpenSpec.ofChange s with cond := some uptoSmall }

/-- 'laws.FnExactCountGoals', WHERE WHAT IT READS IS OF BULK AT MOST 1048576: true; the input reads as it did. -/
def fnExactCountGoalsUptoRow : OpenClaim := { program := "ytkcpmdkjhpbmfaa", sum := "3281f748307cbda1afc609920c80cedea4b98719719e15a708ea26de51b60015", func := "loop.example/g01337/laws.FnExactCountGoals", spec := "fnExactCountGoals", apart := false, narrowed := true }
def FnExactCountGoalsUptoSaid : Prop := fnExactCountGoalsUptoRow.holds Try.pinned (OpenSpec.upto fnExactCountGoalsSpec)

/-- 'laws.FnExactCountRuins', WHERE WHAT IT READS IS OF BULK AT MOST 1048576: true; the input reads as it did. -/
def fnExactCountRuinsUptoRow : OpenClaim := { program := "ytkcpmdkjhpbmfaa", sum := "3281f748307cbda1afc609920c80cedea4b98719719e15a708ea26de51b60015", func := "loop.example/g01337/laws.FnExactCountRuins", spec := "fnExactCountRuins", apart := false, narrowed := true }
def FnExactCountRuinsUptoSaid : Prop := fnExactCountRuinsUptoRow.holds Try.pinned (OpenSpec.upto fnExactCountRuinsSpec)

/-- 'laws.FnExactCountInPlay', WHERE WHAT IT READS IS OF BULK AT MOST 1048576: true; the input reads as it did. -/
def fnExactCountInPlayUptoRow : OpenClaim := { program := "ytkcpmdkjhpbmfaa", sum := "3281f748307cbda1afc609920c80cedea4b98719719e15a708ea26de51b60015", func := "loop.example/g01337/laws.FnExactCountInPlay", spec := "fnExactCountInPlay", apart := false, narrowed := true }
def FnExactCountInPlayUptoSaid : Prop := fnExactCountInPlayUptoRow.holds Try.pinned (OpenSpec.upto fnExactCountInPlaySpec)

/-- 'laws.FnExactChanceOfGoal', WHERE WHAT IT READS IS OF BULK AT MOST 1048576: true; the input reads as it did. -/
def fnExactChanceOfGoalUptoRow : OpenClaim := { program := "ytkcpmdkjhpbmfaa", sum := "3281f748307cbda1afc609920c80cedea4b98719719e15a708ea26de51b60015", func := "loop.example/g01337/laws.FnExactChanceOfGoal", spec := "fnExactChanceOfGoal", apart := false, narrowed := true }
def FnExactChanceOfGoalUptoSaid : Prop := fnExactChanceOfGoalUptoRow.holds Try.pinned (OpenSpec.upto fnExactChanceOfGoalSpec)

/-- 'laws.FnExactChanceOfRuin', WHERE WHAT IT READS IS OF BULK AT MOST 1048576: true; the input reads as it did. -/
def fnExactChanceOfRuinUptoRow : OpenClaim := { program := "ytkcpmdkjhpbmfaa", sum := "3281f748307cbda1afc609920c80cedea4b98719719e15a708ea26de51b60015", func := "loop.example/g01337/laws.FnExactChanceOfRuin", spec := "fnExactChanceOfRuin", apart := false, narrowed := true }
def FnExactChanceOfRuinUptoSaid : Prop := fnExactChanceOfRuinUptoRow.holds Try.pinned (OpenSpec.upto fnExactChanceOfRuinSpec)

/-- 'laws.FnExactNeededPurse', WHERE WHAT IT READS IS OF BULK AT MOST 1048576: true; the input reads as it did. -/
def fnExactNeededPurseUptoRow : OpenClaim := { program := "ytkcpmdkjhpbmfaa", sum := "3281f748307cbda1afc609920c80cedea4b98719719e15a708ea26de51b60015", func := "loop.example/g01337/laws.FnExactNeededPurse", spec := "fnExactNeededPurse", apart := false, narrowed := true }
def FnExactNeededPurseUptoSaid : Prop := fnExactNeededPurseUptoRow.holds Try.pinned (OpenSpec.upto fnExactNeededPurseSpec)

/-- 'laws.FnExactMeanPlays', WHERE WHAT IT READS IS OF BULK AT MOST 1048576: true; the input reads as it did. -/
def fnExactMeanPlaysUptoRow : OpenClaim := { program := "ytkcpmdkjhpbmfaa", sum := "3281f748307cbda1afc609920c80cedea4b98719719e15a708ea26de51b60015", func := "loop.example/g01337/laws.FnExactMeanPlays", spec := "fnExactMeanPlays", apart := false, narrowed := true }
def FnExactMeanPlaysUptoSaid : Prop := fnExactMeanPlaysUptoRow.holds Try.pinned (OpenSpec.upto fnExactMeanPlaysSpec)

/-- 'laws.FnExactTimidWithin', WHERE WHAT IT READS IS OF BULK AT MOST 1048576: true; the input reads as it did. -/
def fnExactTimidWithinUptoRow : OpenClaim := { program := "ytkcpmdkjhpbmfaa", sum := "3281f748307cbda1afc609920c80cedea4b98719719e15a708ea26de51b60015", func := "loop.example/g01337/laws.FnExactTimidWithin", spec := "fnExactTimidWithin", unfollowed := true, recurses := true, apart := false, narrowed := true }
def FnExactTimidWithinUptoSaid : Prop := fnExactTimidWithinUptoRow.holds Try.pinned (OpenSpec.upto fnExactTimidWithinSpec)

/-- 'laws.FnExactBoldWithin', WHERE WHAT IT READS IS OF BULK AT MOST 1048576: true; the input reads as it did. -/
def fnExactBoldWithinUptoRow : OpenClaim := { program := "ytkcpmdkjhpbmfaa", sum := "3281f748307cbda1afc609920c80cedea4b98719719e15a708ea26de51b60015", func := "loop.example/g01337/laws.FnExactBoldWithin", spec := "fnExactBoldWithin", unfollowed := true, recurses := true, apart := false, narrowed := true }
def FnExactBoldWithinUptoSaid : Prop := fnExactBoldWithinUptoRow.holds Try.pinned (OpenSpec.upto fnExactBoldWithinSpec)

/-- 'laws.FnExactMostWithin', WHERE WHAT IT READS IS OF BULK AT MOST 1048576: true; the input reads as it did. -/
def fnExactMostWithinUptoRow : OpenClaim := { program := "ytkcpmdkjhpbmfaa", sum := "3281f748307cbda1afc609920c80cedea4b98719719e15a708ea26de51b60015", func := "loop.example/g01337/laws.FnExactMostWithin", spec := "fnExactMostWithin", apart := false, narrowed := true }
def FnExactMostWithinUptoSaid : Prop := fnExactMostWithinUptoRow.holds Try.pinned (OpenSpec.upto fnExactMostWithinSpec)

/-- 'laws.FnExactBestStakes', WHERE WHAT IT READS IS OF BULK AT MOST 1048576: true; the input reads as it did. -/
def fnExactBestStakesUptoRow : OpenClaim := { program := "ytkcpmdkjhpbmfaa", sum := "3281f748307cbda1afc609920c80cedea4b98719719e15a708ea26de51b60015", func := "loop.example/g01337/laws.FnExactBestStakes", spec := "fnExactBestStakes", apart := false, narrowed := true }
def FnExactBestStakesUptoSaid : Prop := fnExactBestStakesUptoRow.holds Try.pinned (OpenSpec.upto fnExactBestStakesSpec)

end Rows
end Go.Proofs.Ytkcpmdkjhpbmfaa
