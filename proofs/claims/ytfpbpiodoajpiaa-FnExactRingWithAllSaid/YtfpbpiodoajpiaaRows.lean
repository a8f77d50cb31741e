/-
  No cell of these rows narrows 'for every input' (looked for: loops, veiled, ifaces, maps, wideKeys, modest, calm, conditions, laid).
  DERIVED. THE GIVEN ROWS OF THIS SEAT. 6 by the template 'for every input the law returns true; each argument reads behind the call as it read before'; 0 by the template 'total and deterministic' (their statements: YtfpbpiodoajpiaaTotals.lean).
  GIVEN WITH THE SEED: the statements are not yours to turn. If you find one false, say at which input.
  Laid BY PROGRAM, IN A SANDBOX (cutbox-rows.mjs): the forced cells as the released guide's own fill.sh prints them over the translation 44b7bce57e7e8829… (all of the seat's roots in one cut). By AI agents, Wed Nov 11 2026. No macro, syntax, notation, axiom, sorry.
-/
import Derived.Test.YtfpbpiodoajpiaaChecked
import GoSem.Claim
import GoSem.ClaimJoined
import GoSem.ClaimMapViews
import Derived.JoinedTies
import Derived.KernelRfl
namespace Go.Proofs.Ytfpbpiodoajpiaa
/- THE CELL 'sum', in the pinned program and in every row, IS THE sha256 OF THE DUMP (.gsa) THAT YtfpbpiodoajpiaaProg.lean LOADS. Nothing in Lean hashes anything: it is a label: what it is worth is what the hold of that sum in a sandbox is worth. -/
noncomputable def Try.pinned : Pinned := { name := "ytfpbpiodoajpiaa", sum := "44b7bce57e7e882943d8bb4137d5c0621a40bc0ab46d6f9b1eb0d19f6cde999c", checked := Try.checked }
namespace Rows
def none {H : Type} : Left H := { results := [], args := [] }

/-- 'laws.FnExactTurnHidden': WHATEVER THE INPUT: true; the input reads as it did. -/
def fnExactTurnHiddenSpec : ChangeSpec := { name := "fnExactTurnHidden", fn := fun _ => fun
  | [d] => { results := [.lit (.bool true)], args := [d] }
  | _ => none }
def fnExactTurnHiddenRow : OpenClaim := { program := "ytfpbpiodoajpiaa", sum := "44b7bce57e7e882943d8bb4137d5c0621a40bc0ab46d6f9b1eb0d19f6cde999c", func := "loop.example/g01337/laws.FnExactTurnHidden", spec := "fnExactTurnHidden", apart := false }
def FnExactTurnHiddenSaid : Prop := fnExactTurnHiddenRow.holds Try.pinned (OpenSpec.ofChange fnExactTurnHiddenSpec)

/-- ITS FALSE NEIGHBOUR: 'it returns false'. Refute it at one input. -/
def fnExactTurnHiddenWrong : ChangeSpec := { name := "fnExactTurnHidden", fn := fun _ => fun
  | [d] => { results := [.lit (.bool false)], args := [d] }
  | _ => none }
def FnExactTurnHiddenWrongFalsely : Prop := fnExactTurnHiddenRow.holds Try.pinned (OpenSpec.ofChange fnExactTurnHiddenWrong)

/-- 'laws.FnExactMeanSigns': WHATEVER THE INPUT: true; the input reads as it did. -/
def fnExactMeanSignsSpec : ChangeSpec := { name := "fnExactMeanSigns", fn := fun _ => fun
  | [d1, d2] => { results := [.lit (.bool true)], args := [d1, d2] }
  | _ => none }
def fnExactMeanSignsRow : OpenClaim := { program := "ytfpbpiodoajpiaa", sum := "44b7bce57e7e882943d8bb4137d5c0621a40bc0ab46d6f9b1eb0d19f6cde999c", func := "loop.example/g01337/laws.FnExactMeanSigns", spec := "fnExactMeanSigns", recurses := true, apart := false }
def FnExactMeanSignsSaid : Prop := fnExactMeanSignsRow.holds Try.pinned (OpenSpec.ofChange fnExactMeanSignsSpec)

/-- ITS FALSE NEIGHBOUR: 'it returns false'. Refute it at one input. -/
def fnExactMeanSignsWrong : ChangeSpec := { name := "fnExactMeanSigns", fn := fun _ => fun
  | [d1, d2] => { results := [.lit (.bool false)], args := [d1, d2] }
  | _ => none }
def FnExactMeanSignsWrongFalsely : Prop := fnExactMeanSignsRow.holds Try.pinned (OpenSpec.ofChange fnExactMeanSignsWrong)

/-- 'laws.FnExactLikeliestSigns': WHATEVER THE INPUT: true; the input reads as it did. -/
def fnExactLikeliestSignsSpec : ChangeSpec := { name := "fnExactLikeliestSigns", fn := fun _ => fun
  | [d1, d2] => { results := [.lit (.bool true)], args := [d1, d2] }
  | _ => none }
def fnExactLikeliestSignsRow : OpenClaim := { program := "ytfpbpiodoajpiaa", sum := "44b7bce57e7e882943d8bb4137d5c0621a40bc0ab46d6f9b1eb0d19f6cde999c", func := "loop.example/g01337/laws.FnExactLikeliestSigns", spec := "fnExactLikeliestSigns", unfollowed := true, recurses := true, apart := false }
def FnExactLikeliestSignsSaid : Prop := fnExactLikeliestSignsRow.holds Try.pinned (OpenSpec.ofChange fnExactLikeliestSignsSpec)

/-- ITS FALSE NEIGHBOUR: 'it returns false'. Refute it at one input. -/
def fnExactLikeliestSignsWrong : ChangeSpec := { name := "fnExactLikeliestSigns", fn := fun _ => fun
  | [d1, d2] => { results := [.lit (.bool false)], args := [d1, d2] }
  | _ => none }
def FnExactLikeliestSignsWrongFalsely : Prop := fnExactLikeliestSignsRow.holds Try.pinned (OpenSpec.ofChange fnExactLikeliestSignsWrong)

/-- 'laws.FnExactLongestTyped': WHATEVER THE INPUT: true; the input reads as it did. -/
def fnExactLongestTypedSpec : ChangeSpec := { name := "fnExactLongestTyped", fn := fun _ => fun
  | [d1, d2] => { results := [.lit (.bool true)], args := [d1, d2] }
  | _ => none }
def fnExactLongestTypedRow : OpenClaim := { program := "ytfpbpiodoajpiaa", sum := "44b7bce57e7e882943d8bb4137d5c0621a40bc0ab46d6f9b1eb0d19f6cde999c", func := "loop.example/g01337/laws.FnExactLongestTyped", spec := "fnExactLongestTyped", inPlace := ["internal/abi.NoEscape", "internal/bytealg.MakeNoZero"], apart := false }
def FnExactLongestTypedSaid : Prop := fnExactLongestTypedRow.holds Try.pinned (OpenSpec.ofChange fnExactLongestTypedSpec)

/-- ITS FALSE NEIGHBOUR: 'it returns false'. Refute it at one input. -/
def fnExactLongestTypedWrong : ChangeSpec := { name := "fnExactLongestTyped", fn := fun _ => fun
  | [d1, d2] => { results := [.lit (.bool false)], args := [d1, d2] }
  | _ => none }
def FnExactLongestTypedWrongFalsely : Prop := fnExactLongestTypedRow.holds Try.pinned (OpenSpec.ofChange fnExactLongestTypedWrong)

/-- 'laws.FnExactPrimeWords': WHATEVER THE INPUT: true; the input reads as it did. -/
def fnExactPrimeWordsSpec : ChangeSpec := { name := "fnExactPrimeWords", fn := fun _ => fun
  | [d1, d2] => { results := [.lit (.bool true)], args := [d1, d2] }
  | _ => none }
def fnExactPrimeWordsRow : OpenClaim := { program := "ytfpbpiodoajpiaa", sum := "44b7bce57e7e882943d8bb4137d5c0621a40bc0ab46d6f9b1eb0d19f6cde999c", func := "loop.example/g01337/laws.FnExactPrimeWords", spec := "fnExactPrimeWords", inPlace := ["internal/abi.NoEscape", "internal/bytealg.MakeNoZero"], apart := false }
def FnExactPrimeWordsSaid : Prop := fnExactPrimeWordsRow.holds Try.pinned (OpenSpec.ofChange fnExactPrimeWordsSpec)

/-- ITS FALSE NEIGHBOUR: 'it returns false'. Refute it at one input. -/
def fnExactPrimeWordsWrong : ChangeSpec := { name := "fnExactPrimeWords", fn := fun _ => fun
  | [d1, d2] => { results := [.lit (.bool false)], args := [d1, d2] }
  | _ => none }
def FnExactPrimeWordsWrongFalsely : Prop := fnExactPrimeWordsRow.holds Try.pinned (OpenSpec.ofChange fnExactPrimeWordsWrong)

/-- 'laws.FnExactRingWithAll': WHATEVER THE INPUT: true; the input reads as it did. -/
def fnExactRingWithAllSpec : ChangeSpec := { name := "fnExactRingWithAll", fn := fun _ => fun
  | [d1, d2] => { results := [.lit (.bool true)], args := [d1, d2] }
  | _ => none }
def fnExactRingWithAllRow : OpenClaim := { program := "ytfpbpiodoajpiaa", sum := "44b7bce57e7e882943d8bb4137d5c0621a40bc0ab46d6f9b1eb0d19f6cde999c", func := "loop.example/g01337/laws.FnExactRingWithAll", spec := "fnExactRingWithAll", inPlace := ["internal/abi.NoEscape", "internal/bytealg.MakeNoZero"], recurses := true, apart := false }
def FnExactRingWithAllSaid : Prop := fnExactRingWithAllRow.holds Try.pinned (OpenSpec.ofChange fnExactRingWithAllSpec)

/-- ITS FALSE NEIGHBOUR: 'it returns false'. Refute it at one input. -/
def fnExactRingWithAllWrong : ChangeSpec := { name := "fnExactRingWithAll", fn := fun _ => fun
  | [d1, d2] => { results := [.lit (.bool false)], args := [d1, d2] }
  | _ => none }
def FnExactRingWithAllWrongFalsely : Prop := fnExactRingWithAllRow.holds Try.pinned (OpenSpec.ofChange fnExactRingWithAllWrong)

/- THE SECOND FORM. 'bulk': how many values and letters a reading holds, each counted each time it is reached (what is shared counts as often as it is met; a slice's spare places count too). A statement '..UptoSaid' is the law's where the arguments, and the package variables that the reading takes, are together of bulk at most 1048576: NARROWER than '..Said'. Prove '..Said' where nothing that the law and all that it calls make is longer than what came in: it says more and counts as full. Else prove '..UptoSaid'. A law counts once. -/
mutual
def uptoBulk {H : Type} : DataW H → Nat
  | .lit (.string bytes) => bytes.length + 1
  | .lit _ => 1
  | .nil => 1
  | .ptr d => uptoBulk d + 1
  | .slice elems spare => uptoBulkAll elems + uptoBulkAll spare + 1
  | .agg parts => uptoBulkAll parts + 1
  | .iface _ d => uptoBulk d + 1
  | .map entries => uptoBulkEntries entries + 1
  | .held _ => 1
def uptoBulkAll {H : Type} : List (DataW H) → Nat
  | [] => 0
  | d :: r => uptoBulk d + uptoBulkAll r
def uptoBulkEntries {H : Type} : List (Lit × DataW H) → Nat
  | [] => 0
  | x :: r => uptoBulkEntry x + uptoBulkEntries r
def uptoBulkEntry {H : Type} : Lit × DataW H → Nat
  | (.string bytes, d) => bytes.length + uptoBulk d + 1
  | (_, d) => uptoBulk d + 1
 end
def uptoSmall : (H : Type) → List (DataW H) → Bool := fun _ ds => decide (uptoBulkAll ds ≤ 1048576)
def OpenSpec.upto (s : _root_.Go.ChangeSpec) : _root_.Go.OpenSpec := { _root_.Go.OpenSpec.ofChange s with cond := some uptoSmall }

/-- 'laws.FnExactTurnHidden', WHERE WHAT IT READS IS OF BULK AT MOST 1048576: true; the input reads as it did. -/
def fnExactTurnHiddenUptoRow : OpenClaim := { program := "ytfpbpiodoajpiaa", sum := "44b7bce57e7e882943d8bb4137d5c0621a40bc0ab46d6f9b1eb0d19f6cde999c", func := "loop.example/g01337/laws.FnExactTurnHidden", spec := "fnExactTurnHidden", apart := false, narrowed := true }
def FnExactTurnHiddenUptoSaid : Prop := fnExactTurnHiddenUptoRow.holds Try.pinned (OpenSpec.upto fnExactTurnHiddenSpec)

/-- 'laws.FnExactMeanSigns', WHERE WHAT IT READS IS OF BULK AT MOST 1048576: true; the input reads as it did. -/
def fnExactMeanSignsUptoRow : OpenClaim := { program := "ytfpbpiodoajpiaa", sum := "44b7bce57e7e882943d8bb4137d5c0621a40bc0ab46d6f9b1eb0d19f6cde999c", func := "loop.example/g01337/laws.FnExactMeanSigns", spec := "fnExactMeanSigns", recurses := true, apart := false, narrowed := true }
def FnExactMeanSignsUptoSaid : Prop := fnExactMeanSignsUptoRow.holds Try.pinned (OpenSpec.upto fnExactMeanSignsSpec)

/-- 'laws.FnExactLikeliestSigns', WHERE WHAT IT READS IS OF BULK AT MOST 1048576: true; the input reads as it did. -/
def fnExactLikeliestSignsUptoRow : OpenClaim := { program := "ytfpbpiodoajpiaa", sum := "44b7bce57e7e882943d8bb4137d5c0621a40bc0ab46d6f9b1eb0d19f6cde999c", func := "loop.example/g01337/laws.FnExactLikeliestSigns", spec := "fnExactLikeliestSigns", unfollowed := true, recurses := true, apart := false, narrowed := true }
def FnExactLikeliestSignsUptoSaid : Prop := fnExactLikeliestSignsUptoRow.holds Try.pinned (OpenSpec.upto fnExactLikeliestSignsSpec)

/-- 'laws.FnExactLongestTyped', WHERE WHAT IT READS IS OF BULK AT MOST 1048576: true; the input reads as it did. -/
def fnExactLongestTypedUptoRow : OpenClaim := { program := "ytfpbpiodoajpiaa", sum := "44b7bce57e7e882943d8bb4137d5c0621a40bc0ab46d6f9b1eb0d19f6cde999c", func := "loop.example/g01337/laws.FnExactLongestTyped", spec := "fnExactLongestTyped", inPlace := ["internal/abi.NoEscape", "internal/bytealg.MakeNoZero"], apart := false, narrowed := true }
def FnExactLongestTypedUptoSaid : Prop := fnExactLongestTypedUptoRow.holds Try.pinned (OpenSpec.upto fnExactLongestTypedSpec)

/-- 'laws.FnExactPrimeWords', WHERE WHAT IT READS IS OF BULK AT MOST 1048576: true; the input reads as it did. -/
def fnExactPrimeWordsUptoRow : OpenClaim := { program := "ytfpbpiodoajpiaa", sum := "44b7bce57e7e882943d8bb4137d5c0621a40bc0ab46d6f9b1eb0d19f6cde999c", func := "loop.example/g01337/laws.FnExactPrimeWords", spec := "fnExactPrimeWords", inPlace := ["internal/abi.NoEscape", "internal/bytealg.MakeNoZero"], apart := false, narrowed := true }
def FnExactPrimeWordsUptoSaid : Prop := fnExactPrimeWordsUptoRow.holds Try.pinned (OpenSpec.upto fnExactPrimeWordsSpec)

/-- 'laws.FnExactRingWithAll', WHERE WHAT IT READS IS OF BULK AT MOST 1048576: true; the input reads as it did. -/
def fnExactRingWithAllUptoRow : OpenClaim := { program := "ytfpbpiodoajpiaa", sum := "44b7bce57e7e882943d8bb4137d5c0621a40bc0ab46d6f9b1eb0d19f6cde999c", func := "loop.example/g01337/laws.FnExactRingWithAll", spec := "fnExactRingWithAll", inPlace := ["internal/abi.NoEscape", "internal/bytealg.MakeNoZero"], recurses := true, apart := false, narrowed := true }
def FnExactRingWithAllUptoSaid : Prop := fnExactRingWithAllUptoRow.holds Try.pinned (OpenSpec.upto fnExactRingWithAllSpec)

end Rows
end Go.Proofs.Ytfpbpiodoajpiaa
