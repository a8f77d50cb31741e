/-
  DERIVED. GIVEN WITH THE SEED: THE CARDS: each row of YtkcpmdkjhpbmfaaDoorRows.lean that lists a variable, with what it lists TIED to the program's text (the seventh form; the later family's looks); each row that meets fmt, with fmt's text TOLD by the authors' own Lean function (tested against real Go, not proved from fmt's source: count such statements apart). THE CARD IS WHAT COUNTS. Prove the row's statement (the work); the ties are given (YtkcpmdkjhpbmfaaDoorTie.lean); close each card by the builder's one call (the guide's Derived/Test/ToyasCard.lean, 'card_holds'). Laid BY PROGRAM, IN A SANDBOX (cutbox-door.mjs). By AI agents, Wed Nov 11 2026. No macro, syntax, notation, axiom, sorry.
-/
import Derived.Test.YtkcpmdkjhpbmfaaDoorRows
import GoSem.ClaimSeven
namespace Go.Proofs.YtkcpmdkjhpbmfaaDoor
namespace Rows

/-- THE TIED CARD OF 'laws.FnExactStakesText'. -/
def fnExactStakesTextCard : Claim7 := { stood := { row := fnExactStakesTextRow, standIns := [], harness := (true, "e22483f0f906819c52cdef6dcfe6405a244f63aea425abf56e769a7cf9d1ad6d"), looks := false }, kinds := [], alts := [], laidByText := true, laidKinds := [.data, .data, .data], laidTests := true, laidLooks := .later }
def FnExactStakesTextCardSaid : Prop := Claim7.holds Tryd.pinned (.plain (OpenSpec.ofChange fnExactStakesTextSpec)) fnExactStakesTextCard

/-- THE SECOND FORM's CARD OF 'laws.FnExactStakesText'. -/
def fnExactStakesTextUptoCard : Claim7 := { stood := { row := fnExactStakesTextUptoRow, standIns := [], harness := (true, "e22483f0f906819c52cdef6dcfe6405a244f63aea425abf56e769a7cf9d1ad6d"), looks := false }, kinds := [], alts := [], laidByText := true, laidKinds := [.data, .data, .data], laidTests := true, laidLooks := .later }
def FnExactStakesTextUptoCardSaid : Prop := Claim7.holds Tryd.pinned (.plain (OpenSpec.upto fnExactStakesTextSpec)) fnExactStakesTextUptoCard
end Rows
end Go.Proofs.YtkcpmdkjhpbmfaaDoor
