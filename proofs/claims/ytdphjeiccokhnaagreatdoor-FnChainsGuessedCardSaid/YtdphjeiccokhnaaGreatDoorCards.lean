/-
  DERIVED. GIVEN WITH THE SEED: THE CARDS: each row of YtdphjeiccokhnaaGreatDoorRows.lean that lists a variable, with what it lists TIED to the program's text (the seventh form; the later family's looks); each row that meets fmt, with fmt's text TOLD by the authors' own Lean function (tested against real Go, not proved from fmt's source: count such statements apart). THE CARD IS WHAT COUNTS. Prove the row's statement (the work); the ties are given (YtdphjeiccokhnaaGreatDoorTie.lean); close each card by the builder's one call (the guide's Derived/Test/ToyasCard.lean, 'card_holds'). Laid BY PROGRAM, IN A SANDBOX (cutbox-door.mjs). By AI agents, Wed Nov 11 2026. No macro, syntax, notation, axiom, sorry.
-/
import Derived.Test.YtdphjeiccokhnaaGreatDoorRows
import GoSem.ClaimSeven
namespace Go.Proofs.YtdphjeiccokhnaaGreatDoor
namespace Rows

/-- THE TIED CARD OF 'laws.FnChainsGuessed'. -/
def fnChainsGuessedCard : Claim7 := { stood := { row := fnChainsGuessedRow, standIns := [], harness := (true, "5bff379362fd1fa74ae89bc173054c534cf145427054112d5578996c946f8e93"), looks := true }, kinds := [], alts := [], laidByText := true, laidKinds := [.data, .data, .data, .data, .sentinel, .sentinel, .pinned], laidTests := true, laidLooks := .later }
def FnChainsGuessedCardSaid : Prop := Claim7.holds Tryz.pinned (.plain (OpenSpec.ofChange fnChainsGuessedSpec)) fnChainsGuessedCard

/-- THE SECOND FORM's CARD OF 'laws.FnChainsGuessed'. -/
def fnChainsGuessedUptoCard : Claim7 := { stood := { row := fnChainsGuessedUptoRow, standIns := [], harness := (true, "5bff379362fd1fa74ae89bc173054c534cf145427054112d5578996c946f8e93"), looks := true }, kinds := [], alts := [], laidByText := true, laidKinds := [.data, .data, .data, .data, .sentinel, .sentinel, .pinned], laidTests := true, laidLooks := .later }
def FnChainsGuessedUptoCardSaid : Prop := Claim7.holds Tryz.pinned (.plain (OpenSpec.upto fnChainsGuessedSpec)) fnChainsGuessedUptoCard
end Rows
end Go.Proofs.YtdphjeiccokhnaaGreatDoor
