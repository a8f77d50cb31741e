/-
  DERIVED. GIVEN WITH THE SEED: THE CARDS: each row of YtfpbpiodoajpiaaDoorRows.lean that lists a variable, with what it lists TIED to the program's text (the seventh form; the later family's looks); each row that meets fmt, with fmt's text TOLD by the authors' own Lean function (tested against real Go, not proved from fmt's source: count such statements apart). THE CARD IS WHAT COUNTS. Prove the row's statement (the work); the ties are given (YtfpbpiodoajpiaaDoorTie.lean); close each card by the builder's one call (the guide's Derived/Test/ToyasCard.lean, 'card_holds'). Laid BY PROGRAM, IN A SANDBOX (cutbox-door.mjs). By AI agents, Wed Nov 11 2026. No macro, syntax, notation, axiom, sorry.
-/
import Derived.Test.YtfpbpiodoajpiaaDoorRows
import GoSem.ClaimSeven
namespace Go.Proofs.YtfpbpiodoajpiaaDoor
namespace Rows

/-- THE TIED CARD OF 'laws.FnExactHiddenText'. -/
def fnExactHiddenTextCard : Claim7 := { stood := { row := fnExactHiddenTextRow, standIns := [], harness := (true, "62113c93ea63e787edca1a6b98fc4a2c68fe62b2da08131ca620a409923ea910"), looks := true }, kinds := [], alts := [], laidByText := true, laidKinds := [.data, .data, .data], laidTests := true, laidLooks := .later }
def FnExactHiddenTextCardSaid : Prop := Claim7.holds Tryd.pinned (.plain (OpenSpec.ofChange fnExactHiddenTextSpec)) fnExactHiddenTextCard

/-- THE TIED CARD OF 'laws.FnExactParseStakes'. -/
def fnExactParseStakesCard : Claim7 := { stood := { row := fnExactParseStakesRow, standIns := [], harness := (true, "62113c93ea63e787edca1a6b98fc4a2c68fe62b2da08131ca620a409923ea910"), looks := true }, kinds := [], alts := [], laidByText := true, laidKinds := [.data, .data, .data, .data, .sentinel, .sentinel, .pinned], laidTests := true, laidLooks := .later }
def FnExactParseStakesCardSaid : Prop := Claim7.holds Tryd.pinned (.plain (OpenSpec.ofChange fnExactParseStakesSpec)) fnExactParseStakesCard

/-- THE TIED CARD OF 'laws.FnExactParseHidden'. -/
def fnExactParseHiddenCard : Claim7 := { stood := { row := fnExactParseHiddenRow, standIns := [], harness := (true, "62113c93ea63e787edca1a6b98fc4a2c68fe62b2da08131ca620a409923ea910"), looks := true }, kinds := [], alts := [], laidByText := true, laidKinds := [.data, .data, .data, .data, .sentinel, .sentinel, .pinned], laidTests := true, laidLooks := .later }
def FnExactParseHiddenCardSaid : Prop := Claim7.holds Tryd.pinned (.plain (OpenSpec.ofChange fnExactParseHiddenSpec)) fnExactParseHiddenCard

/-- THE SECOND FORM's CARD OF 'laws.FnExactHiddenText'. -/
def fnExactHiddenTextUptoCard : Claim7 := { stood := { row := fnExactHiddenTextUptoRow, standIns := [], harness := (true, "62113c93ea63e787edca1a6b98fc4a2c68fe62b2da08131ca620a409923ea910"), looks := true }, kinds := [], alts := [], laidByText := true, laidKinds := [.data, .data, .data], laidTests := true, laidLooks := .later }
def FnExactHiddenTextUptoCardSaid : Prop := Claim7.holds Tryd.pinned (.plain (OpenSpec.upto fnExactHiddenTextSpec)) fnExactHiddenTextUptoCard

/-- THE SECOND FORM's CARD OF 'laws.FnExactParseStakes'. -/
def fnExactParseStakesUptoCard : Claim7 := { stood := { row := fnExactParseStakesUptoRow, standIns := [], harness := (true, "62113c93ea63e787edca1a6b98fc4a2c68fe62b2da08131ca620a409923ea910"), looks := true }, kinds := [], alts := [], laidByText := true, laidKinds := [.data, .data, .data, .data, .sentinel, .sentinel, .pinned], laidTests := true, laidLooks := .later }
def FnExactParseStakesUptoCardSaid : Prop := Claim7.holds Tryd.pinned (.plain (OpenSpec.upto fnExactParseStakesSpec)) fnExactParseStakesUptoCard

/-- THE SECOND FORM's CARD OF 'laws.FnExactParseHidden'. -/
def fnExactParseHiddenUptoCard : Claim7 := { stood := { row := fnExactParseHiddenUptoRow, standIns := [], harness := (true, "62113c93ea63e787edca1a6b98fc4a2c68fe62b2da08131ca620a409923ea910"), looks := true }, kinds := [], alts := [], laidByText := true, laidKinds := [.data, .data, .data, .data, .sentinel, .sentinel, .pinned], laidTests := true, laidLooks := .later }
def FnExactParseHiddenUptoCardSaid : Prop := Claim7.holds Tryd.pinned (.plain (OpenSpec.upto fnExactParseHiddenSpec)) fnExactParseHiddenUptoCard
end Rows
end Go.Proofs.YtfpbpiodoajpiaaDoor
