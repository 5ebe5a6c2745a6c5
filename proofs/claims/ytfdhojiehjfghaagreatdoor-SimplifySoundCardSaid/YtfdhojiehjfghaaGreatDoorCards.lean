/-
  DERIVED. GIVEN WITH THE SEED: THE CARDS: each row of YtfdhojiehjfghaaGreatDoorRows.lean that lists a variable, with what it lists TIED to the program's text (the seventh form; the later family's looks); each row that meets fmt, with fmt's text TOLD by the authors' own Lean function (tested against real Go, not proved from fmt's source: count such statements apart). THE CARD IS WHAT COUNTS. Prove the row's statement (the work); the ties are given (YtfdhojiehjfghaaGreatDoorTie.lean); close each card by the builder's one call (the guide's Derived/Test/ToyasCard.lean, 'card_holds'). Laid BY PROGRAM, IN A SANDBOX (cutbox-door.mjs). By AI agents, Wed Nov 11 2026. No macro, syntax, notation, axiom, sorry.
-/
import Derived.Test.YtfdhojiehjfghaaGreatDoorRows
import GoSem.ClaimSeven
namespace Go.Proofs.YtfdhojiehjfghaaGreatDoor
namespace Rows

/-- THE TIED CARD OF 'brocadelaw21.SimplifyExpr'. -/
def simplifyExprCard : Claim7 := { stood := { row := simplifyExprRow, standIns := [], harness := (true, "139ea44d4d2dcea45b487423c89fada0b5abf4f2b7ac6181893b4653642fc4b9"), looks := false }, kinds := [], alts := [], laidByText := true, laidKinds := [.listed, .data], laidTests := true, laidLooks := .later }
def SimplifyExprCardSaid : Prop := Claim7.holds Tryz.pinned (.plain (OpenSpec.ofChange simplifyExprSpec)) simplifyExprCard

/-- THE TIED CARD OF 'brocadelaw21.SimplifySound'. -/
def simplifySoundCard : Claim7 := { stood := { row := simplifySoundRow, standIns := [], harness := (true, "139ea44d4d2dcea45b487423c89fada0b5abf4f2b7ac6181893b4653642fc4b9"), looks := false }, kinds := [], alts := [], laidByText := true, laidKinds := [.listed, .data], laidTests := true, laidLooks := .later }
def SimplifySoundCardSaid : Prop := Claim7.holds Tryz.pinned (.plain (OpenSpec.ofChange simplifySoundSpec)) simplifySoundCard

/-- THE TIED CARD OF 'brocadelaw21.SimplifyPrograms'. -/
def simplifyProgramsCard : Claim7 := { stood := { row := simplifyProgramsRow, standIns := [], harness := (true, "139ea44d4d2dcea45b487423c89fada0b5abf4f2b7ac6181893b4653642fc4b9"), looks := false }, kinds := [], alts := [], laidByText := true, laidKinds := [.listed, .data], laidTests := true, laidLooks := .later }
def SimplifyProgramsCardSaid : Prop := Claim7.holds Tryz.pinned (.plain (OpenSpec.ofChange simplifyProgramsSpec)) simplifyProgramsCard

/-- THE TIED CARD OF 'brocadelaw21.SimplifyTotal'. -/
def simplifyTotalCard : Claim7 := { stood := { row := simplifyTotalRow, standIns := [], harness := (true, "139ea44d4d2dcea45b487423c89fada0b5abf4f2b7ac6181893b4653642fc4b9"), looks := false }, kinds := [], alts := [], laidByText := true, laidKinds := [.listed, .data], laidTests := true, laidLooks := .later }
def SimplifyTotalCardSaid : Prop := Claim7.holds Tryz.pinned (.plain (OpenSpec.ofChange simplifyTotalSpec)) simplifyTotalCard

/-- THE SECOND FORM's CARD OF 'brocadelaw21.SimplifyExpr'. -/
def simplifyExprUptoCard : Claim7 := { stood := { row := simplifyExprUptoRow, standIns := [], harness := (true, "139ea44d4d2dcea45b487423c89fada0b5abf4f2b7ac6181893b4653642fc4b9"), looks := false }, kinds := [], alts := [], laidByText := true, laidKinds := [.listed, .data], laidTests := true, laidLooks := .later }
def SimplifyExprUptoCardSaid : Prop := Claim7.holds Tryz.pinned (.plain (OpenSpec.upto simplifyExprSpec)) simplifyExprUptoCard

/-- THE SECOND FORM's CARD OF 'brocadelaw21.SimplifySound'. -/
def simplifySoundUptoCard : Claim7 := { stood := { row := simplifySoundUptoRow, standIns := [], harness := (true, "139ea44d4d2dcea45b487423c89fada0b5abf4f2b7ac6181893b4653642fc4b9"), looks := false }, kinds := [], alts := [], laidByText := true, laidKinds := [.listed, .data], laidTests := true, laidLooks := .later }
def SimplifySoundUptoCardSaid : Prop := Claim7.holds Tryz.pinned (.plain (OpenSpec.upto simplifySoundSpec)) simplifySoundUptoCard

/-- THE SECOND FORM's CARD OF 'brocadelaw21.SimplifyPrograms'. -/
def simplifyProgramsUptoCard : Claim7 := { stood := { row := simplifyProgramsUptoRow, standIns := [], harness := (true, "139ea44d4d2dcea45b487423c89fada0b5abf4f2b7ac6181893b4653642fc4b9"), looks := false }, kinds := [], alts := [], laidByText := true, laidKinds := [.listed, .data], laidTests := true, laidLooks := .later }
def SimplifyProgramsUptoCardSaid : Prop := Claim7.holds Tryz.pinned (.plain (OpenSpec.upto simplifyProgramsSpec)) simplifyProgramsUptoCard

/-- THE SECOND FORM's CARD OF 'brocadelaw21.SimplifyTotal'. -/
def simplifyTotalUptoCard : Claim7 := { stood := { row := simplifyTotalUptoRow, standIns := [], harness := (true, "139ea44d4d2dcea45b487423c89fada0b5abf4f2b7ac6181893b4653642fc4b9"), looks := false }, kinds := [], alts := [], laidByText := true, laidKinds := [.listed, .data], laidTests := true, laidLooks := .later }
def SimplifyTotalUptoCardSaid : Prop := Claim7.holds Tryz.pinned (.plain (OpenSpec.upto simplifyTotalSpec)) simplifyTotalUptoCard
end Rows
end Go.Proofs.YtfdhojiehjfghaaGreatDoor
