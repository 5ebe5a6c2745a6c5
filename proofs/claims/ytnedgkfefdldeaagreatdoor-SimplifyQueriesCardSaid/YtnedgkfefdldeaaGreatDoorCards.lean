/-
  DERIVED. GIVEN WITH THE SEED: THE CARDS: each row of YtnedgkfefdldeaaGreatDoorRows.lean that lists a variable, with what it lists TIED to the program's text (the seventh form; the later family's looks); each row that meets fmt, with fmt's text TOLD by the authors' own Lean function (tested against real Go, not proved from fmt's source: count such statements apart). THE CARD IS WHAT COUNTS. Prove the row's statement (the work); the ties are given (YtnedgkfefdldeaaGreatDoorTie.lean); close each card by the builder's one call (the guide's Derived/Test/ToyasCard.lean, 'card_holds'). Laid BY PROGRAM, IN A SANDBOX (cutbox-door.mjs). By AI agents, Wed Nov 11 2026. No macro, syntax, notation, axiom, sorry.
-/
import Derived.Test.YtnedgkfefdldeaaGreatDoorRows
import GoSem.ClaimSeven
namespace Go.Proofs.YtnedgkfefdldeaaGreatDoor
namespace Rows

/-- THE TIED CARD OF 'brocadelaw21.SimplifyStep'. -/
def simplifyStepCard : Claim7 := { stood := { row := simplifyStepRow, standIns := [], harness := (true, "9be3f0f36b2c3456aa1474c02e588b12bb931ddddb0b8c2dde71b22a1a851776"), looks := false }, kinds := [], alts := [], laidByText := true, laidKinds := [.listed, .data], laidTests := true, laidLooks := .later }
def SimplifyStepCardSaid : Prop := Claim7.holds Tryz.pinned (.plain (OpenSpec.ofChange simplifyStepSpec)) simplifyStepCard

/-- THE TIED CARD OF 'brocadelaw21.SimplifyExpr'. -/
def simplifyExprCard : Claim7 := { stood := { row := simplifyExprRow, standIns := [], harness := (true, "9be3f0f36b2c3456aa1474c02e588b12bb931ddddb0b8c2dde71b22a1a851776"), looks := false }, kinds := [], alts := [], laidByText := true, laidKinds := [.listed, .data], laidTests := true, laidLooks := .later }
def SimplifyExprCardSaid : Prop := Claim7.holds Tryz.pinned (.plain (OpenSpec.ofChange simplifyExprSpec)) simplifyExprCard

/-- THE TIED CARD OF 'brocadelaw21.SimplifyQueries'. -/
def simplifyQueriesCard : Claim7 := { stood := { row := simplifyQueriesRow, standIns := [], harness := (true, "9be3f0f36b2c3456aa1474c02e588b12bb931ddddb0b8c2dde71b22a1a851776"), looks := false }, kinds := [], alts := [], laidByText := true, laidKinds := [.listed, .data], laidTests := true, laidLooks := .later }
def SimplifyQueriesCardSaid : Prop := Claim7.holds Tryz.pinned (.plain (OpenSpec.ofChange simplifyQueriesSpec)) simplifyQueriesCard

/-- THE TIED CARD OF 'brocadelaw21.SimplifyProg'. -/
def simplifyProgCard : Claim7 := { stood := { row := simplifyProgRow, standIns := [], harness := (true, "9be3f0f36b2c3456aa1474c02e588b12bb931ddddb0b8c2dde71b22a1a851776"), looks := false }, kinds := [], alts := [], laidByText := true, laidKinds := [.listed, .data], laidTests := true, laidLooks := .later }
def SimplifyProgCardSaid : Prop := Claim7.holds Tryz.pinned (.plain (OpenSpec.ofChange simplifyProgSpec)) simplifyProgCard

/-- THE SECOND FORM's CARD OF 'brocadelaw21.SimplifyStep'. -/
def simplifyStepUptoCard : Claim7 := { stood := { row := simplifyStepUptoRow, standIns := [], harness := (true, "9be3f0f36b2c3456aa1474c02e588b12bb931ddddb0b8c2dde71b22a1a851776"), looks := false }, kinds := [], alts := [], laidByText := true, laidKinds := [.listed, .data], laidTests := true, laidLooks := .later }
def SimplifyStepUptoCardSaid : Prop := Claim7.holds Tryz.pinned (.plain (OpenSpec.upto simplifyStepSpec)) simplifyStepUptoCard

/-- THE SECOND FORM's CARD OF 'brocadelaw21.SimplifyExpr'. -/
def simplifyExprUptoCard : Claim7 := { stood := { row := simplifyExprUptoRow, standIns := [], harness := (true, "9be3f0f36b2c3456aa1474c02e588b12bb931ddddb0b8c2dde71b22a1a851776"), looks := false }, kinds := [], alts := [], laidByText := true, laidKinds := [.listed, .data], laidTests := true, laidLooks := .later }
def SimplifyExprUptoCardSaid : Prop := Claim7.holds Tryz.pinned (.plain (OpenSpec.upto simplifyExprSpec)) simplifyExprUptoCard

/-- THE SECOND FORM's CARD OF 'brocadelaw21.SimplifyQueries'. -/
def simplifyQueriesUptoCard : Claim7 := { stood := { row := simplifyQueriesUptoRow, standIns := [], harness := (true, "9be3f0f36b2c3456aa1474c02e588b12bb931ddddb0b8c2dde71b22a1a851776"), looks := false }, kinds := [], alts := [], laidByText := true, laidKinds := [.listed, .data], laidTests := true, laidLooks := .later }
def SimplifyQueriesUptoCardSaid : Prop := Claim7.holds Tryz.pinned (.plain (OpenSpec.upto simplifyQueriesSpec)) simplifyQueriesUptoCard

/-- THE SECOND FORM's CARD OF 'brocadelaw21.SimplifyProg'. -/
def simplifyProgUptoCard : Claim7 := { stood := { row := simplifyProgUptoRow, standIns := [], harness := (true, "9be3f0f36b2c3456aa1474c02e588b12bb931ddddb0b8c2dde71b22a1a851776"), looks := false }, kinds := [], alts := [], laidByText := true, laidKinds := [.listed, .data], laidTests := true, laidLooks := .later }
def SimplifyProgUptoCardSaid : Prop := Claim7.holds Tryz.pinned (.plain (OpenSpec.upto simplifyProgSpec)) simplifyProgUptoCard
end Rows
end Go.Proofs.YtnedgkfefdldeaaGreatDoor
