/-
  DERIVED. GIVEN WITH THE SEED: THE CARDS: each row of YtnnapanbbbcalaaGreatDoorRows.lean that lists a variable, with what it lists TIED to the program's text (the seventh form; the later family's looks); each row that meets fmt, with fmt's text TOLD by the authors' own Lean function (tested against real Go, not proved from fmt's source: count such statements apart). THE CARD IS WHAT COUNTS. Prove the row's statement (the work); the ties are given (YtnnapanbbbcalaaGreatDoorTie.lean); close each card by the builder's one call (the guide's Derived/Test/ToyasCard.lean, 'card_holds'). Laid BY PROGRAM, IN A SANDBOX (cutbox-door.mjs). By AI agents, Wed Nov 11 2026. No macro, syntax, notation, axiom, sorry.
-/
import Derived.Test.YtnnapanbbbcalaaGreatDoorRows
import GoSem.ClaimSeven
namespace Go.Proofs.YtnnapanbbbcalaaGreatDoor
namespace Rows

/-- THE TIED CARD OF 'brocadelaw19.EvalDefs'. -/
def evalDefsCard : Claim7 := { stood := { row := evalDefsRow, standIns := [], harness := (true, "8de75f30595147b7ab6c69379257be59d46f857319c58d0c2e56e3349c49194b"), looks := false }, kinds := [], alts := [], laidByText := true, laidKinds := [.listed, .data], laidTests := true, laidLooks := .later }
def EvalDefsCardSaid : Prop := Claim7.holds Tryz.pinned (.plain (OpenSpec.ofChange evalDefsSpec)) evalDefsCard

/-- THE TIED CARD OF 'brocadelaw19.EvalSizes'. -/
def evalSizesCard : Claim7 := { stood := { row := evalSizesRow, standIns := [], harness := (true, "8de75f30595147b7ab6c69379257be59d46f857319c58d0c2e56e3349c49194b"), looks := false }, kinds := [], alts := [], laidByText := true, laidKinds := [.listed, .data], laidTests := true, laidLooks := .later }
def EvalSizesCardSaid : Prop := Claim7.holds Tryz.pinned (.plain (OpenSpec.ofChange evalSizesSpec)) evalSizesCard

/-- THE TIED CARD OF 'brocadelaw19.EvalRuns'. -/
def evalRunsCard : Claim7 := { stood := { row := evalRunsRow, standIns := [], harness := (true, "8de75f30595147b7ab6c69379257be59d46f857319c58d0c2e56e3349c49194b"), looks := false }, kinds := [], alts := [], laidByText := true, laidKinds := [.listed, .data], laidTests := true, laidLooks := .later }
def EvalRunsCardSaid : Prop := Claim7.holds Tryz.pinned (.plain (OpenSpec.ofChange evalRunsSpec)) evalRunsCard

/-- THE TIED CARD OF 'brocadelaw19.EvalExprs'. -/
def evalExprsCard : Claim7 := { stood := { row := evalExprsRow, standIns := [], harness := (true, "8de75f30595147b7ab6c69379257be59d46f857319c58d0c2e56e3349c49194b"), looks := false }, kinds := [], alts := [], laidByText := true, laidKinds := [.listed, .data], laidTests := true, laidLooks := .later }
def EvalExprsCardSaid : Prop := Claim7.holds Tryz.pinned (.plain (OpenSpec.ofChange evalExprsSpec)) evalExprsCard

/-- THE SECOND FORM's CARD OF 'brocadelaw19.EvalDefs'. -/
def evalDefsUptoCard : Claim7 := { stood := { row := evalDefsUptoRow, standIns := [], harness := (true, "8de75f30595147b7ab6c69379257be59d46f857319c58d0c2e56e3349c49194b"), looks := false }, kinds := [], alts := [], laidByText := true, laidKinds := [.listed, .data], laidTests := true, laidLooks := .later }
def EvalDefsUptoCardSaid : Prop := Claim7.holds Tryz.pinned (.plain (OpenSpec.upto evalDefsSpec)) evalDefsUptoCard

/-- THE SECOND FORM's CARD OF 'brocadelaw19.EvalSizes'. -/
def evalSizesUptoCard : Claim7 := { stood := { row := evalSizesUptoRow, standIns := [], harness := (true, "8de75f30595147b7ab6c69379257be59d46f857319c58d0c2e56e3349c49194b"), looks := false }, kinds := [], alts := [], laidByText := true, laidKinds := [.listed, .data], laidTests := true, laidLooks := .later }
def EvalSizesUptoCardSaid : Prop := Claim7.holds Tryz.pinned (.plain (OpenSpec.upto evalSizesSpec)) evalSizesUptoCard

/-- THE SECOND FORM's CARD OF 'brocadelaw19.EvalRuns'. -/
def evalRunsUptoCard : Claim7 := { stood := { row := evalRunsUptoRow, standIns := [], harness := (true, "8de75f30595147b7ab6c69379257be59d46f857319c58d0c2e56e3349c49194b"), looks := false }, kinds := [], alts := [], laidByText := true, laidKinds := [.listed, .data], laidTests := true, laidLooks := .later }
def EvalRunsUptoCardSaid : Prop := Claim7.holds Tryz.pinned (.plain (OpenSpec.upto evalRunsSpec)) evalRunsUptoCard

/-- THE SECOND FORM's CARD OF 'brocadelaw19.EvalExprs'. -/
def evalExprsUptoCard : Claim7 := { stood := { row := evalExprsUptoRow, standIns := [], harness := (true, "8de75f30595147b7ab6c69379257be59d46f857319c58d0c2e56e3349c49194b"), looks := false }, kinds := [], alts := [], laidByText := true, laidKinds := [.listed, .data], laidTests := true, laidLooks := .later }
def EvalExprsUptoCardSaid : Prop := Claim7.holds Tryz.pinned (.plain (OpenSpec.upto evalExprsSpec)) evalExprsUptoCard
end Rows
end Go.Proofs.YtnnapanbbbcalaaGreatDoor
