/-
  DERIVED. GIVEN WITH THE SEED: THE CARDS: each row of YtpeecnpmcbnahaaGreatDoorRows.lean that lists a variable, with what it lists TIED to the program's text (the seventh form; the later family's looks); each row that meets fmt, with fmt's text TOLD by the authors' own Lean function (tested against real Go, not proved from fmt's source: count such statements apart). THE CARD IS WHAT COUNTS. Prove the row's statement (the work); the ties are given (YtpeecnpmcbnahaaGreatDoorTie.lean); close each card by the builder's one call (the guide's Derived/Test/ToyasCard.lean, 'card_holds'). Laid BY PROGRAM, IN A SANDBOX (cutbox-door.mjs). By AI agents, Wed Nov 11 2026. No macro, syntax, notation, axiom, sorry.
-/
import Derived.Test.YtpeecnpmcbnahaaGreatDoorRows
import GoSem.ClaimSeven
namespace Go.Proofs.YtpeecnpmcbnahaaGreatDoor
namespace Rows

/-- THE TIED CARD OF 'brocadelaw19.EvalIgnores'. -/
def evalIgnoresCard : Claim7 := { stood := { row := evalIgnoresRow, standIns := [], harness := (true, "ce75a87357adb777d1ce0d4b2607637a45c5b238998973a753972b5e9e78cb02"), looks := false }, kinds := [], alts := [], laidByText := true, laidKinds := [.listed, .data], laidTests := true, laidLooks := .later }
def EvalIgnoresCardSaid : Prop := Claim7.holds Tryz.pinned (.plain (OpenSpec.ofChange evalIgnoresSpec)) evalIgnoresCard

/-- THE TIED CARD OF 'brocadelaw19.EvalScans'. -/
def evalScansCard : Claim7 := { stood := { row := evalScansRow, standIns := [], harness := (true, "ce75a87357adb777d1ce0d4b2607637a45c5b238998973a753972b5e9e78cb02"), looks := false }, kinds := [], alts := [], laidByText := true, laidKinds := [.listed, .data], laidTests := true, laidLooks := .later }
def EvalScansCardSaid : Prop := Claim7.holds Tryz.pinned (.plain (OpenSpec.ofChange evalScansSpec)) evalScansCard

/-- THE TIED CARD OF 'brocadelaw19.EvalRuns'. -/
def evalRunsCard : Claim7 := { stood := { row := evalRunsRow, standIns := [], harness := (true, "ce75a87357adb777d1ce0d4b2607637a45c5b238998973a753972b5e9e78cb02"), looks := false }, kinds := [], alts := [], laidByText := true, laidKinds := [.listed, .data], laidTests := true, laidLooks := .later }
def EvalRunsCardSaid : Prop := Claim7.holds Tryz.pinned (.plain (OpenSpec.ofChange evalRunsSpec)) evalRunsCard

/-- THE TIED CARD OF 'brocadelaw19.EvalTyped'. -/
def evalTypedCard : Claim7 := { stood := { row := evalTypedRow, standIns := [], harness := (true, "ce75a87357adb777d1ce0d4b2607637a45c5b238998973a753972b5e9e78cb02"), looks := false }, kinds := [], alts := [], laidByText := true, laidKinds := [.listed, .data], laidTests := true, laidLooks := .later }
def EvalTypedCardSaid : Prop := Claim7.holds Tryz.pinned (.plain (OpenSpec.ofChange evalTypedSpec)) evalTypedCard

/-- THE SECOND FORM's CARD OF 'brocadelaw19.EvalIgnores'. -/
def evalIgnoresUptoCard : Claim7 := { stood := { row := evalIgnoresUptoRow, standIns := [], harness := (true, "ce75a87357adb777d1ce0d4b2607637a45c5b238998973a753972b5e9e78cb02"), looks := false }, kinds := [], alts := [], laidByText := true, laidKinds := [.listed, .data], laidTests := true, laidLooks := .later }
def EvalIgnoresUptoCardSaid : Prop := Claim7.holds Tryz.pinned (.plain (OpenSpec.upto evalIgnoresSpec)) evalIgnoresUptoCard

/-- THE SECOND FORM's CARD OF 'brocadelaw19.EvalScans'. -/
def evalScansUptoCard : Claim7 := { stood := { row := evalScansUptoRow, standIns := [], harness := (true, "ce75a87357adb777d1ce0d4b2607637a45c5b238998973a753972b5e9e78cb02"), looks := false }, kinds := [], alts := [], laidByText := true, laidKinds := [.listed, .data], laidTests := true, laidLooks := .later }
def EvalScansUptoCardSaid : Prop := Claim7.holds Tryz.pinned (.plain (OpenSpec.upto evalScansSpec)) evalScansUptoCard

/-- THE SECOND FORM's CARD OF 'brocadelaw19.EvalRuns'. -/
def evalRunsUptoCard : Claim7 := { stood := { row := evalRunsUptoRow, standIns := [], harness := (true, "ce75a87357adb777d1ce0d4b2607637a45c5b238998973a753972b5e9e78cb02"), looks := false }, kinds := [], alts := [], laidByText := true, laidKinds := [.listed, .data], laidTests := true, laidLooks := .later }
def EvalRunsUptoCardSaid : Prop := Claim7.holds Tryz.pinned (.plain (OpenSpec.upto evalRunsSpec)) evalRunsUptoCard

/-- THE SECOND FORM's CARD OF 'brocadelaw19.EvalTyped'. -/
def evalTypedUptoCard : Claim7 := { stood := { row := evalTypedUptoRow, standIns := [], harness := (true, "ce75a87357adb777d1ce0d4b2607637a45c5b238998973a753972b5e9e78cb02"), looks := false }, kinds := [], alts := [], laidByText := true, laidKinds := [.listed, .data], laidTests := true, laidLooks := .later }
def EvalTypedUptoCardSaid : Prop := Claim7.holds Tryz.pinned (.plain (OpenSpec.upto evalTypedSpec)) evalTypedUptoCard
end Rows
end Go.Proofs.YtpeecnpmcbnahaaGreatDoor
