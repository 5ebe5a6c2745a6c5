/-
  DERIVED. GIVEN WITH THE SEED: THE CARDS: each row of YtmkmibahjanejaaGreatDoorRows.lean that lists a variable, with what it lists TIED to the program's text (the seventh form; the later family's looks); each row that meets fmt, with fmt's text TOLD by the authors' own Lean function (tested against real Go, not proved from fmt's source: count such statements apart). THE CARD IS WHAT COUNTS. Prove the row's statement (the work); the ties are given (YtmkmibahjanejaaGreatDoorTie.lean); close each card by the builder's one call (the guide's Derived/Test/ToyasCard.lean, 'card_holds'). Laid BY PROGRAM, IN A SANDBOX (cutbox-door.mjs). By AI agents, Wed Nov 11 2026. No macro, syntax, notation, axiom, sorry.
-/
import Derived.Test.YtmkmibahjanejaaGreatDoorRows
import GoSem.ClaimSeven
namespace Go.Proofs.YtmkmibahjanejaaGreatDoor
namespace Rows

/-- THE TIED CARD OF 'brocadelaw55.CanonNormalize'. -/
def canonNormalizeCard : Claim7 := { stood := { row := canonNormalizeRow, standIns := [], harness := (true, "1f9de551d8a1e0aad08e0188d0ac24af97e557ef0a66a3917b51709774f9e881"), looks := false }, kinds := [], alts := [], laidByText := true, laidKinds := [.data, .data, .data, .listed, .data], laidTests := true, laidLooks := .later }
def CanonNormalizeCardSaid : Prop := Claim7.holds Tryz.pinned (.plain (OpenSpec.ofChange canonNormalizeSpec)) canonNormalizeCard

/-- THE TIED CARD OF 'brocadelaw55.CanonProgramKey'. -/
def canonProgramKeyCard : Claim7 := { stood := { row := canonProgramKeyRow, standIns := [], harness := (true, "1f9de551d8a1e0aad08e0188d0ac24af97e557ef0a66a3917b51709774f9e881"), looks := false }, kinds := [], alts := [], laidByText := true, laidKinds := [.data, .data, .data, .listed, .data], laidTests := true, laidLooks := .later }
def CanonProgramKeyCardSaid : Prop := Claim7.holds Tryz.pinned (.plain (OpenSpec.ofChange canonProgramKeySpec)) canonProgramKeyCard

/-- THE TIED CARD OF 'brocadelaw55.CanonRenaming'. -/
def canonRenamingCard : Claim7 := { stood := { row := canonRenamingRow, standIns := [], harness := (true, "1f9de551d8a1e0aad08e0188d0ac24af97e557ef0a66a3917b51709774f9e881"), looks := false }, kinds := [], alts := [], laidByText := true, laidKinds := [.data, .data, .data, .listed, .data], laidTests := true, laidLooks := .later }
def CanonRenamingCardSaid : Prop := Claim7.holds Tryz.pinned (.plain (OpenSpec.ofChange canonRenamingSpec)) canonRenamingCard

/-- THE SECOND FORM's CARD OF 'brocadelaw55.CanonNormalize'. -/
def canonNormalizeUptoCard : Claim7 := { stood := { row := canonNormalizeUptoRow, standIns := [], harness := (true, "1f9de551d8a1e0aad08e0188d0ac24af97e557ef0a66a3917b51709774f9e881"), looks := false }, kinds := [], alts := [], laidByText := true, laidKinds := [.data, .data, .data, .listed, .data], laidTests := true, laidLooks := .later }
def CanonNormalizeUptoCardSaid : Prop := Claim7.holds Tryz.pinned (.plain (OpenSpec.upto canonNormalizeSpec)) canonNormalizeUptoCard

/-- THE SECOND FORM's CARD OF 'brocadelaw55.CanonProgramKey'. -/
def canonProgramKeyUptoCard : Claim7 := { stood := { row := canonProgramKeyUptoRow, standIns := [], harness := (true, "1f9de551d8a1e0aad08e0188d0ac24af97e557ef0a66a3917b51709774f9e881"), looks := false }, kinds := [], alts := [], laidByText := true, laidKinds := [.data, .data, .data, .listed, .data], laidTests := true, laidLooks := .later }
def CanonProgramKeyUptoCardSaid : Prop := Claim7.holds Tryz.pinned (.plain (OpenSpec.upto canonProgramKeySpec)) canonProgramKeyUptoCard

/-- THE SECOND FORM's CARD OF 'brocadelaw55.CanonRenaming'. -/
def canonRenamingUptoCard : Claim7 := { stood := { row := canonRenamingUptoRow, standIns := [], harness := (true, "1f9de551d8a1e0aad08e0188d0ac24af97e557ef0a66a3917b51709774f9e881"), looks := false }, kinds := [], alts := [], laidByText := true, laidKinds := [.data, .data, .data, .listed, .data], laidTests := true, laidLooks := .later }
def CanonRenamingUptoCardSaid : Prop := Claim7.holds Tryz.pinned (.plain (OpenSpec.upto canonRenamingSpec)) canonRenamingUptoCard
end Rows
end Go.Proofs.YtmkmibahjanejaaGreatDoor
