/-
  DERIVED. GIVEN WITH THE SEED: THE CARDS: each row of YtjploedinjiflaaGreatDoorRows.lean that lists a variable, with what it lists TIED to the program's text (the seventh form; the later family's looks); each row that meets fmt, with fmt's text TOLD by the authors' own Lean function (tested against real Go, not proved from fmt's source: count such statements apart). THE CARD IS WHAT COUNTS. Prove the row's statement (the work); the ties are given (YtjploedinjiflaaGreatDoorTie.lean); close each card by the builder's one call (the guide's Derived/Test/ToyasCard.lean, 'card_holds'). Laid BY PROGRAM, IN A SANDBOX (cutbox-door.mjs). By AI agents, Wed Nov 11 2026. No macro, syntax, notation, axiom, sorry.
-/
import Derived.Test.YtjploedinjiflaaGreatDoorRows
import GoSem.ClaimSeven
namespace Go.Proofs.YtjploedinjiflaaGreatDoor
namespace Rows

/-- THE TIED CARD OF 'brocadelaw24.InlineSemantics'. -/
def inlineSemanticsCard : Claim7 := { stood := { row := inlineSemanticsRow, standIns := [], harness := (true, "77217ac81be036bf687508b18f9acc77e1ab45688cea8a751c27607866ff0f28"), looks := false }, kinds := [], alts := [], laidByText := true, laidKinds := [.listed, .data], laidTests := true, laidLooks := .later }
def InlineSemanticsCardSaid : Prop := Claim7.holds Tryz.pinned (.plain (OpenSpec.ofChange inlineSemanticsSpec)) inlineSemanticsCard

/-- THE SECOND FORM's CARD OF 'brocadelaw24.InlineSemantics'. -/
def inlineSemanticsUptoCard : Claim7 := { stood := { row := inlineSemanticsUptoRow, standIns := [], harness := (true, "77217ac81be036bf687508b18f9acc77e1ab45688cea8a751c27607866ff0f28"), looks := false }, kinds := [], alts := [], laidByText := true, laidKinds := [.listed, .data], laidTests := true, laidLooks := .later }
def InlineSemanticsUptoCardSaid : Prop := Claim7.holds Tryz.pinned (.plain (OpenSpec.upto inlineSemanticsSpec)) inlineSemanticsUptoCard
end Rows
end Go.Proofs.YtjploedinjiflaaGreatDoor
