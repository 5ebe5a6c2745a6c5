/-
  DERIVED. GIVEN WITH THE SEED: THE CARDS: each row of YtphmhnabilhbgaaGreatDoorRows.lean that lists a variable, with what it lists TIED to the program's text (the seventh form; the later family's looks); each row that meets fmt, with fmt's text TOLD by the authors' own Lean function (tested against real Go, not proved from fmt's source: count such statements apart). THE CARD IS WHAT COUNTS. Prove the row's statement (the work); the ties are given (YtphmhnabilhbgaaGreatDoorTie.lean); close each card by the builder's one call (the guide's Derived/Test/ToyasCard.lean, 'card_holds'). Laid BY PROGRAM, IN A SANDBOX (cutbox-door.mjs). By AI agents, Wed Nov 11 2026. No macro, syntax, notation, axiom, sorry.
-/
import Derived.Test.YtphmhnabilhbgaaGreatDoorRows
import GoSem.ClaimSeven
namespace Go.Proofs.YtphmhnabilhbgaaGreatDoor
namespace Rows

/-- THE TIED CARD OF 'brocadelaw24.InlineOne'. -/
def inlineOneCard : Claim7 := { stood := { row := inlineOneRow, standIns := [], harness := (true, "b635f33b1122466a4c56001e551bebf97937cbfc09d11db6209f6c43253ad8ed"), looks := false }, kinds := [], alts := [], laidByText := true, laidKinds := [.listed, .data], laidTests := true, laidLooks := .later }
def InlineOneCardSaid : Prop := Claim7.holds Tryz.pinned (.plain (OpenSpec.ofChange inlineOneSpec)) inlineOneCard

/-- THE TIED CARD OF 'brocadelaw24.InlineAll'. -/
def inlineAllCard : Claim7 := { stood := { row := inlineAllRow, standIns := [], harness := (true, "b635f33b1122466a4c56001e551bebf97937cbfc09d11db6209f6c43253ad8ed"), looks := false }, kinds := [], alts := [], laidByText := true, laidKinds := [.listed, .data], laidTests := true, laidLooks := .later }
def InlineAllCardSaid : Prop := Claim7.holds Tryz.pinned (.plain (OpenSpec.ofChange inlineAllSpec)) inlineAllCard

/-- THE TIED CARD OF 'brocadelaw24.InlineRemoves'. -/
def inlineRemovesCard : Claim7 := { stood := { row := inlineRemovesRow, standIns := [], harness := (true, "b635f33b1122466a4c56001e551bebf97937cbfc09d11db6209f6c43253ad8ed"), looks := false }, kinds := [], alts := [], laidByText := true, laidKinds := [.listed, .data], laidTests := true, laidLooks := .later }
def InlineRemovesCardSaid : Prop := Claim7.holds Tryz.pinned (.plain (OpenSpec.ofChange inlineRemovesSpec)) inlineRemovesCard

/-- THE SECOND FORM's CARD OF 'brocadelaw24.InlineOne'. -/
def inlineOneUptoCard : Claim7 := { stood := { row := inlineOneUptoRow, standIns := [], harness := (true, "b635f33b1122466a4c56001e551bebf97937cbfc09d11db6209f6c43253ad8ed"), looks := false }, kinds := [], alts := [], laidByText := true, laidKinds := [.listed, .data], laidTests := true, laidLooks := .later }
def InlineOneUptoCardSaid : Prop := Claim7.holds Tryz.pinned (.plain (OpenSpec.upto inlineOneSpec)) inlineOneUptoCard

/-- THE SECOND FORM's CARD OF 'brocadelaw24.InlineAll'. -/
def inlineAllUptoCard : Claim7 := { stood := { row := inlineAllUptoRow, standIns := [], harness := (true, "b635f33b1122466a4c56001e551bebf97937cbfc09d11db6209f6c43253ad8ed"), looks := false }, kinds := [], alts := [], laidByText := true, laidKinds := [.listed, .data], laidTests := true, laidLooks := .later }
def InlineAllUptoCardSaid : Prop := Claim7.holds Tryz.pinned (.plain (OpenSpec.upto inlineAllSpec)) inlineAllUptoCard

/-- THE SECOND FORM's CARD OF 'brocadelaw24.InlineRemoves'. -/
def inlineRemovesUptoCard : Claim7 := { stood := { row := inlineRemovesUptoRow, standIns := [], harness := (true, "b635f33b1122466a4c56001e551bebf97937cbfc09d11db6209f6c43253ad8ed"), looks := false }, kinds := [], alts := [], laidByText := true, laidKinds := [.listed, .data], laidTests := true, laidLooks := .later }
def InlineRemovesUptoCardSaid : Prop := Claim7.holds Tryz.pinned (.plain (OpenSpec.upto inlineRemovesSpec)) inlineRemovesUptoCard
end Rows
end Go.Proofs.YtphmhnabilhbgaaGreatDoor
