/-
  DERIVED. GIVEN WITH THE SEED: THE CARDS: each row of YtdchibpnjpnkoaaGreatDoorRows.lean that lists a variable, with what it lists TIED to the program's text (the seventh form; the later family's looks); each row that meets fmt, with fmt's text TOLD by the authors' own Lean function (tested against real Go, not proved from fmt's source: count such statements apart). THE CARD IS WHAT COUNTS. Prove the row's statement (the work); the ties are given (YtdchibpnjpnkoaaGreatDoorTie.lean); close each card by the builder's one call (the guide's Derived/Test/ToyasCard.lean, 'card_holds'). Laid BY PROGRAM, IN A SANDBOX (cutbox-door.mjs). By AI agents, Wed Nov 11 2026. No macro, syntax, notation, axiom, sorry.
-/
import Derived.Test.YtdchibpnjpnkoaaGreatDoorRows
import GoSem.ClaimSeven
namespace Go.Proofs.YtdchibpnjpnkoaaGreatDoor
namespace Rows

/-- THE TIED CARD OF 'brocadelaw21.SimplifyProg'. -/
def simplifyProgCard : Claim7 := { stood := { row := simplifyProgRow, standIns := [], harness := (true, "d06f0831e730437e2ef23d29fbca8f4448c2d146c534f0353ed9b1cd3e289f8a"), looks := false }, kinds := [], alts := [], laidByText := true, laidKinds := [.listed, .data], laidTests := true, laidLooks := .later }
def SimplifyProgCardSaid : Prop := Claim7.holds Tryz.pinned (.plain (OpenSpec.ofChange simplifyProgSpec)) simplifyProgCard

/-- THE SECOND FORM's CARD OF 'brocadelaw21.SimplifyProg'. -/
def simplifyProgUptoCard : Claim7 := { stood := { row := simplifyProgUptoRow, standIns := [], harness := (true, "d06f0831e730437e2ef23d29fbca8f4448c2d146c534f0353ed9b1cd3e289f8a"), looks := false }, kinds := [], alts := [], laidByText := true, laidKinds := [.listed, .data], laidTests := true, laidLooks := .later }
def SimplifyProgUptoCardSaid : Prop := Claim7.holds Tryz.pinned (.plain (OpenSpec.upto simplifyProgSpec)) simplifyProgUptoCard
end Rows
end Go.Proofs.YtdchibpnjpnkoaaGreatDoor
