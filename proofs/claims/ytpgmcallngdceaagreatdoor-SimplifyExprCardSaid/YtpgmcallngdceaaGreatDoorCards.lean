/-
  DERIVED. GIVEN WITH THE SEED: THE CARDS: each row of YtpgmcallngdceaaGreatDoorRows.lean that lists a variable, with what it lists TIED to the program's text (the seventh form; the later family's looks); each row that meets fmt, with fmt's text TOLD by the authors' own Lean function (tested against real Go, not proved from fmt's source: count such statements apart). THE CARD IS WHAT COUNTS. Prove the row's statement (the work); the ties are given (YtpgmcallngdceaaGreatDoorTie.lean); close each card by the builder's one call (the guide's Derived/Test/ToyasCard.lean, 'card_holds'). Laid BY PROGRAM, IN A SANDBOX (cutbox-door.mjs). By AI agents, Wed Nov 11 2026. No macro, syntax, notation, axiom, sorry.
-/
import Derived.Test.YtpgmcallngdceaaGreatDoorRows
import GoSem.ClaimSeven
namespace Go.Proofs.YtpgmcallngdceaaGreatDoor
namespace Rows

/-- THE TIED CARD OF 'brocadelaw21.SimplifyStep'. -/
def simplifyStepCard : Claim7 := { stood := { row := simplifyStepRow, standIns := [], harness := (true, "ad078945e17d3820213e6ae7d9cde23a2a064cdbb6c67072d8fb01bf7214cd0c"), looks := false }, kinds := [], alts := [], laidByText := true, laidKinds := [.listed, .data], laidTests := true, laidLooks := .later }
def SimplifyStepCardSaid : Prop := Claim7.holds Tryz.pinned (.plain (OpenSpec.ofChange simplifyStepSpec)) simplifyStepCard

/-- THE TIED CARD OF 'brocadelaw21.SimplifyExpr'. -/
def simplifyExprCard : Claim7 := { stood := { row := simplifyExprRow, standIns := [], harness := (true, "ad078945e17d3820213e6ae7d9cde23a2a064cdbb6c67072d8fb01bf7214cd0c"), looks := false }, kinds := [], alts := [], laidByText := true, laidKinds := [.listed, .data], laidTests := true, laidLooks := .later }
def SimplifyExprCardSaid : Prop := Claim7.holds Tryz.pinned (.plain (OpenSpec.ofChange simplifyExprSpec)) simplifyExprCard

/-- THE TIED CARD OF 'brocadelaw21.SimplifySound'. -/
def simplifySoundCard : Claim7 := { stood := { row := simplifySoundRow, standIns := [], harness := (true, "ad078945e17d3820213e6ae7d9cde23a2a064cdbb6c67072d8fb01bf7214cd0c"), looks := false }, kinds := [], alts := [], laidByText := true, laidKinds := [.listed, .data], laidTests := true, laidLooks := .later }
def SimplifySoundCardSaid : Prop := Claim7.holds Tryz.pinned (.plain (OpenSpec.ofChange simplifySoundSpec)) simplifySoundCard

/-- THE TIED CARD OF 'brocadelaw21.SimplifyProg'. -/
def simplifyProgCard : Claim7 := { stood := { row := simplifyProgRow, standIns := [], harness := (true, "ad078945e17d3820213e6ae7d9cde23a2a064cdbb6c67072d8fb01bf7214cd0c"), looks := false }, kinds := [], alts := [], laidByText := true, laidKinds := [.listed, .data], laidTests := true, laidLooks := .later }
def SimplifyProgCardSaid : Prop := Claim7.holds Tryz.pinned (.plain (OpenSpec.ofChange simplifyProgSpec)) simplifyProgCard

/-- THE SECOND FORM's CARD OF 'brocadelaw21.SimplifyStep'. -/
def simplifyStepUptoCard : Claim7 := { stood := { row := simplifyStepUptoRow, standIns := [], harness := (true, "ad078945e17d3820213e6ae7d9cde23a2a064cdbb6c67072d8fb01bf7214cd0c"), looks := false }, kinds := [], alts := [], laidByText := true, laidKinds := [.listed, .data], laidTests := true, laidLooks := .later }
def SimplifyStepUptoCardSaid : Prop := Claim7.holds Tryz.pinned (.plain (OpenSpec.upto simplifyStepSpec)) simplifyStepUptoCard

/-- THE SECOND FORM's CARD OF 'brocadelaw21.SimplifyExpr'. -/
def simplifyExprUptoCard : Claim7 := { stood := { row := simplifyExprUptoRow, standIns := [], harness := (true, "ad078945e17d3820213e6ae7d9cde23a2a064cdbb6c67072d8fb01bf7214cd0c"), looks := false }, kinds := [], alts := [], laidByText := true, laidKinds := [.listed, .data], laidTests := true, laidLooks := .later }
def SimplifyExprUptoCardSaid : Prop := Claim7.holds Tryz.pinned (.plain (OpenSpec.upto simplifyExprSpec)) simplifyExprUptoCard

/-- THE SECOND FORM's CARD OF 'brocadelaw21.SimplifySound'. -/
def simplifySoundUptoCard : Claim7 := { stood := { row := simplifySoundUptoRow, standIns := [], harness := (true, "ad078945e17d3820213e6ae7d9cde23a2a064cdbb6c67072d8fb01bf7214cd0c"), looks := false }, kinds := [], alts := [], laidByText := true, laidKinds := [.listed, .data], laidTests := true, laidLooks := .later }
def SimplifySoundUptoCardSaid : Prop := Claim7.holds Tryz.pinned (.plain (OpenSpec.upto simplifySoundSpec)) simplifySoundUptoCard

/-- THE SECOND FORM's CARD OF 'brocadelaw21.SimplifyProg'. -/
def simplifyProgUptoCard : Claim7 := { stood := { row := simplifyProgUptoRow, standIns := [], harness := (true, "ad078945e17d3820213e6ae7d9cde23a2a064cdbb6c67072d8fb01bf7214cd0c"), looks := false }, kinds := [], alts := [], laidByText := true, laidKinds := [.listed, .data], laidTests := true, laidLooks := .later }
def SimplifyProgUptoCardSaid : Prop := Claim7.holds Tryz.pinned (.plain (OpenSpec.upto simplifyProgSpec)) simplifyProgUptoCard
end Rows
end Go.Proofs.YtpgmcallngdceaaGreatDoor
