/-
  Part 27 of the proof: SmExprCardb.
-/
import Derived.Test.YtpgmcallngdceaaGreatDoorSe26
namespace Go.Proofs.YtpgmcallngdceaaGreatDoor
open Go.ChangeShapes Go.WideShapes Go.ChangeAt Go.RowKit
open Go.ChangeMaps (open_string shut_string)
set_option maxRecDepth 100000
set_option linter.unusedVariables false
theorem afi:joinedFacts Tryz.prog 4 Tryz.f4 Rows.simplifyExprSpec Rows.simplifyExprRow=true:=by
 unfold joinedFacts;rw[Lg,ajj,aar,Yt,aeR,ZG,aiH,Zd,afA,Zr]
 kernel_rfl
theorem ac4:Rows.SimplifyExprSaid:=
 OpenClaim.holds_of_wide 4 Tryz.f4 rfl rfl rfl rfl rfl rfl rfl ⟨rfl,rfl,rfl,rfl,rfl⟩ rfl rfl rfl rfl rfl (by kernel_rfl) Tryz.func4 afi
  (of_decide_eq_true (by kernel_rfl)) (by unfold Func.isWrapper;first|(rw[if_pos (by decide+kernel)];kernel_rfl)|(rw[if_neg (by decide+kernel)];exact⟨rfl,rfl⟩))
  (fun os started H enc _=>ae4 os started H enc)
end Go.Proofs.YtpgmcallngdceaaGreatDoor
