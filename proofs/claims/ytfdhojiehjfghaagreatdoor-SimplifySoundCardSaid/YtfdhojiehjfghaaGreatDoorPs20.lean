/-
  Part 20 of the proof: SoundCardb.
-/
import Derived.Test.YtfdhojiehjfghaaGreatDoorPs19
namespace Go.Proofs.YtfdhojiehjfghaaGreatDoor
open Go.ChangeShapes Go.WideShapes Go.ChangeAt Go.RowKit
open Go.ChangeMaps (open_string shut_string)
set_option maxRecDepth 100000
set_option linter.unusedVariables false
theorem abn:joinedFacts Tryz.prog 4 Tryz.f4 Rows.simplifySoundSpec Rows.simplifySoundRow=true:=by
 unfold joinedFacts;rw[Kr,alc,abY,abO,ajc,ahG,ajw,adV,aar,acA]
 kernel_rfl
theorem aaW:Rows.SimplifySoundSaid:=
 OpenClaim.holds_of_wide 4 Tryz.f4 rfl rfl rfl rfl rfl rfl rfl ⟨rfl,rfl,rfl,rfl,rfl⟩ rfl rfl rfl rfl rfl (by kernel_rfl) Tryz.func4 abn
  (of_decide_eq_true (by kernel_rfl)) (by unfold Func.isWrapper;first|(rw[if_pos (by decide+kernel)];kernel_rfl)|(rw[if_neg (by decide+kernel)];exact⟨rfl,rfl⟩))
  (λos started H enc _=>alW os started H enc)
end Go.Proofs.YtfdhojiehjfghaaGreatDoor
