/-
  The keywords, worked out.
-/
import Derived.Test.YtaiihhogoogkmaaGreatDoorAbsKern
namespace Go.Proofs.YtaiihhogoogkmaaGreatDoor
open Go.RowKit
set_option maxRecDepth 1000000
set_option maxHeartbeats 0
def kwL : List (List D) := [[.v (.string (bs [115,105,122,101]))],[.v (.string (bs [119,104,101,114,101]))],[.v (.string (bs [105,110]))],[.v (.string (bs [100,101,102]))],[.v (.string (bs [111,117,116]))],[.v (.string (bs [115,117,109]))],[.v (.string (bs [112,114,111,100]))],[.v (.string (bs [109,105,110]))],[.v (.string (bs [109,97,120]))],[.v (.string (bs [115,99,97,110]))],[.v (.string (bs [111,118,101,114]))],[.v (.string (bs [105,102]))],[.v (.string (bs [99,97,115,116]))],[.v (.string (bs [102,114,97,99]))],[.v (.string (bs [105,110,116]))],[.v (.string (bs [102,105,120]))],[.v (.string (bs [99,101,105,108]))],[.v (.string (bs [102,108,111,111,114]))],[.v (.string (bs [122,101,114,111]))],[.v (.string (bs [101,118,101,110]))],[.v (.string (bs [115,97,116]))],[.v (.string (bs [119,114,97,112]))]]
theorem keywords_run : xPure (exec Tryz.prog memo0 400) Tryz.prog memo0 167 [] = some (.d (.sl kwL)) := by kernel_rfl
theorem keywords_abs : AFn Tryz.prog 167 [] (· = .d (.sl kwL)) := afn_run prog_mixed prog_noGor (memo0_ok _) 400 keywords_run
def memoG : Memo := fun g _ => bif g == 155 then some none else none
def memoK : Memo := fun g args => bif g == 167 then (match args with | [] => some (some (.d (.sl kwL))) | _ => none) else memoG g args
theorem memoG_ok : MemoOK Tryz.prog memoG := fun g args r h => by
  unfold memoG at h
  rcases bif_or h with ⟨_, h⟩ | ⟨_, h⟩ <;> cases h
theorem memoK_ok : MemoOK Tryz.prog memoK := fun g args r h => by
  unfold memoK at h
  rcases bif_or h with ⟨hg, h⟩ | ⟨_, h⟩
  · have e : g = 167 := by simpa using hg
    subst e
    split at h
    · cases h; exact keywords_abs
    · cases h
  · exact memoG_ok g args r h
end Go.Proofs.YtaiihhogoogkmaaGreatDoor
