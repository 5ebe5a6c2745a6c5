/-
  The chapter's examples hold.
-/
import Derived.Test.YtaiihhogoogkmaaGreatDoorAbsKw
namespace Go.Proofs.YtaiihhogoogkmaaGreatDoor
open Go.RowKit
set_option maxRecDepth 1000000
set_option maxHeartbeats 0
theorem examples_run : xPure (exec Tryz.prog memoK 600) Tryz.prog memoK 8 [] = some (.d (.v (.bool true))) := by kernel_rfl
theorem examples_abs : AFn Tryz.prog 8 [] (· = .d (.v (.bool true))) := afn_run prog_mixed prog_noGor memoK_ok 600 examples_run
end Go.Proofs.YtaiihhogoogkmaaGreatDoor
