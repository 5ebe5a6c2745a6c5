/-
  Part 6 of the proof: AbsKw.
-/
import Derived.Test.YtphmhnabilhbgaaGreatDoorPk5
namespace Go.Proofs.YtphmhnabilhbgaaGreatDoor
open Go.RowKit
set_option maxRecDepth 1000000
set_option maxHeartbeats 0
def O0:List (List D):=[[.v (.string (bs [115,105,122,101]))],[.v (.string (bs [119,104,101,114,101]))],[.v (.string (bs [105,110]))],[.v (.string (bs [100,101,102]))],[.v (.string (bs [111,117,116]))],[.v (.string (bs [115,117,109]))],[.v (.string (bs [112,114,111,100]))],[.v (.string (bs [109,105,110]))],[.v (.string (bs [109,97,120]))],[.v (.string (bs [115,99,97,110]))],[.v (.string (bs [111,118,101,114]))],[.v (.string (bs [105,102]))],[.v (.string (bs [99,97,115,116]))],[.v (.string (bs [102,114,97,99]))],[.v (.string (bs [105,110,116]))],[.v (.string (bs [102,105,120]))],[.v (.string (bs [99,101,105,108]))],[.v (.string (bs [102,108,111,111,114]))],[.v (.string (bs [122,101,114,111]))],[.v (.string (bs [101,118,101,110]))],[.v (.string (bs [115,97,116]))],[.v (.string (bs [119,114,97,112]))]]
theorem XC:Cp (pF Tryz.prog JM 400) Tryz.prog JM 162 []=some (.d (.sl O0)):=by kernel_rfl
theorem abe:bm Tryz.prog 162 [] (·= .d (.sl O0)):=afl adk ab5 (aff _) 400 XC
end Go.Proofs.YtphmhnabilhbgaaGreatDoor
