/-
  Closed runs over this program: what they ask of it.
-/
import Derived.Test.YtaiihhogoogkmaaGreatDoorAbsExec3
import Derived.Test.YtaiihhogoogkmaaGreatDoorProg
import Derived.KernelRfl
namespace Go.Proofs.YtaiihhogoogkmaaGreatDoor
open Go.RowKit
set_option maxRecDepth 1000000
def noGorB : List Func → Bool
  | [] => true
  | f :: l => bif f.name == "runtime.NumGoroutine" then false else noGorB l
theorem noGorB_get : ∀ {l : List Func}, noGorB l = true → ∀ (i : Nat) (f : Func), l[i]? = some f → (f.name == "runtime.NumGoroutine") = false
  | [], _, i, f, h => by simp at h
  | g :: l, hb, i, f, h => by
    unfold noGorB at hb
    cases hg : g.name == "runtime.NumGoroutine" with
    | true => rw [hg] at hb; cases hb
    | false =>
      rw [hg] at hb
      cases i with
      | zero => simp at h; subst h; exact hg
      | succ i => exact noGorB_get hb i f (by simpa using h)
theorem prog_noGorB : noGorB Tryz.prog.funcs.toList = true := by kernel_rfl
theorem prog_noGor : NoGor Tryz.prog := fun f fn h => noGorB_get prog_noGorB f fn (by simpa using h)
theorem prog_mixed : Tryz.prog.follows .mixedOrders = true := by kernel_rfl
end Go.Proofs.YtaiihhogoogkmaaGreatDoor
