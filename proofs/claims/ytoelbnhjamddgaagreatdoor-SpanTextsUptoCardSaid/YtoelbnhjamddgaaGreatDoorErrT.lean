/- portsame.Error at the error told. -/
import Derived.Test.YtoelbnhjamddgaaGreatDoorErr
set_option linter.unusedSimpArgs false
set_option linter.unusedVariables false
namespace Go.Proofs.YtoelbnhjamddgaaGreatDoor
open Go.RowKit Go.Port
theorem same_ErrT {k e : Int} (h : k = e) {w : World} (hg : Laid w) : Calls Tryz.prog 9 #[er k, .int .i64 e] w (Ret w [] (isV (.bool true))) := by
  subst h
  have := same_Error k k w hg
  rwa [decide_eq_true rfl] at this
end Go.Proofs.YtoelbnhjamddgaaGreatDoor
