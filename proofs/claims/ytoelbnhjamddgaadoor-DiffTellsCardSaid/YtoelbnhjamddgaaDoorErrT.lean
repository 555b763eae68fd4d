/- portsame.Error at the error told. -/
import Derived.Test.YtoelbnhjamddgaaDoorErr
set_option linter.unusedSimpArgs false
set_option linter.unusedVariables false
namespace Go.Proofs.YtoelbnhjamddgaaDoor
open Go.RowKit Go.Port
theorem same_ErrT {k e : Int} (h : k = e) {w : World} (hg : Laid w) : Calls Tryd.prog 19 #[er k, .int .i64 e] w (Ret w [] (isV (.bool true))) := by
  subst h
  have := same_Error k k w hg
  rwa [decide_eq_true rfl] at this
end Go.Proofs.YtoelbnhjamddgaaDoor
