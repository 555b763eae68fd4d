/- Errors of the program. -/
import Derived.Test.YtaofimndclgpdaaDoorTypes
import Derived.Test.YtaofimndclgpdaaDoorEngB
set_option linter.unusedSimpArgs false
set_option linter.unusedVariables false
namespace Go.Proofs.YtaofimndclgpdaaDoor
open Go.RowKit Go.Port
/-- An error. -/
abbrev er (k : Int) : Value := errV 47 k
theorem er_ok {e : Int} (h : e = 0) : Value.nilIface = er e := by rw [h, er, errV_zero]
theorem er_is {e k : Int} (h : e = k) (hk : k ≠ 0) : Value.iface 47 (.int .i64 k) = er e := by rw [h, er, errV_ne hk]
end Go.Proofs.YtaofimndclgpdaaDoor
