/- Errors of the program. -/
import Derived.Test.YtcnnldlpcpcemaaDoorTypes
import Derived.Test.YtcnnldlpcpcemaaDoorEngB
set_option linter.unusedSimpArgs false
set_option linter.unusedVariables false
namespace Go.Proofs.YtcnnldlpcpcemaaDoor
open Go.RowKit Go.Port
/-- An error. -/
abbrev er (k : Int) : Value := errV 42 k
theorem er_ok {e : Int} (h : e = 0) : Value.nilIface = er e := by rw [h, er, errV_zero]
theorem er_is {e k : Int} (h : e = k) (hk : k ≠ 0) : Value.iface 42 (.int .i64 k) = er e := by rw [h, er, errV_ne hk]
end Go.Proofs.YtcnnldlpcpcemaaDoor
