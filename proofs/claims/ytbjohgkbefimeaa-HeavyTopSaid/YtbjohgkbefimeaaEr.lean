/- Errors of the program. -/
import Derived.Test.YtbjohgkbefimeaaTypes
import Derived.Test.YtbjohgkbefimeaaEngB
set_option linter.unusedSimpArgs false
set_option linter.unusedVariables false
namespace Go.Proofs.Ytbjohgkbefimeaa
open Go.RowKit Go.Port
/-- An error. -/
abbrev er (k : Int) : Value := errV 41 k
theorem er_ok {e : Int} (h : e = 0) : Value.nilIface = er e := by rw [h, er, errV_zero]
theorem er_is {e k : Int} (h : e = k) (hk : k ≠ 0) : Value.iface 41 (.int .i64 k) = er e := by rw [h, er, errV_ne hk]
end Go.Proofs.Ytbjohgkbefimeaa
