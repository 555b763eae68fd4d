/- Texts in walks: two that are the same, or not. No program here. -/
import Derived.Test.YtoelbnhjamddgaaGreatDoorStrS
set_option linter.unusedSimpArgs false
set_option linter.unusedVariables false
namespace Go.Port
open Go.RowKit
section
variable {P : Program} {w0 : World} {D : List Nat} {n q : Nat} {ops : Array Oper} {Q : Exit → Act → World → Prop} {g : Nat → Value} {F : List (Nat × Value)} {L : List Ch}
variable {rest : List Oper} {ty : TypeId} {pos : String} {af : Array Edge} {d : Nat}
theorem sx_neqY {x y : Operand} {s t : List UInt8} {t1 t2 : TypeId} (hx : evn n (get g F) x = tx s) (hy : evn n (get g F) y = tx t) (hn : ¬ s = t) (h : SX P w0 D n q ops Q rest g ((d, .bool true) :: F) L) :
    SX P w0 D n q ops Q ({ dst := some d, op := .binOp .neq t1 x y t2, type := ty, pos := pos, after := af, guard := none } :: rest) g F L :=
  sx_neqT hx hy (by rw [mk_list, mk_list, decide_eq_true hn]; exact h)
theorem sx_eqlY {x y : Operand} {s t : List UInt8} {t1 t2 : TypeId} (hx : evn n (get g F) x = tx s) (hy : evn n (get g F) y = tx t) (hn : s = t) (h : SX P w0 D n q ops Q rest g ((d, .bool true) :: F) L) :
    SX P w0 D n q ops Q ({ dst := some d, op := .binOp .eql t1 x y t2, type := ty, pos := pos, after := af, guard := none } :: rest) g F L :=
  sx_eqlT hx hy (by rw [mk_list, mk_list, decide_eq_true hn]; exact h)
end
end Go.Port
