/- Steps of a call: a part of a cell, its cells told. No program here. -/
import Derived.Test.YtchkpkeljcdccaaStep
set_option linter.unusedSimpArgs false
set_option linter.unusedVariables false
namespace Go.Port
open Go.RowKit
section
variable {w0 : World} {D : List Nat} {n q : Nat} {ops : Array Oper} {Q : Exit → Act → World → Prop} {g : Nat → Value} {F : List (Nat × Value)} {L : List Ch}
variable {rest : List Oper} {ty : TypeId} {pos : String} {af : Array Edge} {d : Nat}
theorem sx_loadV {P : Program} {T sz : Nat} [TyT P T sz true] (i : Nat) (vs : List Value) {x : Operand} {b off : Nat} {cs : List Value} {T' : TypeId} {fr : Nat × Nat} (hx : evn n (get g F) x = .pointer (some ⟨b, off, none⟩)) (hL : L[i]? = some [(b, .cells cs.toArray T' fr)]) (hv : (cs.drop off).take sz = vs) (hl : vs.length = sz)
    (h : SX P w0 D n q ops Q rest g ((d, .agg vs.toArray) :: F) L) : SX P w0 D n q ops Q ({ dst := some d, op := .load T x, type := ty, pos := pos, after := af, guard := none } :: rest) g F L := by
  subst hv
  exact sx_loadP i hx hL hl h
end
end Go.Port
