/- Steps of a call: rows whose base is told ahead; parts of their places. No program here. -/
import Derived.Test.YtchkpkeljcdccaaStep
set_option linter.unusedSimpArgs false
set_option linter.unusedVariables false
namespace Go.Port
open Go.RowKit
/-- Where a row lies, if it has anything. -/
theorem IsSl.base {w : World} {sz : Nat} {A : Option Addr} {len cap : Nat} {xs : List Value} (h : IsSl w sz A len cap xs) : ∃ b o, 0 < len → A = some ⟨b, o, none⟩ ∧ b < w.heap.size ∧ CellsAt w b o xs := by
  rcases h.2 with h0 | ⟨b, o, rfl, hb, _, hc⟩
  · exact ⟨0, 0, fun hh => by omega⟩
  · exact ⟨b, o, fun _ => ⟨rfl, hb, hc⟩⟩
section
variable {P : Program} {w0 : World} {D : List Nat} {n q : Nat} {ops : Array Oper} {Q : Exit → Act → World → Prop} {g : Nat → Value} {F : List (Nat × Value)} {L : List Ch}
variable {rest : List Oper} {ty : TypeId} {pos : String} {af : Array Edge} {d : Nat}
theorem sx_indexQ {T E sz bytes : Nat} {z : Value} [SlT P T E sz bytes z] {x y : Operand} {A : Option Addr} {b o len cap : Nat} {i : Int} (hx : evn n (get g F) x = .slice A len cap) (hA : A = some ⟨b, o, none⟩) (hy : evn n (get g F) y = .int .i64 i) (hi : 0 ≤ i ∧ i < len)
    (h : SX P w0 D n q ops Q rest g ((d, .pointer (some ⟨b, o + i.toNat * sz, none⟩)) :: F) L) :
    SX P w0 D n q ops Q ({ dst := some d, op := .indexAddr T x y, type := ty, pos := pos, after := af, guard := none } :: rest) g F L := by
  subst hA
  exact sx_index hx hy hi h
theorem sx_loadOldF {T sz : Nat} [TyT P T sz false] {x : Operand} {b o k j : Nat} {xs : List Value} {v : Value} (hx : evn n (get g F) x = .pointer (some ⟨b, o + k + j, none⟩)) (hc : CellsAt w0 b o xs) (hb : b < w0.heap.size) (hD : b ∉ D) (hv : xs[k + j]? = some v) (h : SX P w0 D n q ops Q rest g ((d, v) :: F) L) :
    SX P w0 D n q ops Q ({ dst := some d, op := .load T x, type := ty, pos := pos, after := af, guard := none } :: rest) g F L :=
  sx_loadOld (sz := sz) (k := k + j) (by rw [hx, Nat.add_assoc]) hc hb hD hv h
end
end Go.Port
