/- Steps of a call: places of an array's value, literals of arrays. No program here. -/
import Derived.Test.YtchkpkeljcdccaaSxBits
set_option linter.unusedSimpArgs false
set_option linter.unusedVariables false
namespace Go.Port
open Go.RowKit
section
variable {P : Program} {w0 : World} {D : List Nat} {n q : Nat} {ops : Array Oper} {Q : Exit → Act → World → Prop} {g : Nat → Value} {F : List (Nat × Value)} {L : List Ch}
variable {rest : List Oper} {ty : TypeId} {pos : String} {af : Array Edge} {d : Nat}
theorem sx_buildC {T : Nat} {ps : List (Nat × Operand)} (cs : List Value) (hc : P.built T (pvals n (get g F) ps) = some cs.toArray) (h : SX P w0 D n q ops Q rest g ((d, .agg cs.toArray) :: F) L) :
    SX P w0 D n q ops Q ({ dst := some d, op := .build T ps.toArray, type := ty, pos := pos, after := af, guard := none } :: rest) g F L :=
  sx_run _ rfl rfl (fun w _ => by
    show ((do pure (Next.value (← Instr.build T (ps.toArray.map fun p => (p.1, evn n (get g F) p.2))))) : Sem Next).run P w = _
    refine run_v ?_
    rw [List.map_toArray, pvals_eq]
    exact run_build w T _ _ hc) h
theorem sx_indexA {T len E : Nat} [ArT P T len E 1] [TyT P E 1 false] {x y : Operand} {cs : List Value} {i : Int} {v : Value} (hx : evn n (get g F) x = .agg cs.toArray) (hy : evn n (get g F) y = .int .i64 i) (hi : 0 ≤ i ∧ i < len) (hv : cs[i.toNat]? = some v) (h : SX P w0 D n q ops Q rest g ((d, v) :: F) L) :
    SX P w0 D n q ops Q ({ dst := some d, op := .index T x y, type := ty, pos := pos, after := af, guard := none } :: rest) g F L :=
  sx_run _ rfl rfl (fun w _ => by
    have h1 := ArT.und (P := P) (T := T) (len := len) (E := E) (sz := 1)
    have h2 := ArT.size_run (P := P) (T := T) (len := len) (E := E) (sz := 1) w
    have h3 : (part E cs.toArray (i.toNat * 1)).run P w = .ok v w := by
      unfold part
      rw [Sem.run_bind, TyT.agg_run (P := P) (T := E) (sz := 1) (agg := false) w]
      simp only [Result.andThen_ok, List.getElem?_toArray, Nat.mul_one, hv, Bool.false_eq_true, if_false]
      rfl
    show ((do pure (Next.value (← Instr.index T (evn n (get g F) x) (evn n (get g F) y)))) : Sem Next).run P w = _
    rw [hx, hy]
    refine run_v ?_
    simp only [Instr.index, asIntOf, Sem.run_bind, Sem.run_pure, Result.andThen_ok, run_underlying h1, hi.1, hi.2, and_self, if_true, h2, h3]) h
end
end Go.Port
