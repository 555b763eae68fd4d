/- Equality of keys. -/
import Derived.Test.YtcnnldlpcpcemaaDoorEngB
import Derived.Test.YtcnnldlpcpcemaaDoorTypes
import Derived.Test.YtcnnldlpcpcemaaDoorProg
import Derived.Laws.StructEq
import Derived.WalkKit
import Derived.KernelRfl
set_option linter.unusedSimpArgs false
set_option linter.unusedVariables false
namespace Go.Proofs.YtcnnldlpcpcemaaDoor
open Go.RowKit Go.Port
theorem eq_key (k s f d t k' s' f' d' t' : Int) (w : World) : (Op.equalIn 10000 28 (.agg #[.int .i64 k, .int .i64 s, .int .i64 f, .int .i64 d, .int .i64 t]) (.agg #[.int .i64 k', .int .i64 s', .int .i64 f', .int .i64 d', .int .i64 t'])).run Tryd.prog w = .ok (decide (k = k' ∧ s = s' ∧ f = f' ∧ d = d' ∧ t = t')) w := by
  have u3 := Tryd.underlying3
  have a3 := Tryd.isAgg3
  have z3 := Tryd.sizeOf3
  have hS : Tryd.prog.underlying 28 = some (.struct (Tryd.prog.fieldsOf 28)) := by kernel_rfl
  rw [show (10000 : Nat) = 9999 + 1 from rfl, run_equalIn_agg w 9999 28 _ _ hS (by kernel_rfl)]
  simp only [Program.fieldsOf, Tryd.underlying28]
  go_simp
  by_cases h1 : k = k' <;> by_cases h2 : s = s' <;> by_cases h3 : f = f' <;> by_cases h4 : d = d' <;> by_cases h5 : t = t' <;> simp [h1, h2, h3, h4, h5]
section
variable {w0 : World} {D : List Nat} {n q : Nat} {ops : Array Oper} {Q : Exit → Act → World → Prop} {g : Nat → Value} {F : List (Nat × Value)} {L : List Ch}
variable {rest : List Oper} {ty : TypeId} {pos : String} {af : Array Edge} {d : Nat}
theorem sx_eqlK {x y : Operand} {k s f e t k' s' f' e' t' : Int} {t2 : TypeId} (hx : evn n (get g F) x = .agg #[.int .i64 k, .int .i64 s, .int .i64 f, .int .i64 e, .int .i64 t]) (hy : evn n (get g F) y = .agg #[.int .i64 k', .int .i64 s', .int .i64 f', .int .i64 e', .int .i64 t'])
    (h : SX Tryd.prog w0 D n q ops Q rest g ((d, .bool (decide (k = k' ∧ s = s' ∧ f = f' ∧ e = e' ∧ t = t'))) :: F) L) :
    SX Tryd.prog w0 D n q ops Q ({ dst := some d, op := .binOp .eql 28 x y t2, type := ty, pos := pos, after := af, guard := none } :: rest) g F L :=
  sx_run _ rfl rfl (fun w _ => by
    have h1 := run_eqGuard_agg (P := Tryd.prog) w .eql 28 x y #[.int .i64 k, .int .i64 s, .int .i64 f, .int .i64 e, .int .i64 t] #[.int .i64 k', .int .i64 s', .int .i64 f', .int .i64 e', .int .i64 t'] (by kernel_rfl)
    simp only [execOp, hx, hy, Sem.run_bind, h1, Result.andThen_ok, run_eql_struct, eq_key]
    rfl) h
theorem sx_neqK {x y : Operand} {k s f e t k' s' f' e' t' : Int} {t2 : TypeId} (hx : evn n (get g F) x = .agg #[.int .i64 k, .int .i64 s, .int .i64 f, .int .i64 e, .int .i64 t]) (hy : evn n (get g F) y = .agg #[.int .i64 k', .int .i64 s', .int .i64 f', .int .i64 e', .int .i64 t'])
    (h : SX Tryd.prog w0 D n q ops Q rest g ((d, .bool (!decide (k = k' ∧ s = s' ∧ f = f' ∧ e = e' ∧ t = t'))) :: F) L) :
    SX Tryd.prog w0 D n q ops Q ({ dst := some d, op := .binOp .neq 28 x y t2, type := ty, pos := pos, after := af, guard := none } :: rest) g F L :=
  sx_run _ rfl rfl (fun w _ => by
    have h1 := run_eqGuard_agg (P := Tryd.prog) w .neq 28 x y #[.int .i64 k, .int .i64 s, .int .i64 f, .int .i64 e, .int .i64 t] #[.int .i64 k', .int .i64 s', .int .i64 f', .int .i64 e', .int .i64 t'] (by kernel_rfl)
    simp only [execOp, hx, hy, Sem.run_bind, h1, Result.andThen_ok, run_neq_struct, eq_key]
    rfl) h
/-- Of a key and itself. -/
theorem sx_neqSame {x y : Operand} {k s f e t : Int} {t2 : TypeId} (hx : evn n (get g F) x = .agg #[.int .i64 k, .int .i64 s, .int .i64 f, .int .i64 e, .int .i64 t]) (hy : evn n (get g F) y = .agg #[.int .i64 k, .int .i64 s, .int .i64 f, .int .i64 e, .int .i64 t])
    (h : SX Tryd.prog w0 D n q ops Q rest g ((d, .bool false) :: F) L) :
    SX Tryd.prog w0 D n q ops Q ({ dst := some d, op := .binOp .neq 28 x y t2, type := ty, pos := pos, after := af, guard := none } :: rest) g F L :=
  sx_neqK hx hy (by simpa using h)
end
end Go.Proofs.YtcnnldlpcpcemaaDoor
