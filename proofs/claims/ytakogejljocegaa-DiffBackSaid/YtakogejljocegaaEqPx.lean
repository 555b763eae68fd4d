/- Equality of prefixes. -/
import Derived.Test.YtakogejljocegaaEngB
import Derived.Test.YtakogejljocegaaTypes
import Derived.Test.YtakogejljocegaaProg
import Derived.Laws.StructEq
import Derived.WalkKit
import Derived.KernelRfl
set_option linter.unusedSimpArgs false
set_option linter.unusedVariables false
namespace Go.Proofs.Ytakogejljocegaa
open Go.RowKit Go.Port
theorem eq_px (a n a' n' : Int) (w : World) : (Op.equalIn 10000 29 (.agg #[.int .i64 a, .int .i64 n]) (.agg #[.int .i64 a', .int .i64 n'])).run Try.prog w = .ok (decide (a = a' ∧ n = n')) w := by
  have u3 := Try.underlying3
  have a3 := Try.isAgg3
  have z3 := Try.sizeOf3
  have hS : Try.prog.underlying 29 = some (.struct (Try.prog.fieldsOf 29)) := by kernel_rfl
  rw [show (10000 : Nat) = 9999 + 1 from rfl, run_equalIn_agg w 9999 29 _ _ hS (by kernel_rfl)]
  simp only [Program.fieldsOf, Try.underlying29]
  go_simp
  by_cases h1 : a = a' <;> by_cases h2 : n = n' <;> simp [h1, h2]
section
variable {w0 : World} {D : List Nat} {n q : Nat} {ops : Array Oper} {Q : Exit → Act → World → Prop} {g : Nat → Value} {F : List (Nat × Value)} {L : List Ch}
variable {rest : List Oper} {ty : TypeId} {pos : String} {af : Array Edge} {d : Nat}
theorem sx_neqP {x y : Operand} {a k a' k' : Int} {t2 : TypeId} (hx : evn n (get g F) x = .agg #[.int .i64 a, .int .i64 k]) (hy : evn n (get g F) y = .agg #[.int .i64 a', .int .i64 k'])
    (h : SX Try.prog w0 D n q ops Q rest g ((d, .bool (!decide (a = a' ∧ k = k'))) :: F) L) :
    SX Try.prog w0 D n q ops Q ({ dst := some d, op := .binOp .neq 29 x y t2, type := ty, pos := pos, after := af, guard := none } :: rest) g F L :=
  sx_run _ rfl rfl (fun w _ => by
    have h1 := run_eqGuard_agg (P := Try.prog) w .neq 29 x y #[.int .i64 a, .int .i64 k] #[.int .i64 a', .int .i64 k'] (by kernel_rfl)
    simp only [execOp, hx, hy, Sem.run_bind, h1, Result.andThen_ok, run_neq_struct, eq_px]
    rfl) h
theorem sx_eqlP {x y : Operand} {a k a' k' : Int} {t2 : TypeId} (hx : evn n (get g F) x = .agg #[.int .i64 a, .int .i64 k]) (hy : evn n (get g F) y = .agg #[.int .i64 a', .int .i64 k'])
    (h : SX Try.prog w0 D n q ops Q rest g ((d, .bool (decide (a = a' ∧ k = k'))) :: F) L) :
    SX Try.prog w0 D n q ops Q ({ dst := some d, op := .binOp .eql 29 x y t2, type := ty, pos := pos, after := af, guard := none } :: rest) g F L :=
  sx_run _ rfl rfl (fun w _ => by
    have h1 := run_eqGuard_agg (P := Try.prog) w .eql 29 x y #[.int .i64 a, .int .i64 k] #[.int .i64 a', .int .i64 k'] (by kernel_rfl)
    simp only [execOp, hx, hy, Sem.run_bind, h1, Result.andThen_ok, run_eql_struct, eq_px]
    rfl) h
theorem sx_neqPS {x y : Operand} {a k : Int} {t2 : TypeId} (hx : evn n (get g F) x = .agg #[.int .i64 a, .int .i64 k]) (hy : evn n (get g F) y = .agg #[.int .i64 a, .int .i64 k])
    (h : SX Try.prog w0 D n q ops Q rest g ((d, .bool false) :: F) L) :
    SX Try.prog w0 D n q ops Q ({ dst := some d, op := .binOp .neq 29 x y t2, type := ty, pos := pos, after := af, guard := none } :: rest) g F L :=
  sx_neqP hx hy (by simpa using h)
end
end Go.Proofs.Ytakogejljocegaa
