/- Equality of pairs of numbers, and of truths. -/
import Derived.Test.YtcnnldlpcpcemaaDoorEngB
import Derived.Test.YtcnnldlpcpcemaaDoorU32
import Derived.Laws.StructEq
import Derived.Laws.Tables
import Derived.WalkKit
set_option linter.unusedSimpArgs false
set_option linter.unusedVariables false
namespace Go.Proofs.YtcnnldlpcpcemaaDoor
open Go.RowKit Go.Port
theorem eq_pair (a b c d : Int) (w : World) : (Op.equalIn 10000 29 (.agg #[.int .i64 a, .int .i64 b]) (.agg #[.int .i64 c, .int .i64 d])).run Tryd.prog w = .ok (decide (a = c ∧ b = d)) w := by
  have u3 := Tryd.underlying3
  have a3 := Tryd.isAgg3
  have z3 := Tryd.sizeOf3
  rw [show (10000 : Nat) = 9999 + 1 from rfl, Op.equalIn]
  simp only [Sem.run_bind, run_underlying Tryd.underlying29, Result.andThen_ok]
  simp only [Std.Legacy.Range.forIn_eq_forIn_range', Std.Legacy.Range.size, Nat.sub_zero, Nat.add_sub_cancel, Nat.div_one, List.range'_succ, List.range'_zero, List.forIn_cons, List.forIn_nil]
  go_simp
  by_cases h1 : a = c <;> by_cases h2 : b = d <;> simp [h1, h2]
theorem eq_pairB (a b c d : Bool) (w : World) : (Op.equalIn 10000 30 (.agg #[.bool a, .bool b]) (.agg #[.bool c, .bool d])).run Tryd.prog w = .ok (decide (a = c ∧ b = d)) w := by
  have u3 := Tryd.underlying4
  have a3 := Tryd.isAgg4
  have z3 := Tryd.sizeOf4
  rw [show (10000 : Nat) = 9999 + 1 from rfl, Op.equalIn]
  simp only [Sem.run_bind, run_underlying Tryd.underlying30, Result.andThen_ok]
  simp only [Std.Legacy.Range.forIn_eq_forIn_range', Std.Legacy.Range.size, Nat.sub_zero, Nat.add_sub_cancel, Nat.div_one, List.range'_succ, List.range'_zero, List.forIn_cons, List.forIn_nil]
  go_simp
  by_cases h1 : a = c <;> by_cases h2 : b = d <;> simp [h1, h2]
section
variable {w0 : World} {D : List Nat} {n q : Nat} {ops : Array Oper} {Q : Exit → Act → World → Prop} {g : Nat → Value} {F : List (Nat × Value)} {L : List Ch}
variable {rest : List Oper} {ty : TypeId} {pos : String} {af : Array Edge} {d : Nat}
theorem sx_eql2 {x y : Operand} {a b a' b' : Int} {t2 : TypeId} (hx : evn n (get g F) x = .agg #[.int .i64 a, .int .i64 b]) (hy : evn n (get g F) y = .agg #[.int .i64 a', .int .i64 b'])
    (h : SX Tryd.prog w0 D n q ops Q rest g ((d, .bool (decide (a = a' ∧ b = b'))) :: F) L) :
    SX Tryd.prog w0 D n q ops Q ({ dst := some d, op := .binOp .eql 29 x y t2, type := ty, pos := pos, after := af, guard := none } :: rest) g F L :=
  sx_run _ rfl rfl (fun w _ => by
    have h1 := run_eqGuard_agg (P := Tryd.prog) w .eql 29 x y #[.int .i64 a, .int .i64 b] #[.int .i64 a', .int .i64 b'] (by kernel_rfl)
    simp only [execOp, hx, hy, Sem.run_bind, h1, Result.andThen_ok, run_eql_struct, eq_pair]
    rfl) h
theorem sx_neq2 {x y : Operand} {a b a' b' : Int} {t2 : TypeId} (hx : evn n (get g F) x = .agg #[.int .i64 a, .int .i64 b]) (hy : evn n (get g F) y = .agg #[.int .i64 a', .int .i64 b'])
    (h : SX Tryd.prog w0 D n q ops Q rest g ((d, .bool (!decide (a = a' ∧ b = b'))) :: F) L) :
    SX Tryd.prog w0 D n q ops Q ({ dst := some d, op := .binOp .neq 29 x y t2, type := ty, pos := pos, after := af, guard := none } :: rest) g F L :=
  sx_run _ rfl rfl (fun w _ => by
    have h1 := run_eqGuard_agg (P := Tryd.prog) w .neq 29 x y #[.int .i64 a, .int .i64 b] #[.int .i64 a', .int .i64 b'] (by kernel_rfl)
    simp only [execOp, hx, hy, Sem.run_bind, h1, Result.andThen_ok, run_neq_struct, eq_pair]
    rfl) h
theorem sx_neq2B {x y : Operand} {a b a' b' : Bool} {t2 : TypeId} (hx : evn n (get g F) x = .agg #[.bool a, .bool b]) (hy : evn n (get g F) y = .agg #[.bool a', .bool b'])
    (h : SX Tryd.prog w0 D n q ops Q rest g ((d, .bool (!decide (a = a' ∧ b = b'))) :: F) L) :
    SX Tryd.prog w0 D n q ops Q ({ dst := some d, op := .binOp .neq 30 x y t2, type := ty, pos := pos, after := af, guard := none } :: rest) g F L :=
  sx_run _ rfl rfl (fun w _ => by
    have h1 := run_eqGuard_agg (P := Tryd.prog) w .neq 30 x y #[.bool a, .bool b] #[.bool a', .bool b'] (by kernel_rfl)
    simp only [execOp, hx, hy, Sem.run_bind, h1, Result.andThen_ok, run_neq_struct, eq_pairB]
    rfl) h
/-- A part, told by its cells. -/
theorem built2 (a b : Int) : Tryd.prog.built 29 [(0, .int .i64 a), (1, .int .i64 b)] = some #[.int .i64 a, .int .i64 b] := by kernel_rfl
theorem built0 : Tryd.prog.built 29 [] = some #[.int .i64 0, .int .i64 0] := by kernel_rfl
theorem built0B : Tryd.prog.built 30 [] = some #[.bool false, .bool false] := by kernel_rfl
theorem sx_build2 {x y : Operand} {a b : Int} (hx : evn n (get g F) x = .int .i64 a) (hy : evn n (get g F) y = .int .i64 b) (h : SX Tryd.prog w0 D n q ops Q rest g ((d, .agg #[.int .i64 a, .int .i64 b]) :: F) L) :
    SX Tryd.prog w0 D n q ops Q ({ dst := some d, op := .build 29 #[(0, x), (1, y)], type := ty, pos := pos, after := af, guard := none } :: rest) g F L :=
  sx_buildC (ps := [(0, x), (1, y)]) [.int .i64 a, .int .i64 b] (by
    show Tryd.prog.built 29 [(0, evn n (get g F) x), (1, evn n (get g F) y)] = _
    rw [hx, hy]; exact built2 a b) h
theorem sx_build0 (h : SX Tryd.prog w0 D n q ops Q rest g ((d, .agg #[.int .i64 0, .int .i64 0]) :: F) L) :
    SX Tryd.prog w0 D n q ops Q ({ dst := some d, op := .build 29 #[], type := ty, pos := pos, after := af, guard := none } :: rest) g F L :=
  sx_buildC (ps := []) [.int .i64 0, .int .i64 0] built0 h
theorem sx_build0B (h : SX Tryd.prog w0 D n q ops Q rest g ((d, .agg #[.bool false, .bool false]) :: F) L) :
    SX Tryd.prog w0 D n q ops Q ({ dst := some d, op := .build 30 #[], type := ty, pos := pos, after := af, guard := none } :: rest) g F L :=
  sx_buildC (ps := []) [.bool false, .bool false] built0B h
end
end Go.Proofs.YtcnnldlpcpcemaaDoor
