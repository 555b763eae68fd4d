/- Pairs of numbers held against each other; == of truths. -/
import Derived.Test.YtakogejljocegaaEngB
import Derived.Test.YtakogejljocegaaTypes
import Derived.Laws.StructEq
import Derived.Laws.Tables
import Derived.WalkKit
import Derived.KernelRfl
set_option linter.unusedSimpArgs false
set_option linter.unusedVariables false
namespace Go.Proofs.Ytakogejljocegaa
open Go.RowKit Go.Port
theorem eq_pair (a b c d : Int) (w : World) : (Op.equalIn 10000 56 (.agg #[.int .i64 a, .int .i64 b]) (.agg #[.int .i64 c, .int .i64 d])).run Try.prog w = .ok (decide (a = c ∧ b = d)) w := by
  have u3 := Try.underlying3
  have a3 := Try.isAgg3
  have z3 := Try.sizeOf3
  rw [show (10000 : Nat) = 9999 + 1 from rfl, Op.equalIn]
  simp only [Sem.run_bind, run_underlying Try.underlying56, Result.andThen_ok]
  simp only [Std.Legacy.Range.forIn_eq_forIn_range', Std.Legacy.Range.size, Nat.sub_zero, Nat.add_sub_cancel, Nat.div_one, List.range'_succ, List.range'_zero, List.forIn_cons, List.forIn_nil]
  go_simp
  by_cases h1 : a = c <;> by_cases h2 : b = d <;> simp [h1, h2]
section
variable {w0 : World} {D : List Nat} {n q : Nat} {ops : Array Oper} {Q : Exit → Act → World → Prop} {g : Nat → Value} {F : List (Nat × Value)} {L : List Ch}
variable {rest : List Oper} {ty : TypeId} {pos : String} {af : Array Edge} {d : Nat}
theorem sx_eql2 {x y : Operand} {a b a' b' : Int} {t2 : TypeId} (hx : evn n (get g F) x = .agg #[.int .i64 a, .int .i64 b]) (hy : evn n (get g F) y = .agg #[.int .i64 a', .int .i64 b'])
    (h : SX Try.prog w0 D n q ops Q rest g ((d, .bool (decide (a = a' ∧ b = b'))) :: F) L) :
    SX Try.prog w0 D n q ops Q ({ dst := some d, op := .binOp .eql 56 x y t2, type := ty, pos := pos, after := af, guard := none } :: rest) g F L :=
  sx_run _ rfl rfl (fun w _ => by
    have h1 := run_eqGuard_agg (P := Try.prog) w .eql 56 x y #[.int .i64 a, .int .i64 b] #[.int .i64 a', .int .i64 b'] (by kernel_rfl)
    simp only [execOp, hx, hy, Sem.run_bind, h1, Result.andThen_ok, run_eql_struct, eq_pair]
    rfl) h
theorem sx_neq2 {x y : Operand} {a b a' b' : Int} {t2 : TypeId} (hx : evn n (get g F) x = .agg #[.int .i64 a, .int .i64 b]) (hy : evn n (get g F) y = .agg #[.int .i64 a', .int .i64 b'])
    (h : SX Try.prog w0 D n q ops Q rest g ((d, .bool (!decide (a = a' ∧ b = b'))) :: F) L) :
    SX Try.prog w0 D n q ops Q ({ dst := some d, op := .binOp .neq 56 x y t2, type := ty, pos := pos, after := af, guard := none } :: rest) g F L :=
  sx_run _ rfl rfl (fun w _ => by
    have h1 := run_eqGuard_agg (P := Try.prog) w .neq 56 x y #[.int .i64 a, .int .i64 b] #[.int .i64 a', .int .i64 b'] (by kernel_rfl)
    simp only [execOp, hx, hy, Sem.run_bind, h1, Result.andThen_ok, run_neq_struct, eq_pair]
    rfl) h
theorem built2 (a b : Int) : Try.prog.built 56 [(0, .int .i64 a), (1, .int .i64 b)] = some #[.int .i64 a, .int .i64 b] := by kernel_rfl
theorem sx_build2 {x y : Operand} {a b : Int} (hx : evn n (get g F) x = .int .i64 a) (hy : evn n (get g F) y = .int .i64 b) (h : SX Try.prog w0 D n q ops Q rest g ((d, .agg #[.int .i64 a, .int .i64 b]) :: F) L) :
    SX Try.prog w0 D n q ops Q ({ dst := some d, op := .build 56 #[(0, x), (1, y)], type := ty, pos := pos, after := af, guard := none } :: rest) g F L :=
  sx_buildC (ps := [(0, x), (1, y)]) [.int .i64 a, .int .i64 b] (by
    show Try.prog.built 56 [(0, evn n (get g F) x), (1, evn n (get g F) y)] = _
    rw [hx, hy]; exact built2 a b) h
theorem sx_eqlB {x y : Operand} {a b : Bool} {t2 : TypeId} (hx : evn n (get g F) x = .bool a) (hy : evn n (get g F) y = .bool b) (h : SX Try.prog w0 D n q ops Q rest g ((d, .bool (a == b)) :: F) L) :
    SX Try.prog w0 D n q ops Q ({ dst := some d, op := .binOp .eql 4 x y t2, type := ty, pos := pos, after := af, guard := none } :: rest) g F L :=
  sx_run (.bool (a == b)) rfl rfl (fun w _ => by
    have h1 : (Op.equalIn 10000 4 (.bool a) (.bool b)).run Try.prog w = .ok (a == b) w := by
      rw [show (10000 : Nat) = 9999 + 1 from rfl]; exact run_equalIn_bool (P := Try.prog) w 9999 4 a b Try.underlying4
    have h2 : (binOp .eql 4 (.bool a) (.bool b)).run Try.prog w = .ok (.bool (a == b)) w := by
      show (do pure (Value.bool (← Op.equalIn 10000 4 (.bool a) (.bool b)) : Value)).run Try.prog w = _
      rw [Sem.run_bind, h1]; rfl
    have h3 : (eqGuard .eql 4 x y (.bool a) (.bool b)).run Try.prog w = .ok () w := rfl
    simp only [execOp, hx, hy, Sem.run_bind, h3, Result.andThen_ok, h2]
    rfl) h
end
end Go.Proofs.Ytakogejljocegaa
