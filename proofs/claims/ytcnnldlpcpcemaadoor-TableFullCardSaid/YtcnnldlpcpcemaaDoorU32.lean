/- Steps of a call: numbers of 32 bits that go round; truths that are equal. -/
import Derived.Test.YtcnnldlpcpcemaaDoorKeyEq
import Derived.Laws.StructEq
set_option linter.unusedSimpArgs false
set_option linter.unusedVariables false
namespace Go.Proofs.YtcnnldlpcpcemaaDoor
open Go.RowKit Go.Port
section
variable {P : Program} {w0 : World} {D : List Nat} {n q : Nat} {ops : Array Oper} {Q : Exit → Act → World → Prop} {g : Nat → Value} {F : List (Nat × Value)} {L : List Ch}
variable {rest : List Oper} {ty : TypeId} {pos : String} {af : Array Edge} {d : Nat}
theorem sx_subU32 {x y : Operand} {a b : Int} {t1 t2 : TypeId} (hx : evn n (get g F) x = .int .u32 a) (hy : evn n (get g F) y = .int .u32 b) (h : SX P w0 D n q ops Q rest g ((d, .int .u32 ((a - b) % 4294967296)) :: F) L) :
    SX P w0 D n q ops Q ({ dst := some d, op := .binOp .sub t1 x y t2, type := ty, pos := pos, after := af, guard := none } :: rest) g F L :=
  sx_run (.int .u32 ((a - b) % 4294967296)) rfl rfl (fun w _ => by
    simp only [execOp, hx, hy, eqGuard, binOp, Op.intArith, IntKind.wrap_u32]; rfl) h
theorem sx_negU32 {x : Operand} {a : Int} {t1 : TypeId} (hx : evn n (get g F) x = .int .u32 a) (h : SX P w0 D n q ops Q rest g ((d, .int .u32 ((-a) % 4294967296)) :: F) L) :
    SX P w0 D n q ops Q ({ dst := some d, op := .unOp .neg t1 x, type := ty, pos := pos, after := af, guard := none } :: rest) g F L :=
  sx_run (.int .u32 ((-a) % 4294967296)) rfl rfl (fun w _ => by simp only [execOp, hx, Op.unary, Op.intArith, Int.zero_sub, IntKind.wrap_u32]; rfl) h
theorem sx_eqlB {x y : Operand} {a b : Bool} {t2 : TypeId} (hx : evn n (get g F) x = .bool a) (hy : evn n (get g F) y = .bool b) (h : SX Tryd.prog w0 D n q ops Q rest g ((d, .bool (a == b)) :: F) L) :
    SX Tryd.prog w0 D n q ops Q ({ dst := some d, op := .binOp .eql 4 x y t2, type := ty, pos := pos, after := af, guard := none } :: rest) g F L :=
  sx_run (.bool (a == b)) rfl rfl (fun w _ => by
    have h1 : (Op.equalIn 10000 4 (.bool a) (.bool b)).run Tryd.prog w = .ok (a == b) w := by
      rw [show (10000 : Nat) = 9999 + 1 from rfl]; exact run_equalIn_bool (P := Tryd.prog) w 9999 4 a b Tryd.underlying4
    have h2 : (binOp .eql 4 (.bool a) (.bool b)).run Tryd.prog w = .ok (.bool (a == b)) w := by
      show (do pure (Value.bool (← Op.equalIn 10000 4 (.bool a) (.bool b)) : Value)).run Tryd.prog w = _
      rw [Sem.run_bind, h1]; rfl
    have h3 : (eqGuard .eql 4 x y (.bool a) (.bool b)).run Tryd.prog w = .ok () w := rfl
    simp only [execOp, hx, hy, Sem.run_bind, h3, Result.andThen_ok, h2]
    rfl) h
/-- Of a key and itself. -/
theorem sx_eqlSame {x y : Operand} {k s f e t : Int} {t2 : TypeId} (hx : evn n (get g F) x = .agg #[.int .i64 k, .int .i64 s, .int .i64 f, .int .i64 e, .int .i64 t]) (hy : evn n (get g F) y = .agg #[.int .i64 k, .int .i64 s, .int .i64 f, .int .i64 e, .int .i64 t])
    (h : SX Tryd.prog w0 D n q ops Q rest g ((d, .bool true) :: F) L) :
    SX Tryd.prog w0 D n q ops Q ({ dst := some d, op := .binOp .eql 28 x y t2, type := ty, pos := pos, after := af, guard := none } :: rest) g F L :=
  sx_eqlK hx hy (by simpa using h)
end
end Go.Proofs.YtcnnldlpcpcemaaDoor
