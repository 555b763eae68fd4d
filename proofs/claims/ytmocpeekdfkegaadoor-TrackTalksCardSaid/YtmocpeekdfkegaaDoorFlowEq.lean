/- Equality of a flow and itself. -/
import Derived.Test.YtmocpeekdfkegaaDoorArrEq
import Derived.Test.YtmocpeekdfkegaaDoorTrackP
set_option linter.unusedSimpArgs false
set_option linter.unusedVariables false
namespace Go.Proofs.YtmocpeekdfkegaaDoor
open Go.RowKit Go.Port
theorem eq_key9 (k s f d t : Int) (w : World) : (Op.equalIn 9999 23 (.agg #[.int .i64 k, .int .i64 s, .int .i64 f, .int .i64 d, .int .i64 t]) (.agg #[.int .i64 k, .int .i64 s, .int .i64 f, .int .i64 d, .int .i64 t])).run Tryd.prog w = .ok true w := by
  have u3 := Tryd.underlying3
  have a3 := Tryd.isAgg3
  have z3 := Tryd.sizeOf3
  have hS : Tryd.prog.underlying 23 = some (.struct (Tryd.prog.fieldsOf 23)) := by kernel_rfl
  rw [show (9999 : Nat) = 9998 + 1 from rfl, run_equalIn_agg w 9998 23 _ _ hS (by kernel_rfl)]
  simp only [Program.fieldsOf, Tryd.underlying23]
  go_simp
theorem eq_pair9 (a b : Int) (w : World) : (Op.equalIn 9999 24 (.agg #[.int .i64 a, .int .i64 b]) (.agg #[.int .i64 a, .int .i64 b])).run Tryd.prog w = .ok true w := by
  have u3 := Tryd.underlying3
  have a3 := Tryd.isAgg3
  have z3 := Tryd.sizeOf3
  rw [show (9999 : Nat) = 9998 + 1 from rfl, Op.equalIn]
  simp only [Sem.run_bind, run_underlying Tryd.underlying24, Result.andThen_ok]
  simp only [Std.Legacy.Range.forIn_eq_forIn_range', Std.Legacy.Range.size, Nat.sub_zero, Nat.add_sub_cancel, Nat.div_one, List.range'_succ, List.range'_zero, List.forIn_cons, List.forIn_nil]
  go_simp
theorem eq_pairB9 (a b : Bool) (w : World) : (Op.equalIn 9999 25 (.agg #[.bool a, .bool b]) (.agg #[.bool a, .bool b])).run Tryd.prog w = .ok true w := by
  have u3 := Tryd.underlying4
  have a3 := Tryd.isAgg4
  have z3 := Tryd.sizeOf4
  rw [show (9999 : Nat) = 9998 + 1 from rfl, Op.equalIn]
  simp only [Sem.run_bind, run_underlying Tryd.underlying25, Result.andThen_ok]
  simp only [Std.Legacy.Range.forIn_eq_forIn_range', Std.Legacy.Range.size, Nat.sub_zero, Nat.add_sub_cancel, Nat.div_one, List.range'_succ, List.range'_zero, List.forIn_cons, List.forIn_nil]
  go_simp
set_option maxHeartbeats 4000000 in
theorem eq_flowSame (x : Fl) (w : World) : (Op.equalIn 10000 27 (.agg x.row.toArray) (.agg x.row.toArray)).run Tryd.prog w = .ok true w := by
  obtain ⟨k, s, f, d, t, st, un, sp, h0, h1, w0, w1, d0, d1, nm⟩ := x
  have u3 := Tryd.underlying3
  have a3 := Tryd.isAgg3
  have z3 := Tryd.sizeOf3
  have ak := Tryd.isAgg23
  have zk := Tryd.sizeOf23
  have a2 := Tryd.isAgg24
  have z2 := Tryd.sizeOf24
  have ab := Tryd.isAgg25
  have zb := Tryd.sizeOf25
  have hS : Tryd.prog.underlying 27 = some (.struct (Tryd.prog.fieldsOf 27)) := by kernel_rfl
  rw [show (10000 : Nat) = 9999 + 1 from rfl, run_equalIn_agg w 9999 27 _ _ hS (by kernel_rfl)]
  simp only [Program.fieldsOf, Tryd.underlying27]
  have e1 := eq_key9 k s f d t w
  have e2 := eq_pair9 h0 h1 w
  have e3 := eq_pair9 w0 w1 w
  have e4 := eq_pairB9 d0 d1 w
  dsimp only [Fl.row]
  go_simp
section
variable {w0 : World} {D : List Nat} {n q : Nat} {ops : Array Oper} {Q : Exit → Act → World → Prop} {g : Nat → Value} {F : List (Nat × Value)} {L : List Ch}
variable {rest : List Oper} {ty : TypeId} {pos : String} {af : Array Edge} {d : Nat}
theorem sx_eqlFS (z : Fl) {x y : Operand} {t2 : TypeId} (hx : evn n (get g F) x = .agg z.row.toArray) (hy : evn n (get g F) y = .agg z.row.toArray) (h : SX Tryd.prog w0 D n q ops Q rest g ((d, .bool true) :: F) L) :
    SX Tryd.prog w0 D n q ops Q ({ dst := some d, op := .binOp .eql 27 x y t2, type := ty, pos := pos, after := af, guard := none } :: rest) g F L :=
  sx_run _ rfl rfl (fun w _ => by
    have h1 := run_eqGuard_agg (P := Tryd.prog) w .eql 27 x y z.row.toArray z.row.toArray (by kernel_rfl)
    simp only [execOp, hx, hy, Sem.run_bind, h1, Result.andThen_ok, run_eql_struct, eq_flowSame]
    rfl) h
theorem sx_neqFS (z : Fl) {x y : Operand} {t2 : TypeId} (hx : evn n (get g F) x = .agg z.row.toArray) (hy : evn n (get g F) y = .agg z.row.toArray) (h : SX Tryd.prog w0 D n q ops Q rest g ((d, .bool false) :: F) L) :
    SX Tryd.prog w0 D n q ops Q ({ dst := some d, op := .binOp .neq 27 x y t2, type := ty, pos := pos, after := af, guard := none } :: rest) g F L :=
  sx_run _ rfl rfl (fun w _ => by
    have h1 := run_eqGuard_agg (P := Tryd.prog) w .neq 27 x y z.row.toArray z.row.toArray (by kernel_rfl)
    simp only [execOp, hx, hy, Sem.run_bind, h1, Result.andThen_ok, run_neq_struct, eq_flowSame]
    rfl) h
end
end Go.Proofs.YtmocpeekdfkegaaDoor
