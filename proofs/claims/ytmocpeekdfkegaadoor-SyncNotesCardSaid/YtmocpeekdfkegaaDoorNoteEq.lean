/- Equality of flows, and of a note and itself. -/
import Derived.Test.YtmocpeekdfkegaaDoorArrEq
import Derived.Test.YtmocpeekdfkegaaDoorTrackP
import Derived.Test.YtmocpeekdfkegaaDoorSyncP
set_option linter.unusedSimpArgs false
set_option linter.unusedVariables false
namespace Go.Proofs.YtmocpeekdfkegaaDoor
open Go.RowKit Go.Port
theorem eq_keyG (k s f d t k' s' f' d' t' : Int) (w : World) : (Op.equalIn 9999 23 (.agg #[.int .i64 k, .int .i64 s, .int .i64 f, .int .i64 d, .int .i64 t]) (.agg #[.int .i64 k', .int .i64 s', .int .i64 f', .int .i64 d', .int .i64 t'])).run Tryd.prog w = .ok (decide (k = k' ∧ s = s' ∧ f = f' ∧ d = d' ∧ t = t')) w := by
  have u3 := Tryd.underlying3
  have a3 := Tryd.isAgg3
  have z3 := Tryd.sizeOf3
  have hS : Tryd.prog.underlying 23 = some (.struct (Tryd.prog.fieldsOf 23)) := by kernel_rfl
  rw [show (9999 : Nat) = 9998 + 1 from rfl, run_equalIn_agg w 9998 23 _ _ hS (by kernel_rfl)]
  simp only [Program.fieldsOf, Tryd.underlying23]
  go_simp
  by_cases h1 : k = k' <;> by_cases h2 : s = s' <;> by_cases h3 : f = f' <;> by_cases h4 : d = d' <;> by_cases h5 : t = t' <;> simp [h1, h2, h3, h4, h5]
theorem eq_pairG (a b c d : Int) (w : World) : (Op.equalIn 9999 24 (.agg #[.int .i64 a, .int .i64 b]) (.agg #[.int .i64 c, .int .i64 d])).run Tryd.prog w = .ok (decide (a = c ∧ b = d)) w := by
  have u3 := Tryd.underlying3
  have a3 := Tryd.isAgg3
  have z3 := Tryd.sizeOf3
  rw [show (9999 : Nat) = 9998 + 1 from rfl, Op.equalIn]
  simp only [Sem.run_bind, run_underlying Tryd.underlying24, Result.andThen_ok]
  simp only [Std.Legacy.Range.forIn_eq_forIn_range', Std.Legacy.Range.size, Nat.sub_zero, Nat.add_sub_cancel, Nat.div_one, List.range'_succ, List.range'_zero, List.forIn_cons, List.forIn_nil]
  go_simp
  by_cases h1 : a = c <;> by_cases h2 : b = d <;> simp [h1, h2]
theorem eq_pairBG (a b c d : Bool) (w : World) : (Op.equalIn 9999 25 (.agg #[.bool a, .bool b]) (.agg #[.bool c, .bool d])).run Tryd.prog w = .ok (decide (a = c ∧ b = d)) w := by
  have u3 := Tryd.underlying4
  have a3 := Tryd.isAgg4
  have z3 := Tryd.sizeOf4
  rw [show (9999 : Nat) = 9998 + 1 from rfl, Op.equalIn]
  simp only [Sem.run_bind, run_underlying Tryd.underlying25, Result.andThen_ok]
  simp only [Std.Legacy.Range.forIn_eq_forIn_range', Std.Legacy.Range.size, Nat.sub_zero, Nat.add_sub_cancel, Nat.div_one, List.range'_succ, List.range'_zero, List.forIn_cons, List.forIn_nil]
  go_simp
  by_cases h1 : a = c <;> by_cases h2 : b = d <;> simp [h1, h2]
set_option maxHeartbeats 4000000 in
theorem eq_flow (x y : Fl) (w : World) : (Op.equalIn 10000 27 (.agg x.row.toArray) (.agg y.row.toArray)).run Tryd.prog w = .ok (decide (x.like y)) w := by
  obtain ⟨k, s, f, d, t, st, un, sp, h0, h1, w0, w1, d0, d1, nm⟩ := x
  obtain ⟨k', s', f', d', t', st', un', sp', h0', h1', w0', w1', d0', d1', nm'⟩ := y
  have u3 := Tryd.underlying3
  have a3 := Tryd.isAgg3
  have z3 := Tryd.sizeOf3
  have ak := Tryd.isAgg23
  have zk := Tryd.sizeOf23
  have a2 := Tryd.isAgg24
  have z2 := Tryd.sizeOf24
  have ab := Tryd.isAgg25
  have zb := Tryd.sizeOf25
  have hS : Tryd.prog.underlying 27 = some (.struct (Tryd.prog.fieldsOf 27)) := by kernel_rfl
  rw [show (10000 : Nat) = 9999 + 1 from rfl, run_equalIn_agg w 9999 27 _ _ hS (by kernel_rfl)]
  simp only [Program.fieldsOf, Tryd.underlying27]
  have e1 := eq_keyG k s f d t k' s' f' d' t' w
  have e2 := eq_pairG h0 h1 h0' h1' w
  have e3 := eq_pairG w0 w1 w0' w1' w
  have e4 := eq_pairBG d0 d1 d0' d1' w
  dsimp only [Fl.row, Fl.like]
  go_simp
  by_cases c1 : k = k' ∧ s = s' ∧ f = f' ∧ d = d' ∧ t = t'
  rotate_left
  · simp [c1]
    intro a1 a2 a3 a4 a5
    exact absurd ⟨a1, a2, a3, a4, a5⟩ c1
  by_cases c2 : st = st'
  rotate_left
  · simp [c1, c2]
  by_cases c3 : un = un'
  rotate_left
  · simp [c1, c2, c3]
  by_cases c4 : sp = sp'
  rotate_left
  · simp [c1, c2, c3, c4]
  by_cases c5 : h0 = h0' ∧ h1 = h1'
  rotate_left
  · simp [c1, c2, c3, c4, c5]
    try (intro a1 a2; exact absurd ⟨a1, a2⟩ c5)
  by_cases c6 : w0 = w0' ∧ w1 = w1'
  rotate_left
  · simp [c1, c2, c3, c4, c5, c6]
    try (intro a1 a2; exact absurd ⟨a1, a2⟩ c6)
  by_cases c7 : d0 = d0' ∧ d1 = d1'
  rotate_left
  · simp [c1, c2, c3, c4, c5, c6, c7]
    try (intro a1 a2; exact absurd ⟨a1, a2⟩ c7)
  by_cases c8 : nm = nm' <;> simp [c1, c2, c3, c4, c5, c6, c7, c8]
theorem eq_key8 (k s f d t : Int) (w : World) : (Op.equalIn 9998 23 (.agg #[.int .i64 k, .int .i64 s, .int .i64 f, .int .i64 d, .int .i64 t]) (.agg #[.int .i64 k, .int .i64 s, .int .i64 f, .int .i64 d, .int .i64 t])).run Tryd.prog w = .ok true w := by
  have u3 := Tryd.underlying3
  have a3 := Tryd.isAgg3
  have z3 := Tryd.sizeOf3
  have hS : Tryd.prog.underlying 23 = some (.struct (Tryd.prog.fieldsOf 23)) := by kernel_rfl
  rw [show (9998 : Nat) = 9997 + 1 from rfl, run_equalIn_agg w 9997 23 _ _ hS (by kernel_rfl)]
  simp only [Program.fieldsOf, Tryd.underlying23]
  go_simp
theorem eq_pair8 (a b : Int) (w : World) : (Op.equalIn 9998 24 (.agg #[.int .i64 a, .int .i64 b]) (.agg #[.int .i64 a, .int .i64 b])).run Tryd.prog w = .ok true w := by
  have u3 := Tryd.underlying3
  have a3 := Tryd.isAgg3
  have z3 := Tryd.sizeOf3
  rw [show (9998 : Nat) = 9997 + 1 from rfl, Op.equalIn]
  simp only [Sem.run_bind, run_underlying Tryd.underlying24, Result.andThen_ok]
  simp only [Std.Legacy.Range.forIn_eq_forIn_range', Std.Legacy.Range.size, Nat.sub_zero, Nat.add_sub_cancel, Nat.div_one, List.range'_succ, List.range'_zero, List.forIn_cons, List.forIn_nil]
  go_simp
theorem eq_pairB8 (a b : Bool) (w : World) : (Op.equalIn 9998 25 (.agg #[.bool a, .bool b]) (.agg #[.bool a, .bool b])).run Tryd.prog w = .ok true w := by
  have u3 := Tryd.underlying4
  have a3 := Tryd.isAgg4
  have z3 := Tryd.sizeOf4
  rw [show (9998 : Nat) = 9997 + 1 from rfl, Op.equalIn]
  simp only [Sem.run_bind, run_underlying Tryd.underlying25, Result.andThen_ok]
  simp only [Std.Legacy.Range.forIn_eq_forIn_range', Std.Legacy.Range.size, Nat.sub_zero, Nat.add_sub_cancel, Nat.div_one, List.range'_succ, List.range'_zero, List.forIn_cons, List.forIn_nil]
  go_simp
set_option maxHeartbeats 4000000 in
theorem eq_flow9 (x : Fl) (w : World) : (Op.equalIn 9999 27 (.agg x.row.toArray) (.agg x.row.toArray)).run Tryd.prog w = .ok true w := by
  obtain ⟨k, s, f, d, t, st, un, sp, h0, h1, w0, w1, d0, d1, nm⟩ := x
  have u3 := Tryd.underlying3
  have a3 := Tryd.isAgg3
  have z3 := Tryd.sizeOf3
  have ak := Tryd.isAgg23
  have zk := Tryd.sizeOf23
  have a2 := Tryd.isAgg24
  have z2 := Tryd.sizeOf24
  have ab := Tryd.isAgg25
  have zb := Tryd.sizeOf25
  have hS : Tryd.prog.underlying 27 = some (.struct (Tryd.prog.fieldsOf 27)) := by kernel_rfl
  rw [show (9999 : Nat) = 9998 + 1 from rfl, run_equalIn_agg w 9998 27 _ _ hS (by kernel_rfl)]
  simp only [Program.fieldsOf, Tryd.underlying27]
  have e1 := eq_key8 k s f d t w
  have e2 := eq_pair8 h0 h1 w
  have e3 := eq_pair8 w0 w1 w
  have e4 := eq_pairB8 d0 d1 w
  dsimp only [Fl.row]
  go_simp
set_option maxHeartbeats 4000000 in
theorem eq_noteSame (x : Nt) (w : World) : (Op.equalIn 10000 57 (.agg x.row.toArray) (.agg x.row.toArray)).run Tryd.prog w = .ok true w := by
  obtain ⟨a, b, ⟨k, s, f, d, t, st, un, sp, h0, h1, w0, w1, d0, d1, nm⟩⟩ := x
  have u3 := Tryd.underlying3
  have a3 := Tryd.isAgg3
  have z3 := Tryd.sizeOf3
  have ak := Tryd.isAgg27
  have zk := Tryd.sizeOf27
  have hS : Tryd.prog.underlying 57 = some (.struct (Tryd.prog.fieldsOf 57)) := by kernel_rfl
  rw [show (10000 : Nat) = 9999 + 1 from rfl, run_equalIn_agg w 9999 57 _ _ hS (by kernel_rfl)]
  simp only [Program.fieldsOf, Tryd.underlying57]
  have e1 := fun w => eq_key8 k s f d t w
  have e2 := fun w => eq_pair8 h0 h1 w
  have e3 := fun w => eq_pair8 w0 w1 w
  have e4 := fun w => eq_pairB8 d0 d1 w
  dsimp only [Nt.row, Fl.row]
  go_simp
section
variable {w0 : World} {D : List Nat} {n q : Nat} {ops : Array Oper} {Q : Exit → Act → World → Prop} {g : Nat → Value} {F : List (Nat × Value)} {L : List Ch}
variable {rest : List Oper} {ty : TypeId} {pos : String} {af : Array Edge} {d : Nat}
theorem sx_eqlF (a b : Fl) {x y : Operand} {t2 : TypeId} (hx : evn n (get g F) x = .agg a.row.toArray) (hy : evn n (get g F) y = .agg b.row.toArray) (h : SX Tryd.prog w0 D n q ops Q rest g ((d, .bool (decide (a.like b))) :: F) L) :
    SX Tryd.prog w0 D n q ops Q ({ dst := some d, op := .binOp .eql 27 x y t2, type := ty, pos := pos, after := af, guard := none } :: rest) g F L :=
  sx_run _ rfl rfl (fun w _ => by
    have h1 := run_eqGuard_agg (P := Tryd.prog) w .eql 27 x y a.row.toArray b.row.toArray (by kernel_rfl)
    simp only [execOp, hx, hy, Sem.run_bind, h1, Result.andThen_ok, run_eql_struct, eq_flow]
    rfl) h
theorem sx_neqF (a b : Fl) {x y : Operand} {t2 : TypeId} (hx : evn n (get g F) x = .agg a.row.toArray) (hy : evn n (get g F) y = .agg b.row.toArray) (h : SX Tryd.prog w0 D n q ops Q rest g ((d, .bool (!decide (a.like b))) :: F) L) :
    SX Tryd.prog w0 D n q ops Q ({ dst := some d, op := .binOp .neq 27 x y t2, type := ty, pos := pos, after := af, guard := none } :: rest) g F L :=
  sx_run _ rfl rfl (fun w _ => by
    have h1 := run_eqGuard_agg (P := Tryd.prog) w .neq 27 x y a.row.toArray b.row.toArray (by kernel_rfl)
    simp only [execOp, hx, hy, Sem.run_bind, h1, Result.andThen_ok, run_neq_struct, eq_flow]
    rfl) h
theorem sx_eqlNS (a : Nt) {x y : Operand} {t2 : TypeId} (hx : evn n (get g F) x = .agg a.row.toArray) (hy : evn n (get g F) y = .agg a.row.toArray) (h : SX Tryd.prog w0 D n q ops Q rest g ((d, .bool true) :: F) L) :
    SX Tryd.prog w0 D n q ops Q ({ dst := some d, op := .binOp .eql 57 x y t2, type := ty, pos := pos, after := af, guard := none } :: rest) g F L :=
  sx_run _ rfl rfl (fun w _ => by
    have h1 := run_eqGuard_agg (P := Tryd.prog) w .eql 57 x y a.row.toArray a.row.toArray (by kernel_rfl)
    simp only [execOp, hx, hy, Sem.run_bind, h1, Result.andThen_ok, run_eql_struct, eq_noteSame]
    rfl) h
theorem sx_neqNS (a : Nt) {x y : Operand} {t2 : TypeId} (hx : evn n (get g F) x = .agg a.row.toArray) (hy : evn n (get g F) y = .agg a.row.toArray) (h : SX Tryd.prog w0 D n q ops Q rest g ((d, .bool false) :: F) L) :
    SX Tryd.prog w0 D n q ops Q ({ dst := some d, op := .binOp .neq 57 x y t2, type := ty, pos := pos, after := af, guard := none } :: rest) g F L :=
  sx_run _ rfl rfl (fun w _ => by
    have h1 := run_eqGuard_agg (P := Tryd.prog) w .neq 57 x y a.row.toArray a.row.toArray (by kernel_rfl)
    simp only [execOp, hx, hy, Sem.run_bind, h1, Result.andThen_ok, run_neq_struct, eq_noteSame]
    rfl) h
end
end Go.Proofs.YtmocpeekdfkegaaDoor
