/- Several texts in one: ArrEq TrackB SegBd TrackFa FlowEq. -/
import Derived.Test.YtghnjmjdaggopaaGreatDoorEngB
import Derived.Test.YtghnjmjdaggopaaGreatDoorFuB
import Derived.Laws.StructEq
import Derived.Laws.Tables
import Derived.WalkKit
import Derived.Test.YtghnjmjdaggopaaGreatDoorSegA
import Derived.Test.YtghnjmjdaggopaaGreatDoorFuA
set_option linter.unusedSimpArgs false
set_option linter.unusedVariables false
namespace Go.Proofs.YtghnjmjdaggopaaGreatDoor
open Go.RowKit Go.Port
theorem eq_pair (a b c d : Int) (w : World) : (Op.equalIn 10000 42 (.agg #[.int .i64 a, .int .i64 b]) (.agg #[.int .i64 c, .int .i64 d])).run Tryz.prog w = .ok (decide (a = c ∧ b = d)) w := by
  have u3 := Tryz.underlying3
  have a3 := Tryz.isAgg3
  have z3 := Tryz.sizeOf3
  rw [show (10000 : Nat) = 9999 + 1 from rfl, Op.equalIn]
  simp only [Sem.run_bind, run_underlying Tryz.underlying42, Result.andThen_ok]
  simp only [Std.Legacy.Range.forIn_eq_forIn_range', Std.Legacy.Range.size, Nat.sub_zero, Nat.add_sub_cancel, Nat.div_one, List.range'_succ, List.range'_zero, List.forIn_cons, List.forIn_nil]
  go_simp
  by_cases h1 : a = c <;> by_cases h2 : b = d <;> simp [h1, h2]
theorem eq_pairB (a b c d : Bool) (w : World) : (Op.equalIn 10000 43 (.agg #[.bool a, .bool b]) (.agg #[.bool c, .bool d])).run Tryz.prog w = .ok (decide (a = c ∧ b = d)) w := by
  have u3 := Tryz.underlying4
  have a3 := Tryz.isAgg4
  have z3 := Tryz.sizeOf4
  rw [show (10000 : Nat) = 9999 + 1 from rfl, Op.equalIn]
  simp only [Sem.run_bind, run_underlying Tryz.underlying43, Result.andThen_ok]
  simp only [Std.Legacy.Range.forIn_eq_forIn_range', Std.Legacy.Range.size, Nat.sub_zero, Nat.add_sub_cancel, Nat.div_one, List.range'_succ, List.range'_zero, List.forIn_cons, List.forIn_nil]
  go_simp
  by_cases h1 : a = c <;> by_cases h2 : b = d <;> simp [h1, h2]
section
variable {w0 : World} {D : List Nat} {n q : Nat} {ops : Array Oper} {Q : Exit → Act → World → Prop} {g : Nat → Value} {F : List (Nat × Value)} {L : List Ch}
variable {rest : List Oper} {ty : TypeId} {pos : String} {af : Array Edge} {d : Nat}
theorem sx_eql2 {x y : Operand} {a b a' b' : Int} {t2 : TypeId} (hx : evn n (get g F) x = .agg #[.int .i64 a, .int .i64 b]) (hy : evn n (get g F) y = .agg #[.int .i64 a', .int .i64 b'])
    (h : SX Tryz.prog w0 D n q ops Q rest g ((d, .bool (decide (a = a' ∧ b = b'))) :: F) L) :
    SX Tryz.prog w0 D n q ops Q ({ dst := some d, op := .binOp .eql 42 x y t2, type := ty, pos := pos, after := af, guard := none } :: rest) g F L :=
  sx_run _ rfl rfl (fun w _ => by
    have h1 := run_eqGuard_agg (P := Tryz.prog) w .eql 42 x y #[.int .i64 a, .int .i64 b] #[.int .i64 a', .int .i64 b'] (by kernel_rfl)
    simp only [execOp, hx, hy, Sem.run_bind, h1, Result.andThen_ok, run_eql_struct, eq_pair]
    rfl) h
theorem sx_neq2 {x y : Operand} {a b a' b' : Int} {t2 : TypeId} (hx : evn n (get g F) x = .agg #[.int .i64 a, .int .i64 b]) (hy : evn n (get g F) y = .agg #[.int .i64 a', .int .i64 b'])
    (h : SX Tryz.prog w0 D n q ops Q rest g ((d, .bool (!decide (a = a' ∧ b = b'))) :: F) L) :
    SX Tryz.prog w0 D n q ops Q ({ dst := some d, op := .binOp .neq 42 x y t2, type := ty, pos := pos, after := af, guard := none } :: rest) g F L :=
  sx_run _ rfl rfl (fun w _ => by
    have h1 := run_eqGuard_agg (P := Tryz.prog) w .neq 42 x y #[.int .i64 a, .int .i64 b] #[.int .i64 a', .int .i64 b'] (by kernel_rfl)
    simp only [execOp, hx, hy, Sem.run_bind, h1, Result.andThen_ok, run_neq_struct, eq_pair]
    rfl) h
theorem sx_neq2B {x y : Operand} {a b a' b' : Bool} {t2 : TypeId} (hx : evn n (get g F) x = .agg #[.bool a, .bool b]) (hy : evn n (get g F) y = .agg #[.bool a', .bool b'])
    (h : SX Tryz.prog w0 D n q ops Q rest g ((d, .bool (!decide (a = a' ∧ b = b'))) :: F) L) :
    SX Tryz.prog w0 D n q ops Q ({ dst := some d, op := .binOp .neq 43 x y t2, type := ty, pos := pos, after := af, guard := none } :: rest) g F L :=
  sx_run _ rfl rfl (fun w _ => by
    have h1 := run_eqGuard_agg (P := Tryz.prog) w .neq 43 x y #[.bool a, .bool b] #[.bool a', .bool b'] (by kernel_rfl)
    simp only [execOp, hx, hy, Sem.run_bind, h1, Result.andThen_ok, run_neq_struct, eq_pairB]
    rfl) h
/-- A part, told by its cells. -/
theorem built2 (a b : Int) : Tryz.prog.built 42 [(0, .int .i64 a), (1, .int .i64 b)] = some #[.int .i64 a, .int .i64 b] := by kernel_rfl
theorem built0 : Tryz.prog.built 42 [] = some #[.int .i64 0, .int .i64 0] := by kernel_rfl
theorem built0B : Tryz.prog.built 43 [] = some #[.bool false, .bool false] := by kernel_rfl
theorem sx_build2 {x y : Operand} {a b : Int} (hx : evn n (get g F) x = .int .i64 a) (hy : evn n (get g F) y = .int .i64 b) (h : SX Tryz.prog w0 D n q ops Q rest g ((d, .agg #[.int .i64 a, .int .i64 b]) :: F) L) :
    SX Tryz.prog w0 D n q ops Q ({ dst := some d, op := .build 42 #[(0, x), (1, y)], type := ty, pos := pos, after := af, guard := none } :: rest) g F L :=
  sx_buildC (ps := [(0, x), (1, y)]) [.int .i64 a, .int .i64 b] (by
    show Tryz.prog.built 42 [(0, evn n (get g F) x), (1, evn n (get g F) y)] = _
    rw [hx, hy]; exact built2 a b) h
theorem sx_build0 (h : SX Tryz.prog w0 D n q ops Q rest g ((d, .agg #[.int .i64 0, .int .i64 0]) :: F) L) :
    SX Tryz.prog w0 D n q ops Q ({ dst := some d, op := .build 42 #[], type := ty, pos := pos, after := af, guard := none } :: rest) g F L :=
  sx_buildC (ps := []) [.int .i64 0, .int .i64 0] built0 h
theorem sx_build0B (h : SX Tryz.prog w0 D n q ops Q rest g ((d, .agg #[.bool false, .bool false]) :: F) L) :
    SX Tryz.prog w0 D n q ops Q ({ dst := some d, op := .build 43 #[], type := ty, pos := pos, after := af, guard := none } :: rest) g F L :=
  sx_buildC (ps := []) [.bool false, .bool false] built0B h
end
end Go.Proofs.YtghnjmjdaggopaaGreatDoor

set_option linter.unusedSimpArgs false
set_option linter.unusedVariables false
set_option maxRecDepth 100000
namespace Go.Proofs.YtghnjmjdaggopaaGreatDoor
open Go.RowKit Go.Port
attribute [local irreducible] Calls
set_option maxHeartbeats 4000000 in
theorem track_Life (k s : Int) (w : World) : Calls Tryz.prog 56 #[.int .i64 k, .int .i64 s] w (Ret w [] (isV (.int .i64 (lifeI k s)))) := by
  refine cx_enter (args := [.int .i64 k, .int .i64 s]) (F := [(0, .int .i64 k), (1, .int .i64 s)]) _ [] Tryz.func56 rfl Tryz.ntmps56 (by simp) rfl (Mem.refl _) (fun g => ?_)
  repeat' (first | ((with_reducible refine at_build ?_); refine sx_build2 rfl rfl ?_) | ((with_reducible refine at_bin ?_); refine sx_eql2 rfl rfl ?_) | ((with_reducible refine at_op ?_); first | ((with_reducible refine at_move ?_); refine sx_move _ vf ?_) | ((with_reducible refine at_assign ?_); refine sx_assign _ vf ?_)) | refine sx_nil ?_ | ((with_reducible refine at_code ?_); first | refine cx_seq ?_ | refine cx_region ?_ | refine cx_skip ?_ | refine cx_ret ?_ | refine cx_block ?_ | (refine cx_cond rfl (fun h => ?_) (fun h => ?_) <;> (try simp only [decide_eq_true_eq, decide_eq_false_iff_not, Bool.and_eq_true, Bool.or_eq_true, Bool.and_eq_false_iff, Bool.or_eq_false_iff, Bool.not_eq_true', Bool.not_eq_false', Bool.not_true, Bool.not_false, Bool.true_or, Bool.or_true, Bool.false_or, Bool.or_false, Bool.and_true, Bool.true_and, Bool.false_and, Bool.and_false, reduceCtorEq, Classical.not_not, beq_self_eq_true, bne_self_eq_false, not_true_eq_false, not_false_eq_true, or_false, false_or, or_true, true_or, and_true, true_and, and_false, false_and, or_self, and_self] at h) <;> (try (exfalso; omega)))) | ((with_reducible refine at_exit ?_); first | refine qx_then ?_ | refine qx_in_normal ?_ | refine qx_in_ret ?_ | refine qx_then_ret ?_))
  all_goals
    refine qx_ret1 (v := .int _ _) [] rfl rfl ⟨?_, rfl⟩ (fun w hm => hm.nil)
    congr 1
    unfold lifeI
    repeat' split
    all_goals first | rfl | (exfalso; omega)
set_option maxHeartbeats 4000000 in
theorem track_said (k s f d t sf st sq sa sx sy side : Int) (A0 : Option Addr) (len cap0 : Nat) (w : World) : Calls Tryz.prog 55 #[.agg #[.int .i64 k, .int .i64 s, .int .i64 f, .int .i64 d, .int .i64 t], .agg #[.int .i64 sf, .int .i64 st, .int .i64 sq, .int .i64 sa, .int .i64 sx, .int .i64 sy, .slice A0 len cap0], .int .i64 side] w (Ret w [] (isV (.bool (saidB ⟨k, s, f, d, t⟩ sf st side)))) := by
  refine cx_enter (args := [.agg #[.int .i64 k, .int .i64 s, .int .i64 f, .int .i64 d, .int .i64 t], .agg #[.int .i64 sf, .int .i64 st, .int .i64 sq, .int .i64 sa, .int .i64 sx, .int .i64 sy, .slice A0 len cap0], .int .i64 side]) (F := [(0, .agg #[.int .i64 k, .int .i64 s, .int .i64 f, .int .i64 d, .int .i64 t]), (1, .agg #[.int .i64 sf, .int .i64 st, .int .i64 sq, .int .i64 sa, .int .i64 sx, .int .i64 sy, .slice A0 len cap0]), (2, .int .i64 side)]) _ [] Tryz.func55 rfl Tryz.ntmps55 (by simp) rfl (Mem.refl _) (fun g => ?_)
  by_cases hs : side = 1
  · repeat' (first | ((with_reducible refine at_call 58 ?_); refine sx_callv (fun w hm => seg_Turn _ _ _ _ _ _) ?_ rfl) | ((with_reducible refine at_op ?_); first | ((with_reducible refine at_guard ?_); first | refine sx_want rfl rfl rfl ras ?_ | refine sx_skip rfl rfl rfl ras ?_ | (refine sx_andG rfl rfl rfl rfl rfl rfl ?_ (fun hb K hK => ?_); apply Exists.intro; refine And.intro (fun hb K hK => ?_) (fun g => ?_))) | ((with_reducible refine at_move ?_); refine sx_move _ vf ?_) | ((with_reducible refine at_bin ?_); refine sx_eql rfl rfl ?_) | ((with_reducible refine at_assign ?_); refine sx_assign _ vf ?_) | ((with_reducible refine at_load ?_); first | refine sx_load 0 rfl rfl rfl ?_ | refine sx_load 1 rfl rfl rfl ?_ | refine sx_loadW 1 rfl rfl rfl ?_) | ((with_reducible refine at_stores ?_); first | refine sx_stval _ vf ?_ | (refine sx_rot rot1 ?_; refine sx_storeW rfl rfl rfl rfl ?_)) | refine sx_fieldAddr rfl ?_ | (refine sx_box rfl ?_; intro b)) | refine sx_nil ?_ | ((with_reducible refine at_grp ?_); refine sx_grpC rfl ?_) | ((with_reducible refine at_aft ?_); first | refine sx_aftN rfl ?_ | refine sx_aftC rfl ?_) | ((with_reducible refine at_code ?_); first | refine cx_seq ?_ | refine cx_region ?_ | refine cx_skip ?_ | refine cx_ret ?_ | (refine cx_cond rfl (fun h => ?_) (fun h => ?_) <;> (try simp only [decide_eq_true_eq, decide_eq_false_iff_not, Bool.and_eq_true, Bool.or_eq_true, Bool.and_eq_false_iff, Bool.or_eq_false_iff, Bool.not_eq_true', Bool.not_eq_false', Bool.not_true, Bool.not_false, Bool.true_or, Bool.or_true, Bool.false_or, Bool.or_false, Bool.and_true, Bool.true_and, Bool.false_and, Bool.and_false, reduceCtorEq, Classical.not_not, beq_self_eq_true, bne_self_eq_false, not_true_eq_false, not_false_eq_true, or_false, false_or, or_true, true_or, and_true, true_and, and_false, false_and, or_self, and_self] at h) <;> (try (exfalso; omega)))) | ((with_reducible refine at_exit ?_); first | refine qx_then ?_ | ((with_reducible refine at_K ?_); first | exact hK _ _ _ rfl ⟨rfl, rfl⟩ rfl | exact hK _ _ _ rfl rfl ⟨rfl, rfl⟩ rfl) | refine qx_then_ret ?_))
    all_goals
      refine qx_ret1 (v := .bool _) [] rfl rfl ⟨?_, rfl⟩ (fun w hm => hm.nil)
      unfold saidB
      rw [if_pos hs]
      first | rw [if_pos h] | rw [if_neg h]
      rfl
  · repeat' (first | ((with_reducible refine at_op ?_); first | ((with_reducible refine at_guard ?_); first | refine sx_want rfl rfl rfl ras ?_ | refine sx_skip rfl rfl rfl ras ?_ | (refine sx_andG rfl rfl rfl rfl rfl rfl ?_ (fun hb K hK => ?_); apply Exists.intro; refine And.intro (fun hb K hK => ?_) (fun g => ?_))) | ((with_reducible refine at_move ?_); refine sx_move _ vf ?_) | ((with_reducible refine at_bin ?_); refine sx_eql rfl rfl ?_) | ((with_reducible refine at_assign ?_); refine sx_assign _ vf ?_) | ((with_reducible refine at_load ?_); first | refine sx_load 0 rfl rfl rfl ?_ | refine sx_load 1 rfl rfl rfl ?_) | refine sx_fieldAddr rfl ?_ | (refine sx_box rfl ?_; intro b)) | refine sx_nil ?_ | ((with_reducible refine at_grp ?_); refine sx_grpC rfl ?_) | ((with_reducible refine at_aft ?_); first | refine sx_aftN rfl ?_ | refine sx_aftC rfl ?_) | ((with_reducible refine at_code ?_); first | refine cx_seq ?_ | refine cx_region ?_ | refine cx_skip ?_ | refine cx_ret ?_ | (refine cx_cond rfl (fun h => ?_) (fun h => ?_) <;> (try simp only [decide_eq_true_eq, decide_eq_false_iff_not, Bool.and_eq_true, Bool.or_eq_true, Bool.and_eq_false_iff, Bool.or_eq_false_iff, Bool.not_eq_true', Bool.not_eq_false', Bool.not_true, Bool.not_false, Bool.true_or, Bool.or_true, Bool.false_or, Bool.or_false, Bool.and_true, Bool.true_and, Bool.false_and, Bool.and_false, reduceCtorEq, Classical.not_not, beq_self_eq_true, bne_self_eq_false, not_true_eq_false, not_false_eq_true, or_false, false_or, or_true, true_or, and_true, true_and, and_false, false_and, or_self, and_self] at h) <;> (try (exfalso; omega)))) | ((with_reducible refine at_exit ?_); first | refine qx_then ?_ | ((with_reducible refine at_K ?_); first | exact hK _ _ _ rfl ⟨rfl, rfl⟩ rfl | exact hK _ _ _ rfl rfl ⟨rfl, rfl⟩ rfl) | refine qx_then_ret ?_))
    all_goals
      refine qx_ret1 (v := .bool _) [] rfl rfl ⟨?_, rfl⟩ (fun w hm => hm.nil)
      unfold saidB
      rw [if_neg hs]
      first | rw [if_pos h] | rw [if_neg h]
theorem and_low {a : Int} (h : 0 ≤ a) : andI a 4294967295 = a % 4294967296 := by
  unfold andI
  have : a.toNat &&& (4294967295 : Int).toNat = a.toNat % 4294967296 := Nat.and_two_pow_sub_one_eq_mod a.toNat 32
  rw [this]; omega
set_option maxHeartbeats 4000000 in
theorem track_end (sf st sq sa sx sy : Int) (A0 : Option Addr) (len cap0 : Nat) (w : World) (hq : 0 ≤ sq ∧ sq ≤ 4294967295) (hy : 0 ≤ sy ∧ sy ≤ 15) (hl : len ≤ 4000) : Calls Tryz.prog 57 #[.agg #[.int .i64 sf, .int .i64 st, .int .i64 sq, .int .i64 sa, .int .i64 sx, .int .i64 sy, .slice A0 len cap0]] w (Ret w [] (isV (.int .i64 (endI sq sy len)))) := by
  refine cx_enter (args := [.agg #[.int .i64 sf, .int .i64 st, .int .i64 sq, .int .i64 sa, .int .i64 sx, .int .i64 sy, .slice A0 len cap0]]) (F := [(0, .agg #[.int .i64 sf, .int .i64 st, .int .i64 sq, .int .i64 sa, .int .i64 sx, .int .i64 sy, .slice A0 len cap0])]) _ [] Tryz.func57 rfl Tryz.ntmps57 (by simp) rfl (Mem.refl _) (fun g => ?_)
  repeat' (first | ((with_reducible refine at_op ?_); first | ((with_reducible refine at_move ?_); refine sx_move _ vf ?_) | ((with_reducible refine at_bin ?_); first | refine sx_neq rfl rfl ?_ | refine sx_add rfl rfl bnd ?_ | refine sx_andI rfl rfl bnd ?_) | ((with_reducible refine at_assign ?_); refine sx_assign _ vf ?_) | ((with_reducible refine at_load ?_); refine sx_load 0 rfl rfl rfl ?_) | refine sx_fieldAddr rfl ?_ | refine sx_len rfl ?_ | (refine sx_box rfl ?_; intro b)) | refine sx_nil ?_ | ((with_reducible refine at_code ?_); first | refine cx_seq ?_ | refine cx_region ?_ | refine cx_skip ?_ | refine cx_ret ?_ | (refine cx_cond rfl (fun h => ?_) (fun h => ?_) <;> (try simp only [decide_eq_true_eq, decide_eq_false_iff_not, Bool.and_eq_true, Bool.or_eq_true, Bool.and_eq_false_iff, Bool.or_eq_false_iff, Bool.not_eq_true', Bool.not_eq_false', Bool.not_true, Bool.not_false, Bool.true_or, Bool.or_true, Bool.false_or, Bool.or_false, Bool.and_true, Bool.true_and, Bool.false_and, Bool.and_false, reduceCtorEq, Classical.not_not, beq_self_eq_true, bne_self_eq_false, not_true_eq_false, not_false_eq_true, or_false, false_or, or_true, true_or, and_true, true_and, and_false, false_and, or_self, and_self] at h) <;> (try (exfalso; omega)))) | ((with_reducible refine at_exit ?_); refine qx_then ?_))
  all_goals
    refine qx_ret1 (v := .int _ _) [] rfl rfl ⟨?_, rfl⟩ (fun w hm => hm.nil)
    congr 1
    unfold endI hasI
    rw [and_low (by omega)]
    simp [*]
end Go.Proofs.YtghnjmjdaggopaaGreatDoor

set_option linter.unusedSimpArgs false
set_option linter.unusedVariables false
namespace Go.Proofs.YtghnjmjdaggopaaGreatDoor
open Go.RowKit Go.Port
attribute [local irreducible] Calls
theorem seg_bd {kind f t q a x y src dst : Int} {n : Nat} (h : segE kind f t q a x y src dst n = 0) : (1 ≤ kind ∧ kind ≤ 3) ∧ (0 ≤ src ∧ src ≤ 4294967295) ∧ (0 ≤ dst ∧ dst ≤ 4294967295) ∧ (0 ≤ f ∧ f ≤ 65535) ∧ (0 ≤ t ∧ t ≤ 65535) ∧ (0 ≤ x ∧ x ≤ 65535) ∧ (0 ≤ q ∧ q ≤ 4294967295) ∧ (0 ≤ a ∧ a ≤ 4294967295) ∧ (0 ≤ y ∧ y ≤ 15) ∧ n + sgSize kind ≤ 4000 ∧
    (kind = 3 → f ≤ 1 ∧ q ≤ 65535) ∧ (kind ≠ 1 → a = 0 ∧ x = 0 ∧ y = 0) ∧ (kind = 2 → q = 0) := by
  unfold segE at h
  split at h
  · cases h
  split at h
  · cases h
  split at h
  · cases h
  split at h
  · cases h
  rename_i h1 h2 h3 h4
  unfold segP1 at h1
  unfold segP2 at h2
  unfold segP3 at h3
  omega
end Go.Proofs.YtghnjmjdaggopaaGreatDoor

set_option linter.unusedSimpArgs false
set_option linter.unusedVariables false
namespace Go.Proofs.YtghnjmjdaggopaaGreatDoor
open Go.RowKit Go.Port
attribute [local irreducible] Calls
theorem qx_retD2 {P : Program} {w0 : World} {D : List Nat} {n : Nat} {g : Nat → Value} {F : List (Nat × Value)} {L : List Ch} {fn : Func} {R : Value → List Ch → Prop} {t u b : Nat} {T sz : Nat} [TyT P T sz true] {x : Value} {cs : List Value} {T' : TypeId} {fr : Nat × Nat} (i : Nat) (L' : List Ch) (h : fn.results = #[.cell t T, .tmp u])
    (ht : evn n (get g F) (.tmp t) = .pointer (some ⟨b, 0, none⟩)) (hL : L[i]? = some [(b, .cells cs.toArray T' fr)]) (hl : cs.length = sz) (hx : evn n (get g F) (.tmp u) = x) (hR : R (.tuple #[.agg cs.toArray, x]) L') (hM : ∀ w, Mem w0 w D L → Mem w0 w D L') :
    QX w0 D n (bodyPost P fn (Ret w0 D R)) .ret g F L :=
  .mk fun w hm => by
    have h1 : (Fr n (get g F)).tmps.getD t undef = .pointer (some ⟨b, 0, none⟩) := by rw [← ht, ← Fr.evn]; rfl
    have h2 : (Fr n (get g F)).tmps.getD u undef = x := by rw [← hx, ← Fr.evn]; rfl
    have h4 := loadVar_agg (P := P) (T := T) (w := w) (b := b) (off := 0) hl (fun j v hj => cell_of_cells (hm.at i hL (b, .cells cs.toArray T' fr) (by simp)) (by rw [Nat.zero_add]; exact hj))
    refine bodyPost_ret (v := .tuple #[.agg cs.toArray, x]) ?_ Fr.defers ⟨_, L', rfl, hM w hm, hR⟩
    generalize (Fr n (get g F)).tmps = tm at h1 h2
    simp [results, h, h1, h2, h4, asAddr, -Array.getD_eq_getD_getElem?]
def StepR (r : Int × Fl) (v : Value) (L : List Ch) : Prop := v = .tuple #[.agg r.2.row.toArray, er r.1] ∧ L = []
theorem lifeI_bd (k s : Int) : 0 ≤ lifeI k s ∧ lifeI k s ≤ 300 := by unfold lifeI; repeat' split
                                                                     all_goals omega
end Go.Proofs.YtghnjmjdaggopaaGreatDoor

set_option linter.unusedSimpArgs false
set_option linter.unusedVariables false
namespace Go.Proofs.YtghnjmjdaggopaaGreatDoor
open Go.RowKit Go.Port
theorem eq_key9 (k s f d t : Int) (w : World) : (Op.equalIn 9999 37 (.agg #[.int .i64 k, .int .i64 s, .int .i64 f, .int .i64 d, .int .i64 t]) (.agg #[.int .i64 k, .int .i64 s, .int .i64 f, .int .i64 d, .int .i64 t])).run Tryz.prog w = .ok true w := by
  have u3 := Tryz.underlying3
  have a3 := Tryz.isAgg3
  have z3 := Tryz.sizeOf3
  have hS : Tryz.prog.underlying 37 = some (.struct (Tryz.prog.fieldsOf 37)) := by kernel_rfl
  rw [show (9999 : Nat) = 9998 + 1 from rfl, run_equalIn_agg w 9998 37 _ _ hS (by kernel_rfl)]
  simp only [Program.fieldsOf, Tryz.underlying37]
  go_simp
theorem eq_pair9 (a b : Int) (w : World) : (Op.equalIn 9999 42 (.agg #[.int .i64 a, .int .i64 b]) (.agg #[.int .i64 a, .int .i64 b])).run Tryz.prog w = .ok true w := by
  have u3 := Tryz.underlying3
  have a3 := Tryz.isAgg3
  have z3 := Tryz.sizeOf3
  rw [show (9999 : Nat) = 9998 + 1 from rfl, Op.equalIn]
  simp only [Sem.run_bind, run_underlying Tryz.underlying42, Result.andThen_ok]
  simp only [Std.Legacy.Range.forIn_eq_forIn_range', Std.Legacy.Range.size, Nat.sub_zero, Nat.add_sub_cancel, Nat.div_one, List.range'_succ, List.range'_zero, List.forIn_cons, List.forIn_nil]
  go_simp
theorem eq_pairB9 (a b : Bool) (w : World) : (Op.equalIn 9999 43 (.agg #[.bool a, .bool b]) (.agg #[.bool a, .bool b])).run Tryz.prog w = .ok true w := by
  have u3 := Tryz.underlying4
  have a3 := Tryz.isAgg4
  have z3 := Tryz.sizeOf4
  rw [show (9999 : Nat) = 9998 + 1 from rfl, Op.equalIn]
  simp only [Sem.run_bind, run_underlying Tryz.underlying43, Result.andThen_ok]
  simp only [Std.Legacy.Range.forIn_eq_forIn_range', Std.Legacy.Range.size, Nat.sub_zero, Nat.add_sub_cancel, Nat.div_one, List.range'_succ, List.range'_zero, List.forIn_cons, List.forIn_nil]
  go_simp
set_option maxHeartbeats 4000000 in
theorem eq_flowSame (x : Fl) (w : World) : (Op.equalIn 10000 45 (.agg x.row.toArray) (.agg x.row.toArray)).run Tryz.prog w = .ok true w := by
  obtain ⟨k, s, f, d, t, st, un, sp, h0, h1, w0, w1, d0, d1, nm⟩ := x
  have u3 := Tryz.underlying3
  have a3 := Tryz.isAgg3
  have z3 := Tryz.sizeOf3
  have ak := Tryz.isAgg37
  have zk := Tryz.sizeOf37
  have a2 := Tryz.isAgg42
  have z2 := Tryz.sizeOf42
  have ab := Tryz.isAgg43
  have zb := Tryz.sizeOf43
  have hS : Tryz.prog.underlying 45 = some (.struct (Tryz.prog.fieldsOf 45)) := by kernel_rfl
  rw [show (10000 : Nat) = 9999 + 1 from rfl, run_equalIn_agg w 9999 45 _ _ hS (by kernel_rfl)]
  simp only [Program.fieldsOf, Tryz.underlying45]
  have e1 := eq_key9 k s f d t w
  have e2 := eq_pair9 h0 h1 w
  have e3 := eq_pair9 w0 w1 w
  have e4 := eq_pairB9 d0 d1 w
  dsimp only [Fl.row]
  go_simp
section
variable {w0 : World} {D : List Nat} {n q : Nat} {ops : Array Oper} {Q : Exit → Act → World → Prop} {g : Nat → Value} {F : List (Nat × Value)} {L : List Ch}
variable {rest : List Oper} {ty : TypeId} {pos : String} {af : Array Edge} {d : Nat}
theorem sx_eqlFS (z : Fl) {x y : Operand} {t2 : TypeId} (hx : evn n (get g F) x = .agg z.row.toArray) (hy : evn n (get g F) y = .agg z.row.toArray) (h : SX Tryz.prog w0 D n q ops Q rest g ((d, .bool true) :: F) L) :
    SX Tryz.prog w0 D n q ops Q ({ dst := some d, op := .binOp .eql 45 x y t2, type := ty, pos := pos, after := af, guard := none } :: rest) g F L :=
  sx_run _ rfl rfl (fun w _ => by
    have h1 := run_eqGuard_agg (P := Tryz.prog) w .eql 45 x y z.row.toArray z.row.toArray (by kernel_rfl)
    simp only [execOp, hx, hy, Sem.run_bind, h1, Result.andThen_ok, run_eql_struct, eq_flowSame]
    rfl) h
theorem sx_neqFS (z : Fl) {x y : Operand} {t2 : TypeId} (hx : evn n (get g F) x = .agg z.row.toArray) (hy : evn n (get g F) y = .agg z.row.toArray) (h : SX Tryz.prog w0 D n q ops Q rest g ((d, .bool false) :: F) L) :
    SX Tryz.prog w0 D n q ops Q ({ dst := some d, op := .binOp .neq 45 x y t2, type := ty, pos := pos, after := af, guard := none } :: rest) g F L :=
  sx_run _ rfl rfl (fun w _ => by
    have h1 := run_eqGuard_agg (P := Tryz.prog) w .neq 45 x y z.row.toArray z.row.toArray (by kernel_rfl)
    simp only [execOp, hx, hy, Sem.run_bind, h1, Result.andThen_ok, run_neq_struct, eq_flowSame]
    rfl) h
end
end Go.Proofs.YtghnjmjdaggopaaGreatDoor
