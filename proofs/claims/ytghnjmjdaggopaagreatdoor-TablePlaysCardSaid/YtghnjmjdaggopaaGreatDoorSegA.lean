/- Contracts of seg: what is wrong with a segment, how long its head is. -/
import Derived.Test.YtghnjmjdaggopaaGreatDoorEngB
import Derived.Test.YtghnjmjdaggopaaGreatDoorFuB
import Derived.Test.YtghnjmjdaggopaaGreatDoorFuA
set_option linter.unusedSimpArgs false
set_option linter.unusedVariables false
set_option maxRecDepth 100000
namespace Go.Proofs.YtghnjmjdaggopaaGreatDoor
open Go.RowKit Go.Port
attribute [local irreducible] Calls
set_option maxHeartbeats 1000000 in
theorem seg_port (n : Int) (w : World) : Calls Tryz.prog 78 #[.int .i64 n] w (Ret w [] (isV (.bool (decide (0 ≤ n) && decide (n ≤ 65535))))) := by
  refine cx_enter (args := [.int .i64 n]) (F := [(0, .int .i64 n)]) _ [] Tryz.func78 rfl Tryz.ntmps78 (by simp) rfl (Mem.refl _) (fun g => ?_)
  repeat' (first | ((with_reducible refine at_op ?_); first | ((with_reducible refine at_guard ?_); first | refine sx_want rfl rfl rfl ras ?_ | refine sx_skip rfl rfl rfl ras ?_ | (refine sx_andG rfl rfl rfl rfl rfl rfl ?_ (fun hb K hK => ?_); apply Exists.intro; refine And.intro (fun hb K hK => ?_) (fun g => ?_))) | ((with_reducible refine at_move ?_); refine sx_move _ vf ?_) | ((with_reducible refine at_bin ?_); first | refine sx_leq rfl rfl ?_ | refine sx_geq rfl rfl ?_) | ((with_reducible refine at_assign ?_); refine sx_assign _ vf ?_)) | refine sx_nil ?_ | ((with_reducible refine at_grp ?_); refine sx_grpC rfl ?_) | ((with_reducible refine at_aft ?_); first | refine sx_aftN rfl ?_ | refine sx_aftC rfl ?_) | ((with_reducible refine at_code ?_); first | refine cx_seq ?_ | refine cx_region ?_ | refine cx_ret ?_) | ((with_reducible refine at_exit ?_); first | refine qx_then ?_ | ((with_reducible refine at_K ?_); first | exact hK _ _ _ rfl ⟨rfl, rfl⟩ rfl | exact hK _ _ _ rfl rfl ⟨rfl, rfl⟩ rfl)))
  exact qx_ret1 (v := .bool _) [] rfl rfl ⟨rfl, rfl⟩ (fun w hm => hm.nil)
set_option maxHeartbeats 1000000 in
theorem seg_size (kind : Int) (w : World) (hk : 1 ≤ kind ∧ kind ≤ 3) : Calls Tryz.prog 79 #[.int .i64 kind] w (Ret w [] (isV (.int .i64 (sgSize kind)))) := by
  refine cx_enter (args := [.int .i64 kind]) (F := [(0, .int .i64 kind)]) _ [] Tryz.func79 rfl Tryz.ntmps79 (by simp) rfl (Mem.refl _) (fun g => ?_)
  rcases (by omega : kind = 1 ∨ kind = 2 ∨ kind = 3) with rfl | rfl | rfl
  all_goals
    repeat' (first | (refine sx_buildC [.int .i64 0, .int .i64 17, .int .i64 6, .int .i64 8] (by kernel_rfl) ?_) | (refine sx_indexA rfl rfl (by omega) rfl ?_) | ((with_reducible refine at_op ?_); first | ((with_reducible refine at_move ?_); refine sx_move _ vf ?_) | ((with_reducible refine at_assign ?_); refine sx_assign _ vf ?_)) | refine sx_nil ?_ | ((with_reducible refine at_code ?_); first | refine cx_seq ?_ | refine cx_region ?_ | refine cx_ret ?_) | ((with_reducible refine at_exit ?_); refine qx_then ?_))
    exact qx_ret1 (v := .int _ _) [] rfl rfl ⟨rfl, rfl⟩ (fun w hm => hm.nil)
/-- A segment's cells. -/
abbrev srow (f t q a x y : Int) (A : Option Addr) (len cap : Nat) : List Value := [.int .i64 f, .int .i64 t, .int .i64 q, .int .i64 a, .int .i64 x, .int .i64 y, .slice A len cap]
def prt (n : Int) : Prop := 0 ≤ n ∧ n ≤ 65535
def adr (n : Int) : Prop := 0 ≤ n ∧ n ≤ 4294967295
def segP1 (kind f t x src dst : Int) : Prop := kind < 1 ∨ 3 < kind ∨ ¬ (0 ≤ src ∧ src ≤ 4294967295) ∨ ¬ (0 ≤ dst ∧ dst ≤ 4294967295) ∨ ¬ (0 ≤ f ∧ f ≤ 65535) ∨ ¬ (0 ≤ t ∧ t ≤ 65535) ∨ ¬ (0 ≤ x ∧ x ≤ 65535)
def segP2 (kind f q a y : Int) : Prop := (kind = 3 ∧ 1 < f) ∨ ¬ (0 ≤ q ∧ q ≤ 4294967295) ∨ (kind = 3 ∧ ¬ (0 ≤ q ∧ q ≤ 65535)) ∨ ¬ (0 ≤ a ∧ a ≤ 4294967295) ∨ y < 0 ∨ 15 < y
def segP3 (kind q a x y : Int) : Prop := (kind ≠ 1 ∧ (a ≠ 0 ∨ x ≠ 0 ∨ y ≠ 0)) ∨ (kind = 2 ∧ q ≠ 0)
open Classical in
noncomputable def segE (kind f t q a x y src dst : Int) (n : Nat) : Int := if segP1 kind f t x src dst then 1 else if segP2 kind f q a y then 1 else if segP3 kind q a x y then 3 else if 4000 < n + sgSize kind then 4 else 0
theorem sgSize_bd (kind : Int) : 6 ≤ sgSize kind ∧ sgSize kind ≤ 17 := by unfold sgSize; split <;> (try split) <;> omega
set_option maxHeartbeats 8000000 in
theorem seg_Check (kind f t q a x y src dst : Int) (A0 : Option Addr) (len cap0 : Nat) (w : World) :
    Calls Tryz.prog 54 #[.int .i64 kind, .agg #[.int .i64 f, .int .i64 t, .int .i64 q, .int .i64 a, .int .i64 x, .int .i64 y, .slice A0 len cap0], .int .i64 src, .int .i64 dst] w (Ret w [] (isV (er (segE kind f t q a x y src dst len)))) := by
  have hsz := sgSize_bd kind
  refine cx_enter (args := [.int .i64 kind, .agg #[.int .i64 f, .int .i64 t, .int .i64 q, .int .i64 a, .int .i64 x, .int .i64 y, .slice A0 len cap0], .int .i64 src, .int .i64 dst]) (F := [(0, .int .i64 kind), (1, .agg #[.int .i64 f, .int .i64 t, .int .i64 q, .int .i64 a, .int .i64 x, .int .i64 y, .slice A0 len cap0]), (2, .int .i64 src), (3, .int .i64 dst)]) _ [] Tryz.func54 rfl Tryz.ntmps54 (by simp) rfl (Mem.refl _) (fun g => ?_)
  repeat' (first | ((with_reducible refine at_call 65 ?_); refine sx_callv (fun w hm => addr_Ok _ _) ?_ rfl) | ((with_reducible refine at_call 78 ?_); refine sx_callv (fun w hm => seg_port _ _) ?_ rfl) | ((with_reducible refine at_call 79 ?_); refine sx_callv (fun w hm => seg_size _ _ (by omega)) ?_ rfl) | ((with_reducible refine at_op ?_); first | ((with_reducible refine at_guard ?_); first | refine sx_want rfl rfl rfl ras ?_ | refine sx_skip rfl rfl rfl ras ?_ | refine sx_skipu rfl rfl rfl ?_ | (refine sx_orG rfl rfl rfl rfl rfl rfl ?_ (fun hb K hK => ?_); apply Exists.intro; refine And.intro (fun hb K hK => ?_) (fun g => ?_)) | (refine sx_andG rfl rfl rfl rfl rfl rfl ?_ (fun hb K hK => ?_); apply Exists.intro; refine And.intro (fun hb K hK => ?_) (fun g => ?_))) | ((with_reducible refine at_move ?_); refine sx_move _ vf ?_) | ((with_reducible refine at_bin ?_); first | refine sx_lss rfl rfl ?_ | refine sx_gtr rfl rfl ?_ | refine sx_eql rfl rfl ?_ | refine sx_neq rfl rfl ?_ | refine sx_sub rfl rfl bnd ?_) | ((with_reducible refine at_assign ?_); refine sx_assign _ vf ?_) | ((with_reducible refine at_load ?_); refine sx_load 0 rfl rfl rfl ?_) | refine sx_fieldAddr rfl ?_ | refine sx_not rfl ?_ | ((with_reducible refine at_iface ?_); refine sx_iface _ vf ?_) | refine sx_len rfl ?_ | (refine sx_box rfl ?_; intro b)) | refine sx_nil ?_ | ((with_reducible refine at_grp ?_); refine sx_grpC rfl ?_) | ((with_reducible refine at_aft ?_); first | refine sx_aftN rfl ?_ | refine sx_aftC rfl ?_) | ((with_reducible refine at_code ?_); first | refine cx_seq ?_ | refine cx_region ?_ | refine cx_skip ?_ | refine cx_ret ?_ | refine cx_block ?_ | (refine cx_cond rfl (fun h => ?_) (fun h => ?_) <;> (try simp only [decide_eq_true_eq, decide_eq_false_iff_not, Bool.and_eq_true, Bool.or_eq_true, Bool.and_eq_false_iff, Bool.or_eq_false_iff, Bool.not_eq_true', Bool.not_eq_false', Bool.not_true, Bool.not_false, Bool.true_or, Bool.or_true, Bool.false_or, Bool.or_false, Bool.and_true, Bool.true_and, Bool.false_and, Bool.and_false, reduceCtorEq, Classical.not_not, beq_self_eq_true, bne_self_eq_false, not_true_eq_false, not_false_eq_true, or_false, false_or, or_true, true_or, and_true, true_and, and_false, false_and, or_self, and_self] at h) <;> (try (exfalso; omega)))) | ((with_reducible refine at_exit ?_); first | refine qx_then ?_ | ((with_reducible refine at_K ?_); first | exact hK _ _ _ rfl ⟨rfl, rfl⟩ rfl | exact hK _ _ _ rfl rfl ⟨rfl, rfl⟩ rfl) | refine qx_in_normal ?_ | refine qx_in_ret ?_ | refine qx_then_ret ?_))
  · exact qx_ret1 (v := .iface _ _) [] rfl rfl ⟨er_is (by unfold segE; rw [if_pos (by unfold segP1; omega)]) (by decide), rfl⟩ (fun w hm => hm.nil)
  · exact qx_ret1 (v := .iface _ _) [] rfl rfl ⟨er_is (by unfold segE; rw [if_neg (by unfold segP1; omega), if_pos (by unfold segP2; omega)]) (by decide), rfl⟩ (fun w hm => hm.nil)
  · exact qx_ret1 (v := .iface _ _) [] rfl rfl ⟨er_is (by unfold segE; rw [if_neg (by unfold segP1; omega), if_neg (by unfold segP2; omega), if_pos (by unfold segP3; omega)]) (by decide), rfl⟩ (fun w hm => hm.nil)
  · exact qx_ret1 (v := .iface _ _) [] rfl rfl ⟨er_is (by unfold segE; rw [if_neg (by unfold segP1; omega), if_neg (by unfold segP2; omega), if_neg (by unfold segP3; omega), if_pos (by omega)]) (by decide), rfl⟩ (fun w hm => hm.nil)
  · exact qx_ret1 (v := .nilIface) [] rfl rfl ⟨er_ok (by unfold segE; rw [if_neg (by unfold segP1; omega), if_neg (by unfold segP2; omega), if_neg (by unfold segP3; omega), if_neg (by omega)]), rfl⟩ (fun w hm => hm.nil)
end Go.Proofs.YtghnjmjdaggopaaGreatDoor
