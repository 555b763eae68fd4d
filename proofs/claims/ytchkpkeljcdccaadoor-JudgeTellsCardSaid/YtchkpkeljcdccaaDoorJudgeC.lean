/- judge.Check: what is wrong with a key and a way. -/
import Derived.Test.YtchkpkeljcdccaaDoorAddrB
set_option linter.unusedSimpArgs false
set_option linter.unusedVariables false
set_option maxRecDepth 100000
namespace Go.Port
/-- A key and a way may be. -/
def jkOk (k s f d t w : Int) : Prop := (0 ≤ k ∧ k ≤ 15) ∧ (0 ≤ s ∧ s ≤ 4294967295) ∧ (0 ≤ d ∧ d ≤ 4294967295) ∧ (0 ≤ f ∧ f ≤ 65535) ∧ (0 ≤ t ∧ t ≤ 65535) ∧ (w = 1 ∨ w = 2)
instance {k s f d t w : Int} : Decidable (jkOk k s f d t w) := by unfold jkOk; infer_instance
def jkE (k s f d t w : Int) : Int := if jkOk k s f d t w then 0 else 1
end Go.Port
namespace Go.Proofs.YtchkpkeljcdccaaDoor
open Go.RowKit Go.Port
attribute [local irreducible] Calls
set_option maxHeartbeats 8000000 in
theorem judge_Check (k s f d t wy : Int) (w : World) : Calls Tryd.prog 67 #[.agg #[.int .i64 k, .int .i64 s, .int .i64 f, .int .i64 d, .int .i64 t], .int .i64 wy] w (Ret w [] (isV (er (jkE k s f d t wy)))) := by
  refine cx_enter (args := [.agg #[.int .i64 k, .int .i64 s, .int .i64 f, .int .i64 d, .int .i64 t], .int .i64 wy]) (F := [(0, .agg #[.int .i64 k, .int .i64 s, .int .i64 f, .int .i64 d, .int .i64 t]), (1, .int .i64 wy)]) _ [] Tryd.func67 rfl Tryd.ntmps67 (by simp) rfl (Mem.refl _) (fun g => ?_)
  have h1 := fun w => addr_Ok s w
  have h2 := fun w => addr_Ok d w
  by_cases hk : jkOk k s f d t wy
  · have e : jkE k s f d t wy = 0 := if_pos hk
    unfold jkOk at hk
    obtain ⟨a1, a2, a3, a4, a5, a6⟩ := hk
    rw [decide_eq_true a2] at h1
    rw [decide_eq_true a3] at h2
    have g1 : decide (k < 0) = false := decide_eq_false (by omega)
    have g2 : decide (15 < k) = false := decide_eq_false (by omega)
    have g3 : decide (f < 0) = false := decide_eq_false (by omega)
    have g4 : decide (65535 < f) = false := decide_eq_false (by omega)
    have g5 : decide (t < 0) = false := decide_eq_false (by omega)
    have g6 : decide (65535 < t) = false := decide_eq_false (by omega)
    have hw : (decide (¬ wy = 1) = false) ∨ (decide (¬ wy = 1) = true ∧ wy = 2) := by
      rcases a6 with h | h
      · exact .inl (by simp [h])
      · exact .inr ⟨by simp [h], h⟩
    clear a6
    rcases hw with w1 | ⟨w1, w2⟩
    all_goals
      repeat' (first | ((with_reducible refine at_call 46 ?_); refine sx_callv (fun w hm => h1 _) ?_ rfl) | ((with_reducible refine at_call 46 ?_); refine sx_callv (fun w hm => h2 _) ?_ rfl) | ((with_reducible refine at_any ?_); first | (refine ax_pure (o := ⟨_, _, _, _, _, _⟩) rfl dk rfl rfl rfl rfl ?_; apply Exists.intro; refine And.intro (fun w => ?_) ?_) | refine ax_skip (o := ⟨_, _, _, _, _, _⟩) dk rfl rfl rfl rfl rfl rfl ras ?_ | refine ax_lone (o := ⟨_, _, _, _, _, _⟩) dk rfl ?_ | refine ax_over dk ?_) | ((with_reducible refine at_op ?_); first | ((with_reducible refine at_guard ?_); first | refine sx_want rfl rfl rfl ras ?_ | refine sx_skip rfl rfl rfl ras ?_ | refine sx_skipu rfl rfl rfl ?_ | refine sx_skip' rfl rfl rfl ras ?_ | refine sx_lit true rfl rfl rfl dec ?_ | refine sx_lit false rfl rfl rfl dec ?_ | (refine sx_orG rfl rfl rfl rfl rfl rfl ?_ (fun hb K hK => ?_); apply Exists.intro; refine And.intro (fun hb K hK => ?_) (fun g => ?_)) | (refine sx_andG rfl rfl rfl rfl rfl rfl ?_ (fun hb K hK => ?_); apply Exists.intro; refine And.intro (fun hb K hK => ?_) (fun g => ?_))) | ((with_reducible refine at_move ?_); first | refine sx_move _ vf ?_) | ((with_reducible refine at_bin ?_); first | refine sx_lss rfl rfl ?_ | refine sx_leq rfl rfl ?_ | refine sx_gtr rfl rfl ?_ | refine sx_geq rfl rfl ?_ | refine sx_eql rfl rfl ?_ | refine sx_neq rfl rfl ?_ | refine sx_add rfl rfl bnd ?_ | refine sx_sub rfl rfl bnd ?_ | refine sx_mul rfl rfl bnd ?_ | refine sx_quo rfl rfl bnd ?_ | refine sx_rem rfl rfl bnd ?_ | refine sx_subU8 rfl rfl bnd ?_ | refine sx_shr rfl rfl bnd ?_ | refine sx_shl8 rfl rfl bnd ?_ | refine sx_or8 rfl rfl bnd ?_ | refine sx_or15 rfl rfl bnd ?_ | refine sx_not15 rfl rfl bnd ?_ | refine sx_andI rfl rfl bnd ?_ | refine sx_remT rfl rfl bnd ?_ | refine sx_err_ne rfl ?_ | refine sx_err_eq rfl ?_ | refine sx_errn_ne rfl ?_ | refine sx_errn_eq rfl ?_ | refine sx_pure (v := .bool _) rfl ?_ | refine sx_pure (v := .int _ _) rfl ?_) | ((with_reducible refine at_assign ?_); first | refine sx_assign _ vf ?_) | ((with_reducible refine at_load ?_); first | refine sx_loadE rfl pc gv ?_ | refine sx_loadWE rfl pc gl ?_ | (apply sx_loadB rfl; assumption; rfl) | (apply sx_loadBW rfl; assumption; rfl)) | refine sx_nilCheck rfl ?_ | refine sx_fieldAddr rfl ?_ | refine sx_not rfl ?_ | refine sx_neg rfl bnd ?_ | ((with_reducible refine at_build ?_); first | refine sx_build _ blds ?_) | refine sx_extract rfl rfl ?_ | ((with_reducible refine at_pick ?_); first | refine sx_pickT (.int _ _) rfl dec rfl ?_ | refine sx_pickT (.bool _) rfl dec rfl ?_ | refine sx_pickF (.int _ _) rfl dec rfl ?_ | refine sx_pickF (.bool _) rfl dec rfl ?_) | ((with_reducible refine at_iface ?_); first | refine sx_iface _ vf ?_) | refine sx_index rfl rfl bnd ?_ | ((with_reducible refine at_ixaddr ?_); first | refine sx_place _ rfl rfl bnd plc ?_) | refine sx_len rfl ?_ | refine sx_min rfl rfl ?_ | refine sx_max rfl rfl ?_ | refine sx_field rfl rfl ?_ | (refine sx_box rfl ?_; intro b) | (refine sx_box1 rfl rfl ?_; intro b) | (refine sx_alloc ?_; intro b) | (refine sx_alloc1 rfl ?_; intro b) | refine sx_pure vfs ?_) | refine sx_nil ?_ | ((with_reducible refine at_grp ?_); first | refine sx_grpN rfl ?_ | refine sx_grpC rfl ?_) | ((with_reducible refine at_aft ?_); first | refine sx_aftN rfl ?_ | refine sx_aftC rfl ?_) | ((with_reducible refine at_code ?_); first | refine cx_seq ?_ | refine cx_quiet rfl dk dk ?_ | refine cx_any dk ?_ | refine cx_region ?_ | refine cx_skip ?_ | refine cx_ret ?_ | refine cx_exit ?_ | refine cx_block ?_ | refine cx_true rfl ?_ | refine cx_false rfl ?_ | (refine cx_cond rfl (fun h => ?_) (fun h => ?_) <;> (try simp only [decide_eq_true_eq, decide_eq_false_iff_not, Bool.and_eq_true, Bool.or_eq_true, Bool.and_eq_false_iff, Bool.or_eq_false_iff, Bool.not_eq_true', Bool.not_eq_false', Bool.not_true, Bool.not_false, Bool.true_or, Bool.or_true, Bool.false_or, Bool.or_false, Bool.and_true, Bool.true_and, Bool.false_and, Bool.and_false, reduceCtorEq, Classical.not_not, beq_self_eq_true, bne_self_eq_false, not_true_eq_false, not_false_eq_true, or_false, false_or, or_true, true_or, and_true, true_and, and_false, false_and, or_self, and_self] at h) <;> (try (exfalso; omega)))) | ((with_reducible refine at_exit ?_); first | refine qx_then ?_ | exact qx_isF | refine qx_any ?_ | ((with_reducible refine at_K ?_); first | exact hK _ _ _ rfl ⟨rfl, rfl⟩ rfl | exact hK _ _ _ rfl rfl ⟨rfl, rfl⟩ rfl) | refine qx_in_here ?_ | refine qx_in_normal ?_ | refine qx_in_ret ?_ | refine qx_in_out rfl ?_ | refine qx_then_ret ?_ | refine qx_then_exit ?_))
      all_goals first
        | (exfalso; omega)
        | (exfalso; simp_all; done)
        | exact qx_ret1 (v := .nilIface) [] rfl rfl ⟨by rw [e, er, errV_zero], rfl⟩ (fun w hm => hm.nil)
  have e : jkE k s f d t wy = 1 := if_neg hk
  obtain ⟨Bs, hBs⟩ : ∃ B, decide (0 ≤ s ∧ s ≤ 4294967295) = B := ⟨_, rfl⟩
  obtain ⟨Bd, hBd⟩ : ∃ B, decide (0 ≤ d ∧ d ≤ 4294967295) = B := ⟨_, rfl⟩
  rw [hBs] at h1
  rw [hBd] at h2
  have hc : (decide (k < 0) = true) ∨
      (decide (k < 0) = false ∧ decide (15 < k) = true) ∨
      (decide (k < 0) = false ∧ decide (15 < k) = false ∧ Bs = false) ∨
      (decide (k < 0) = false ∧ decide (15 < k) = false ∧ Bs = true ∧ Bd = false) ∨
      (decide (k < 0) = false ∧ decide (15 < k) = false ∧ Bs = true ∧ Bd = true ∧ decide (f < 0) = true) ∨
      (decide (k < 0) = false ∧ decide (15 < k) = false ∧ Bs = true ∧ Bd = true ∧ decide (f < 0) = false ∧ decide (65535 < f) = true) ∨
      (decide (k < 0) = false ∧ decide (15 < k) = false ∧ Bs = true ∧ Bd = true ∧ decide (f < 0) = false ∧ decide (65535 < f) = false ∧ decide (t < 0) = true) ∨
      (decide (k < 0) = false ∧ decide (15 < k) = false ∧ Bs = true ∧ Bd = true ∧ decide (f < 0) = false ∧ decide (65535 < f) = false ∧ decide (t < 0) = false ∧ decide (65535 < t) = true) ∨
      (decide (k < 0) = false ∧ decide (15 < k) = false ∧ Bs = true ∧ Bd = true ∧ decide (f < 0) = false ∧ decide (65535 < f) = false ∧ decide (t < 0) = false ∧ decide (65535 < t) = false ∧ decide (¬ wy = 1) = true ∧ decide (¬ wy = 2) = true) := by
    unfold jkOk at hk
    cases Bs <;> cases Bd <;> simp only [decide_eq_true_eq, decide_eq_false_iff_not] at hBs hBd ⊢ <;> simp <;> omega
  clear hBs hBd hk
  rcases hc with q0 | ⟨q0, q1⟩ | ⟨q0, q1, rfl⟩ | ⟨q0, q1, rfl, rfl⟩ | ⟨q0, q1, rfl, rfl, q4⟩ | ⟨q0, q1, rfl, rfl, q4, q5⟩ | ⟨q0, q1, rfl, rfl, q4, q5, q6⟩ | ⟨q0, q1, rfl, rfl, q4, q5, q6, q7⟩ | ⟨q0, q1, rfl, rfl, q4, q5, q6, q7, q8, q9⟩
  all_goals
    repeat' (first | ((with_reducible refine at_call 46 ?_); refine sx_callv (fun w hm => h1 _) ?_ rfl) | ((with_reducible refine at_call 46 ?_); refine sx_callv (fun w hm => h2 _) ?_ rfl) | ((with_reducible refine at_any ?_); first | (refine ax_pure (o := ⟨_, _, _, _, _, _⟩) rfl dk rfl rfl rfl rfl ?_; apply Exists.intro; refine And.intro (fun w => ?_) ?_) | refine ax_skip (o := ⟨_, _, _, _, _, _⟩) dk rfl rfl rfl rfl rfl rfl ras ?_ | refine ax_lone (o := ⟨_, _, _, _, _, _⟩) dk rfl ?_ | refine ax_over dk ?_) | ((with_reducible refine at_op ?_); first | ((with_reducible refine at_guard ?_); first | refine sx_want rfl rfl rfl ras ?_ | refine sx_skip rfl rfl rfl ras ?_ | refine sx_skipu rfl rfl rfl ?_ | refine sx_skip' rfl rfl rfl ras ?_ | refine sx_lit true rfl rfl rfl dec ?_ | refine sx_lit false rfl rfl rfl dec ?_ | (refine sx_orG rfl rfl rfl rfl rfl rfl ?_ (fun hb K hK => ?_); apply Exists.intro; refine And.intro (fun hb K hK => ?_) (fun g => ?_)) | (refine sx_andG rfl rfl rfl rfl rfl rfl ?_ (fun hb K hK => ?_); apply Exists.intro; refine And.intro (fun hb K hK => ?_) (fun g => ?_))) | ((with_reducible refine at_move ?_); first | refine sx_move _ vf ?_) | ((with_reducible refine at_bin ?_); first | refine sx_lss rfl rfl ?_ | refine sx_leq rfl rfl ?_ | refine sx_gtr rfl rfl ?_ | refine sx_geq rfl rfl ?_ | refine sx_eql rfl rfl ?_ | refine sx_neq rfl rfl ?_ | refine sx_add rfl rfl bnd ?_ | refine sx_sub rfl rfl bnd ?_ | refine sx_mul rfl rfl bnd ?_ | refine sx_quo rfl rfl bnd ?_ | refine sx_rem rfl rfl bnd ?_ | refine sx_subU8 rfl rfl bnd ?_ | refine sx_shr rfl rfl bnd ?_ | refine sx_shl8 rfl rfl bnd ?_ | refine sx_or8 rfl rfl bnd ?_ | refine sx_or15 rfl rfl bnd ?_ | refine sx_not15 rfl rfl bnd ?_ | refine sx_andI rfl rfl bnd ?_ | refine sx_remT rfl rfl bnd ?_ | refine sx_err_ne rfl ?_ | refine sx_err_eq rfl ?_ | refine sx_errn_ne rfl ?_ | refine sx_errn_eq rfl ?_ | refine sx_pure (v := .bool _) rfl ?_ | refine sx_pure (v := .int _ _) rfl ?_) | ((with_reducible refine at_assign ?_); first | refine sx_assign _ vf ?_) | ((with_reducible refine at_load ?_); first | refine sx_loadE rfl pc gv ?_ | refine sx_loadWE rfl pc gl ?_ | (apply sx_loadB rfl; assumption; rfl) | (apply sx_loadBW rfl; assumption; rfl)) | refine sx_nilCheck rfl ?_ | refine sx_fieldAddr rfl ?_ | refine sx_not rfl ?_ | refine sx_neg rfl bnd ?_ | ((with_reducible refine at_build ?_); first | refine sx_build _ blds ?_) | refine sx_extract rfl rfl ?_ | ((with_reducible refine at_pick ?_); first | refine sx_pickT (.int _ _) rfl dec rfl ?_ | refine sx_pickT (.bool _) rfl dec rfl ?_ | refine sx_pickF (.int _ _) rfl dec rfl ?_ | refine sx_pickF (.bool _) rfl dec rfl ?_) | ((with_reducible refine at_iface ?_); first | refine sx_iface _ vf ?_) | refine sx_index rfl rfl bnd ?_ | ((with_reducible refine at_ixaddr ?_); first | refine sx_place _ rfl rfl bnd plc ?_) | refine sx_len rfl ?_ | refine sx_min rfl rfl ?_ | refine sx_max rfl rfl ?_ | refine sx_field rfl rfl ?_ | (refine sx_box rfl ?_; intro b) | (refine sx_box1 rfl rfl ?_; intro b) | (refine sx_alloc ?_; intro b) | (refine sx_alloc1 rfl ?_; intro b) | refine sx_pure vfs ?_) | refine sx_nil ?_ | ((with_reducible refine at_grp ?_); first | refine sx_grpN rfl ?_ | refine sx_grpC rfl ?_) | ((with_reducible refine at_aft ?_); first | refine sx_aftN rfl ?_ | refine sx_aftC rfl ?_) | ((with_reducible refine at_code ?_); first | refine cx_seq ?_ | refine cx_quiet rfl dk dk ?_ | refine cx_any dk ?_ | refine cx_region ?_ | refine cx_skip ?_ | refine cx_ret ?_ | refine cx_exit ?_ | refine cx_block ?_ | refine cx_true rfl ?_ | refine cx_false rfl ?_ | (refine cx_cond rfl (fun h => ?_) (fun h => ?_) <;> (try simp only [decide_eq_true_eq, decide_eq_false_iff_not, Bool.and_eq_true, Bool.or_eq_true, Bool.and_eq_false_iff, Bool.or_eq_false_iff, Bool.not_eq_true', Bool.not_eq_false', Bool.not_true, Bool.not_false, Bool.true_or, Bool.or_true, Bool.false_or, Bool.or_false, Bool.and_true, Bool.true_and, Bool.false_and, Bool.and_false, reduceCtorEq, Classical.not_not, beq_self_eq_true, bne_self_eq_false, not_true_eq_false, not_false_eq_true, or_false, false_or, or_true, true_or, and_true, true_and, and_false, false_and, or_self, and_self] at h) <;> (try (exfalso; omega)))) | ((with_reducible refine at_exit ?_); first | refine qx_then ?_ | exact qx_isF | refine qx_any ?_ | ((with_reducible refine at_K ?_); first | exact hK _ _ _ rfl ⟨rfl, rfl⟩ rfl | exact hK _ _ _ rfl rfl ⟨rfl, rfl⟩ rfl) | refine qx_in_here ?_ | refine qx_in_normal ?_ | refine qx_in_ret ?_ | refine qx_in_out rfl ?_ | refine qx_then_ret ?_ | refine qx_then_exit ?_))
    all_goals first
      | exact qx_ret1 (v := .iface _ _) [] rfl rfl ⟨by rw [e, ← er_is (rfl : (1 : Int) = 1) (by decide)], rfl⟩ (fun w hm => hm.nil)
      | (exfalso; omega)
      | (exfalso; simp_all; done)
end Go.Proofs.YtchkpkeljcdccaaDoor
