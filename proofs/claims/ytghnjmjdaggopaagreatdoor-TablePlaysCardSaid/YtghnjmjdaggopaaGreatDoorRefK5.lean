/- Contracts of the document's package: keys. -/
import Derived.Test.YtghnjmjdaggopaaGreatDoorSegK
set_option linter.unusedSimpArgs false
set_option linter.unusedVariables false
set_option maxRecDepth 100000
namespace Go.Proofs.YtghnjmjdaggopaaGreatDoor
open Go.RowKit Go.Port
attribute [local irreducible] Calls
theorem orI5_lt {a b : Int} {l : List Int} : orI5 (cmpI a b :: l) < 0 ↔ a < b ∨ (a = b ∧ orI5 l < 0) := by
  show (if cmpI a b ≠ 0 then cmpI a b else orI5 l) < 0 ↔ _
  unfold cmpI
  by_cases h1 : a < b
  · rw [if_pos h1, if_pos (by decide)]; omega
  · rw [if_neg h1]
    by_cases h2 : b < a
    · rw [if_pos h2, if_pos (by decide)]; omega
    · rw [if_neg h2, if_neg (by decide)]; omega
theorem K5.cmp_lt {k s f d t k' s' f' d' t' : Int} : K5.cmp ⟨k, s, f, d, t⟩ ⟨k', s', f', d', t'⟩ < 0 ↔ k < k' ∨ (k = k' ∧ (s < s' ∨ (s = s' ∧ (f < f' ∨ (f = f' ∧ (d < d' ∨ (d = d' ∧ t < t'))))))) := by
  show orI5 [cmpI k k', cmpI s s', cmpI f f', cmpI d d', cmpI t t'] < 0 ↔ _
  rw [orI5_lt, orI5_lt, orI5_lt, orI5_lt, orI5_lt]
  have : ¬ orI5 [] < 0 := by decide
  omega
set_option maxHeartbeats 1000000 in
theorem ref_Turn (k s f d t : Int) (w : World) : Calls Tryz.prog 9 #[.agg #[.int .i64 k, .int .i64 s, .int .i64 f, .int .i64 d, .int .i64 t]] w (Ret w [] (isV (.agg #[.int .i64 k, .int .i64 d, .int .i64 t, .int .i64 s, .int .i64 f]))) := by
  refine cx_enter (args := [.agg #[.int .i64 k, .int .i64 s, .int .i64 f, .int .i64 d, .int .i64 t]]) (F := [(0, .agg #[.int .i64 k, .int .i64 s, .int .i64 f, .int .i64 d, .int .i64 t])]) _ [] Tryz.func9 rfl Tryz.ntmps9 (by simp) rfl (Mem.refl _) (fun g => ?_)
  repeat' (first | ((with_reducible refine at_op ?_); first | ((with_reducible refine at_load ?_); refine sx_load 1 rfl rfl rfl ?_) | ((with_reducible refine at_stores ?_); first | refine sx_stval _ vf ?_ | refine sx_storeW rfl rfl rfl rfl ?_) | refine sx_fieldAddr rfl ?_ | ((with_reducible refine at_build ?_); refine sx_build [_, _, _, _, _] rfl ?_) | (refine sx_box rfl ?_; intro b) | (refine sx_alloc ?_; intro b)) | refine sx_nil ?_ | ((with_reducible refine at_code ?_); first | refine cx_seq ?_ | refine cx_region ?_ | refine cx_ret ?_) | ((with_reducible refine at_exit ?_); refine qx_then ?_))
  exact qx_retC1 0 [] rfl rfl rfl rfl ⟨rfl, rfl⟩ (fun w hm => hm.nil)
set_option maxHeartbeats 4000000 in
theorem ref_Ahead (k s f d t k' s' f' d' t' : Int) (w : World) : Calls Tryz.prog 38 #[.agg #[.int .i64 k, .int .i64 s, .int .i64 f, .int .i64 d, .int .i64 t], .agg #[.int .i64 k', .int .i64 s', .int .i64 f', .int .i64 d', .int .i64 t']] w (Ret w [] (isV (.bool (decide (K5.cmp ⟨k, s, f, d, t⟩ ⟨k', s', f', d', t'⟩ < 0))))) := by
  refine cx_enter (args := [.agg #[.int .i64 k, .int .i64 s, .int .i64 f, .int .i64 d, .int .i64 t], .agg #[.int .i64 k', .int .i64 s', .int .i64 f', .int .i64 d', .int .i64 t']]) (F := [(0, .agg #[.int .i64 k, .int .i64 s, .int .i64 f, .int .i64 d, .int .i64 t]), (1, .agg #[.int .i64 k', .int .i64 s', .int .i64 f', .int .i64 d', .int .i64 t'])]) _ [] Tryz.func38 rfl Tryz.ntmps38 (by simp) rfl (Mem.refl _) (fun g => ?_)
  repeat' (first | ((with_reducible refine at_op ?_); first | ((with_reducible refine at_bin ?_); first | refine sx_lss rfl rfl ?_ | refine sx_neq rfl rfl ?_) | ((with_reducible refine at_assign ?_); refine sx_assign _ vf ?_) | ((with_reducible refine at_load ?_); first | refine sx_load 0 rfl rfl rfl ?_ | refine sx_load 1 rfl rfl rfl ?_) | refine sx_fieldAddr rfl ?_ | (refine sx_box rfl ?_; intro b)) | refine sx_nil ?_ | ((with_reducible refine at_code ?_); first | refine cx_seq ?_ | refine cx_region ?_ | refine cx_skip ?_ | refine cx_ret ?_ | (refine cx_cond rfl (fun h => ?_) (fun h => ?_) <;> (try simp only [decide_eq_true_eq, decide_eq_false_iff_not, Bool.and_eq_true, Bool.or_eq_true, Bool.and_eq_false_iff, Bool.or_eq_false_iff, Bool.not_eq_true', Bool.not_eq_false', Bool.not_true, Bool.not_false, Bool.true_or, Bool.or_true, Bool.false_or, Bool.or_false, Bool.and_true, Bool.true_and, Bool.false_and, Bool.and_false, reduceCtorEq, Classical.not_not, beq_self_eq_true, bne_self_eq_false, not_true_eq_false, not_false_eq_true, or_false, false_or, or_true, true_or, and_true, true_and, and_false, false_and, or_self, and_self] at h) <;> (try (exfalso; omega)))) | ((with_reducible refine at_exit ?_); first | refine qx_then ?_ | refine qx_then_ret ?_))
  all_goals
    refine qx_ret1 (v := .bool _) [] rfl rfl ⟨?_, rfl⟩ (fun w hm => hm.nil)
    congr 1
    exact decide_eq_decide.2 (by rw [K5.cmp_lt]; omega)
set_option maxHeartbeats 4000000 in
theorem ref_First (k s f d t : Int) (w : World) : Calls Tryz.prog 51 #[.agg #[.int .i64 k, .int .i64 s, .int .i64 f, .int .i64 d, .int .i64 t]] w (Ret w [] (isV (.agg #[.int .i64 (K5.first ⟨k, s, f, d, t⟩).k, .int .i64 (K5.first ⟨k, s, f, d, t⟩).s, .int .i64 (K5.first ⟨k, s, f, d, t⟩).f, .int .i64 (K5.first ⟨k, s, f, d, t⟩).d, .int .i64 (K5.first ⟨k, s, f, d, t⟩).t]))) := by
  refine cx_enter (args := [.agg #[.int .i64 k, .int .i64 s, .int .i64 f, .int .i64 d, .int .i64 t]]) (F := [(0, .agg #[.int .i64 k, .int .i64 s, .int .i64 f, .int .i64 d, .int .i64 t])]) _ [] Tryz.func51 rfl Tryz.ntmps51 (by simp) rfl (Mem.refl _) (fun g => ?_)
  repeat' (first | ((with_reducible refine at_call 9 ?_); refine sx_callv (fun w hm => ref_Turn _ _ _ _ _ _) ?_ rfl) | ((with_reducible refine at_call 38 ?_); refine sx_callv (fun w hm => ref_Ahead _ _ _ _ _ _ _ _ _ _ _) ?_ rfl) | ((with_reducible refine at_op ?_); first | ((with_reducible refine at_load ?_); first | refine sx_loadW 0 rfl rfl rfl ?_ | refine sx_loadW 1 rfl rfl rfl ?_ | refine sx_loadW 2 rfl rfl rfl ?_) | ((with_reducible refine at_stores ?_); first | refine sx_stval _ vf ?_ | refine sx_storeW rfl rfl rfl rfl ?_ | (refine sx_rot rot1 ?_; refine sx_storeW rfl rfl rfl rfl ?_)) | (refine sx_box rfl ?_; intro b) | (refine sx_alloc ?_; intro b)) | refine sx_nil ?_ | ((with_reducible refine at_code ?_); first | refine cx_seq ?_ | refine cx_region ?_ | refine cx_skip ?_ | refine cx_ret ?_ | (refine cx_cond rfl (fun h => ?_) (fun h => ?_) <;> (try simp only [decide_eq_true_eq, decide_eq_false_iff_not, Bool.and_eq_true, Bool.or_eq_true, Bool.and_eq_false_iff, Bool.or_eq_false_iff, Bool.not_eq_true', Bool.not_eq_false', Bool.not_true, Bool.not_false, Bool.true_or, Bool.or_true, Bool.false_or, Bool.or_false, Bool.and_true, Bool.true_and, Bool.false_and, Bool.and_false, reduceCtorEq, Classical.not_not, beq_self_eq_true, bne_self_eq_false, not_true_eq_false, not_false_eq_true, or_false, false_or, or_true, true_or, and_true, true_and, and_false, false_and, or_self, and_self] at h) <;> (try (exfalso; omega)))) | ((with_reducible refine at_exit ?_); first | refine qx_then ?_ | refine qx_then_ret ?_))
  · have e : K5.first ⟨k, s, f, d, t⟩ = ⟨k, d, t, s, f⟩ := if_pos h
    rw [e]
    exact qx_retC1 0 [] rfl rfl rfl rfl ⟨rfl, rfl⟩ (fun w hm => hm.nil)
  · have e : K5.first ⟨k, s, f, d, t⟩ = ⟨k, s, f, d, t⟩ := if_neg h
    rw [e]
    exact qx_retC1 0 [] rfl rfl rfl rfl ⟨rfl, rfl⟩ (fun w hm => hm.nil)
end Go.Proofs.YtghnjmjdaggopaaGreatDoor
