/- Contracts of the document's package: rules' faults, keys' faults, what fits. -/
import Derived.Test.YtoelbnhjamddgaaDoorRefTidy
import Derived.Test.YtoelbnhjamddgaaDoorRefPfx
import Derived.Test.YtoelbnhjamddgaaDoorRuleC
set_option linter.unusedSimpArgs false
set_option linter.unusedVariables false
set_option maxRecDepth 100000
namespace Go.Proofs.YtoelbnhjamddgaaDoor
open Go.RowKit Go.Port
attribute [local irreducible] Calls spE poE pxE
open Classical in
set_option maxHeartbeats 16000000 in
theorem ref_Rule (ps qk kp : Bool) (way kind sa sl da dl : Int) {FA TA : Option Addr} {fl fc tl tc : Nat} {lf lt : List Sp} {w : World} (hf : IsSl w 2 FA fl fc (rowsS lf)) (hfl : fl = lf.length) (ht : IsSl w 2 TA tl tc (rowsS lt)) (htl : tl = lt.length) :
    Calls Tryd.prog 34 #[.agg #[.bool ps, .bool qk, .bool kp, .int .i64 way, .int .i64 kind, .int .i64 sa, .int .i64 sl, .int .i64 da, .int .i64 dl, .slice FA fl fc, .slice TA tl tc]] w (Ret w [] (isV (.int .i64 (ruE ps kp way kind sa sl da dl lf lt)))) := by
  refine cx_enter (args := [.agg #[.bool ps, .bool qk, .bool kp, .int .i64 way, .int .i64 kind, .int .i64 sa, .int .i64 sl, .int .i64 da, .int .i64 dl, .slice FA fl fc, .slice TA tl tc]]) (F := [(0, .agg #[.bool ps, .bool qk, .bool kp, .int .i64 way, .int .i64 kind, .int .i64 sa, .int .i64 sl, .int .i64 da, .int .i64 dl, .slice FA fl fc, .slice TA tl tc])]) _ [] Tryd.func34 rfl Tryd.ntmps34 (by simp) rfl (Mem.refl _) (fun g => ?_)
  by_cases hw : way < 0 ∨ 2 < way ∨ kind < 0 ∨ 3 < kind
  · have eE : ruE ps kp way kind sa sl da dl lf lt = 1 := by unfold ruE; rw [if_pos hw]
    have hc : (way < 0 ∧ decide (way < 0) = true) ∨ (decide (way < 0) = false ∧ 2 < way ∧ decide (2 < way) = true) ∨ (decide (way < 0) = false ∧ decide (2 < way) = false ∧ kind < 0 ∧ decide (kind < 0) = true) ∨ (decide (way < 0) = false ∧ decide (2 < way) = false ∧ decide (kind < 0) = false ∧ 3 < kind) := by
      simp only [decide_eq_true_eq, decide_eq_false_iff_not]
      omega
    rcases hc with ⟨h1, h2⟩ | ⟨h1, h2, h3⟩ | ⟨h1, h2, h3, h4⟩ | ⟨h1, h2, h3, h4⟩
    all_goals
      clear hw
      repeat' (first | ((with_reducible refine at_op ?_); first | ((with_reducible refine at_guard ?_); first | refine sx_want rfl rfl rfl ras ?_ | refine sx_skip rfl rfl rfl ras ?_) | ((with_reducible refine at_move ?_); refine sx_move _ vf ?_) | ((with_reducible refine at_bin ?_); first | refine sx_lss rfl rfl ?_ | refine sx_gtr rfl rfl ?_) | ((with_reducible refine at_assign ?_); refine sx_assign _ vf ?_) | ((with_reducible refine at_load ?_); refine sx_loadE rfl pc gv ?_) | refine sx_fieldAddr rfl ?_ | ((with_reducible refine at_pick ?_); first | refine sx_pickT (.bool _) rfl dec rfl ?_ | refine sx_pickF (.bool _) rfl dec rfl ?_) | (refine sx_box rfl ?_; intro b)) | refine sx_nil ?_ | ((with_reducible refine at_code ?_); first | refine cx_seq ?_ | refine cx_region ?_ | refine cx_ret ?_ | refine cx_true rfl ?_ | (refine cx_cond rfl (fun h => ?_) (fun h => ?_) <;> (try simp only [decide_eq_true_eq, decide_eq_false_iff_not, Bool.and_eq_true, Bool.or_eq_true, Bool.and_eq_false_iff, Bool.or_eq_false_iff, Bool.not_eq_true', Bool.not_eq_false', Bool.not_true, Bool.not_false, Bool.true_or, Bool.or_true, Bool.false_or, Bool.or_false, Bool.and_true, Bool.true_and, Bool.false_and, Bool.and_false, reduceCtorEq, Classical.not_not, beq_self_eq_true, bne_self_eq_false, not_true_eq_false, not_false_eq_true, or_false, false_or, or_true, true_or, and_true, true_and, and_false, false_and, or_self, and_self] at h) <;> (try (exfalso; omega)))) | ((with_reducible refine at_exit ?_); first | refine qx_then ?_ | refine qx_then_ret ?_))
      all_goals first
        | (exfalso; omega)
        | (exfalso; simp only [decide_eq_true_eq, decide_eq_false_iff_not] at *; omega)
        | exact qx_ret1 (v := .int _ _) [] rfl rfl ⟨by rw [eE], rfl⟩ (fun w hm => hm.nil)
  have eE : ruE ps kp way kind sa sl da dl lf lt = if ¬ pxE sa sl = 0 then pxE sa sl else if ¬ pxE da dl = 0 then pxE da dl else if 10 < lf.length ∨ 10 < lt.length then 4 else if ¬ spE lf = 0 then spE lf else if ¬ spE lt = 0 then spE lt else if ¬ poE lf = 0 ∨ ¬ poE lt = 0 ∨ (0 < lf.length + lt.length ∧ ¬ kind = 1 ∧ ¬ kind = 2) ∨ (kp = true ∧ ps = false) then 3 else 0 := by
    rw [ruE, if_neg hw]
  have g1 : decide (way < 0) = false := decide_eq_false (by omega)
  have g2 : decide (2 < way) = false := decide_eq_false (by omega)
  have g3 : decide (kind < 0) = false := decide_eq_false (by omega)
  have g4 : decide (3 < kind) = false := decide_eq_false (by omega)
  by_cases h1 : pxE sa sl = 0
  rotate_left
  · rw [if_pos h1] at eE
    repeat' (first | ((with_reducible refine at_load ?_); refine sx_loadV 0 [_, _] rfl rfl rfl rfl ?_) | ((with_reducible refine at_call 54 ?_); refine sx_callv (fun w hm => ref_Prefix _ _ _) ?_ rfl) | ((with_reducible refine at_op ?_); first | ((with_reducible refine at_guard ?_); refine sx_want rfl rfl rfl ras ?_) | ((with_reducible refine at_move ?_); refine sx_move _ vf ?_) | ((with_reducible refine at_bin ?_); first | refine sx_lss rfl rfl ?_ | refine sx_gtr rfl rfl ?_ | refine sx_eql rfl rfl ?_ | refine sx_neq rfl rfl ?_) | ((with_reducible refine at_assign ?_); refine sx_assign _ vf ?_) | ((with_reducible refine at_load ?_); refine sx_loadE rfl pc gv ?_) | refine sx_fieldAddr rfl ?_ | ((with_reducible refine at_pick ?_); refine sx_pickF (.bool _) rfl dec rfl ?_) | (refine sx_box rfl ?_; intro b)) | refine sx_nil ?_ | ((with_reducible refine at_code ?_); first | refine cx_seq ?_ | refine cx_region ?_ | refine cx_skip ?_ | refine cx_ret ?_ | (refine cx_cond rfl (fun h => ?_) (fun h => ?_) <;> (try simp only [decide_eq_true_eq, decide_eq_false_iff_not, Bool.and_eq_true, Bool.or_eq_true, Bool.and_eq_false_iff, Bool.or_eq_false_iff, Bool.not_eq_true', Bool.not_eq_false', Bool.not_true, Bool.not_false, Bool.true_or, Bool.or_true, Bool.false_or, Bool.or_false, Bool.and_true, Bool.true_and, Bool.false_and, Bool.and_false, reduceCtorEq, Classical.not_not, beq_self_eq_true, bne_self_eq_false, not_true_eq_false, not_false_eq_true, or_false, false_or, or_true, true_or, and_true, true_and, and_false, false_and, or_self, and_self] at h) <;> (try (exfalso; omega)))) | ((with_reducible refine at_exit ?_); first | refine qx_then ?_ | refine qx_then_ret ?_))
    all_goals first
      | (exfalso; omega)
      | exact qx_ret1 (v := .int _ _) [] rfl rfl ⟨by rw [eE], rfl⟩ (fun w hm => hm.nil)
  rw [if_neg (by simp [h1])] at eE
  by_cases h2 : pxE da dl = 0
  rotate_left
  · rw [if_pos h2] at eE
    repeat' (first | ((with_reducible refine at_load ?_); refine sx_loadV 0 [_, _] rfl rfl rfl rfl ?_) | ((with_reducible refine at_call 54 ?_); refine sx_callv (fun w hm => ref_Prefix _ _ _) ?_ rfl) | ((with_reducible refine at_op ?_); first | ((with_reducible refine at_guard ?_); refine sx_want rfl rfl rfl ras ?_) | ((with_reducible refine at_move ?_); refine sx_move _ vf ?_) | ((with_reducible refine at_bin ?_); first | refine sx_lss rfl rfl ?_ | refine sx_gtr rfl rfl ?_ | refine sx_eql rfl rfl ?_ | refine sx_neq rfl rfl ?_) | ((with_reducible refine at_assign ?_); refine sx_assign _ vf ?_) | ((with_reducible refine at_load ?_); refine sx_loadE rfl pc gv ?_) | refine sx_fieldAddr rfl ?_ | ((with_reducible refine at_pick ?_); refine sx_pickF (.bool _) rfl dec rfl ?_) | (refine sx_box rfl ?_; intro b)) | refine sx_nil ?_ | ((with_reducible refine at_code ?_); first | refine cx_seq ?_ | refine cx_region ?_ | refine cx_skip ?_ | refine cx_ret ?_ | (refine cx_cond rfl (fun h => ?_) (fun h => ?_) <;> (try simp only [decide_eq_true_eq, decide_eq_false_iff_not, Bool.and_eq_true, Bool.or_eq_true, Bool.and_eq_false_iff, Bool.or_eq_false_iff, Bool.not_eq_true', Bool.not_eq_false', Bool.not_true, Bool.not_false, Bool.true_or, Bool.or_true, Bool.false_or, Bool.or_false, Bool.and_true, Bool.true_and, Bool.false_and, Bool.and_false, reduceCtorEq, Classical.not_not, beq_self_eq_true, bne_self_eq_false, not_true_eq_false, not_false_eq_true, or_false, false_or, or_true, true_or, and_true, true_and, and_false, false_and, or_self, and_self] at h) <;> (try (exfalso; omega)))) | ((with_reducible refine at_exit ?_); first | refine qx_then ?_ | refine qx_then_ret ?_))
    all_goals first
      | (exfalso; omega)
      | exact qx_ret1 (v := .int _ _) [] rfl rfl ⟨by rw [eE], rfl⟩ (fun w hm => hm.nil)
  rw [if_neg (by simp [h2])] at eE
  repeat' (first | (with_reducible refine stop_rs 8 ?_) | ((with_reducible refine at_load ?_); refine sx_loadV 0 [_, _] rfl rfl rfl rfl ?_) | ((with_reducible refine at_call 54 ?_); refine sx_callv (fun w hm => ref_Prefix _ _ _) ?_ rfl) | ((with_reducible refine at_op ?_); first | ((with_reducible refine at_guard ?_); refine sx_want rfl rfl rfl ras ?_) | ((with_reducible refine at_move ?_); refine sx_move _ vf ?_) | ((with_reducible refine at_bin ?_); first | refine sx_lss rfl rfl ?_ | refine sx_gtr rfl rfl ?_ | refine sx_eql rfl rfl ?_ | refine sx_neq rfl rfl ?_) | ((with_reducible refine at_assign ?_); refine sx_assign _ vf ?_) | ((with_reducible refine at_load ?_); refine sx_loadE rfl pc gv ?_) | refine sx_fieldAddr rfl ?_ | ((with_reducible refine at_pick ?_); refine sx_pickF (.bool _) rfl dec rfl ?_) | (refine sx_box rfl ?_; intro b)) | refine sx_nil ?_ | ((with_reducible refine at_code ?_); first | refine cx_seq ?_ | refine cx_region ?_ | refine cx_skip ?_ | (refine cx_cond rfl (fun h => ?_) (fun h => ?_) <;> (try simp only [decide_eq_true_eq, decide_eq_false_iff_not, Bool.and_eq_true, Bool.or_eq_true, Bool.and_eq_false_iff, Bool.or_eq_false_iff, Bool.not_eq_true', Bool.not_eq_false', Bool.not_true, Bool.not_false, Bool.true_or, Bool.or_true, Bool.false_or, Bool.or_false, Bool.and_true, Bool.true_and, Bool.false_and, Bool.and_false, reduceCtorEq, Classical.not_not, beq_self_eq_true, bne_self_eq_false, not_true_eq_false, not_false_eq_true, or_false, false_or, or_true, true_or, and_true, true_and, and_false, false_and, or_self, and_self] at h) <;> (try (exfalso; omega)))) | ((with_reducible refine at_exit ?_); refine qx_then ?_))
  all_goals try (exfalso; omega)
  refine halt_go ?_
  clear g1 g2 g3 g4 h1 h2 hw
  by_cases hbig : 10 < lf.length ∨ 10 < lt.length
  · rw [if_pos hbig] at eE
    have hc : (10 < (fl : Int) ∧ decide (10 < (fl : Int)) = true) ∨ (decide (10 < (fl : Int)) = false ∧ 10 < (tl : Int)) := by
      by_cases h : 10 < (fl : Int)
      · exact .inl ⟨h, decide_eq_true h⟩
      · exact .inr ⟨decide_eq_false h, by omega⟩
    rcases hc with ⟨h1, h2⟩ | ⟨h1, h2⟩
    all_goals
      clear hbig
      repeat' (first | ((with_reducible refine at_op ?_); first | ((with_reducible refine at_guard ?_); first | refine sx_want rfl rfl rfl ras ?_ | refine sx_skip rfl rfl rfl ras ?_) | ((with_reducible refine at_move ?_); refine sx_move _ vf ?_) | ((with_reducible refine at_bin ?_); refine sx_gtr rfl rfl ?_) | ((with_reducible refine at_assign ?_); refine sx_assign _ vf ?_) | ((with_reducible refine at_load ?_); refine sx_loadE rfl pc gv ?_) | refine sx_fieldAddr rfl ?_ | ((with_reducible refine at_pick ?_); first | refine sx_pickT (.bool _) rfl dec rfl ?_ | refine sx_pickF (.bool _) rfl dec rfl ?_) | refine sx_len rfl ?_) | refine sx_nil ?_ | ((with_reducible refine at_code ?_); first | refine cx_seq ?_ | refine cx_region ?_ | refine cx_ret ?_ | refine cx_true rfl ?_ | (refine cx_cond rfl (fun h => ?_) (fun h => ?_) <;> (try simp only [decide_eq_true_eq, decide_eq_false_iff_not, Bool.and_eq_true, Bool.or_eq_true, Bool.and_eq_false_iff, Bool.or_eq_false_iff, Bool.not_eq_true', Bool.not_eq_false', Bool.not_true, Bool.not_false, Bool.true_or, Bool.or_true, Bool.false_or, Bool.or_false, Bool.and_true, Bool.true_and, Bool.false_and, Bool.and_false, reduceCtorEq, Classical.not_not, beq_self_eq_true, bne_self_eq_false, not_true_eq_false, not_false_eq_true, or_false, false_or, or_true, true_or, and_true, true_and, and_false, false_and, or_self, and_self] at h) <;> (try (exfalso; omega)))) | ((with_reducible refine at_exit ?_); first | refine qx_then ?_ | refine qx_then_ret ?_))
      all_goals first
        | (exfalso; omega)
        | (exfalso; simp only [decide_eq_true_eq, decide_eq_false_iff_not] at *; omega)
        | exact qx_ret1 (v := .int _ _) [] rfl rfl ⟨by rw [eE], rfl⟩ (fun w hm => hm.nil)
  rw [if_neg hbig] at eE
  have g4 : decide (10 < (fl : Int)) = false := decide_eq_false (by omega)
  by_cases h1 : spE lf = 0
  rotate_left
  · rw [if_pos h1] at eE
    repeat' (first | ((with_reducible refine at_call 55 ?_); refine sx_callv (fun w hm => ref_Spans (hf.mem hm.nil) hfl) ?_ rfl) | ((with_reducible refine at_op ?_); first | ((with_reducible refine at_guard ?_); refine sx_want rfl rfl rfl ras ?_) | ((with_reducible refine at_move ?_); refine sx_move _ vf ?_) | ((with_reducible refine at_bin ?_); first | refine sx_gtr rfl rfl ?_ | refine sx_eql rfl rfl ?_ | refine sx_neq rfl rfl ?_) | ((with_reducible refine at_assign ?_); refine sx_assign _ vf ?_) | ((with_reducible refine at_load ?_); refine sx_loadE rfl pc gv ?_) | refine sx_fieldAddr rfl ?_ | ((with_reducible refine at_pick ?_); refine sx_pickF (.bool _) rfl dec rfl ?_) | refine sx_len rfl ?_) | refine sx_nil ?_ | ((with_reducible refine at_code ?_); first | refine cx_seq ?_ | refine cx_region ?_ | refine cx_skip ?_ | refine cx_ret ?_ | (refine cx_cond rfl (fun h => ?_) (fun h => ?_) <;> (try simp only [decide_eq_true_eq, decide_eq_false_iff_not, Bool.and_eq_true, Bool.or_eq_true, Bool.and_eq_false_iff, Bool.or_eq_false_iff, Bool.not_eq_true', Bool.not_eq_false', Bool.not_true, Bool.not_false, Bool.true_or, Bool.or_true, Bool.false_or, Bool.or_false, Bool.and_true, Bool.true_and, Bool.false_and, Bool.and_false, reduceCtorEq, Classical.not_not, beq_self_eq_true, bne_self_eq_false, not_true_eq_false, not_false_eq_true, or_false, false_or, or_true, true_or, and_true, true_and, and_false, false_and, or_self, and_self] at h) <;> (try (exfalso; omega)))) | ((with_reducible refine at_exit ?_); first | refine qx_then ?_ | refine qx_then_ret ?_))
    all_goals first
      | (exfalso; omega)
      | exact qx_ret1 (v := .int _ _) [] rfl rfl ⟨by rw [eE], rfl⟩ (fun w hm => hm.nil)
  rw [if_neg (by simp [h1])] at eE
  by_cases h2 : spE lt = 0
  rotate_left
  · rw [if_pos h2] at eE
    repeat' (first | ((with_reducible refine at_call 55 ?_); refine sx_callv (fun w hm => ref_Spans (hf.mem hm.nil) hfl) ?_ rfl) | ((with_reducible refine at_call 55 ?_); refine sx_callv (fun w hm => ref_Spans (ht.mem hm.nil) htl) ?_ rfl) | ((with_reducible refine at_op ?_); first | ((with_reducible refine at_guard ?_); refine sx_want rfl rfl rfl ras ?_) | ((with_reducible refine at_move ?_); refine sx_move _ vf ?_) | ((with_reducible refine at_bin ?_); first | refine sx_gtr rfl rfl ?_ | refine sx_eql rfl rfl ?_ | refine sx_neq rfl rfl ?_) | ((with_reducible refine at_assign ?_); refine sx_assign _ vf ?_) | ((with_reducible refine at_load ?_); refine sx_loadE rfl pc gv ?_) | refine sx_fieldAddr rfl ?_ | ((with_reducible refine at_pick ?_); refine sx_pickF (.bool _) rfl dec rfl ?_) | refine sx_len rfl ?_) | refine sx_nil ?_ | ((with_reducible refine at_code ?_); first | refine cx_seq ?_ | refine cx_region ?_ | refine cx_skip ?_ | refine cx_ret ?_ | (refine cx_cond rfl (fun h => ?_) (fun h => ?_) <;> (try simp only [decide_eq_true_eq, decide_eq_false_iff_not, Bool.and_eq_true, Bool.or_eq_true, Bool.and_eq_false_iff, Bool.or_eq_false_iff, Bool.not_eq_true', Bool.not_eq_false', Bool.not_true, Bool.not_false, Bool.true_or, Bool.or_true, Bool.false_or, Bool.or_false, Bool.and_true, Bool.true_and, Bool.false_and, Bool.and_false, reduceCtorEq, Classical.not_not, beq_self_eq_true, bne_self_eq_false, not_true_eq_false, not_false_eq_true, or_false, false_or, or_true, true_or, and_true, true_and, and_false, false_and, or_self, and_self] at h) <;> (try (exfalso; omega)))) | ((with_reducible refine at_exit ?_); first | refine qx_then ?_ | refine qx_then_ret ?_))
    all_goals first
      | (exfalso; omega)
      | exact qx_ret1 (v := .int _ _) [] rfl rfl ⟨by rw [eE], rfl⟩ (fun w hm => hm.nil)
  rw [if_neg (by simp [h2])] at eE
  have hpf : poE lf = if Gap lf then 0 else 3 := by unfold poE; rw [if_neg (by simp [h1])]
  have hpt : poE lt = if Gap lt then 0 else 3 := by unfold poE; rw [if_neg (by simp [h2])]
  have htf := fun w (h : IsSl w 2 FA fl fc (rowsS lf)) => ref_tidy h hfl h1
  have htt := fun w (h : IsSl w 2 TA tl tc (rowsS lt)) => ref_tidy h htl h2
  have hc4 : (decide (Gap lf) = true ∧ poE lf = 0) ∨ (decide (Gap lf) = false ∧ ¬ poE lf = 0) := by
    by_cases h : Gap lf
    · exact .inl ⟨decide_eq_true h, by rw [hpf, if_pos h]⟩
    · exact .inr ⟨decide_eq_false h, by rw [hpf, if_neg h]; decide⟩
  have hc5 : (decide (Gap lt) = true ∧ poE lt = 0) ∨ (decide (Gap lt) = false ∧ ¬ poE lt = 0) := by
    by_cases h : Gap lt
    · exact .inl ⟨decide_eq_true h, by rw [hpt, if_pos h]⟩
    · exact .inr ⟨decide_eq_false h, by rw [hpt, if_neg h]; decide⟩
  clear hpf hpt
  repeat' (first | (with_reducible refine stop_rs 15 ?_) | ((with_reducible refine at_call 55 ?_); refine sx_callv (fun w hm => ref_Spans (hf.mem hm.nil) hfl) ?_ rfl) | ((with_reducible refine at_call 55 ?_); refine sx_callv (fun w hm => ref_Spans (ht.mem hm.nil) htl) ?_ rfl) | ((with_reducible refine at_op ?_); first | ((with_reducible refine at_guard ?_); refine sx_want rfl rfl rfl ras ?_) | ((with_reducible refine at_move ?_); refine sx_move _ vf ?_) | ((with_reducible refine at_bin ?_); first | refine sx_gtr rfl rfl ?_ | refine sx_eql rfl rfl ?_ | refine sx_neq rfl rfl ?_) | ((with_reducible refine at_assign ?_); refine sx_assign _ vf ?_) | ((with_reducible refine at_load ?_); refine sx_loadE rfl pc gv ?_) | refine sx_fieldAddr rfl ?_ | ((with_reducible refine at_pick ?_); refine sx_pickF (.bool _) rfl dec rfl ?_) | refine sx_len rfl ?_) | refine sx_nil ?_ | ((with_reducible refine at_code ?_); first | refine cx_seq ?_ | refine cx_region ?_ | refine cx_skip ?_ | (refine cx_cond rfl (fun h => ?_) (fun h => ?_) <;> (try simp only [decide_eq_true_eq, decide_eq_false_iff_not, Bool.and_eq_true, Bool.or_eq_true, Bool.and_eq_false_iff, Bool.or_eq_false_iff, Bool.not_eq_true', Bool.not_eq_false', Bool.not_true, Bool.not_false, Bool.true_or, Bool.or_true, Bool.false_or, Bool.or_false, Bool.and_true, Bool.true_and, Bool.false_and, Bool.and_false, reduceCtorEq, Classical.not_not, beq_self_eq_true, bne_self_eq_false, not_true_eq_false, not_false_eq_true, or_false, false_or, or_true, true_or, and_true, true_and, and_false, false_and, or_self, and_self] at h) <;> (try (exfalso; omega)))) | ((with_reducible refine at_exit ?_); refine qx_then ?_))
  all_goals try (exfalso; omega)
  refine halt_go ?_
  clear hbig g4 h1 h2
  rcases hc4 with ⟨k1, k2⟩ | ⟨k1, k2⟩
  rotate_left
  · rw [k1] at htf
    rw [if_pos (.inl k2)] at eE
    obtain ⟨B, hB⟩ : ∃ B, decide (Gap lt) = B := ⟨_, rfl⟩
    rw [hB] at htt
    clear hc5
    repeat' (first | ((with_reducible refine at_call 56 ?_); refine sx_callv (fun w hm => htf _ (hf.mem hm.nil)) ?_ rfl) | ((with_reducible refine at_call 56 ?_); refine sx_callv (fun w hm => htt _ (ht.mem hm.nil)) ?_ rfl) | ((with_reducible refine at_op ?_); first | ((with_reducible refine at_guard ?_); first | refine sx_skip rfl rfl rfl ras ?_ | refine sx_skipu rfl rfl rfl ?_) | ((with_reducible refine at_move ?_); refine sx_move _ vf ?_) | ((with_reducible refine at_assign ?_); refine sx_assign _ vf ?_) | ((with_reducible refine at_load ?_); refine sx_loadE rfl pc gv ?_) | refine sx_fieldAddr rfl ?_ | refine sx_not rfl ?_ | ((with_reducible refine at_pick ?_); refine sx_pickT (.bool _) rfl dec rfl ?_)) | refine sx_nil ?_ | ((with_reducible refine at_code ?_); first | refine cx_seq ?_ | refine cx_region ?_ | refine cx_ret ?_ | refine cx_true rfl ?_) | ((with_reducible refine at_exit ?_); first | refine qx_then ?_ | refine qx_then_ret ?_))
    all_goals first
      | (exfalso; omega)
      | exact qx_ret1 (v := .int _ _) [] rfl rfl ⟨by rw [eE], rfl⟩ (fun w hm => hm.nil)
  rw [k1] at htf
  rcases hc5 with ⟨k3, k4⟩ | ⟨k3, k4⟩
  rotate_left
  · rw [k3] at htt
    rw [if_pos (.inr (.inl k4))] at eE
    repeat' (first | ((with_reducible refine at_call 56 ?_); refine sx_callv (fun w hm => htf _ (hf.mem hm.nil)) ?_ rfl) | ((with_reducible refine at_call 56 ?_); refine sx_callv (fun w hm => htt _ (ht.mem hm.nil)) ?_ rfl) | ((with_reducible refine at_op ?_); first | ((with_reducible refine at_guard ?_); first | refine sx_want rfl rfl rfl ras ?_ | refine sx_skip rfl rfl rfl ras ?_ | refine sx_skipu rfl rfl rfl ?_) | ((with_reducible refine at_move ?_); refine sx_move _ vf ?_) | ((with_reducible refine at_assign ?_); refine sx_assign _ vf ?_) | ((with_reducible refine at_load ?_); refine sx_loadE rfl pc gv ?_) | refine sx_fieldAddr rfl ?_ | refine sx_not rfl ?_ | ((with_reducible refine at_pick ?_); first | refine sx_pickT (.bool _) rfl dec rfl ?_ | refine sx_pickF (.bool _) rfl dec rfl ?_)) | refine sx_nil ?_ | ((with_reducible refine at_code ?_); first | refine cx_seq ?_ | refine cx_region ?_ | refine cx_ret ?_ | refine cx_true rfl ?_) | ((with_reducible refine at_exit ?_); first | refine qx_then ?_ | refine qx_then_ret ?_))
    all_goals first
      | (exfalso; omega)
      | exact qx_ret1 (v := .int _ _) [] rfl rfl ⟨by rw [eE], rfl⟩ (fun w hm => hm.nil)
  rw [k3] at htt
  have hc : ((0 < lf.length + lt.length ∧ ¬ kind = 1 ∧ ¬ kind = 2) ∧ (decide (0 < (fl : Int)) = true ∨ (decide (0 < (fl : Int)) = false ∧ decide (0 < (tl : Int)) = true)) ∧ decide (¬ kind = 1) = true ∧ decide (¬ kind = 2) = true) ∨
      (¬ (0 < lf.length + lt.length ∧ ¬ kind = 1 ∧ ¬ kind = 2) ∧ ((decide (0 < (fl : Int)) = false ∧ decide (0 < (tl : Int)) = false) ∨ ((decide (0 < (fl : Int)) = true ∨ (decide (0 < (fl : Int)) = false ∧ decide (0 < (tl : Int)) = true)) ∧ (decide (¬ kind = 1) = false ∨ (decide (¬ kind = 1) = true ∧ decide (¬ kind = 2) = false))))) := by
    simp only [decide_eq_true_eq, decide_eq_false_iff_not]
    omega
  rcases hc with ⟨hb1, s1 | ⟨s0, s1⟩, s2, s3⟩ | ⟨hb1, hs⟩
  iterate 2
    · rw [if_pos (.inr (.inr (.inl hb1)))] at eE
      clear hb1
      repeat' (first | ((with_reducible refine at_call 56 ?_); refine sx_callv (fun w hm => htf _ (hf.mem hm.nil)) ?_ rfl) | ((with_reducible refine at_call 56 ?_); refine sx_callv (fun w hm => htt _ (ht.mem hm.nil)) ?_ rfl) | ((with_reducible refine at_op ?_); first | ((with_reducible refine at_guard ?_); first | refine sx_want rfl rfl rfl ras ?_ | refine sx_skip rfl rfl rfl ras ?_ | refine sx_skipu rfl rfl rfl ?_) | ((with_reducible refine at_move ?_); refine sx_move _ vf ?_) | ((with_reducible refine at_bin ?_); first | refine sx_gtr rfl rfl ?_ | refine sx_neq rfl rfl ?_) | ((with_reducible refine at_assign ?_); refine sx_assign _ vf ?_) | ((with_reducible refine at_load ?_); refine sx_loadE rfl pc gv ?_) | refine sx_fieldAddr rfl ?_ | refine sx_not rfl ?_ | ((with_reducible refine at_pick ?_); first | refine sx_pickT (.bool _) rfl dec rfl ?_ | refine sx_pickF (.bool _) rfl dec rfl ?_) | refine sx_len rfl ?_) | refine sx_nil ?_ | ((with_reducible refine at_code ?_); first | refine cx_seq ?_ | refine cx_region ?_ | refine cx_ret ?_ | refine cx_true rfl ?_) | ((with_reducible refine at_exit ?_); first | refine qx_then ?_ | refine qx_then_ret ?_))
      all_goals first
        | (exfalso; omega)
        | exact qx_ret1 (v := .int _ _) [] rfl rfl ⟨by rw [eE], rfl⟩ (fun w hm => hm.nil)
  have eE2 : ruE ps kp way kind sa sl da dl lf lt = if kp = true ∧ ps = false then 3 else 0 := by
    rw [eE]
    by_cases hk : kp = true ∧ ps = false
    · rw [if_pos hk, if_pos (.inr (.inr (.inr hk)))]
    · rw [if_neg hk, if_neg]
      rintro (h | h | h | h)
      · exact h k2
      · exact h k4
      · exact hb1 h
      · exact hk h
  clear eE hb1
  rcases hs with ⟨s1, s2⟩ | ⟨s1 | ⟨s0, s1⟩, s2 | ⟨s2, s3⟩⟩
  all_goals
    cases kp <;> cases ps
    all_goals
      simp only [Bool.false_eq_true, Bool.true_eq_false, and_true, and_false, true_and, false_and, if_true, if_false] at eE2
      repeat' (first | ((with_reducible refine at_call 56 ?_); refine sx_callv (fun w hm => htf _ (hf.mem hm.nil)) ?_ rfl) | ((with_reducible refine at_call 56 ?_); refine sx_callv (fun w hm => htt _ (ht.mem hm.nil)) ?_ rfl) | ((with_reducible refine at_op ?_); first | ((with_reducible refine at_guard ?_); first | refine sx_want rfl rfl rfl ras ?_ | refine sx_skip rfl rfl rfl ras ?_) | ((with_reducible refine at_move ?_); refine sx_move _ vf ?_) | ((with_reducible refine at_bin ?_); first | refine sx_gtr rfl rfl ?_ | refine sx_neq rfl rfl ?_) | ((with_reducible refine at_assign ?_); refine sx_assign _ vf ?_) | ((with_reducible refine at_load ?_); refine sx_loadE rfl pc gv ?_) | refine sx_fieldAddr rfl ?_ | refine sx_not rfl ?_ | ((with_reducible refine at_pick ?_); first | refine sx_pickT (.bool _) rfl dec rfl ?_ | refine sx_pickF (.bool _) rfl dec rfl ?_) | refine sx_len rfl ?_) | refine sx_nil ?_ | ((with_reducible refine at_code ?_); first | refine cx_seq ?_ | refine cx_region ?_ | refine cx_skip ?_ | refine cx_ret ?_ | refine cx_true rfl ?_ | refine cx_false rfl ?_) | ((with_reducible refine at_exit ?_); first | refine qx_then ?_ | refine qx_then_ret ?_))
      all_goals first
        | (exfalso; omega)
        | exact qx_ret1 (v := .int _ _) [] rfl rfl ⟨by rw [eE2], rfl⟩ (fun w hm => hm.nil)
set_option maxHeartbeats 4000000 in
theorem ref_Rules {A0 : Option Addr} {len cap : Nat} {l : List Ru} {w : World} (hrow : IsSl w 11 A0 len cap (l.flatMap Ru.row)) (hl : len = l.length) (hok : ∀ r ∈ l, r.ok w) :
    Calls Tryd.prog 15 #[.slice A0 len cap] w (Ret w [] (isV (.int .i64 (rcE l)))) := by
  obtain ⟨xb, xo, hA⟩ := hrow.base
  refine cx_enter (args := [.slice A0 len cap]) (F := [(0, .slice A0 len cap)]) _ [] Tryd.func15 rfl Tryd.ntmps15 (by simp) rfl (Mem.refl _) (fun g => ?_)
  by_cases hbig : 20 < l.length
  · have e4 : rcE l = 4 := by unfold rcE; rw [if_pos hbig]
    repeat' (first | ((with_reducible refine at_op ?_); first | ((with_reducible refine at_move ?_); refine sx_move _ vf ?_) | ((with_reducible refine at_bin ?_); refine sx_gtr rfl rfl ?_) | ((with_reducible refine at_assign ?_); refine sx_assign _ vf ?_) | refine sx_len rfl ?_) | refine sx_nil ?_ | ((with_reducible refine at_code ?_); first | refine cx_seq ?_ | refine cx_region ?_ | refine cx_ret ?_ | (refine cx_cond rfl (fun h => ?_) (fun h => ?_) <;> (try simp only [decide_eq_true_eq, decide_eq_false_iff_not, Bool.and_eq_true, Bool.or_eq_true, Bool.and_eq_false_iff, Bool.or_eq_false_iff, Bool.not_eq_true', Bool.not_eq_false', Bool.not_true, Bool.not_false, Bool.true_or, Bool.or_true, Bool.false_or, Bool.or_false, Bool.and_true, Bool.true_and, Bool.false_and, Bool.and_false, reduceCtorEq, Classical.not_not, beq_self_eq_true, bne_self_eq_false, not_true_eq_false, not_false_eq_true, or_false, false_or, or_true, true_or, and_true, true_and, and_false, false_and, or_self, and_self] at h) <;> (try (exfalso; omega)))) | ((with_reducible refine at_exit ?_); first | refine qx_then ?_ | refine qx_then_ret ?_))
    all_goals first
      | (exfalso; omega)
      | exact qx_ret1 (v := .int _ _) [] rfl rfl ⟨by rw [e4], rfl⟩ (fun w hm => hm.nil)
  have eE : rcE l = firstE l := by unfold rcE; rw [if_neg hbig]
  repeat' (first | ((with_reducible refine at_op ?_); first | ((with_reducible refine at_move ?_); refine sx_move _ vf ?_) | ((with_reducible refine at_bin ?_); refine sx_gtr rfl rfl ?_) | ((with_reducible refine at_assign ?_); refine sx_assign _ vf ?_) | refine sx_len rfl ?_) | refine sx_nil ?_ | ((with_reducible refine at_code ?_); first | refine cx_seq ?_ | refine cx_region ?_ | refine cx_skip ?_ | refine cx_block ?_ | (refine cx_cond rfl (fun h => ?_) (fun h => ?_) <;> (try simp only [decide_eq_true_eq, decide_eq_false_iff_not, Bool.and_eq_true, Bool.or_eq_true, Bool.and_eq_false_iff, Bool.or_eq_false_iff, Bool.not_eq_true', Bool.not_eq_false', Bool.not_true, Bool.not_false, Bool.true_or, Bool.or_true, Bool.false_or, Bool.or_false, Bool.and_true, Bool.true_and, Bool.false_and, Bool.and_false, reduceCtorEq, Classical.not_not, beq_self_eq_true, bne_self_eq_false, not_true_eq_false, not_false_eq_true, or_false, false_or, or_true, true_or, and_true, true_and, and_false, false_and, or_self, and_self] at h) <;> (try (exfalso; omega)))) | ((with_reducible refine at_exit ?_); refine qx_then ?_))
  all_goals try (exfalso; omega)
  refine cx_loop (fun mm fr L => ∃ i : Nat, FF fr [(0, .slice A0 len cap), (3, .int .i64 i)] ∧ mm = len - i ∧ i ≤ len ∧ firstE l = firstE (l.drop i)) len ⟨0, ffr, rfl, by omega, rfl⟩ ?_
  rintro mm fr L ⟨i, hF, rfl, hi, hfi⟩ K hK
  refine cx_use hF fun g => ?_
  clear hF
  by_cases hin : i < len
  rotate_left
  · have e0 : rcE l = 0 := by rw [eE, hfi, List.drop_of_length_le (by omega)]; rfl
    clear hfi eE
    repeat' (first | ((with_reducible refine at_op ?_); first | ((with_reducible refine at_move ?_); refine sx_move _ vf ?_) | ((with_reducible refine at_bin ?_); refine sx_lss rfl rfl ?_) | ((with_reducible refine at_assign ?_); refine sx_assign _ vf ?_) | refine sx_len rfl ?_) | refine sx_nil ?_ | ((with_reducible refine at_code ?_); first | refine cx_seq ?_ | refine cx_region ?_ | refine cx_ret ?_ | refine cx_exit ?_ | (refine cx_cond rfl (fun h => ?_) (fun h => ?_) <;> (try simp only [decide_eq_true_eq, decide_eq_false_iff_not, Bool.and_eq_true, Bool.or_eq_true, Bool.and_eq_false_iff, Bool.or_eq_false_iff, Bool.not_eq_true', Bool.not_eq_false', Bool.not_true, Bool.not_false, Bool.true_or, Bool.or_true, Bool.false_or, Bool.or_false, Bool.and_true, Bool.true_and, Bool.false_and, Bool.and_false, reduceCtorEq, Classical.not_not, beq_self_eq_true, bne_self_eq_false, not_true_eq_false, not_false_eq_true, or_false, false_or, or_true, true_or, and_true, true_and, and_false, false_and, or_self, and_self] at h) <;> (try (exfalso; omega)))) | ((with_reducible refine at_exit ?_); first | refine qx_then ?_ | refine qx_in_here ?_ | refine qx_then_exit ?_))
    all_goals first
      | (exfalso; omega)
      | exact qx_ret1 (v := .int _ _) [] rfl rfl ⟨by rw [e0], rfl⟩ (fun w hm => hm.nil)
  obtain ⟨⟨ps, qk, kp, way, kind, sa, sl, da, dl, FA, fl, fc, TA, tl, tc, lf, lt⟩, hs⟩ : ∃ r, l[i]? = some r := ⟨_, List.getElem?_eq_getElem (by omega)⟩
  obtain ⟨⟨ho1, ho2⟩, ho3, ho4⟩ := hok _ (List.mem_of_getElem? hs)
  dsimp only at ho1 ho2 ho3 ho4
  have hrow' : ∀ j v, ([.bool ps, .bool qk, .bool kp, .int .i64 way, .int .i64 kind, .int .i64 sa, .int .i64 sl, .int .i64 da, .int .i64 dl, .slice FA fl fc, .slice TA tl tc] : List Value)[j]? = some v → (l.flatMap Ru.row)[(i : Int).toNat * 11 + j]? = some v := fun j v hv => ru_at (r := ⟨ps, qk, kp, way, kind, sa, sl, da, dl, FA, fl, fc, TA, tl, tc, lf, lt⟩) (i := (i : Int).toNat) (by rw [Int.toNat_natCast]; exact hs) j v hv
  have herr : Ru.err ⟨ps, qk, kp, way, kind, sa, sl, da, dl, FA, fl, fc, TA, tl, tc, lf, lt⟩ = ruE ps kp way kind sa sl da dl lf lt := by unfold Ru.err; rfl
  by_cases h0 : ruE ps kp way kind sa sl da dl lf lt = 0
  · have hn := firstE_step hs (by rw [herr]; exact h0)
    repeat' (first | ((with_reducible refine at_ixaddr ?_); refine sx_indexQ rfl (hA (by omega)).1 rfl (by omega) ?_) | ((with_reducible refine at_load ?_); refine sx_loadOldA (vs := [.bool ps, .bool qk, .bool kp, .int .i64 way, .int .i64 kind, .int .i64 sa, .int .i64 sl, .int .i64 da, .int .i64 dl, .slice FA fl fc, .slice TA tl tc]) rfl (hA (by omega)).2.2 (hA (by omega)).2.1 (by simp) rfl hrow' ?_) | ((with_reducible refine at_call 34 ?_); refine sx_callv (fun w hm => ref_Rule _ _ _ _ _ _ _ _ _ (ho1.mem hm.nil) ho2 (ho3.mem hm.nil) ho4) ?_ rfl) | ((with_reducible refine at_op ?_); first | ((with_reducible refine at_move ?_); refine sx_move _ vf ?_) | ((with_reducible refine at_bin ?_); first | refine sx_lss rfl rfl ?_ | refine sx_neq rfl rfl ?_ | refine sx_add rfl rfl bnd ?_) | ((with_reducible refine at_assign ?_); refine sx_assign _ vf ?_) | refine sx_len rfl ?_) | refine sx_nil ?_ | ((with_reducible refine at_code ?_); first | refine cx_seq ?_ | refine cx_region ?_ | refine cx_skip ?_ | refine cx_block ?_ | (refine cx_cond rfl (fun h => ?_) (fun h => ?_) <;> (try simp only [decide_eq_true_eq, decide_eq_false_iff_not, Bool.and_eq_true, Bool.or_eq_true, Bool.and_eq_false_iff, Bool.or_eq_false_iff, Bool.not_eq_true', Bool.not_eq_false', Bool.not_true, Bool.not_false, Bool.true_or, Bool.or_true, Bool.false_or, Bool.or_false, Bool.and_true, Bool.true_and, Bool.false_and, Bool.and_false, reduceCtorEq, Classical.not_not, beq_self_eq_true, bne_self_eq_false, not_true_eq_false, not_false_eq_true, or_false, false_or, or_true, true_or, and_true, true_and, and_false, false_and, or_self, and_self] at h) <;> (try (exfalso; omega)))) | ((with_reducible refine at_exit ?_); first | refine qx_then ?_ | refine qx_in_normal ?_))
    all_goals first
      | (exfalso; omega)
      | (refine qx_mem ?_ (fun w hm => hm.nil)
         exact hK (len - (i + 1)) _ _ _ (by omega) ⟨i + 1, ffr, rfl, by omega, hfi.trans hn⟩)
  · have hn := firstE_hit hs (by rw [herr]; exact h0)
    rw [herr] at hn
    clear hK
    repeat' (first | ((with_reducible refine at_ixaddr ?_); refine sx_indexQ rfl (hA (by omega)).1 rfl (by omega) ?_) | ((with_reducible refine at_load ?_); refine sx_loadOldA (vs := [.bool ps, .bool qk, .bool kp, .int .i64 way, .int .i64 kind, .int .i64 sa, .int .i64 sl, .int .i64 da, .int .i64 dl, .slice FA fl fc, .slice TA tl tc]) rfl (hA (by omega)).2.2 (hA (by omega)).2.1 (by simp) rfl hrow' ?_) | ((with_reducible refine at_call 34 ?_); refine sx_callv (fun w hm => ref_Rule _ _ _ _ _ _ _ _ _ (ho1.mem hm.nil) ho2 (ho3.mem hm.nil) ho4) ?_ rfl) | ((with_reducible refine at_op ?_); first | ((with_reducible refine at_move ?_); refine sx_move _ vf ?_) | ((with_reducible refine at_bin ?_); first | refine sx_lss rfl rfl ?_ | refine sx_neq rfl rfl ?_) | ((with_reducible refine at_assign ?_); refine sx_assign _ vf ?_) | refine sx_len rfl ?_) | refine sx_nil ?_ | ((with_reducible refine at_code ?_); first | refine cx_seq ?_ | refine cx_region ?_ | refine cx_skip ?_ | refine cx_ret ?_ | refine cx_block ?_ | (refine cx_cond rfl (fun h => ?_) (fun h => ?_) <;> (try simp only [decide_eq_true_eq, decide_eq_false_iff_not, Bool.and_eq_true, Bool.or_eq_true, Bool.and_eq_false_iff, Bool.or_eq_false_iff, Bool.not_eq_true', Bool.not_eq_false', Bool.not_true, Bool.not_false, Bool.true_or, Bool.or_true, Bool.false_or, Bool.or_false, Bool.and_true, Bool.true_and, Bool.false_and, Bool.and_false, reduceCtorEq, Classical.not_not, beq_self_eq_true, bne_self_eq_false, not_true_eq_false, not_false_eq_true, or_false, false_or, or_true, true_or, and_true, true_and, and_false, false_and, or_self, and_self] at h) <;> (try (exfalso; omega)))) | ((with_reducible refine at_exit ?_); first | refine qx_then ?_ | refine qx_in_ret ?_ | refine qx_then_ret ?_))
    all_goals first
      | (exfalso; omega)
      | exact qx_ret1 (v := .int _ _) [] rfl rfl ⟨by rw [eE, hfi, hn], rfl⟩ (fun w hm => hm.nil)
end Go.Proofs.YtoelbnhjamddgaaDoor
