/- rule: what is wrong with one rule. -/
import Derived.Test.YtoelbnhjamddgaaDoorRuleA
import Derived.Test.YtoelbnhjamddgaaDoorAddrA
set_option linter.unusedSimpArgs false
set_option linter.unusedVariables false
set_option maxRecDepth 100000
namespace Go.Port
open Classical in
/-- What is wrong with a rule. -/
noncomputable def ruE (ps kp : Bool) (way kind sa sl da dl : Int) (lf lt : List Sp) : Int :=
  if way < 0 ∨ 2 < way ∨ kind < 0 ∨ 3 < kind then 1 else if ¬ pxE sa sl = 0 then pxE sa sl else if ¬ pxE da dl = 0 then pxE da dl else if 10 < lf.length ∨ 10 < lt.length then 4
  else if ¬ spE lf = 0 then spE lf else if ¬ spE lt = 0 then spE lt
  else if ¬ poE lf = 0 ∨ ¬ poE lt = 0 ∨ (0 < lf.length + lt.length ∧ ¬ kind = 1 ∧ ¬ kind = 2) ∨ (kp = true ∧ ps = false) then 3 else 0
end Go.Port
namespace Go.Proofs.YtoelbnhjamddgaaDoor
open Go.RowKit Go.Port
attribute [local irreducible] Calls spE poE pxE
set_option maxHeartbeats 8000000 in
theorem rule_rule (ps qk kp : Bool) (way kind sa sl da dl : Int) {FA TA : Option Addr} {fl fc tl tc : Nat} {lf lt : List Sp} {w : World} (hf : IsSl w 2 FA fl fc (rowsS lf)) (hfl : fl = lf.length) (ht : IsSl w 2 TA tl tc (rowsS lt)) (htl : tl = lt.length) :
    Calls Tryd.prog 90 #[.agg #[.bool ps, .bool qk, .bool kp, .int .i64 way, .int .i64 kind, .int .i64 sa, .int .i64 sl, .int .i64 da, .int .i64 dl, .slice FA fl fc, .slice TA tl tc]] w (Ret w [] (isV (er (ruE ps kp way kind sa sl da dl lf lt)))) := by
  refine cx_enter (args := [.agg #[.bool ps, .bool qk, .bool kp, .int .i64 way, .int .i64 kind, .int .i64 sa, .int .i64 sl, .int .i64 da, .int .i64 dl, .slice FA fl fc, .slice TA tl tc]]) (F := [(0, .agg #[.bool ps, .bool qk, .bool kp, .int .i64 way, .int .i64 kind, .int .i64 sa, .int .i64 sl, .int .i64 da, .int .i64 dl, .slice FA fl fc, .slice TA tl tc])]) _ [] Tryd.func90 rfl Tryd.ntmps90 (by simp) rfl (Mem.refl _) (fun g => ?_)
  by_cases hw : way < 0 ∨ 2 < way ∨ kind < 0 ∨ 3 < kind
  · have e : ruE ps kp way kind sa sl da dl lf lt = 1 := by unfold ruE; rw [if_pos hw]
    have hc : (way < 0 ∧ decide (way < 0) = true) ∨ (decide (way < 0) = false ∧ 2 < way ∧ decide (2 < way) = true) ∨ (decide (way < 0) = false ∧ decide (2 < way) = false ∧ kind < 0 ∧ decide (kind < 0) = true) ∨ (decide (way < 0) = false ∧ decide (2 < way) = false ∧ decide (kind < 0) = false ∧ 3 < kind) := by
      simp only [decide_eq_true_eq, decide_eq_false_iff_not]
      omega
    rcases hc with ⟨h1, h2⟩ | ⟨h1, h2, h3⟩ | ⟨h1, h2, h3, h4⟩ | ⟨h1, h2, h3, h4⟩
    all_goals
      clear hw
      repeat' (first | ((with_reducible refine at_op ?_); first | ((with_reducible refine at_guard ?_); first | refine sx_want rfl rfl rfl ras ?_ | refine sx_skip rfl rfl rfl ras ?_) | ((with_reducible refine at_move ?_); refine sx_move _ vf ?_) | ((with_reducible refine at_bin ?_); first | refine sx_lss rfl rfl ?_ | refine sx_gtr rfl rfl ?_) | ((with_reducible refine at_assign ?_); refine sx_assign _ vf ?_) | ((with_reducible refine at_load ?_); refine sx_loadE rfl pc gv ?_) | refine sx_fieldAddr rfl ?_ | ((with_reducible refine at_pick ?_); first | refine sx_pickT (.bool _) rfl dec rfl ?_ | refine sx_pickF (.bool _) rfl dec rfl ?_) | ((with_reducible refine at_iface ?_); refine sx_iface _ vf ?_) | (refine sx_box rfl ?_; intro b)) | refine sx_nil ?_ | ((with_reducible refine at_code ?_); first | refine cx_seq ?_ | refine cx_region ?_ | refine cx_ret ?_ | refine cx_true rfl ?_ | (refine cx_cond rfl (fun h => ?_) (fun h => ?_) <;> (try simp only [decide_eq_true_eq, decide_eq_false_iff_not, Bool.and_eq_true, Bool.or_eq_true, Bool.and_eq_false_iff, Bool.or_eq_false_iff, Bool.not_eq_true', Bool.not_eq_false', Bool.not_true, Bool.not_false, Bool.true_or, Bool.or_true, Bool.false_or, Bool.or_false, Bool.and_true, Bool.true_and, Bool.false_and, Bool.and_false, reduceCtorEq, Classical.not_not, beq_self_eq_true, bne_self_eq_false, not_true_eq_false, not_false_eq_true, or_false, false_or, or_true, true_or, and_true, true_and, and_false, false_and, or_self, and_self] at h) <;> (try (exfalso; omega)))) | ((with_reducible refine at_exit ?_); first | refine qx_then ?_ | refine qx_then_ret ?_))
      all_goals first
        | (exfalso; omega)
        | (exfalso; simp only [decide_eq_true_eq, decide_eq_false_iff_not] at *; omega)
        | exact qx_ret1 (v := .iface _ _) [] rfl rfl ⟨by rw [e, ← er_is (rfl : (1 : Int) = 1) (by decide)], rfl⟩ (fun w hm => hm.nil)
  have hwb : (0 ≤ way ∧ way ≤ 2) ∧ 0 ≤ kind ∧ kind ≤ 3 := by omega
  have eE : ruE ps kp way kind sa sl da dl lf lt = if ¬ pxE sa sl = 0 then pxE sa sl else if ¬ pxE da dl = 0 then pxE da dl else if 10 < lf.length ∨ 10 < lt.length then 4 else if ¬ spE lf = 0 then spE lf else if ¬ spE lt = 0 then spE lt else if ¬ poE lf = 0 ∨ ¬ poE lt = 0 ∨ (0 < lf.length + lt.length ∧ ¬ kind = 1 ∧ ¬ kind = 2) ∨ (kp = true ∧ ps = false) then 3 else 0 := by
    rw [ruE, if_neg hw]
  clear hw
  have g1 : decide (way < 0) = false := decide_eq_false (by omega)
  have g2 : decide (2 < way) = false := decide_eq_false (by omega)
  have g3 : decide (kind < 0) = false := decide_eq_false (by omega)
  repeat' (first | ((with_reducible refine at_load ?_); refine sx_loadV 0 [_, _] rfl rfl rfl rfl ?_) | ((with_reducible refine at_op ?_); first | ((with_reducible refine at_guard ?_); refine sx_want rfl rfl rfl ras ?_) | ((with_reducible refine at_move ?_); refine sx_move _ vf ?_) | ((with_reducible refine at_bin ?_); first | refine sx_lss rfl rfl ?_ | refine sx_gtr rfl rfl ?_) | ((with_reducible refine at_assign ?_); refine sx_assign _ vf ?_) | ((with_reducible refine at_load ?_); refine sx_loadE rfl pc gv ?_) | refine sx_fieldAddr rfl ?_ | ((with_reducible refine at_pick ?_); refine sx_pickF (.bool _) rfl dec rfl ?_) | ((with_reducible refine at_buildS ?_); (refine sx_buildS _ rfl rfl rfl bcs rfl ?_; intro b)) | refine sx_len rfl ?_ | (refine sx_box rfl ?_; intro b)) | refine sx_nil ?_ | ((with_reducible refine at_code ?_); first | refine cx_seq ?_ | refine cx_region ?_ | refine cx_skip ?_ | refine cx_block ?_ | (refine cx_cond rfl (fun h => ?_) (fun h => ?_) <;> (try simp only [decide_eq_true_eq, decide_eq_false_iff_not, Bool.and_eq_true, Bool.or_eq_true, Bool.and_eq_false_iff, Bool.or_eq_false_iff, Bool.not_eq_true', Bool.not_eq_false', Bool.not_true, Bool.not_false, Bool.true_or, Bool.or_true, Bool.false_or, Bool.or_false, Bool.and_true, Bool.true_and, Bool.false_and, Bool.and_false, reduceCtorEq, Classical.not_not, beq_self_eq_true, bne_self_eq_false, not_true_eq_false, not_false_eq_true, or_false, false_or, or_true, true_or, and_true, true_and, and_false, false_and, or_self, and_self] at h) <;> (try (exfalso; omega)))) | ((with_reducible refine at_exit ?_); refine qx_then ?_))
  all_goals try (exfalso; omega)
  rename_i bx
  clear h g1 g2 g3
  refine cx_loop (fun mm fr L => ∃ j : Int, FF fr [(1, .pointer (some ⟨bx, 0, none⟩)), (32, .slice (some ⟨b, 0, none⟩) 2 2), (33, .int .i64 2), (34, .int .i64 j)] ∧ L = [[(b, .cells [.int .i64 sa, .int .i64 sl, .int .i64 da, .int .i64 dl].toArray 28 (0, 0))], [(bx, .cells [.bool ps, .bool qk, .bool kp, .int .i64 way, .int .i64 kind, .int .i64 sa, .int .i64 sl, .int .i64 da, .int .i64 dl, .slice FA fl fc, .slice TA tl tc].toArray 55 (0, 0))]] ∧ (j = 0 ∨ (j = 1 ∧ pxE sa sl = 0) ∨ (j = 2 ∧ pxE sa sl = 0 ∧ pxE da dl = 0)) ∧ mm = (2 - j).toNat) 2 ⟨0, ffr, rfl, .inl rfl, rfl⟩ ?_
  rintro mm fr L ⟨j, hF, rfl, hj, rfl⟩ K hK
  refine cx_use hF fun g => ?_
  clear hF
  rcases hj with rfl | ⟨rfl, h1⟩ | ⟨rfl, h1, h2⟩
  · by_cases h1 : pxE sa sl = 0
    rotate_left
    · rw [if_pos h1] at eE
      repeat' (first | ((with_reducible refine at_load ?_); refine sx_loadV 0 [_, _] rfl rfl rfl rfl ?_) | ((with_reducible refine at_call 8 ?_); refine sx_callv (fun w hm => addr_Check _ _ _) ?_ rfl) | ((with_reducible refine at_op ?_); first | ((with_reducible refine at_move ?_); refine sx_move _ vf ?_) | ((with_reducible refine at_bin ?_); first | refine sx_lss rfl rfl ?_ | refine sx_err_ne rfl ?_) | ((with_reducible refine at_assign ?_); refine sx_assign _ vf ?_) | ((with_reducible refine at_stores ?_); first | refine sx_stval _ vf ?_ | refine sx_storeW rfl rfl rfl rfl ?_) | refine sx_index rfl rfl bnd ?_ | (refine sx_alloc ?_; intro b)) | refine sx_nil ?_ | ((with_reducible refine at_code ?_); first | refine cx_seq ?_ | refine cx_region ?_ | refine cx_skip ?_ | refine cx_ret ?_ | refine cx_block ?_ | refine cx_true rfl ?_ | (refine cx_cond rfl (fun h => ?_) (fun h => ?_) <;> (try simp only [decide_eq_true_eq, decide_eq_false_iff_not, Bool.and_eq_true, Bool.or_eq_true, Bool.and_eq_false_iff, Bool.or_eq_false_iff, Bool.not_eq_true', Bool.not_eq_false', Bool.not_true, Bool.not_false, Bool.true_or, Bool.or_true, Bool.false_or, Bool.or_false, Bool.and_true, Bool.true_and, Bool.false_and, Bool.and_false, reduceCtorEq, Classical.not_not, beq_self_eq_true, bne_self_eq_false, not_true_eq_false, not_false_eq_true, or_false, false_or, or_true, true_or, and_true, true_and, and_false, false_and, or_self, and_self] at h) <;> (try (exfalso; omega)))) | ((with_reducible refine at_exit ?_); first | refine qx_then ?_ | refine qx_in_ret ?_ | refine qx_then_ret ?_))
      all_goals first
        | (exfalso; omega)
        | exact qx_ret1 (v := errV _ _) [] rfl rfl ⟨by rw [eE], rfl⟩ (fun w hm => hm.nil)
    repeat' (first | ((with_reducible refine at_load ?_); refine sx_loadV 0 [_, _] rfl rfl rfl rfl ?_) | ((with_reducible refine at_call 8 ?_); refine sx_callv (fun w hm => addr_Check _ _ _) ?_ rfl) | ((with_reducible refine at_op ?_); first | ((with_reducible refine at_move ?_); refine sx_move _ vf ?_) | ((with_reducible refine at_bin ?_); first | refine sx_lss rfl rfl ?_ | refine sx_add rfl rfl bnd ?_ | refine sx_err_ne rfl ?_) | ((with_reducible refine at_assign ?_); refine sx_assign _ vf ?_) | ((with_reducible refine at_stores ?_); first | refine sx_stval _ vf ?_ | refine sx_storeW rfl rfl rfl rfl ?_) | refine sx_index rfl rfl bnd ?_ | (refine sx_alloc ?_; intro b)) | refine sx_nil ?_ | ((with_reducible refine at_code ?_); first | refine cx_seq ?_ | refine cx_region ?_ | refine cx_skip ?_ | refine cx_block ?_ | refine cx_true rfl ?_ | (refine cx_cond rfl (fun h => ?_) (fun h => ?_) <;> (try simp only [decide_eq_true_eq, decide_eq_false_iff_not, Bool.and_eq_true, Bool.or_eq_true, Bool.and_eq_false_iff, Bool.or_eq_false_iff, Bool.not_eq_true', Bool.not_eq_false', Bool.not_true, Bool.not_false, Bool.true_or, Bool.or_true, Bool.false_or, Bool.or_false, Bool.and_true, Bool.true_and, Bool.false_and, Bool.and_false, reduceCtorEq, Classical.not_not, beq_self_eq_true, bne_self_eq_false, not_true_eq_false, not_false_eq_true, or_false, false_or, or_true, true_or, and_true, true_and, and_false, false_and, or_self, and_self] at h) <;> (try (exfalso; omega)))) | ((with_reducible refine at_exit ?_); first | refine qx_then ?_ | refine qx_in_normal ?_))
    all_goals first
      | (exfalso; omega)
      | (refine qx_mem ?_ (fun w hm => by exact hm.picks [1, 1])
         exact hK 1 _ _ _ (by decide) ⟨1, ffr, rfl, .inr (.inl ⟨rfl, h1⟩), rfl⟩)
  · by_cases h2 : pxE da dl = 0
    rotate_left
    · rw [if_neg (by simp [h1]), if_pos h2] at eE
      repeat' (first | ((with_reducible refine at_load ?_); refine sx_loadV 0 [_, _] rfl rfl rfl rfl ?_) | ((with_reducible refine at_call 8 ?_); refine sx_callv (fun w hm => addr_Check _ _ _) ?_ rfl) | ((with_reducible refine at_op ?_); first | ((with_reducible refine at_move ?_); refine sx_move _ vf ?_) | ((with_reducible refine at_bin ?_); first | refine sx_lss rfl rfl ?_ | refine sx_err_ne rfl ?_) | ((with_reducible refine at_assign ?_); refine sx_assign _ vf ?_) | ((with_reducible refine at_stores ?_); first | refine sx_stval _ vf ?_ | refine sx_storeW rfl rfl rfl rfl ?_) | refine sx_index rfl rfl bnd ?_ | (refine sx_alloc ?_; intro b)) | refine sx_nil ?_ | ((with_reducible refine at_code ?_); first | refine cx_seq ?_ | refine cx_region ?_ | refine cx_skip ?_ | refine cx_ret ?_ | refine cx_block ?_ | refine cx_true rfl ?_ | (refine cx_cond rfl (fun h => ?_) (fun h => ?_) <;> (try simp only [decide_eq_true_eq, decide_eq_false_iff_not, Bool.and_eq_true, Bool.or_eq_true, Bool.and_eq_false_iff, Bool.or_eq_false_iff, Bool.not_eq_true', Bool.not_eq_false', Bool.not_true, Bool.not_false, Bool.true_or, Bool.or_true, Bool.false_or, Bool.or_false, Bool.and_true, Bool.true_and, Bool.false_and, Bool.and_false, reduceCtorEq, Classical.not_not, beq_self_eq_true, bne_self_eq_false, not_true_eq_false, not_false_eq_true, or_false, false_or, or_true, true_or, and_true, true_and, and_false, false_and, or_self, and_self] at h) <;> (try (exfalso; omega)))) | ((with_reducible refine at_exit ?_); first | refine qx_then ?_ | refine qx_in_ret ?_ | refine qx_then_ret ?_))
      all_goals first
        | (exfalso; omega)
        | exact qx_ret1 (v := errV _ _) [] rfl rfl ⟨by rw [eE], rfl⟩ (fun w hm => hm.nil)
    repeat' (first | ((with_reducible refine at_load ?_); refine sx_loadV 0 [_, _] rfl rfl rfl rfl ?_) | ((with_reducible refine at_call 8 ?_); refine sx_callv (fun w hm => addr_Check _ _ _) ?_ rfl) | ((with_reducible refine at_op ?_); first | ((with_reducible refine at_move ?_); refine sx_move _ vf ?_) | ((with_reducible refine at_bin ?_); first | refine sx_lss rfl rfl ?_ | refine sx_add rfl rfl bnd ?_ | refine sx_err_ne rfl ?_) | ((with_reducible refine at_assign ?_); refine sx_assign _ vf ?_) | ((with_reducible refine at_stores ?_); first | refine sx_stval _ vf ?_ | refine sx_storeW rfl rfl rfl rfl ?_) | refine sx_index rfl rfl bnd ?_ | (refine sx_alloc ?_; intro b)) | refine sx_nil ?_ | ((with_reducible refine at_code ?_); first | refine cx_seq ?_ | refine cx_region ?_ | refine cx_skip ?_ | refine cx_block ?_ | refine cx_true rfl ?_ | (refine cx_cond rfl (fun h => ?_) (fun h => ?_) <;> (try simp only [decide_eq_true_eq, decide_eq_false_iff_not, Bool.and_eq_true, Bool.or_eq_true, Bool.and_eq_false_iff, Bool.or_eq_false_iff, Bool.not_eq_true', Bool.not_eq_false', Bool.not_true, Bool.not_false, Bool.true_or, Bool.or_true, Bool.false_or, Bool.or_false, Bool.and_true, Bool.true_and, Bool.false_and, Bool.and_false, reduceCtorEq, Classical.not_not, beq_self_eq_true, bne_self_eq_false, not_true_eq_false, not_false_eq_true, or_false, false_or, or_true, true_or, and_true, true_and, and_false, false_and, or_self, and_self] at h) <;> (try (exfalso; omega)))) | ((with_reducible refine at_exit ?_); first | refine qx_then ?_ | refine qx_in_normal ?_))
    all_goals first
      | (exfalso; omega)
      | (refine qx_mem ?_ (fun w hm => by exact hm.picks [1, 1])
         exact hK 0 _ _ _ (by decide) ⟨2, ffr, rfl, .inr (.inr ⟨rfl, h1, h2⟩), rfl⟩)
  rw [if_neg (by simp [h1]), if_neg (by simp [h2])] at eE
  clear hK h1 h2
  by_cases hbig : 10 < lf.length ∨ 10 < lt.length
  · rw [if_pos hbig] at eE
    have hc : (10 < (fl : Int) ∧ decide (10 < (fl : Int)) = true) ∨ (decide (10 < (fl : Int)) = false ∧ 10 < (tl : Int)) := by
      by_cases h : 10 < (fl : Int)
      · exact .inl ⟨h, decide_eq_true h⟩
      · exact .inr ⟨decide_eq_false h, by omega⟩
    rcases hc with ⟨h1, h2⟩ | ⟨h1, h2⟩
    all_goals
      clear hbig
      repeat' (first | ((with_reducible refine at_op ?_); first | ((with_reducible refine at_guard ?_); first | refine sx_want rfl rfl rfl ras ?_ | refine sx_skip rfl rfl rfl ras ?_) | ((with_reducible refine at_move ?_); refine sx_move _ vf ?_) | ((with_reducible refine at_bin ?_); first | refine sx_lss rfl rfl ?_ | refine sx_gtr rfl rfl ?_) | ((with_reducible refine at_assign ?_); refine sx_assign _ vf ?_) | ((with_reducible refine at_load ?_); refine sx_loadE rfl pc gv ?_) | refine sx_fieldAddr rfl ?_ | ((with_reducible refine at_pick ?_); first | refine sx_pickT (.bool _) rfl dec rfl ?_ | refine sx_pickF (.bool _) rfl dec rfl ?_) | ((with_reducible refine at_iface ?_); refine sx_iface _ vf ?_) | refine sx_len rfl ?_) | refine sx_nil ?_ | ((with_reducible refine at_code ?_); first | refine cx_seq ?_ | refine cx_region ?_ | refine cx_ret ?_ | refine cx_exit ?_ | refine cx_true rfl ?_ | refine cx_false rfl ?_ | (refine cx_cond rfl (fun h => ?_) (fun h => ?_) <;> (try simp only [decide_eq_true_eq, decide_eq_false_iff_not, Bool.and_eq_true, Bool.or_eq_true, Bool.and_eq_false_iff, Bool.or_eq_false_iff, Bool.not_eq_true', Bool.not_eq_false', Bool.not_true, Bool.not_false, Bool.true_or, Bool.or_true, Bool.false_or, Bool.or_false, Bool.and_true, Bool.true_and, Bool.false_and, Bool.and_false, reduceCtorEq, Classical.not_not, beq_self_eq_true, bne_self_eq_false, not_true_eq_false, not_false_eq_true, or_false, false_or, or_true, true_or, and_true, true_and, and_false, false_and, or_self, and_self] at h) <;> (try (exfalso; omega)))) | ((with_reducible refine at_exit ?_); first | refine qx_then ?_ | refine qx_in_here ?_ | refine qx_then_ret ?_ | refine qx_then_exit ?_))
      all_goals first
        | (exfalso; omega)
        | (exfalso; simp only [decide_eq_true_eq, decide_eq_false_iff_not] at *; omega)
        | exact qx_ret1 (v := .iface _ _) [] rfl rfl ⟨by rw [eE, ← er_is (rfl : (4 : Int) = 4) (by decide)], rfl⟩ (fun w hm => hm.nil)
  rw [if_neg hbig] at eE
  have g4 : decide (10 < (fl : Int)) = false := decide_eq_false (by omega)
  refine cx_mem (L' := [[(bx, .cells [.bool ps, .bool qk, .bool kp, .int .i64 way, .int .i64 kind, .int .i64 sa, .int .i64 sl, .int .i64 da, .int .i64 dl, .slice FA fl fc, .slice TA tl tc].toArray 55 (0, 0))]]) ?_ (fun w hm => by exact hm.picks [1])
  repeat' (first | ((with_reducible refine at_op ?_); first | ((with_reducible refine at_guard ?_); refine sx_want rfl rfl rfl ras ?_) | ((with_reducible refine at_move ?_); refine sx_move _ vf ?_) | ((with_reducible refine at_bin ?_); first | refine sx_lss rfl rfl ?_ | refine sx_gtr rfl rfl ?_) | ((with_reducible refine at_load ?_); refine sx_loadE rfl pc gv ?_) | refine sx_fieldAddr rfl ?_ | ((with_reducible refine at_pick ?_); refine sx_pickF (.bool _) rfl dec rfl ?_) | ((with_reducible refine at_buildS ?_); (refine sx_buildS _ rfl rfl rfl bcs rfl ?_; intro b)) | refine sx_len rfl ?_) | refine sx_nil ?_ | ((with_reducible refine at_code ?_); first | refine cx_seq ?_ | refine cx_region ?_ | refine cx_skip ?_ | refine cx_exit ?_ | refine cx_block ?_ | refine cx_false rfl ?_ | (refine cx_cond rfl (fun h => ?_) (fun h => ?_) <;> (try simp only [decide_eq_true_eq, decide_eq_false_iff_not, Bool.and_eq_true, Bool.or_eq_true, Bool.and_eq_false_iff, Bool.or_eq_false_iff, Bool.not_eq_true', Bool.not_eq_false', Bool.not_true, Bool.not_false, Bool.true_or, Bool.or_true, Bool.false_or, Bool.or_false, Bool.and_true, Bool.true_and, Bool.false_and, Bool.and_false, reduceCtorEq, Classical.not_not, beq_self_eq_true, bne_self_eq_false, not_true_eq_false, not_false_eq_true, or_false, false_or, or_true, true_or, and_true, true_and, and_false, false_and, or_self, and_self] at h) <;> (try (exfalso; omega)))) | ((with_reducible refine at_exit ?_); first | refine qx_then ?_ | refine qx_in_here ?_ | refine qx_then_exit ?_))
  all_goals try (exfalso; omega)
  clear g4 hbig
  rename_i bl
  obtain ⟨bz, hbz⟩ : ∃ bz, bz = b := ⟨_, rfl⟩
  subst hbz
  refine cx_loop (fun mm fr L => ∃ j : Int, FF fr [(1, .pointer (some ⟨bx, 0, none⟩)), (59, .slice (some ⟨bz, 0, none⟩) 2 2), (60, .int .i64 2), (61, .int .i64 j)] ∧ L = [[(bz, .cells [.slice FA fl fc, .slice TA tl tc].toArray 53 (0, 0))], [(bx, .cells [.bool ps, .bool qk, .bool kp, .int .i64 way, .int .i64 kind, .int .i64 sa, .int .i64 sl, .int .i64 da, .int .i64 dl, .slice FA fl fc, .slice TA tl tc].toArray 55 (0, 0))]] ∧ (j = 0 ∨ (j = 1 ∧ spE lf = 0) ∨ (j = 2 ∧ spE lf = 0 ∧ spE lt = 0)) ∧ mm = (2 - j).toNat) 2 ⟨0, ffr, rfl, .inl rfl, rfl⟩ ?_
  rintro mm fr L ⟨j, hF, rfl, hj, rfl⟩ K hK
  refine cx_use hF fun g => ?_
  clear hF
  rcases hj with rfl | ⟨rfl, h1⟩ | ⟨rfl, h1, h2⟩
  · by_cases h1 : spE lf = 0
    rotate_left
    · rw [if_pos h1] at eE
      repeat' (first | ((with_reducible refine at_call 118 ?_); refine sx_callv (fun w hm => span_Check (hf.mem hm.nil) hfl) ?_ rfl) | ((with_reducible refine at_op ?_); first | ((with_reducible refine at_move ?_); refine sx_move _ vf ?_) | ((with_reducible refine at_bin ?_); first | refine sx_lss rfl rfl ?_ | refine sx_err_ne rfl ?_) | ((with_reducible refine at_assign ?_); refine sx_assign _ vf ?_) | ((with_reducible refine at_load ?_); refine sx_loadE rfl pc gv ?_) | refine sx_index rfl rfl bnd ?_) | refine sx_nil ?_ | ((with_reducible refine at_code ?_); first | refine cx_seq ?_ | refine cx_region ?_ | refine cx_skip ?_ | refine cx_ret ?_ | refine cx_block ?_ | refine cx_true rfl ?_ | (refine cx_cond rfl (fun h => ?_) (fun h => ?_) <;> (try simp only [decide_eq_true_eq, decide_eq_false_iff_not, Bool.and_eq_true, Bool.or_eq_true, Bool.and_eq_false_iff, Bool.or_eq_false_iff, Bool.not_eq_true', Bool.not_eq_false', Bool.not_true, Bool.not_false, Bool.true_or, Bool.or_true, Bool.false_or, Bool.or_false, Bool.and_true, Bool.true_and, Bool.false_and, Bool.and_false, reduceCtorEq, Classical.not_not, beq_self_eq_true, bne_self_eq_false, not_true_eq_false, not_false_eq_true, or_false, false_or, or_true, true_or, and_true, true_and, and_false, false_and, or_self, and_self] at h) <;> (try (exfalso; omega)))) | ((with_reducible refine at_exit ?_); first | refine qx_then ?_ | refine qx_in_ret ?_ | refine qx_then_ret ?_))
      all_goals first
        | (exfalso; omega)
        | exact qx_ret1 (v := errV _ _) [] rfl rfl ⟨by rw [eE], rfl⟩ (fun w hm => hm.nil)
    repeat' (first | ((with_reducible refine at_call 118 ?_); refine sx_callv (fun w hm => span_Check (hf.mem hm.nil) hfl) ?_ rfl) | ((with_reducible refine at_op ?_); first | ((with_reducible refine at_move ?_); refine sx_move _ vf ?_) | ((with_reducible refine at_bin ?_); first | refine sx_lss rfl rfl ?_ | refine sx_add rfl rfl bnd ?_ | refine sx_err_ne rfl ?_) | ((with_reducible refine at_assign ?_); refine sx_assign _ vf ?_) | ((with_reducible refine at_load ?_); refine sx_loadE rfl pc gv ?_) | refine sx_index rfl rfl bnd ?_) | refine sx_nil ?_ | ((with_reducible refine at_code ?_); first | refine cx_seq ?_ | refine cx_region ?_ | refine cx_skip ?_ | refine cx_block ?_ | refine cx_true rfl ?_ | (refine cx_cond rfl (fun h => ?_) (fun h => ?_) <;> (try simp only [decide_eq_true_eq, decide_eq_false_iff_not, Bool.and_eq_true, Bool.or_eq_true, Bool.and_eq_false_iff, Bool.or_eq_false_iff, Bool.not_eq_true', Bool.not_eq_false', Bool.not_true, Bool.not_false, Bool.true_or, Bool.or_true, Bool.false_or, Bool.or_false, Bool.and_true, Bool.true_and, Bool.false_and, Bool.and_false, reduceCtorEq, Classical.not_not, beq_self_eq_true, bne_self_eq_false, not_true_eq_false, not_false_eq_true, or_false, false_or, or_true, true_or, and_true, true_and, and_false, false_and, or_self, and_self] at h) <;> (try (exfalso; omega)))) | ((with_reducible refine at_exit ?_); first | refine qx_then ?_ | refine qx_in_normal ?_))
    all_goals first
      | (exfalso; omega)
      | exact hK 1 _ _ _ (by decide) ⟨1, ffr, rfl, .inr (.inl ⟨rfl, h1⟩), rfl⟩
  · by_cases h2 : spE lt = 0
    rotate_left
    · rw [if_neg (by simp [h1]), if_pos h2] at eE
      repeat' (first | ((with_reducible refine at_call 118 ?_); refine sx_callv (fun w hm => span_Check (ht.mem hm.nil) htl) ?_ rfl) | ((with_reducible refine at_op ?_); first | ((with_reducible refine at_move ?_); refine sx_move _ vf ?_) | ((with_reducible refine at_bin ?_); first | refine sx_lss rfl rfl ?_ | refine sx_err_ne rfl ?_) | ((with_reducible refine at_assign ?_); refine sx_assign _ vf ?_) | ((with_reducible refine at_load ?_); refine sx_loadE rfl pc gv ?_) | refine sx_index rfl rfl bnd ?_) | refine sx_nil ?_ | ((with_reducible refine at_code ?_); first | refine cx_seq ?_ | refine cx_region ?_ | refine cx_skip ?_ | refine cx_ret ?_ | refine cx_block ?_ | refine cx_true rfl ?_ | (refine cx_cond rfl (fun h => ?_) (fun h => ?_) <;> (try simp only [decide_eq_true_eq, decide_eq_false_iff_not, Bool.and_eq_true, Bool.or_eq_true, Bool.and_eq_false_iff, Bool.or_eq_false_iff, Bool.not_eq_true', Bool.not_eq_false', Bool.not_true, Bool.not_false, Bool.true_or, Bool.or_true, Bool.false_or, Bool.or_false, Bool.and_true, Bool.true_and, Bool.false_and, Bool.and_false, reduceCtorEq, Classical.not_not, beq_self_eq_true, bne_self_eq_false, not_true_eq_false, not_false_eq_true, or_false, false_or, or_true, true_or, and_true, true_and, and_false, false_and, or_self, and_self] at h) <;> (try (exfalso; omega)))) | ((with_reducible refine at_exit ?_); first | refine qx_then ?_ | refine qx_in_ret ?_ | refine qx_then_ret ?_))
      all_goals first
        | (exfalso; omega)
        | exact qx_ret1 (v := errV _ _) [] rfl rfl ⟨by rw [eE], rfl⟩ (fun w hm => hm.nil)
    repeat' (first | ((with_reducible refine at_call 118 ?_); refine sx_callv (fun w hm => span_Check (ht.mem hm.nil) htl) ?_ rfl) | ((with_reducible refine at_op ?_); first | ((with_reducible refine at_move ?_); refine sx_move _ vf ?_) | ((with_reducible refine at_bin ?_); first | refine sx_lss rfl rfl ?_ | refine sx_add rfl rfl bnd ?_ | refine sx_err_ne rfl ?_) | ((with_reducible refine at_assign ?_); refine sx_assign _ vf ?_) | ((with_reducible refine at_load ?_); refine sx_loadE rfl pc gv ?_) | refine sx_index rfl rfl bnd ?_) | refine sx_nil ?_ | ((with_reducible refine at_code ?_); first | refine cx_seq ?_ | refine cx_region ?_ | refine cx_skip ?_ | refine cx_block ?_ | refine cx_true rfl ?_ | (refine cx_cond rfl (fun h => ?_) (fun h => ?_) <;> (try simp only [decide_eq_true_eq, decide_eq_false_iff_not, Bool.and_eq_true, Bool.or_eq_true, Bool.and_eq_false_iff, Bool.or_eq_false_iff, Bool.not_eq_true', Bool.not_eq_false', Bool.not_true, Bool.not_false, Bool.true_or, Bool.or_true, Bool.false_or, Bool.or_false, Bool.and_true, Bool.true_and, Bool.false_and, Bool.and_false, reduceCtorEq, Classical.not_not, beq_self_eq_true, bne_self_eq_false, not_true_eq_false, not_false_eq_true, or_false, false_or, or_true, true_or, and_true, true_and, and_false, false_and, or_self, and_self] at h) <;> (try (exfalso; omega)))) | ((with_reducible refine at_exit ?_); first | refine qx_then ?_ | refine qx_in_normal ?_))
    all_goals first
      | (exfalso; omega)
      | exact hK 0 _ _ _ (by decide) ⟨2, ffr, rfl, .inr (.inr ⟨rfl, h1, h2⟩), rfl⟩
  rw [if_neg (by simp [h1]), if_neg (by simp [h2])] at eE
  clear hK
  have hl2 := (spE_0.1 h1).1
  have hl3 := (spE_0.1 h2).1
  clear h1 h2
  by_cases h3 : poE lf = 0
  rotate_left
  · have g5 : decide (¬ poE lf = 0) = true := decide_eq_true h3
    rw [if_pos (.inl h3)] at eE
    repeat' (first | ((with_reducible refine at_call 119 ?_); refine sx_callv (fun w hm => rule_ports (hf.mem hm.nil) hfl) ?_ rfl) | ((with_reducible refine at_op ?_); first | ((with_reducible refine at_guard ?_); first | refine sx_skip rfl rfl rfl ras ?_ | refine sx_skipu rfl rfl rfl ?_) | ((with_reducible refine at_move ?_); refine sx_move _ vf ?_) | ((with_reducible refine at_bin ?_); first | refine sx_lss rfl rfl ?_ | refine sx_err_ne rfl ?_) | ((with_reducible refine at_assign ?_); refine sx_assign _ vf ?_) | ((with_reducible refine at_load ?_); refine sx_loadE rfl pc gv ?_) | refine sx_fieldAddr rfl ?_ | ((with_reducible refine at_pick ?_); refine sx_pickT (.bool _) rfl dec rfl ?_) | ((with_reducible refine at_iface ?_); refine sx_iface _ vf ?_)) | refine sx_nil ?_ | ((with_reducible refine at_code ?_); first | refine cx_seq ?_ | refine cx_region ?_ | refine cx_ret ?_ | refine cx_exit ?_ | refine cx_true rfl ?_ | refine cx_false rfl ?_) | ((with_reducible refine at_exit ?_); first | refine qx_then ?_ | refine qx_in_here ?_ | refine qx_then_ret ?_ | refine qx_then_exit ?_))
    all_goals first
      | (exfalso; omega)
      | exact qx_ret1 (v := .iface _ _) [] rfl rfl ⟨by rw [eE, ← er_is (rfl : (3 : Int) = 3) (by decide)], rfl⟩ (fun w hm => hm.nil)
  have g5 : decide (¬ poE lf = 0) = false := by simp [h3]
  by_cases h4 : poE lt = 0
  rotate_left
  · have g6 : decide (¬ poE lt = 0) = true := decide_eq_true h4
    rw [if_pos (.inr (.inl h4))] at eE
    repeat' (first | ((with_reducible refine at_call 119 ?_); refine sx_callv (fun w hm => rule_ports (hf.mem hm.nil) hfl) ?_ rfl) | ((with_reducible refine at_call 119 ?_); refine sx_callv (fun w hm => rule_ports (ht.mem hm.nil) htl) ?_ rfl) | ((with_reducible refine at_op ?_); first | ((with_reducible refine at_guard ?_); first | refine sx_want rfl rfl rfl ras ?_ | refine sx_skip rfl rfl rfl ras ?_ | refine sx_skipu rfl rfl rfl ?_) | ((with_reducible refine at_move ?_); refine sx_move _ vf ?_) | ((with_reducible refine at_bin ?_); first | refine sx_lss rfl rfl ?_ | refine sx_err_ne rfl ?_) | ((with_reducible refine at_assign ?_); refine sx_assign _ vf ?_) | ((with_reducible refine at_load ?_); refine sx_loadE rfl pc gv ?_) | refine sx_fieldAddr rfl ?_ | ((with_reducible refine at_pick ?_); first | refine sx_pickT (.bool _) rfl dec rfl ?_ | refine sx_pickF (.bool _) rfl dec rfl ?_) | ((with_reducible refine at_iface ?_); refine sx_iface _ vf ?_)) | refine sx_nil ?_ | ((with_reducible refine at_code ?_); first | refine cx_seq ?_ | refine cx_region ?_ | refine cx_ret ?_ | refine cx_exit ?_ | refine cx_true rfl ?_ | refine cx_false rfl ?_) | ((with_reducible refine at_exit ?_); first | refine qx_then ?_ | refine qx_in_here ?_ | refine qx_then_ret ?_ | refine qx_then_exit ?_))
    all_goals first
      | (exfalso; omega)
      | exact qx_ret1 (v := .iface _ _) [] rfl rfl ⟨by rw [eE, ← er_is (rfl : (3 : Int) = 3) (by decide)], rfl⟩ (fun w hm => hm.nil)
  have g6 : decide (¬ poE lt = 0) = false := by simp [h4]
  have hc : ((0 < lf.length + lt.length ∧ ¬ kind = 1 ∧ ¬ kind = 2) ∧ decide (0 < (fl : Int) + (tl : Int)) = true ∧ decide (¬ kind = 1) = true ∧ decide (¬ kind = 2) = true) ∨
      (¬ (0 < lf.length + lt.length ∧ ¬ kind = 1 ∧ ¬ kind = 2) ∧ ((decide (0 < (fl : Int) + (tl : Int)) = false) ∨ (decide (0 < (fl : Int) + (tl : Int)) = true ∧ decide (¬ kind = 1) = false) ∨ (decide (0 < (fl : Int) + (tl : Int)) = true ∧ decide (¬ kind = 1) = true ∧ decide (¬ kind = 2) = false))) := by
    simp only [decide_eq_true_eq, decide_eq_false_iff_not]
    omega
  rcases hc with ⟨hb1, s1, s2, s3⟩ | ⟨hb1, hs⟩
  · rw [if_pos (.inr (.inr (.inl hb1)))] at eE
    clear hb1
    repeat' (first | ((with_reducible refine at_call 119 ?_); refine sx_callv (fun w hm => rule_ports (hf.mem hm.nil) hfl) ?_ rfl) | ((with_reducible refine at_call 119 ?_); refine sx_callv (fun w hm => rule_ports (ht.mem hm.nil) htl) ?_ rfl) | ((with_reducible refine at_op ?_); first | ((with_reducible refine at_guard ?_); first | refine sx_want rfl rfl rfl ras ?_ | refine sx_skip rfl rfl rfl ras ?_ | refine sx_skipu rfl rfl rfl ?_) | ((with_reducible refine at_move ?_); refine sx_move _ vf ?_) | ((with_reducible refine at_bin ?_); first | refine sx_lss rfl rfl ?_ | refine sx_gtr rfl rfl ?_ | refine sx_neq rfl rfl ?_ | refine sx_add rfl rfl bnd ?_ | refine sx_err_ne rfl ?_) | ((with_reducible refine at_assign ?_); refine sx_assign _ vf ?_) | ((with_reducible refine at_load ?_); refine sx_loadE rfl pc gv ?_) | refine sx_fieldAddr rfl ?_ | ((with_reducible refine at_pick ?_); first | refine sx_pickT (.bool _) rfl dec rfl ?_ | refine sx_pickF (.bool _) rfl dec rfl ?_) | ((with_reducible refine at_iface ?_); refine sx_iface _ vf ?_) | refine sx_len rfl ?_) | refine sx_nil ?_ | ((with_reducible refine at_code ?_); first | refine cx_seq ?_ | refine cx_region ?_ | refine cx_ret ?_ | refine cx_exit ?_ | refine cx_true rfl ?_ | refine cx_false rfl ?_) | ((with_reducible refine at_exit ?_); first | refine qx_then ?_ | refine qx_in_here ?_ | refine qx_then_ret ?_ | refine qx_then_exit ?_))
    all_goals first
      | (exfalso; omega)
      | exact qx_ret1 (v := .iface _ _) [] rfl rfl ⟨by rw [eE, ← er_is (rfl : (3 : Int) = 3) (by decide)], rfl⟩ (fun w hm => hm.nil)
  have eE2 : ruE ps kp way kind sa sl da dl lf lt = if kp = true ∧ ps = false then 3 else 0 := by
    rw [eE]
    by_cases hk : kp = true ∧ ps = false
    · rw [if_pos hk, if_pos (.inr (.inr (.inr hk)))]
    · rw [if_neg hk, if_neg]
      rintro (h | h | h | h)
      · exact h h3
      · exact h h4
      · exact hb1 h
      · exact hk h
  clear eE hb1
  rcases hs with s1 | ⟨s1, s2⟩ | ⟨s1, s2, s3⟩
  all_goals
    cases kp <;> cases ps
    all_goals
      simp only [Bool.false_eq_true, Bool.true_eq_false, and_true, and_false, true_and, false_and, if_true, if_false] at eE2
      repeat' (first | ((with_reducible refine at_call 119 ?_); refine sx_callv (fun w hm => rule_ports (hf.mem hm.nil) hfl) ?_ rfl) | ((with_reducible refine at_call 119 ?_); refine sx_callv (fun w hm => rule_ports (ht.mem hm.nil) htl) ?_ rfl) | ((with_reducible refine at_op ?_); first | ((with_reducible refine at_guard ?_); first | refine sx_want rfl rfl rfl ras ?_ | refine sx_skip rfl rfl rfl ras ?_) | ((with_reducible refine at_move ?_); refine sx_move _ vf ?_) | ((with_reducible refine at_bin ?_); first | refine sx_lss rfl rfl ?_ | refine sx_gtr rfl rfl ?_ | refine sx_neq rfl rfl ?_ | refine sx_add rfl rfl bnd ?_ | refine sx_err_ne rfl ?_) | ((with_reducible refine at_assign ?_); refine sx_assign _ vf ?_) | ((with_reducible refine at_load ?_); refine sx_loadE rfl pc gv ?_) | refine sx_fieldAddr rfl ?_ | refine sx_not rfl ?_ | ((with_reducible refine at_pick ?_); first | refine sx_pickT (.bool _) rfl dec rfl ?_ | refine sx_pickF (.bool _) rfl dec rfl ?_) | ((with_reducible refine at_iface ?_); refine sx_iface _ vf ?_) | refine sx_len rfl ?_) | refine sx_nil ?_ | ((with_reducible refine at_code ?_); first | refine cx_seq ?_ | refine cx_region ?_ | refine cx_skip ?_ | refine cx_ret ?_ | refine cx_exit ?_ | refine cx_true rfl ?_ | refine cx_false rfl ?_) | ((with_reducible refine at_exit ?_); first | refine qx_then ?_ | refine qx_in_here ?_ | refine qx_then_ret ?_ | refine qx_then_exit ?_))
      all_goals first
        | (exfalso; omega)
        | exact qx_ret1 (v := .iface _ _) [] rfl rfl ⟨by rw [eE2, ← er_is (rfl : (3 : Int) = 3) (by decide)], rfl⟩ (fun w hm => hm.nil)
        | exact qx_ret1 (v := .nilIface) [] rfl rfl ⟨by rw [eE2, er, errV_zero], rfl⟩ (fun w hm => hm.nil)
end Go.Proofs.YtoelbnhjamddgaaDoor
