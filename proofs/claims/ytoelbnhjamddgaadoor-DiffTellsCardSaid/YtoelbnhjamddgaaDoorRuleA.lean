/- slices.Equal at spans; rule.ports. -/
import Derived.Test.YtoelbnhjamddgaaDoorSpanC
import Derived.Test.YtoelbnhjamddgaaDoorPairEq
set_option linter.unusedSimpArgs false
set_option linter.unusedVariables false
set_option maxRecDepth 100000
namespace Go.Port
open Classical in
/-- What is wrong with a rule's ports. -/
noncomputable def poE (l : List Sp) : Int := if ¬ spE l = 0 then spE l else if Gap l then 0 else 3
theorem tidy_gap_iff {l out : List Sp} (h : TidyOf l out) : out = l ↔ Gap l := by
  constructor
  · intro e; subst e; exact h.1
  · intro hg; exact TidyOf.one h ⟨hg, fun _ => Iff.rfl, Nat.le_refl _⟩
end Go.Port
namespace Go.Proofs.YtoelbnhjamddgaaDoor
open Go.RowKit Go.Port
attribute [local irreducible] Calls
set_option maxHeartbeats 4000000 in
theorem equal_spans {A1 A2 : Option Addr} {n1 n2 c1 c2 : Nat} {l1 l2 : List Sp} {w : World} (h1 : IsSl w 2 A1 n1 c1 (rowsS l1)) (h2 : IsSl w 2 A2 n2 c2 (rowsS l2)) (hn1 : n1 = l1.length) (hn2 : n2 = l2.length) (hb : n1 ≤ 4611686018427387904) :
    Calls Tryd.prog 59 #[.slice A1 n1 c1, .slice A2 n2 c2] w (Ret w [] (isV (.bool (decide (l1 = l2))))) := by
  obtain ⟨x1, o1, hA1⟩ := h1.base
  obtain ⟨x2, o2, hA2⟩ := h2.base
  refine cx_enter (args := [.slice A1 n1 c1, .slice A2 n2 c2]) (F := [(0, .slice A1 n1 c1), (1, .slice A2 n2 c2)]) _ [] Tryd.func59 rfl Tryd.ntmps59 (by simp) rfl (Mem.refl _) (fun g => ?_)
  by_cases hne : n1 = n2
  rotate_left
  · have e : decide (l1 = l2) = false := decide_eq_false (fun h => hne (by rw [hn1, hn2, h]))
    repeat' (first | ((with_reducible refine at_op ?_); first | ((with_reducible refine at_move ?_); refine sx_move _ vf ?_) | ((with_reducible refine at_bin ?_); refine sx_neq rfl rfl ?_) | ((with_reducible refine at_assign ?_); refine sx_assign _ vf ?_) | refine sx_len rfl ?_) | refine sx_nil ?_ | ((with_reducible refine at_code ?_); first | refine cx_seq ?_ | refine cx_region ?_ | refine cx_ret ?_ | (refine cx_cond rfl (fun h => ?_) (fun h => ?_) <;> (try simp only [decide_eq_true_eq, decide_eq_false_iff_not, Bool.and_eq_true, Bool.or_eq_true, Bool.and_eq_false_iff, Bool.or_eq_false_iff, Bool.not_eq_true', Bool.not_eq_false', Bool.not_true, Bool.not_false, Bool.true_or, Bool.or_true, Bool.false_or, Bool.or_false, Bool.and_true, Bool.true_and, Bool.false_and, Bool.and_false, reduceCtorEq, Classical.not_not, beq_self_eq_true, bne_self_eq_false, not_true_eq_false, not_false_eq_true, or_false, false_or, or_true, true_or, and_true, true_and, and_false, false_and, or_self, and_self] at h) <;> (try (exfalso; omega)))) | ((with_reducible refine at_exit ?_); first | refine qx_then ?_ | refine qx_then_ret ?_))
    all_goals first
      | (exfalso; omega)
      | exact qx_ret1 (v := .bool _) [] rfl rfl ⟨by rw [e], rfl⟩ (fun w hm => hm.nil)
  subst hne
  repeat' (first | ((with_reducible refine at_op ?_); first | ((with_reducible refine at_move ?_); refine sx_move _ vf ?_) | ((with_reducible refine at_bin ?_); refine sx_neq rfl rfl ?_) | ((with_reducible refine at_assign ?_); refine sx_assign _ vf ?_) | refine sx_len rfl ?_) | refine sx_nil ?_ | ((with_reducible refine at_code ?_); first | refine cx_seq ?_ | refine cx_region ?_ | refine cx_skip ?_ | refine cx_block ?_ | (refine cx_cond rfl (fun h => ?_) (fun h => ?_) <;> (try simp only [decide_eq_true_eq, decide_eq_false_iff_not, Bool.and_eq_true, Bool.or_eq_true, Bool.and_eq_false_iff, Bool.or_eq_false_iff, Bool.not_eq_true', Bool.not_eq_false', Bool.not_true, Bool.not_false, Bool.true_or, Bool.or_true, Bool.false_or, Bool.or_false, Bool.and_true, Bool.true_and, Bool.false_and, Bool.and_false, reduceCtorEq, Classical.not_not, beq_self_eq_true, bne_self_eq_false, not_true_eq_false, not_false_eq_true, or_false, false_or, or_true, true_or, and_true, true_and, and_false, false_and, or_self, and_self] at h) <;> (try (exfalso; omega)))) | ((with_reducible refine at_exit ?_); refine qx_then ?_))
  all_goals try (exfalso; omega)
  refine cx_loop (fun mm fr L => ∃ i : Nat, FF fr [(0, .slice A1 n1 c1), (1, .slice A2 n1 c2), (12, .int .i64 n1), (13, .int .i64 i)] ∧ mm = n1 - i ∧ i ≤ n1 ∧ l1.take i = l2.take i) n1 ⟨0, ffr, by omega, by omega, rfl⟩ ?_
  rintro mm fr L ⟨i, hF, rfl, hi, htk⟩ K hK
  refine cx_use hF fun g => ?_
  clear hF
  by_cases hin : i < n1
  rotate_left
  · rw [List.take_of_length_le (by omega), List.take_of_length_le (by omega)] at htk
    have e : decide (l1 = l2) = true := decide_eq_true htk
    clear htk
    repeat' (first | ((with_reducible refine at_op ?_); first | ((with_reducible refine at_bin ?_); refine sx_lss rfl rfl ?_) | ((with_reducible refine at_assign ?_); refine sx_assign _ vf ?_)) | refine sx_nil ?_ | ((with_reducible refine at_code ?_); first | refine cx_seq ?_ | refine cx_region ?_ | refine cx_ret ?_ | refine cx_exit ?_ | (refine cx_cond rfl (fun h => ?_) (fun h => ?_) <;> (try simp only [decide_eq_true_eq, decide_eq_false_iff_not, Bool.and_eq_true, Bool.or_eq_true, Bool.and_eq_false_iff, Bool.or_eq_false_iff, Bool.not_eq_true', Bool.not_eq_false', Bool.not_true, Bool.not_false, Bool.true_or, Bool.or_true, Bool.false_or, Bool.or_false, Bool.and_true, Bool.true_and, Bool.false_and, Bool.and_false, reduceCtorEq, Classical.not_not, beq_self_eq_true, bne_self_eq_false, not_true_eq_false, not_false_eq_true, or_false, false_or, or_true, true_or, and_true, true_and, and_false, false_and, or_self, and_self] at h) <;> (try (exfalso; omega)))) | ((with_reducible refine at_exit ?_); first | refine qx_then ?_ | refine qx_in_here ?_ | refine qx_then_exit ?_))
    all_goals first
      | (exfalso; omega)
      | exact qx_ret1 (v := .bool _) [] rfl rfl ⟨by rw [e], rfl⟩ (fun w hm => hm.nil)
  obtain ⟨⟨a, b'⟩, hs⟩ : ∃ s, l1[i]? = some s := ⟨_, List.getElem?_eq_getElem (by omega)⟩
  obtain ⟨⟨a2, b2⟩, hs2⟩ : ∃ s, l2[i]? = some s := ⟨_, List.getElem?_eq_getElem (by omega)⟩
  have hrow1 := rowsS_get hs (k := (i : Int).toNat * 2) (by omega)
  have hrow2 := rowsS_get hs2 (k := (i : Int).toNat * 2) (by omega)
  unfold encS at hrow1 hrow2
  dsimp only at hrow1 hrow2
  by_cases heq : a = a2 ∧ b' = b2
  · obtain ⟨rfl, rfl⟩ := heq
    have htk' : l1.take (i + 1) = l2.take (i + 1) := by rw [List.take_add_one, List.take_add_one, hs, hs2, htk]
    clear htk
    repeat' (first | ((with_reducible refine at_ixaddr ?_); first | refine sx_indexQ rfl (hA1 (by omega)).1 rfl (by omega) ?_ | refine sx_indexQ rfl (hA2 (by omega)).1 rfl (by omega) ?_) | ((with_reducible refine at_load ?_); first | refine sx_loadOldA (vs := [.int .i64 a, .int .i64 b']) rfl (hA1 (by omega)).2.2 (hA1 (by omega)).2.1 (by simp) rfl hrow1 ?_ | refine sx_loadOldA (vs := [.int .i64 a, .int .i64 b']) rfl (hA2 (by omega)).2.2 (hA2 (by omega)).2.1 (by simp) rfl hrow2 ?_) | ((with_reducible refine at_bin ?_); refine sx_neq2 rfl rfl ?_) | ((with_reducible refine at_op ?_); first | ((with_reducible refine at_move ?_); refine sx_move _ vf ?_) | ((with_reducible refine at_bin ?_); first | refine sx_lss rfl rfl ?_ | refine sx_add rfl rfl bnd ?_) | ((with_reducible refine at_assign ?_); refine sx_assign _ vf ?_)) | refine sx_nil ?_ | ((with_reducible refine at_code ?_); first | refine cx_seq ?_ | refine cx_quiet rfl dk dk ?_ | refine cx_region ?_ | refine cx_skip ?_ | refine cx_block ?_ | (refine cx_cond rfl (fun h => ?_) (fun h => ?_) <;> (try simp only [decide_eq_true_eq, decide_eq_false_iff_not, Bool.and_eq_true, Bool.or_eq_true, Bool.and_eq_false_iff, Bool.or_eq_false_iff, Bool.not_eq_true', Bool.not_eq_false', Bool.not_true, Bool.not_false, Bool.true_or, Bool.or_true, Bool.false_or, Bool.or_false, Bool.and_true, Bool.true_and, Bool.false_and, Bool.and_false, reduceCtorEq, Classical.not_not, beq_self_eq_true, bne_self_eq_false, not_true_eq_false, not_false_eq_true, or_false, false_or, or_true, true_or, and_true, true_and, and_false, false_and, or_self, and_self] at h) <;> (try (exfalso; omega)))) | ((with_reducible refine at_exit ?_); first | refine qx_then ?_ | refine qx_in_normal ?_))
    all_goals first
      | (exfalso; simp at h; done)
      | (exfalso; omega)
      | exact hK (n1 - (i + 1)) _ _ _ (by omega) ⟨i + 1, ffr, by omega, by omega, htk'⟩
  · have e : decide (l1 = l2) = false := decide_eq_false (fun h => by
      rw [h, hs2] at hs
      simp only [Option.some.injEq, Prod.mk.injEq] at hs
      exact heq ⟨hs.1.symm, hs.2.symm⟩)
    clear htk hK
    repeat' (first | ((with_reducible refine at_ixaddr ?_); first | refine sx_indexQ rfl (hA1 (by omega)).1 rfl (by omega) ?_ | refine sx_indexQ rfl (hA2 (by omega)).1 rfl (by omega) ?_) | ((with_reducible refine at_load ?_); first | refine sx_loadOldA (vs := [.int .i64 a, .int .i64 b']) rfl (hA1 (by omega)).2.2 (hA1 (by omega)).2.1 (by simp) rfl hrow1 ?_ | refine sx_loadOldA (vs := [.int .i64 a2, .int .i64 b2]) rfl (hA2 (by omega)).2.2 (hA2 (by omega)).2.1 (by simp) rfl hrow2 ?_) | ((with_reducible refine at_bin ?_); refine sx_neq2 rfl rfl ?_) | ((with_reducible refine at_op ?_); first | ((with_reducible refine at_move ?_); refine sx_move _ vf ?_) | ((with_reducible refine at_bin ?_); refine sx_lss rfl rfl ?_) | ((with_reducible refine at_assign ?_); refine sx_assign _ vf ?_)) | refine sx_nil ?_ | ((with_reducible refine at_code ?_); first | refine cx_seq ?_ | refine cx_quiet rfl dk dk ?_ | refine cx_region ?_ | refine cx_skip ?_ | refine cx_ret ?_ | refine cx_block ?_ | (refine cx_cond rfl (fun h => ?_) (fun h => ?_) <;> (try simp only [decide_eq_true_eq, decide_eq_false_iff_not, Bool.and_eq_true, Bool.or_eq_true, Bool.and_eq_false_iff, Bool.or_eq_false_iff, Bool.not_eq_true', Bool.not_eq_false', Bool.not_true, Bool.not_false, Bool.true_or, Bool.or_true, Bool.false_or, Bool.or_false, Bool.and_true, Bool.true_and, Bool.false_and, Bool.and_false, reduceCtorEq, Classical.not_not, beq_self_eq_true, bne_self_eq_false, not_true_eq_false, not_false_eq_true, or_false, false_or, or_true, true_or, and_true, true_and, and_false, false_and, or_self, and_self] at h) <;> (try (exfalso; omega)))) | ((with_reducible refine at_exit ?_); first | refine qx_then ?_ | refine qx_in_ret ?_ | refine qx_then_ret ?_))
    all_goals first
      | (exfalso; omega)
      | exact qx_ret1 (v := .bool _) [] rfl rfl ⟨by rw [e], rfl⟩ (fun w hm => hm.nil)
theorem rule_ports {A0 : Option Addr} {len cap : Nat} {l : List Sp} {w : World} (hrow : IsSl w 2 A0 len cap (rowsS l)) (hl : len = l.length) :
    Calls Tryd.prog 119 #[.slice A0 len cap] w (Ret w [] (isV (er (poE l)))) := by
  refine cx_enter (args := [.slice A0 len cap]) (F := [(0, .slice A0 len cap)]) _ [] Tryd.func119 rfl Tryd.ntmps119 (by simp) rfl (Mem.refl _) (fun g => ?_)
  by_cases hE : spE l = 0
  rotate_left
  · have e : poE l = spE l := by unfold poE; rw [if_pos hE]
    repeat' (first | ((with_reducible refine at_call 118 ?_); refine sx_callv (fun w hm => span_Check (hrow.mem hm.nil) hl) ?_ rfl) | ((with_reducible refine at_op ?_); first | ((with_reducible refine at_move ?_); refine sx_move _ vf ?_) | ((with_reducible refine at_bin ?_); refine sx_err_ne rfl ?_) | ((with_reducible refine at_assign ?_); refine sx_assign _ vf ?_)) | refine sx_nil ?_ | ((with_reducible refine at_code ?_); first | refine cx_seq ?_ | refine cx_region ?_ | refine cx_ret ?_ | (refine cx_cond rfl (fun h => ?_) (fun h => ?_) <;> (try simp only [decide_eq_true_eq, decide_eq_false_iff_not, Bool.and_eq_true, Bool.or_eq_true, Bool.and_eq_false_iff, Bool.or_eq_false_iff, Bool.not_eq_true', Bool.not_eq_false', Bool.not_true, Bool.not_false, Bool.true_or, Bool.or_true, Bool.false_or, Bool.or_false, Bool.and_true, Bool.true_and, Bool.false_and, Bool.and_false, reduceCtorEq, Classical.not_not, beq_self_eq_true, bne_self_eq_false, not_true_eq_false, not_false_eq_true, or_false, false_or, or_true, true_or, and_true, true_and, and_false, false_and, or_self, and_self] at h) <;> (try (exfalso; omega)))) | ((with_reducible refine at_exit ?_); first | refine qx_then ?_ | refine qx_then_ret ?_))
    all_goals first
      | (exfalso; omega)
      | exact qx_ret1 (v := errV _ _) [] rfl rfl ⟨by rw [e], rfl⟩ (fun w hm => hm.nil)
  obtain ⟨h200, hok⟩ := spE_0.1 hE
  repeat' (first | ((with_reducible refine at_call 118 ?_); refine sx_callv (fun w hm => span_Check (hrow.mem hm.nil) hl) ?_ rfl) | ((with_reducible refine at_call 134 ?_); refine sx_call0 (fun w hm => span_Tidy (hrow.mem hm.nil) hl hE) ?_; rintro _ _ ⟨At, mt, capt, ct, out, rfl, rfl, hot, hmt, hTo⟩; (have hiff := tidy_gap_iff hTo; have hle := hTo.2.2; refine sx_app1 ?_)) | ((with_reducible refine at_call 59 ?_); refine sx_callv (fun w hm => equal_spans (hot.sees (hm.at 0 rfl)).1 (hrow.mem hm.nil) hmt hl (by omega)) ?_ rfl) | ((with_reducible refine at_op ?_); first | ((with_reducible refine at_move ?_); refine sx_move _ vf ?_) | ((with_reducible refine at_bin ?_); refine sx_err_ne rfl ?_) | ((with_reducible refine at_assign ?_); refine sx_assign _ vf ?_) | refine sx_not rfl ?_ | ((with_reducible refine at_iface ?_); refine sx_iface _ vf ?_)) | refine sx_nil ?_ | ((with_reducible refine at_code ?_); first | refine cx_seq ?_ | refine cx_region ?_ | refine cx_skip ?_ | refine cx_ret ?_ | (refine cx_cond rfl (fun h => ?_) (fun h => ?_) <;> (try simp only [decide_eq_true_eq, decide_eq_false_iff_not, Bool.and_eq_true, Bool.or_eq_true, Bool.and_eq_false_iff, Bool.or_eq_false_iff, Bool.not_eq_true', Bool.not_eq_false', Bool.not_true, Bool.not_false, Bool.true_or, Bool.or_true, Bool.false_or, Bool.or_false, Bool.and_true, Bool.true_and, Bool.false_and, Bool.and_false, reduceCtorEq, Classical.not_not, beq_self_eq_true, bne_self_eq_false, not_true_eq_false, not_false_eq_true, or_false, false_or, or_true, true_or, and_true, true_and, and_false, false_and, or_self, and_self] at h) <;> (try (exfalso; omega)))) | ((with_reducible refine at_exit ?_); first | refine qx_then ?_ | refine qx_then_ret ?_))
  all_goals try (exfalso; omega)
  · have e : poE l = 3 := by unfold poE; rw [if_neg (by simp [hE]), if_neg (fun hg => h (hiff.2 hg))]
    exact qx_ret1 (v := .iface _ _) [] rfl rfl ⟨by rw [e, ← er_is (rfl : (3 : Int) = 3) (by decide)], rfl⟩ (fun w hm => hm.nil)
  · have e : poE l = 0 := by unfold poE; rw [if_neg (by simp [hE]), if_pos (hiff.1 h)]
    exact qx_ret1 (v := .nilIface) [] rfl rfl ⟨by rw [e, er, errV_zero], rfl⟩ (fun w hm => hm.nil)
end Go.Proofs.YtoelbnhjamddgaaDoor
