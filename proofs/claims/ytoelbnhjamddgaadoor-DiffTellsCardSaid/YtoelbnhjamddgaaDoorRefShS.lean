/- The reference: spans as text. -/
import Derived.Test.YtoelbnhjamddgaaDoorRefDig
import Derived.Test.YtoelbnhjamddgaaDoorTxtP
import Derived.Test.YtoelbnhjamddgaaDoorSpanA
import Derived.Test.YtoelbnhjamddgaaDoorEngB
set_option linter.unusedSimpArgs false
set_option linter.unusedVariables false
set_option maxRecDepth 100000
namespace Go.Proofs.YtoelbnhjamddgaaDoor
open Go.RowKit Go.Port
attribute [local irreducible] Calls shE shL normR spE cutT spR readS shP wholeT
set_option maxHeartbeats 8000000 in
theorem ref_ShowSpans {A0 : Option Addr} {len cap : Nat} {l : List Sp} {w : World} (hrow : IsSl w 2 A0 len cap (rowsS l)) (hl : len = l.length) (hb : len ≤ 100000) (hok : OkS l) :
    Calls Tryd.prog 89 #[.slice A0 len cap] w (Ret w [] (isV (tx (shL l)))) := by
  obtain ⟨xb, xo, hA⟩ := hrow.base
  refine cx_enter (args := [.slice A0 len cap]) (F := [(0, .slice A0 len cap)]) _ [] Tryd.func89 rfl Tryd.ntmps89 (by simp) rfl (Mem.refl _) (fun g => ?_)
  by_cases h0 : l = []
  · have hlz : (len : Int) = 0 := by rw [hl, h0]; rfl
    have hd := decide_eq_true hlz
    have e : shL l = [45] := by unfold shL; exact if_pos h0
    repeat' (first | ((with_reducible refine at_op ?_); first | ((with_reducible refine at_move ?_); refine sx_move _ vf ?_) | ((with_reducible refine at_bin ?_); refine sx_eql rfl rfl ?_) | ((with_reducible refine at_assign ?_); refine sx_assign _ vf ?_) | refine sx_len rfl ?_) | refine sx_nil ?_ | ((with_reducible refine at_code ?_); first | refine cx_seq ?_ | refine cx_region ?_ | refine cx_ret ?_ | (refine cx_cond rfl (fun h => ?_) (fun h => ?_) <;> (try simp only [decide_eq_true_eq, decide_eq_false_iff_not, Bool.and_eq_true, Bool.or_eq_true, Bool.and_eq_false_iff, Bool.or_eq_false_iff, Bool.not_eq_true', Bool.not_eq_false', Bool.not_true, Bool.not_false, Bool.true_or, Bool.or_true, Bool.false_or, Bool.or_false, Bool.and_true, Bool.true_and, Bool.false_and, Bool.and_false, reduceCtorEq, Classical.not_not, beq_self_eq_true, bne_self_eq_false, not_true_eq_false, not_false_eq_true, or_false, false_or, or_true, true_or, and_true, true_and, and_false, false_and, or_self, and_self] at h) <;> (try (exfalso; omega)))) | ((with_reducible refine at_exit ?_); first | refine qx_then ?_ | refine qx_then_ret ?_))
    all_goals first
      | (exfalso; omega)
      | exact qx_ret1 (v := tx [45]) [] rfl rfl ⟨by rw [e], rfl⟩ (fun w hm => hm.nil)
  have hlp : 0 < len := by rw [hl]; exact List.length_pos_iff.2 h0
  have hd := decide_eq_false (show ¬ (len : Int) = 0 by omega)
  repeat' (first | ((with_reducible refine at_op ?_); first | ((with_reducible refine at_move ?_); refine sx_move _ vf ?_) | ((with_reducible refine at_bin ?_); refine sx_eql rfl rfl ?_) | ((with_reducible refine at_assign ?_); refine sx_assign _ vf ?_) | refine sx_len rfl ?_) | refine sx_nil ?_ | ((with_reducible refine at_code ?_); first | refine cx_seq ?_ | refine cx_region ?_ | refine cx_skip ?_ | refine cx_block ?_ | (refine cx_cond rfl (fun h => ?_) (fun h => ?_) <;> (try simp only [decide_eq_true_eq, decide_eq_false_iff_not, Bool.and_eq_true, Bool.or_eq_true, Bool.and_eq_false_iff, Bool.or_eq_false_iff, Bool.not_eq_true', Bool.not_eq_false', Bool.not_true, Bool.not_false, Bool.true_or, Bool.or_true, Bool.false_or, Bool.or_false, Bool.and_true, Bool.true_and, Bool.false_and, Bool.and_false, reduceCtorEq, Classical.not_not, beq_self_eq_true, bne_self_eq_false, not_true_eq_false, not_false_eq_true, or_false, false_or, or_true, true_or, and_true, true_and, and_false, false_and, or_self, and_self] at h) <;> (try (exfalso; omega)))) | ((with_reducible refine at_exit ?_); refine qx_then ?_))
  all_goals try (exfalso; omega)
  refine cx_loop (fun mm fr L => ∃ i : Nat, FF fr [(0, .slice A0 len cap), (3, tx (shP l i)), (4, .int .i64 i)] ∧ L = [] ∧ i ≤ len ∧ mm = len - i) len ⟨0, ⟨rfl, by unfold shP; rfl, rfl, trivial⟩, rfl, by omega, rfl⟩ ?_
  rintro mm fr L ⟨i, hF, rfl, hi, rfl⟩ K hK
  refine cx_use hF fun g => ?_
  clear hF
  by_cases hin : i < len
  rotate_left
  · obtain rfl : i = l.length := by omega
    clear hK
    have e := shP_all h0
    repeat' (first | ((with_reducible refine at_op ?_); first | ((with_reducible refine at_move ?_); refine sx_move _ vf ?_) | ((with_reducible refine at_bin ?_); refine sx_lss rfl rfl ?_) | ((with_reducible refine at_assign ?_); refine sx_assign _ vf ?_) | refine sx_len rfl ?_) | refine sx_nil ?_ | ((with_reducible refine at_code ?_); first | refine cx_seq ?_ | refine cx_region ?_ | refine cx_ret ?_ | refine cx_exit ?_ | (refine cx_cond rfl (fun h => ?_) (fun h => ?_) <;> (try simp only [decide_eq_true_eq, decide_eq_false_iff_not, Bool.and_eq_true, Bool.or_eq_true, Bool.and_eq_false_iff, Bool.or_eq_false_iff, Bool.not_eq_true', Bool.not_eq_false', Bool.not_true, Bool.not_false, Bool.true_or, Bool.or_true, Bool.false_or, Bool.or_false, Bool.and_true, Bool.true_and, Bool.false_and, Bool.and_false, reduceCtorEq, Classical.not_not, beq_self_eq_true, bne_self_eq_false, not_true_eq_false, not_false_eq_true, or_false, false_or, or_true, true_or, and_true, true_and, and_false, false_and, or_self, and_self] at h) <;> (try (exfalso; omega)))) | ((with_reducible refine at_exit ?_); first | refine qx_then ?_ | refine qx_in_here ?_ | refine qx_then_exit ?_))
    all_goals first
      | (exfalso; omega)
      | exact qx_ret1 (v := tx _) [] rfl rfl ⟨by rw [e], rfl⟩ (fun w hm => hm.nil)
  obtain ⟨⟨a, b'⟩, hs⟩ : ∃ s, l[i]? = some s := ⟨_, List.getElem?_eq_getElem (by omega)⟩
  have hsb := hok _ (List.mem_of_getElem? hs)
  unfold spBad at hsb
  dsimp only at hsb
  obtain ⟨n, rfl⟩ : ∃ n : Nat, a = n := ⟨a.toNat, by omega⟩
  obtain ⟨m, rfl⟩ : ∃ m : Nat, b' = m := ⟨b'.toNat, by omega⟩
  have hrow' := rowsS_get hs (k := (i : Int).toNat * 2) (by omega)
  unfold encS at hrow'
  dsimp only at hrow'
  have hv0 : (rowsS l)[(i : Int).toNat * 2 + 0]? = some (.int .i64 (n : Int)) := hrow' 0 _ rfl
  have hv1 : (rowsS l)[(i : Int).toNat * 2 + 1]? = some (.int .i64 (m : Int)) := hrow' 1 _ rfl
  have hnext := shP_step hs
  have hPl := shP_len hok i (by omega)
  have hd1 := fun w => ref_Digits n w (by omega)
  have hd2 := fun w => ref_Digits m w (by omega)
  have hl1 := decLen_le (u := n) 4 (by omega)
  have hl2 := decLen_le (u := m) 4 (by omega)
  generalize shP l i = p at *
  subst hl
  by_cases h0i : 0 < i
  · have hdi : decide ((0 : Int) < (i : Int)) = true := decide_eq_true (by omega)
    rw [if_pos h0i] at hnext
    by_cases hlt : (n : Int) < m
    · have hdl := decide_eq_true hlt
      have hn' : tx (p ++ [44] ++ Lib.decDigits n ++ ([45] ++ Lib.decDigits m)) = tx (shP l (i + 1)) := by
        rw [hnext, shE_lt hlt, Int.toNat_natCast, Int.toNat_natCast]; simp only [List.append_assoc]
      have hn' : tx (p ++ [44] ++ Lib.decDigits n ++ [45] ++ Lib.decDigits m) = tx (shP l (i + 1)) := by
        rw [← hn']; simp only [List.append_assoc]
      repeat' (first | ((with_reducible refine at_ixaddr ?_); first | refine sx_indexQ rfl (hA (by omega)).1 rfl (by omega) ?_ | refine sx_place (xo + (i : Int).toNat * 2 + 0) rfl rfl (by decide) (by omega) ?_ | refine sx_place (xo + (i : Int).toNat * 2 + 1) rfl rfl (by decide) (by omega) ?_) | ((with_reducible refine at_load ?_); first | refine sx_loadOldF rfl (hA (by omega)).2.2 (hA (by omega)).2.1 (by simp) hv0 ?_ | refine sx_loadOldF rfl (hA (by omega)).2.2 (hA (by omega)).2.1 (by simp) hv1 ?_) | ((with_reducible refine at_bin ?_); refine sx_addT rfl rfl (by (try simp only [List.length_append, List.length_cons, List.length_nil]); omega) ?_) | ((with_reducible refine at_call 117 ?_); refine sx_callv (fun w hm => hd1 _) ?_ rfl) | ((with_reducible refine at_call 117 ?_); refine sx_callv (fun w hm => hd2 _) ?_ rfl) | ((with_reducible refine at_op ?_); first | ((with_reducible refine at_move ?_); refine sx_move _ vf ?_) | ((with_reducible refine at_bin ?_); first | refine sx_lss rfl rfl ?_ | refine sx_gtr rfl rfl ?_ | refine sx_add rfl rfl bnd ?_) | ((with_reducible refine at_assign ?_); refine sx_assign _ vf ?_) | refine sx_len rfl ?_) | refine sx_nil ?_ | ((with_reducible refine at_code ?_); first | refine cx_seq ?_ | refine cx_quiet rfl dk dk ?_ | refine cx_region ?_ | refine cx_skip ?_ | refine cx_block ?_ | (refine cx_cond rfl (fun h => ?_) (fun h => ?_) <;> (try simp only [decide_eq_true_eq, decide_eq_false_iff_not, Bool.and_eq_true, Bool.or_eq_true, Bool.and_eq_false_iff, Bool.or_eq_false_iff, Bool.not_eq_true', Bool.not_eq_false', Bool.not_true, Bool.not_false, Bool.true_or, Bool.or_true, Bool.false_or, Bool.or_false, Bool.and_true, Bool.true_and, Bool.false_and, Bool.and_false, reduceCtorEq, Classical.not_not, beq_self_eq_true, bne_self_eq_false, not_true_eq_false, not_false_eq_true, or_false, false_or, or_true, true_or, and_true, true_and, and_false, false_and, or_self, and_self] at h) <;> (try (exfalso; omega)))) | ((with_reducible refine at_exit ?_); first | refine qx_then ?_ | refine qx_in_normal ?_))
      (all_goals try (exfalso; omega)); exact hK (l.length - (i + 1)) _ _ _ (by omega) ⟨i + 1, ⟨rfl, hn', iv (by omega), trivial⟩, rfl, by omega, rfl⟩
    · have hdl := decide_eq_false hlt
      have hn' : tx (p ++ [44] ++ Lib.decDigits n) = tx (shP l (i + 1)) := by
        rw [hnext, shE_ge hlt, Int.toNat_natCast]
      repeat' (first | ((with_reducible refine at_ixaddr ?_); first | refine sx_indexQ rfl (hA (by omega)).1 rfl (by omega) ?_ | refine sx_place (xo + (i : Int).toNat * 2 + 0) rfl rfl (by decide) (by omega) ?_ | refine sx_place (xo + (i : Int).toNat * 2 + 1) rfl rfl (by decide) (by omega) ?_) | ((with_reducible refine at_load ?_); first | refine sx_loadOldF rfl (hA (by omega)).2.2 (hA (by omega)).2.1 (by simp) hv0 ?_ | refine sx_loadOldF rfl (hA (by omega)).2.2 (hA (by omega)).2.1 (by simp) hv1 ?_) | ((with_reducible refine at_bin ?_); refine sx_addT rfl rfl (by (try simp only [List.length_append, List.length_cons, List.length_nil]); omega) ?_) | ((with_reducible refine at_call 117 ?_); refine sx_callv (fun w hm => hd1 _) ?_ rfl) | ((with_reducible refine at_op ?_); first | ((with_reducible refine at_move ?_); refine sx_move _ vf ?_) | ((with_reducible refine at_bin ?_); first | refine sx_lss rfl rfl ?_ | refine sx_gtr rfl rfl ?_ | refine sx_add rfl rfl bnd ?_) | ((with_reducible refine at_assign ?_); refine sx_assign _ vf ?_) | refine sx_len rfl ?_) | refine sx_nil ?_ | ((with_reducible refine at_code ?_); first | refine cx_seq ?_ | refine cx_quiet rfl dk dk ?_ | refine cx_region ?_ | refine cx_skip ?_ | refine cx_block ?_ | (refine cx_cond rfl (fun h => ?_) (fun h => ?_) <;> (try simp only [decide_eq_true_eq, decide_eq_false_iff_not, Bool.and_eq_true, Bool.or_eq_true, Bool.and_eq_false_iff, Bool.or_eq_false_iff, Bool.not_eq_true', Bool.not_eq_false', Bool.not_true, Bool.not_false, Bool.true_or, Bool.or_true, Bool.false_or, Bool.or_false, Bool.and_true, Bool.true_and, Bool.false_and, Bool.and_false, reduceCtorEq, Classical.not_not, beq_self_eq_true, bne_self_eq_false, not_true_eq_false, not_false_eq_true, or_false, false_or, or_true, true_or, and_true, true_and, and_false, false_and, or_self, and_self] at h) <;> (try (exfalso; omega)))) | ((with_reducible refine at_exit ?_); first | refine qx_then ?_ | refine qx_in_normal ?_))
      (all_goals try (exfalso; omega)); exact hK (l.length - (i + 1)) _ _ _ (by omega) ⟨i + 1, ⟨rfl, hn', iv (by omega), trivial⟩, rfl, by omega, rfl⟩
  · have hdi : decide ((0 : Int) < (i : Int)) = false := decide_eq_false (by omega)
    rw [if_neg h0i, List.append_nil] at hnext
    by_cases hlt : (n : Int) < m
    · have hdl := decide_eq_true hlt
      have hn' : tx (p ++ Lib.decDigits n ++ [45] ++ Lib.decDigits m) = tx (shP l (i + 1)) := by
        rw [hnext, shE_lt hlt, Int.toNat_natCast, Int.toNat_natCast]; simp only [List.append_assoc]
      repeat' (first | ((with_reducible refine at_ixaddr ?_); first | refine sx_indexQ rfl (hA (by omega)).1 rfl (by omega) ?_ | refine sx_place (xo + (i : Int).toNat * 2 + 0) rfl rfl (by decide) (by omega) ?_ | refine sx_place (xo + (i : Int).toNat * 2 + 1) rfl rfl (by decide) (by omega) ?_) | ((with_reducible refine at_load ?_); first | refine sx_loadOldF rfl (hA (by omega)).2.2 (hA (by omega)).2.1 (by simp) hv0 ?_ | refine sx_loadOldF rfl (hA (by omega)).2.2 (hA (by omega)).2.1 (by simp) hv1 ?_) | ((with_reducible refine at_bin ?_); refine sx_addT rfl rfl (by (try simp only [List.length_append, List.length_cons, List.length_nil]); omega) ?_) | ((with_reducible refine at_call 117 ?_); refine sx_callv (fun w hm => hd1 _) ?_ rfl) | ((with_reducible refine at_call 117 ?_); refine sx_callv (fun w hm => hd2 _) ?_ rfl) | ((with_reducible refine at_op ?_); first | ((with_reducible refine at_move ?_); refine sx_move _ vf ?_) | ((with_reducible refine at_bin ?_); first | refine sx_lss rfl rfl ?_ | refine sx_gtr rfl rfl ?_ | refine sx_add rfl rfl bnd ?_) | ((with_reducible refine at_assign ?_); refine sx_assign _ vf ?_) | refine sx_len rfl ?_) | refine sx_nil ?_ | ((with_reducible refine at_code ?_); first | refine cx_seq ?_ | refine cx_quiet rfl dk dk ?_ | refine cx_region ?_ | refine cx_skip ?_ | refine cx_block ?_ | (refine cx_cond rfl (fun h => ?_) (fun h => ?_) <;> (try simp only [decide_eq_true_eq, decide_eq_false_iff_not, Bool.and_eq_true, Bool.or_eq_true, Bool.and_eq_false_iff, Bool.or_eq_false_iff, Bool.not_eq_true', Bool.not_eq_false', Bool.not_true, Bool.not_false, Bool.true_or, Bool.or_true, Bool.false_or, Bool.or_false, Bool.and_true, Bool.true_and, Bool.false_and, Bool.and_false, reduceCtorEq, Classical.not_not, beq_self_eq_true, bne_self_eq_false, not_true_eq_false, not_false_eq_true, or_false, false_or, or_true, true_or, and_true, true_and, and_false, false_and, or_self, and_self] at h) <;> (try (exfalso; omega)))) | ((with_reducible refine at_exit ?_); first | refine qx_then ?_ | refine qx_in_normal ?_))
      (all_goals try (exfalso; omega)); exact hK (l.length - (i + 1)) _ _ _ (by omega) ⟨i + 1, ⟨rfl, hn', iv (by omega), trivial⟩, rfl, by omega, rfl⟩
    · have hdl := decide_eq_false hlt
      have hn' : tx (p ++ Lib.decDigits n) = tx (shP l (i + 1)) := by
        rw [hnext, shE_ge hlt, Int.toNat_natCast]
      repeat' (first | ((with_reducible refine at_ixaddr ?_); first | refine sx_indexQ rfl (hA (by omega)).1 rfl (by omega) ?_ | refine sx_place (xo + (i : Int).toNat * 2 + 0) rfl rfl (by decide) (by omega) ?_ | refine sx_place (xo + (i : Int).toNat * 2 + 1) rfl rfl (by decide) (by omega) ?_) | ((with_reducible refine at_load ?_); first | refine sx_loadOldF rfl (hA (by omega)).2.2 (hA (by omega)).2.1 (by simp) hv0 ?_ | refine sx_loadOldF rfl (hA (by omega)).2.2 (hA (by omega)).2.1 (by simp) hv1 ?_) | ((with_reducible refine at_bin ?_); refine sx_addT rfl rfl (by (try simp only [List.length_append, List.length_cons, List.length_nil]); omega) ?_) | ((with_reducible refine at_call 117 ?_); refine sx_callv (fun w hm => hd1 _) ?_ rfl) | ((with_reducible refine at_op ?_); first | ((with_reducible refine at_move ?_); refine sx_move _ vf ?_) | ((with_reducible refine at_bin ?_); first | refine sx_lss rfl rfl ?_ | refine sx_gtr rfl rfl ?_ | refine sx_add rfl rfl bnd ?_) | ((with_reducible refine at_assign ?_); refine sx_assign _ vf ?_) | refine sx_len rfl ?_) | refine sx_nil ?_ | ((with_reducible refine at_code ?_); first | refine cx_seq ?_ | refine cx_quiet rfl dk dk ?_ | refine cx_region ?_ | refine cx_skip ?_ | refine cx_block ?_ | (refine cx_cond rfl (fun h => ?_) (fun h => ?_) <;> (try simp only [decide_eq_true_eq, decide_eq_false_iff_not, Bool.and_eq_true, Bool.or_eq_true, Bool.and_eq_false_iff, Bool.or_eq_false_iff, Bool.not_eq_true', Bool.not_eq_false', Bool.not_true, Bool.not_false, Bool.true_or, Bool.or_true, Bool.false_or, Bool.or_false, Bool.and_true, Bool.true_and, Bool.false_and, Bool.and_false, reduceCtorEq, Classical.not_not, beq_self_eq_true, bne_self_eq_false, not_true_eq_false, not_false_eq_true, or_false, false_or, or_true, true_or, and_true, true_and, and_false, false_and, or_self, and_self] at h) <;> (try (exfalso; omega)))) | ((with_reducible refine at_exit ?_); first | refine qx_then ?_ | refine qx_in_normal ?_))
      (all_goals try (exfalso; omega)); exact hK (l.length - (i + 1)) _ _ _ (by omega) ⟨i + 1, ⟨rfl, hn', iv (by omega), trivial⟩, rfl, by omega, rfl⟩
end Go.Proofs.YtoelbnhjamddgaaDoor
