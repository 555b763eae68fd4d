/- span: Check, Has. -/
import Derived.Test.YtoelbnhjamddgaaDoorEngB
import Derived.Test.YtoelbnhjamddgaaDoorSortK
import Derived.Test.YtoelbnhjamddgaaDoorEr
set_option linter.unusedSimpArgs false
set_option linter.unusedVariables false
set_option maxRecDepth 100000
namespace Go.Port
open Go.RowKit
theorem rowsS_get {l : List Sp} {i : Nat} {s : Sp} (h : l[i]? = some s) {k : Nat} (hk : k = i * 2) : ∀ j v, (encS s)[j]? = some v → (rowsS l)[k + j]? = some v := by
  subst hk
  intro j v hv
  have hj : j < 2 := by
    obtain ⟨hj, _⟩ := List.getElem?_eq_some_iff.1 hv
    exact hj
  rw [rowsS_at, show (i * 2 + j) / 2 = i by omega, show (i * 2 + j) % 2 = j by omega, h]
  exact hv
end Go.Port
namespace Go.Proofs.YtoelbnhjamddgaaDoor
open Go.RowKit Go.Port
attribute [local irreducible] Calls
theorem span_port (n : Int) (w : World) : Calls Tryd.prog 133 #[.int .i64 n] w (Ret w [] (isV (.bool (decide (0 ≤ n ∧ n ≤ 65535))))) := by
  refine cx_enter (args := [.int .i64 n]) (F := [(0, .int .i64 n)]) _ [] Tryd.func133 rfl Tryd.ntmps133 (by simp) rfl (Mem.refl _) (fun g => ?_)
  repeat' (first | ((with_reducible refine at_op ?_); first | ((with_reducible refine at_guard ?_); first | refine sx_want rfl rfl rfl ras ?_ | refine sx_skip rfl rfl rfl ras ?_ | (refine sx_andG rfl rfl rfl rfl rfl rfl ?_ (fun hb K hK => ?_); apply Exists.intro; refine And.intro (fun hb K hK => ?_) (fun g => ?_))) | ((with_reducible refine at_move ?_); refine sx_move _ vf ?_) | ((with_reducible refine at_bin ?_); first | refine sx_leq rfl rfl ?_ | refine sx_geq rfl rfl ?_) | ((with_reducible refine at_assign ?_); refine sx_assign _ vf ?_)) | refine sx_nil ?_ | ((with_reducible refine at_grp ?_); refine sx_grpC rfl ?_) | ((with_reducible refine at_aft ?_); first | refine sx_aftN rfl ?_ | refine sx_aftC rfl ?_) | ((with_reducible refine at_code ?_); first | refine cx_seq ?_ | refine cx_region ?_ | refine cx_ret ?_) | ((with_reducible refine at_exit ?_); first | refine qx_then ?_ | ((with_reducible refine at_K ?_); first | exact hK _ _ _ rfl ⟨rfl, rfl⟩ rfl | exact hK _ _ _ rfl rfl ⟨rfl, rfl⟩ rfl)))
  exact qx_ret1 (v := .bool _) [] rfl rfl ⟨by rw [Bool.decide_and], rfl⟩ (fun w hm => hm.nil)
set_option maxHeartbeats 4000000 in
theorem span_Check {A : Option Addr} {len cap : Nat} {l : List Sp} {w : World} (hrow : IsSl w 2 A len cap (rowsS l)) (hl : len = l.length) :
    Calls Tryd.prog 118 #[.slice A len cap] w (Ret w [] (isV (er (spE l)))) := by
  obtain ⟨xb, xo, hA⟩ := hrow.base
  refine cx_enter (args := [.slice A len cap]) (F := [(0, .slice A len cap)]) _ [] Tryd.func118 rfl Tryd.ntmps118 (by simp) rfl (Mem.refl _) (fun g => ?_)
  by_cases hbig : 200 < l.length
  · have e4 : spE l = 4 := by unfold spE; rw [if_pos hbig]
    repeat' (first | ((with_reducible refine at_op ?_); first | ((with_reducible refine at_move ?_); refine sx_move _ vf ?_) | ((with_reducible refine at_bin ?_); refine sx_gtr rfl rfl ?_) | ((with_reducible refine at_assign ?_); refine sx_assign _ vf ?_) | ((with_reducible refine at_iface ?_); refine sx_iface _ vf ?_) | refine sx_len rfl ?_) | refine sx_nil ?_ | ((with_reducible refine at_code ?_); first | refine cx_seq ?_ | refine cx_region ?_ | refine cx_ret ?_ | (refine cx_cond rfl (fun h => ?_) (fun h => ?_) <;> (try simp only [decide_eq_true_eq, decide_eq_false_iff_not, Bool.and_eq_true, Bool.or_eq_true, Bool.and_eq_false_iff, Bool.or_eq_false_iff, Bool.not_eq_true', Bool.not_eq_false', Bool.not_true, Bool.not_false, Bool.true_or, Bool.or_true, Bool.false_or, Bool.or_false, Bool.and_true, Bool.true_and, Bool.false_and, Bool.and_false, reduceCtorEq, Classical.not_not, beq_self_eq_true, bne_self_eq_false, not_true_eq_false, not_false_eq_true, or_false, false_or, or_true, true_or, and_true, true_and, and_false, false_and, or_self, and_self] at h) <;> (try (exfalso; omega)))) | ((with_reducible refine at_exit ?_); first | refine qx_then ?_ | refine qx_then_ret ?_))
    all_goals first
      | (exfalso; omega)
      | exact qx_ret1 (v := .iface _ _) [] rfl rfl ⟨by rw [e4, ← er_is (rfl : (4 : Int) = 4) (by decide)], rfl⟩ (fun w hm => hm.nil)
  repeat' (first | ((with_reducible refine at_op ?_); first | ((with_reducible refine at_move ?_); refine sx_move _ vf ?_) | ((with_reducible refine at_bin ?_); refine sx_gtr rfl rfl ?_) | ((with_reducible refine at_assign ?_); refine sx_assign _ vf ?_) | refine sx_len rfl ?_) | refine sx_nil ?_ | ((with_reducible refine at_code ?_); first | refine cx_seq ?_ | refine cx_region ?_ | refine cx_skip ?_ | refine cx_block ?_ | (refine cx_cond rfl (fun h => ?_) (fun h => ?_) <;> (try simp only [decide_eq_true_eq, decide_eq_false_iff_not, Bool.and_eq_true, Bool.or_eq_true, Bool.and_eq_false_iff, Bool.or_eq_false_iff, Bool.not_eq_true', Bool.not_eq_false', Bool.not_true, Bool.not_false, Bool.true_or, Bool.or_true, Bool.false_or, Bool.or_false, Bool.and_true, Bool.true_and, Bool.false_and, Bool.and_false, reduceCtorEq, Classical.not_not, beq_self_eq_true, bne_self_eq_false, not_true_eq_false, not_false_eq_true, or_false, false_or, or_true, true_or, and_true, true_and, and_false, false_and, or_self, and_self] at h) <;> (try (exfalso; omega)))) | ((with_reducible refine at_exit ?_); refine qx_then ?_))
  all_goals try (exfalso; omega)
  refine cx_loop (fun mm fr L => ∃ i : Nat, FF fr [(9, .slice A len cap), (10, .int .i64 len), (11, .int .i64 i)] ∧ mm = len - i ∧ i ≤ len ∧ ∀ s ∈ l.take i, ¬ spBad s) len ⟨0, ffr, rfl, by omega, by simp⟩ ?_
  rintro mm fr L ⟨i, hF, rfl, hi, hok⟩ K hK
  refine cx_use hF fun g => ?_
  clear hF
  by_cases hin : i < len
  rotate_left
  · have e0 : spE l = 0 := spE_0.2 ⟨by omega, by rw [List.take_of_length_le (by omega)] at hok; exact hok⟩
    clear hok
    repeat' (first | ((with_reducible refine at_op ?_); first | ((with_reducible refine at_bin ?_); refine sx_lss rfl rfl ?_) | ((with_reducible refine at_assign ?_); refine sx_assign _ vf ?_)) | refine sx_nil ?_ | ((with_reducible refine at_code ?_); first | refine cx_seq ?_ | refine cx_region ?_ | refine cx_ret ?_ | refine cx_exit ?_ | (refine cx_cond rfl (fun h => ?_) (fun h => ?_) <;> (try simp only [decide_eq_true_eq, decide_eq_false_iff_not, Bool.and_eq_true, Bool.or_eq_true, Bool.and_eq_false_iff, Bool.or_eq_false_iff, Bool.not_eq_true', Bool.not_eq_false', Bool.not_true, Bool.not_false, Bool.true_or, Bool.or_true, Bool.false_or, Bool.or_false, Bool.and_true, Bool.true_and, Bool.false_and, Bool.and_false, reduceCtorEq, Classical.not_not, beq_self_eq_true, bne_self_eq_false, not_true_eq_false, not_false_eq_true, or_false, false_or, or_true, true_or, and_true, true_and, and_false, false_and, or_self, and_self] at h) <;> (try (exfalso; omega)))) | ((with_reducible refine at_exit ?_); first | refine qx_then ?_ | refine qx_in_here ?_ | refine qx_then_exit ?_))
    all_goals first
      | (exfalso; omega)
      | exact qx_ret1 (v := .nilIface) [] rfl rfl ⟨by rw [e0, er, errV_zero], rfl⟩ (fun w hm => hm.nil)
  obtain ⟨⟨a, b'⟩, hs⟩ : ∃ s, l[i]? = some s := ⟨_, List.getElem?_eq_getElem (by omega)⟩
  have hrow' := rowsS_get hs (k := (i : Int).toNat * 2) (by omega)
  unfold encS at hrow'
  dsimp only at hrow'
  have hpa := fun w => span_port a w
  have hpb := fun w => span_port b' w
  have hcs : (spBad (a, b') ∧ ((¬ (0 ≤ a ∧ a ≤ 65535)) ∨ ((0 ≤ a ∧ a ≤ 65535) ∧ ¬ (0 ≤ b' ∧ b' ≤ 65535)) ∨ ((0 ≤ a ∧ a ≤ 65535) ∧ (0 ≤ b' ∧ b' ≤ 65535) ∧ b' < a))) ∨ (¬ spBad (a, b') ∧ (0 ≤ a ∧ a ≤ 65535) ∧ (0 ≤ b' ∧ b' ≤ 65535) ∧ ¬ b' < a) := by
    unfold spBad; dsimp only; omega
  rcases hcs with ⟨hbad, hcs⟩ | ⟨hbad, h1, h2, h3⟩
  · have e1 : spE l = 1 := by
      unfold spE
      rw [if_neg hbig, if_pos (List.any_eq_true.2 ⟨(a, b'), List.mem_of_getElem? hs, decide_eq_true hbad⟩)]
    clear hok hK hbad
    rcases hcs with h1 | ⟨h1, h2⟩ | ⟨h1, h2, h3⟩
    · rw [decide_eq_false h1] at hpa
      repeat' (first | ((with_reducible refine at_ixaddr ?_); refine sx_indexQ rfl (hA (by omega)).1 rfl (by omega) ?_) | ((with_reducible refine at_load ?_); refine sx_loadOldA (vs := [.int .i64 a, .int .i64 b']) rfl (hA (by omega)).2.2 (hA (by omega)).2.1 (by simp) rfl hrow' ?_) | ((with_reducible refine at_call 133 ?_); refine sx_callv (fun w hm => hpa _) ?_ rfl) | ((with_reducible refine at_op ?_); first | ((with_reducible refine at_guard ?_); refine sx_skip rfl rfl rfl ras ?_) | ((with_reducible refine at_move ?_); refine sx_move _ vf ?_) | ((with_reducible refine at_bin ?_); refine sx_lss rfl rfl ?_) | ((with_reducible refine at_assign ?_); refine sx_assign _ vf ?_) | ((with_reducible refine at_load ?_); refine sx_loadE rfl pc gv ?_) | ((with_reducible refine at_stores ?_); first | refine sx_stval _ vf ?_ | refine sx_storeW rfl rfl rfl rfl ?_) | refine sx_not rfl ?_ | ((with_reducible refine at_pick ?_); refine sx_pickT (.bool _) rfl dec rfl ?_) | ((with_reducible refine at_iface ?_); refine sx_iface _ vf ?_) | ((with_reducible refine at_ixaddr ?_); refine sx_place _ rfl rfl bnd plc ?_) | (refine sx_alloc ?_; intro b)) | refine sx_nil ?_ | ((with_reducible refine at_code ?_); first | refine cx_seq ?_ | refine cx_region ?_ | refine cx_skip ?_ | refine cx_ret ?_ | refine cx_block ?_ | refine cx_true rfl ?_ | (refine cx_cond rfl (fun h => ?_) (fun h => ?_) <;> (try simp only [decide_eq_true_eq, decide_eq_false_iff_not, Bool.and_eq_true, Bool.or_eq_true, Bool.and_eq_false_iff, Bool.or_eq_false_iff, Bool.not_eq_true', Bool.not_eq_false', Bool.not_true, Bool.not_false, Bool.true_or, Bool.or_true, Bool.false_or, Bool.or_false, Bool.and_true, Bool.true_and, Bool.false_and, Bool.and_false, reduceCtorEq, Classical.not_not, beq_self_eq_true, bne_self_eq_false, not_true_eq_false, not_false_eq_true, or_false, false_or, or_true, true_or, and_true, true_and, and_false, false_and, or_self, and_self] at h) <;> (try (exfalso; omega)))) | ((with_reducible refine at_exit ?_); first | refine qx_then ?_ | refine qx_in_ret ?_ | refine qx_then_ret ?_))
      all_goals first
        | (exfalso; omega)
        | exact qx_ret1 (v := .iface _ _) [] rfl rfl ⟨by rw [e1, ← er_is (rfl : (1 : Int) = 1) (by decide)], rfl⟩ (fun w hm => hm.nil)
    all_goals
      rw [decide_eq_true h1] at hpa
      first | rw [decide_eq_false h2] at hpb | rw [decide_eq_true h2] at hpb
      repeat' (first | ((with_reducible refine at_ixaddr ?_); refine sx_indexQ rfl (hA (by omega)).1 rfl (by omega) ?_) | ((with_reducible refine at_load ?_); refine sx_loadOldA (vs := [.int .i64 a, .int .i64 b']) rfl (hA (by omega)).2.2 (hA (by omega)).2.1 (by simp) rfl hrow' ?_) | ((with_reducible refine at_call 133 ?_); refine sx_callv (fun w hm => hpa _) ?_ rfl) | ((with_reducible refine at_call 133 ?_); refine sx_callv (fun w hm => hpb _) ?_ rfl) | ((with_reducible refine at_op ?_); first | ((with_reducible refine at_guard ?_); first | refine sx_want rfl rfl rfl ras ?_ | refine sx_skip rfl rfl rfl ras ?_) | ((with_reducible refine at_move ?_); refine sx_move _ vf ?_) | ((with_reducible refine at_bin ?_); first | refine sx_lss rfl rfl ?_ | refine sx_gtr rfl rfl ?_) | ((with_reducible refine at_assign ?_); refine sx_assign _ vf ?_) | ((with_reducible refine at_load ?_); refine sx_loadE rfl pc gv ?_) | ((with_reducible refine at_stores ?_); first | refine sx_stval _ vf ?_ | refine sx_storeW rfl rfl rfl rfl ?_) | refine sx_not rfl ?_ | ((with_reducible refine at_pick ?_); first | refine sx_pickT (.bool _) rfl dec rfl ?_ | refine sx_pickF (.bool _) rfl dec rfl ?_) | ((with_reducible refine at_iface ?_); refine sx_iface _ vf ?_) | ((with_reducible refine at_ixaddr ?_); refine sx_place _ rfl rfl bnd plc ?_) | (refine sx_alloc ?_; intro b)) | refine sx_nil ?_ | ((with_reducible refine at_code ?_); first | refine cx_seq ?_ | refine cx_region ?_ | refine cx_skip ?_ | refine cx_ret ?_ | refine cx_block ?_ | refine cx_true rfl ?_ | (refine cx_cond rfl (fun h => ?_) (fun h => ?_) <;> (try simp only [decide_eq_true_eq, decide_eq_false_iff_not, Bool.and_eq_true, Bool.or_eq_true, Bool.and_eq_false_iff, Bool.or_eq_false_iff, Bool.not_eq_true', Bool.not_eq_false', Bool.not_true, Bool.not_false, Bool.true_or, Bool.or_true, Bool.false_or, Bool.or_false, Bool.and_true, Bool.true_and, Bool.false_and, Bool.and_false, reduceCtorEq, Classical.not_not, beq_self_eq_true, bne_self_eq_false, not_true_eq_false, not_false_eq_true, or_false, false_or, or_true, true_or, and_true, true_and, and_false, false_and, or_self, and_self] at h) <;> (try (exfalso; omega)))) | ((with_reducible refine at_exit ?_); first | refine qx_then ?_ | refine qx_in_ret ?_ | refine qx_then_ret ?_))
      all_goals first
        | (exfalso; omega)
        | exact qx_ret1 (v := .iface _ _) [] rfl rfl ⟨by rw [e1, ← er_is (rfl : (1 : Int) = 1) (by decide)], rfl⟩ (fun w hm => hm.nil)
  have hok' : ∀ s ∈ l.take (i + 1), ¬ spBad s := fun s hs' => by
    rw [List.take_add_one, hs] at hs'
    rcases List.mem_append.1 hs' with h | h
    · exact hok s h
    · simp only [Option.toList_some, List.mem_singleton] at h
      rw [h]; exact hbad
  clear hok hbad
  rw [decide_eq_true h1] at hpa
  rw [decide_eq_true h2] at hpb
  repeat' (first | ((with_reducible refine at_ixaddr ?_); refine sx_indexQ rfl (hA (by omega)).1 rfl (by omega) ?_) | ((with_reducible refine at_load ?_); refine sx_loadOldA (vs := [.int .i64 a, .int .i64 b']) rfl (hA (by omega)).2.2 (hA (by omega)).2.1 (by simp) rfl hrow' ?_) | ((with_reducible refine at_call 133 ?_); refine sx_callv (fun w hm => hpa _) ?_ rfl) | ((with_reducible refine at_call 133 ?_); refine sx_callv (fun w hm => hpb _) ?_ rfl) | ((with_reducible refine at_op ?_); first | ((with_reducible refine at_guard ?_); refine sx_want rfl rfl rfl ras ?_) | ((with_reducible refine at_move ?_); refine sx_move _ vf ?_) | ((with_reducible refine at_bin ?_); first | refine sx_lss rfl rfl ?_ | refine sx_gtr rfl rfl ?_ | refine sx_add rfl rfl bnd ?_) | ((with_reducible refine at_load ?_); refine sx_loadE rfl pc gv ?_) | ((with_reducible refine at_stores ?_); first | refine sx_stval _ vf ?_ | refine sx_storeW rfl rfl rfl rfl ?_) | refine sx_not rfl ?_ | ((with_reducible refine at_pick ?_); refine sx_pickF (.bool _) rfl dec rfl ?_) | ((with_reducible refine at_ixaddr ?_); refine sx_place _ rfl rfl bnd plc ?_) | (refine sx_alloc ?_; intro b)) | refine sx_nil ?_ | ((with_reducible refine at_code ?_); first | refine cx_seq ?_ | refine cx_region ?_ | refine cx_skip ?_ | refine cx_block ?_ | (refine cx_cond rfl (fun h => ?_) (fun h => ?_) <;> (try simp only [decide_eq_true_eq, decide_eq_false_iff_not, Bool.and_eq_true, Bool.or_eq_true, Bool.and_eq_false_iff, Bool.or_eq_false_iff, Bool.not_eq_true', Bool.not_eq_false', Bool.not_true, Bool.not_false, Bool.true_or, Bool.or_true, Bool.false_or, Bool.or_false, Bool.and_true, Bool.true_and, Bool.false_and, Bool.and_false, reduceCtorEq, Classical.not_not, beq_self_eq_true, bne_self_eq_false, not_true_eq_false, not_false_eq_true, or_false, false_or, or_true, true_or, and_true, true_and, and_false, false_and, or_self, and_self] at h) <;> (try (exfalso; omega)))) | ((with_reducible refine at_exit ?_); first | refine qx_then ?_ | refine qx_in_normal ?_))
  all_goals first
    | (exfalso; omega)
    | (refine qx_mem ?_ (fun w hm => hm.nil)
       exact hK (len - (i + 1)) _ _ _ (by omega) ⟨i + 1, ffr, rfl, by omega, hok'⟩)
end Go.Proofs.YtoelbnhjamddgaaDoor
