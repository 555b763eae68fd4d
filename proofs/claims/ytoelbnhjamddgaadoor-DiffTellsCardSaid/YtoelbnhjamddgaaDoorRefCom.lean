/- The reference: rules that are the same, how many are common. -/
import Derived.Test.YtoelbnhjamddgaaDoorRefShow
import Derived.Test.YtoelbnhjamddgaaDoorDiffA
import Derived.Test.YtoelbnhjamddgaaDoorSxTx
set_option linter.unusedSimpArgs false
set_option linter.unusedVariables false
set_option maxRecDepth 100000
namespace Go.Port
/-- The table's row of a beginning. -/
def rowL (A B : List Rc) (i m : Nat) : List Value := (List.range m).map (fun k => .int .i64 (lcs (A.take i) (B.take k) : Nat))
theorem rowL_succ (A B : List Rc) (i m : Nat) : rowL A B i (m + 1) = rowL A B i m ++ [.int .i64 (lcs (A.take i) (B.take m) : Nat)] := by
  unfold rowL
  rw [List.range_succ, List.map_append]
  rfl
theorem rowL_at {A B : List Rc} {i m k : Nat} (h : k < m) : (rowL A B i m)[k]? = some (.int .i64 (lcs (A.take i) (B.take k) : Nat)) := by
  unfold rowL
  rw [List.getElem?_map, List.getElem?_range h]
  rfl
theorem rowL_0 (A B : List Rc) : ∀ m, rowL A B 0 m = List.replicate m (.int .i64 0)
  | 0 => rfl
  | m + 1 => by
    rw [rowL_succ, rowL_0 A B m, List.take_zero, lcs_nil, List.replicate_succ']
    rfl
theorem rowL_1 (A B : List Rc) (i : Nat) : rowL A B i 1 = [.int .i64 0] := by
  rw [rowL_succ, List.take_zero, lcs_nilr]
  rfl
end Go.Port
namespace Go.Proofs.YtoelbnhjamddgaaDoor
open Go.RowKit Go.Port
attribute [local irreducible] Calls shR
set_option maxHeartbeats 8000000 in
theorem ref_Same (ra rb : Ru) {w : World} (ha : ra.ok w) (hb : rb.ok w) (h1 : RcOk ra.con) (h2 : RcOk rb.con) : Calls Tryd.prog 35 #[.agg ra.row.toArray, .agg rb.row.toArray] w (Ret w [] (isV (.bool (decide (ra.con = rb.con))))) := by
  have s1 := fun w' (h : ra.ok w') => ref_ShowRuleR ra h h1
  have s2 := fun w' (h : rb.ok w') => ref_ShowRuleR rb h h2
  have hinj := fun h => shR_inj h1 h2 h
  have hD : ra.con = rb.con → shR ra.con = shR rb.con := fun h => by rw [h]
  generalize hx : shR ra.con = x at *
  generalize hy : shR rb.con = y at *
  have hc0 : (ra.con = rb.con ∧ x = y) ∨ (¬ ra.con = rb.con ∧ ¬ x = y) := by
    by_cases h : ra.con = rb.con
    · exact .inl ⟨h, hD h⟩
    · exact .inr ⟨h, fun h3 => h (hinj h3)⟩
  clear hinj hD hx hy h1 h2
  obtain ⟨B, hB⟩ : ∃ B, decide (ra.con = rb.con) = B := ⟨_, rfl⟩
  rw [hB]
  have hc : (B = true ∧ x = y) ∨ (B = false ∧ ¬ x = y) := by
    rcases hc0 with ⟨h, h3⟩ | ⟨h, h3⟩
    · exact .inl ⟨by rw [← hB]; exact decide_eq_true h, h3⟩
    · exact .inr ⟨by rw [← hB]; exact decide_eq_false h, h3⟩
  clear hB hc0
  have k1 := fun {w' : World} {L : List Ch} (hm : Mem w w' [] L) => ha.mem hm
  have k2 := fun {w' : World} {L : List Ch} (hm : Mem w w' [] L) => hb.mem hm
  clear ha hb
  obtain ⟨ps, qk, kp, way, kind, sa, sl, da, dl, FA, fl, fc, TA, tl, tc, lf, lt⟩ := ra
  obtain ⟨ps', qk', kp', way', kind', sa', sl', da', dl', FA', fl', fc', TA', tl', tc', lf', lt'⟩ := rb
  have s1 : ∀ w', Ru.ok w' ⟨ps, qk, kp, way, kind, sa, sl, da, dl, FA, fl, fc, TA, tl, tc, lf, lt⟩ → Calls Tryd.prog 57 #[.agg #[.bool ps, .bool qk, .bool kp, .int .i64 way, .int .i64 kind, .int .i64 sa, .int .i64 sl, .int .i64 da, .int .i64 dl, .slice FA fl fc, .slice TA tl tc]] w' (Ret w' [] (isV (tx x))) := s1
  have s2 : ∀ w', Ru.ok w' ⟨ps', qk', kp', way', kind', sa', sl', da', dl', FA', fl', fc', TA', tl', tc', lf', lt'⟩ → Calls Tryd.prog 57 #[.agg #[.bool ps', .bool qk', .bool kp', .int .i64 way', .int .i64 kind', .int .i64 sa', .int .i64 sl', .int .i64 da', .int .i64 dl', .slice FA' fl' fc', .slice TA' tl' tc']] w' (Ret w' [] (isV (tx y))) := s2
  show Calls Tryd.prog 35 #[.agg #[.bool ps, .bool qk, .bool kp, .int .i64 way, .int .i64 kind, .int .i64 sa, .int .i64 sl, .int .i64 da, .int .i64 dl, .slice FA fl fc, .slice TA tl tc], .agg #[.bool ps', .bool qk', .bool kp', .int .i64 way', .int .i64 kind', .int .i64 sa', .int .i64 sl', .int .i64 da', .int .i64 dl', .slice FA' fl' fc', .slice TA' tl' tc']] w _
  refine cx_enter (args := [.agg #[.bool ps, .bool qk, .bool kp, .int .i64 way, .int .i64 kind, .int .i64 sa, .int .i64 sl, .int .i64 da, .int .i64 dl, .slice FA fl fc, .slice TA tl tc], .agg #[.bool ps', .bool qk', .bool kp', .int .i64 way', .int .i64 kind', .int .i64 sa', .int .i64 sl', .int .i64 da', .int .i64 dl', .slice FA' fl' fc', .slice TA' tl' tc']]) (F := [(0, .agg #[.bool ps, .bool qk, .bool kp, .int .i64 way, .int .i64 kind, .int .i64 sa, .int .i64 sl, .int .i64 da, .int .i64 dl, .slice FA fl fc, .slice TA tl tc]), (1, .agg #[.bool ps', .bool qk', .bool kp', .int .i64 way', .int .i64 kind', .int .i64 sa', .int .i64 sl', .int .i64 da', .int .i64 dl', .slice FA' fl' fc', .slice TA' tl' tc'])]) _ [] Tryd.func35 rfl Tryd.ntmps35 (by simp) rfl (Mem.refl _) (fun g => ?_)
  rcases hc with ⟨rfl, hxy⟩ | ⟨rfl, hxy⟩
  · repeat' (first | ((with_reducible refine at_load ?_); first | refine sx_loadV 0 [_, _, _, _, _, _, _, _, _, _, _] rfl rfl rfl rfl ?_ | refine sx_loadV 1 [_, _, _, _, _, _, _, _, _, _, _] rfl rfl rfl rfl ?_) | ((with_reducible refine at_call 57 ?_); refine sx_callv (fun w hm => s1 _ (k1 hm)) ?_ rfl) | ((with_reducible refine at_call 57 ?_); refine sx_callv (fun w hm => s2 _ (k2 hm)) ?_ rfl) | ((with_reducible refine at_bin ?_); refine sx_eqlY rfl rfl hxy ?_) | ((with_reducible refine at_op ?_); first | ((with_reducible refine at_move ?_); refine sx_move _ vf ?_) | ((with_reducible refine at_assign ?_); refine sx_assign _ vf ?_) | (refine sx_box rfl ?_; intro b)) | refine sx_nil ?_ | ((with_reducible refine at_code ?_); first | refine cx_seq ?_ | refine cx_region ?_ | refine cx_ret ?_) | ((with_reducible refine at_exit ?_); refine qx_then ?_))
    exact qx_ret1 (v := .bool _) [] rfl rfl ⟨rfl, rfl⟩ (fun w hm => hm.nil)
  · repeat' (first | ((with_reducible refine at_load ?_); first | refine sx_loadV 0 [_, _, _, _, _, _, _, _, _, _, _] rfl rfl rfl rfl ?_ | refine sx_loadV 1 [_, _, _, _, _, _, _, _, _, _, _] rfl rfl rfl rfl ?_) | ((with_reducible refine at_call 57 ?_); refine sx_callv (fun w hm => s1 _ (k1 hm)) ?_ rfl) | ((with_reducible refine at_call 57 ?_); refine sx_callv (fun w hm => s2 _ (k2 hm)) ?_ rfl) | ((with_reducible refine at_bin ?_); refine sx_eqlTN rfl rfl hxy ?_) | ((with_reducible refine at_op ?_); first | ((with_reducible refine at_move ?_); refine sx_move _ vf ?_) | ((with_reducible refine at_assign ?_); refine sx_assign _ vf ?_) | (refine sx_box rfl ?_; intro b)) | refine sx_nil ?_ | ((with_reducible refine at_code ?_); first | refine cx_seq ?_ | refine cx_region ?_ | refine cx_ret ?_) | ((with_reducible refine at_exit ?_); refine qx_then ?_))
    exact qx_ret1 (v := .bool _) [] rfl rfl ⟨rfl, rfl⟩ (fun w hm => hm.nil)
attribute [local irreducible] rowL
set_option maxHeartbeats 16000000 in
theorem ref_Common {A1 A2 : Option Addr} {n1 n2 c1 c2 : Nat} {a z : List Ru} {w : World} (h1 : IsSl w 11 A1 n1 c1 (a.flatMap Ru.row)) (h2 : IsSl w 11 A2 n2 c2 (z.flatMap Ru.row)) (hn1 : n1 = a.length) (hn2 : n2 = z.length) (ho1 : ∀ r ∈ a, r.ok w ∧ RcOk r.con) (ho2 : ∀ r ∈ z, r.ok w ∧ RcOk r.con) (hb1 : n1 ≤ 20) (hb2 : n2 ≤ 20) :
    Calls Tryd.prog 17 #[.slice A1 n1 c1, .slice A2 n2 c2] w (Ret w [] (isV (.int .i64 (lcs (a.map Ru.con) (z.map Ru.con) : Nat)))) := by
  obtain ⟨x1, o1, hA1⟩ := h1.base
  obtain ⟨x2, o2, hA2⟩ := h2.base
  refine cx_enter (args := [.slice A1 n1 c1, .slice A2 n2 c2]) (F := [(0, .slice A1 n1 c1), (1, .slice A2 n2 c2)]) _ [] Tryd.func17 rfl Tryd.ntmps17 (by simp) rfl (Mem.refl _) (fun g => ?_)
  repeat' (first | ((with_reducible refine at_op ?_); ((with_reducible refine at_assign ?_); refine sx_assign _ vf ?_)) | refine sx_nil ?_ | ((with_reducible refine at_code ?_); first | refine cx_seq ?_ | refine cx_region ?_ | refine cx_block ?_) | ((with_reducible refine at_exit ?_); refine qx_then ?_))
  refine cx_mem (L' := [[]]) ?_ (fun w hm => rotN.mem hm)
  refine cx_loop (fun mm fr L => ∃ (k : Nat) (A : Option Addr) (cp : Nat) (c : Ch), FF fr [(0, .slice A1 n1 c1), (1, .slice A2 n2 c2), (5, .slice A k cp), (6, .int .i64 k)] ∧ L = [c] ∧ OwnS 3 1 (.slice A k cp) k (List.replicate k (.int .i64 0)) c ∧ k ≤ n2 + 1 ∧ mm = n2 + 1 - k) (n2 + 1) ⟨0, none, 0, [], ffr, rfl, OwnS.nil _ _, by omega, rfl⟩ ?_
  rintro mm fr L ⟨k, A, cp, c0, hF, rfl, hoo, hk, rfl⟩ K hK
  refine cx_use hF fun g => ?_
  clear hF
  by_cases hin : k ≤ n2
  · repeat' (first | ((with_reducible refine at_op ?_); first | ((with_reducible refine at_move ?_); refine sx_move _ vf ?_) | ((with_reducible refine at_bin ?_); first | refine sx_leq rfl rfl ?_ | refine sx_add rfl rfl bnd ?_) | ((with_reducible refine at_assign ?_); refine sx_assign _ vf ?_) | ((with_reducible refine at_buildS ?_); (refine sx_buildS _ rfl rfl rfl bcs rfl ?_; intro b)) | ((with_reducible refine at_append ?_); (refine sx_append1 (v := .slice _ _ _) rfl rfl rot0 asm rfl bnd rfl bnd ?_; intro v c ho; obtain ⟨A, cp, rfl, hcp⟩ := ho.len)) | refine sx_len rfl ?_) | refine sx_nil ?_ | ((with_reducible refine at_code ?_); first | refine cx_seq ?_ | refine cx_region ?_ | refine cx_skip ?_ | refine cx_block ?_ | (refine cx_cond rfl (fun h => ?_) (fun h => ?_) <;> (try simp only [decide_eq_true_eq, decide_eq_false_iff_not, Bool.and_eq_true, Bool.or_eq_true, Bool.and_eq_false_iff, Bool.or_eq_false_iff, Bool.not_eq_true', Bool.not_eq_false', Bool.not_true, Bool.not_false, Bool.true_or, Bool.or_true, Bool.false_or, Bool.or_false, Bool.and_true, Bool.true_and, Bool.false_and, Bool.and_false, reduceCtorEq, Classical.not_not, beq_self_eq_true, bne_self_eq_false, not_true_eq_false, not_false_eq_true, or_false, false_or, or_true, true_or, and_true, true_and, and_false, false_and, or_self, and_self] at h) <;> (try (exfalso; omega)))) | ((with_reducible refine at_exit ?_); first | refine qx_then ?_ | refine qx_in_normal ?_))
    (all_goals try (exfalso; omega)); refine qx_mem (L' := [c]) ?_ (fun w hm => by exact hm.picks [0]); exact hK (n2 + 1 - (k + 1)) _ _ _ (by omega) ⟨k + 1, _, _, c, ⟨rfl, rfl, rfl, iv (by omega), trivial⟩, rfl, by rw [List.replicate_succ']; exact ho, by omega, rfl⟩
  obtain rfl : k = n2 + 1 := by omega
  clear hK
  rw [← rowL_0 (a.map Ru.con) (z.map Ru.con)] at hoo
  repeat' (first | ((with_reducible refine at_op ?_); first | ((with_reducible refine at_move ?_); refine sx_move _ vf ?_) | ((with_reducible refine at_bin ?_); refine sx_leq rfl rfl ?_) | ((with_reducible refine at_assign ?_); refine sx_assign _ vf ?_) | refine sx_len rfl ?_) | refine sx_nil ?_ | ((with_reducible refine at_code ?_); first | refine cx_seq ?_ | refine cx_region ?_ | refine cx_exit ?_ | refine cx_block ?_ | (refine cx_cond rfl (fun h => ?_) (fun h => ?_) <;> (try simp only [decide_eq_true_eq, decide_eq_false_iff_not, Bool.and_eq_true, Bool.or_eq_true, Bool.and_eq_false_iff, Bool.or_eq_false_iff, Bool.not_eq_true', Bool.not_eq_false', Bool.not_true, Bool.not_false, Bool.true_or, Bool.or_true, Bool.false_or, Bool.or_false, Bool.and_true, Bool.true_and, Bool.false_and, Bool.and_false, reduceCtorEq, Classical.not_not, beq_self_eq_true, bne_self_eq_false, not_true_eq_false, not_false_eq_true, or_false, false_or, or_true, true_or, and_true, true_and, and_false, false_and, or_self, and_self] at h) <;> (try (exfalso; omega)))) | ((with_reducible refine at_exit ?_); first | refine qx_then ?_ | refine qx_in_here ?_ | refine qx_then_exit ?_))
  all_goals try (exfalso; omega)
  refine cx_loop (fun mm fr L => ∃ (i : Nat) (A : Option Addr) (cp : Nat) (c : Ch), FF fr [(0, .slice A1 n1 c1), (1, .slice A2 n2 c2), (5, .slice A (n2 + 1) cp), (7, .int .i64 i)] ∧ L = [c] ∧ OwnS 3 1 (.slice A (n2 + 1) cp) (n2 + 1) (rowL (a.map Ru.con) (z.map Ru.con) i (n2 + 1)) c ∧ i ≤ n1 ∧ mm = n1 - i) n1 ⟨0, _, _, _, ffr, rfl, hoo, by omega, rfl⟩ ?_
  clear hoo
  rintro mm fr L ⟨i, A, cp, cr, hF, rfl, hoo, hi, rfl⟩ K hK
  refine cx_use hF fun g => ?_
  clear hF
  obtain ⟨br, hAr⟩ := hoo.base'
  by_cases hin1 : i < n1
  rotate_left
  · obtain rfl : i = n1 := by omega
    have hv := rowL_at (A := a.map Ru.con) (B := z.map Ru.con) (i := i) (m := n2 + 1) (k := n2) (by omega)
    rw [List.take_of_length_le (by rw [List.length_map]; omega), List.take_of_length_le (by rw [List.length_map]; omega)] at hv
    clear hK
    repeat' (first | ((with_reducible refine at_ixaddr ?_); refine sx_indexQ rfl (hAr (by omega)) rfl (by omega) ?_) | ((with_reducible refine at_load ?_); refine sx_loadS1 0 n2 rfl hoo (hAr (by omega)) (by omega) (by omega) rfl hv ?_) | ((with_reducible refine at_op ?_); first | ((with_reducible refine at_move ?_); refine sx_move _ vf ?_) | ((with_reducible refine at_bin ?_); refine sx_lss rfl rfl ?_) | ((with_reducible refine at_assign ?_); refine sx_assign _ vf ?_) | refine sx_len rfl ?_) | refine sx_nil ?_ | ((with_reducible refine at_code ?_); first | refine cx_seq ?_ | refine cx_region ?_ | refine cx_ret ?_ | refine cx_exit ?_ | (refine cx_cond rfl (fun h => ?_) (fun h => ?_) <;> (try simp only [decide_eq_true_eq, decide_eq_false_iff_not, Bool.and_eq_true, Bool.or_eq_true, Bool.and_eq_false_iff, Bool.or_eq_false_iff, Bool.not_eq_true', Bool.not_eq_false', Bool.not_true, Bool.not_false, Bool.true_or, Bool.or_true, Bool.false_or, Bool.or_false, Bool.and_true, Bool.true_and, Bool.false_and, Bool.and_false, reduceCtorEq, Classical.not_not, beq_self_eq_true, bne_self_eq_false, not_true_eq_false, not_false_eq_true, or_false, false_or, or_true, true_or, and_true, true_and, and_false, false_and, or_self, and_self] at h) <;> (try (exfalso; omega)))) | ((with_reducible refine at_exit ?_); first | refine qx_then ?_ | refine qx_in_here ?_ | refine qx_then_exit ?_))
    all_goals first
      | (exfalso; omega)
      | exact qx_ret1 (v := .int _ _) [] rfl rfl ⟨rfl, rfl⟩ (fun w hm => hm.nil)
  obtain ⟨ra, hra⟩ : ∃ r, a[i]? = some r := ⟨_, List.getElem?_eq_getElem (by omega)⟩
  obtain ⟨hoa, hka⟩ := ho1 _ (List.mem_of_getElem? hra)
  have hva : ∀ j v, ra.row[j]? = some v → (a.flatMap Ru.row)[(i : Int).toNat * 11 + j]? = some v := fun j v hv => ru_at (i := (i : Int).toNat) (by rw [Int.toNat_natCast]; exact hra) j v hv
  have hra' : (a.map Ru.con)[i]? = some ra.con := by rw [List.getElem?_map, hra]; rfl
  repeat' (first | ((with_reducible refine at_op ?_); first | ((with_reducible refine at_move ?_); refine sx_move _ vf ?_) | ((with_reducible refine at_bin ?_); refine sx_lss rfl rfl ?_) | ((with_reducible refine at_assign ?_); refine sx_assign _ vf ?_) | ((with_reducible refine at_buildS ?_); (refine sx_buildS _ rfl rfl rfl bcs rfl ?_; intro b)) | refine sx_len rfl ?_) | refine sx_nil ?_ | ((with_reducible refine at_code ?_); first | refine cx_seq ?_ | refine cx_region ?_ | refine cx_skip ?_ | refine cx_block ?_ | (refine cx_cond rfl (fun h => ?_) (fun h => ?_) <;> (try simp only [decide_eq_true_eq, decide_eq_false_iff_not, Bool.and_eq_true, Bool.or_eq_true, Bool.and_eq_false_iff, Bool.or_eq_false_iff, Bool.not_eq_true', Bool.not_eq_false', Bool.not_true, Bool.not_false, Bool.true_or, Bool.or_true, Bool.false_or, Bool.or_false, Bool.and_true, Bool.true_and, Bool.false_and, Bool.and_false, reduceCtorEq, Classical.not_not, beq_self_eq_true, bne_self_eq_false, not_true_eq_false, not_false_eq_true, or_false, false_or, or_true, true_or, and_true, true_and, and_false, false_and, or_self, and_self] at h) <;> (try (exfalso; omega)))) | ((with_reducible refine at_exit ?_); refine qx_then ?_))
  all_goals try (exfalso; omega)
  refine cx_loop (fun mm fr L => ∃ (k : Nat) (An : Option Addr) (cpn : Nat) (cn : Ch), FF fr [(0, .slice A1 n1 c1), (1, .slice A2 n2 c2), (5, .slice A (n2 + 1) cp), (7, .int .i64 i), (8, .slice An (k + 1) cpn), (9, .int .i64 k)] ∧ L = [cn, cr] ∧ OwnS 3 1 (.slice An (k + 1) cpn) (k + 1) (rowL (a.map Ru.con) (z.map Ru.con) (i + 1) (k + 1)) cn ∧ k ≤ n2 ∧ mm = n2 - k) n2 ⟨0, _, _, _, ffr, rfl, by rw [rowL_1]; exact OwnS.lit _ 1 _ 1 _ rfl (by unfold maxLen; decide), by omega, rfl⟩ ?_
  rintro mm fr L ⟨k, An, cpn, cn, hF, rfl, hon, hk, rfl⟩ K2 hK2
  refine cx_use hF fun g => ?_
  clear hF
  by_cases hin2 : k < n2
  rotate_left
  · obtain rfl : k = n2 := by omega
    clear hK2
    repeat' (first | ((with_reducible refine at_op ?_); first | ((with_reducible refine at_move ?_); refine sx_move _ vf ?_) | ((with_reducible refine at_bin ?_); first | refine sx_lss rfl rfl ?_ | refine sx_add rfl rfl bnd ?_) | ((with_reducible refine at_assign ?_); refine sx_assign _ vf ?_) | refine sx_len rfl ?_) | refine sx_nil ?_ | ((with_reducible refine at_code ?_); first | refine cx_seq ?_ | refine cx_region ?_ | refine cx_exit ?_ | (refine cx_cond rfl (fun h => ?_) (fun h => ?_) <;> (try simp only [decide_eq_true_eq, decide_eq_false_iff_not, Bool.and_eq_true, Bool.or_eq_true, Bool.and_eq_false_iff, Bool.or_eq_false_iff, Bool.not_eq_true', Bool.not_eq_false', Bool.not_true, Bool.not_false, Bool.true_or, Bool.or_true, Bool.false_or, Bool.or_false, Bool.and_true, Bool.true_and, Bool.false_and, Bool.and_false, reduceCtorEq, Classical.not_not, beq_self_eq_true, bne_self_eq_false, not_true_eq_false, not_false_eq_true, or_false, false_or, or_true, true_or, and_true, true_and, and_false, false_and, or_self, and_self] at h) <;> (try (exfalso; omega)))) | ((with_reducible refine at_exit ?_); first | refine qx_then ?_ | refine qx_in_here ?_ | refine qx_in_normal ?_ | refine qx_then_exit ?_))
    (all_goals try (exfalso; omega)); refine qx_mem (L' := [cn]) ?_ (fun w hm => by exact hm.picks [0]); exact hK (n1 - (i + 1)) _ _ _ (by omega) ⟨i + 1, _, _, cn, ⟨rfl, rfl, rfl, iv (by omega), trivial⟩, rfl, hon, by omega, rfl⟩
  clear hK
  obtain ⟨rb, hrb⟩ : ∃ r, z[k]? = some r := ⟨_, List.getElem?_eq_getElem (by omega)⟩
  obtain ⟨hob, hkb⟩ := ho2 _ (List.mem_of_getElem? hrb)
  have hvb : ∀ j v, rb.row[j]? = some v → (z.flatMap Ru.row)[(k : Int).toNat * 11 + j]? = some v := fun j v hv => ru_at (i := (k : Int).toNat) (by rw [Int.toNat_natCast]; exact hrb) j v hv
  have hrb' : (z.map Ru.con)[k]? = some rb.con := by rw [List.getElem?_map, hrb]; rfl
  have hpre := lcs_pre hra' hrb'
  have hvp := rowL_at (A := a.map Ru.con) (B := z.map Ru.con) (i := i + 1) (m := k + 1) (k := k) (by omega)
  have hvq := rowL_at (A := a.map Ru.con) (B := z.map Ru.con) (i := i) (m := n2 + 1) (k := k + 1) (by omega)
  have hvd := rowL_at (A := a.map Ru.con) (B := z.map Ru.con) (i := i) (m := n2 + 1) (k := k) (by omega)
  have hnx := rowL_succ (a.map Ru.con) (z.map Ru.con) (i + 1) (k + 1)
  have bP := (lcs_le ((a.map Ru.con).take (i + 1)) ((z.map Ru.con).take k)).1
  have bQ := (lcs_le ((a.map Ru.con).take i) ((z.map Ru.con).take (k + 1))).1
  have bD := (lcs_le ((a.map Ru.con).take i) ((z.map Ru.con).take k)).1
  rw [List.length_take, List.length_map] at bP bQ bD
  have hsame := fun w' (p1 : ra.ok w') (p2 : rb.ok w') => ref_Same ra rb p1 p2 hka hkb
  have xS : (ra.con = rb.con) ∨ ¬ ra.con = rb.con := Classical.em _
  generalize lcs ((a.map Ru.con).take (i + 1)) ((z.map Ru.con).take (k + 1)) = V at *
  generalize lcs ((a.map Ru.con).take (i + 1)) ((z.map Ru.con).take k) = P at *
  generalize lcs ((a.map Ru.con).take i) ((z.map Ru.con).take (k + 1)) = Q at *
  generalize lcs ((a.map Ru.con).take i) ((z.map Ru.con).take k) = E at *
  obtain ⟨bn, hAn⟩ := hon.base'
  have hcs : (ra.con = rb.con ∧ ((P < Q ∧ Q < E + 1 ∧ V = E + 1) ∨ (P < Q ∧ ¬ Q < E + 1 ∧ V = Q) ∨ (¬ P < Q ∧ P < E + 1 ∧ V = E + 1) ∨ (¬ P < Q ∧ ¬ P < E + 1 ∧ V = P))) ∨ (¬ ra.con = rb.con ∧ ((P < Q ∧ V = Q) ∨ (¬ P < Q ∧ V = P))) := by
    rcases xS with h | h
    · rw [if_pos h] at hpre
      exact .inl ⟨h, by omega⟩
    · rw [if_neg h] at hpre
      exact .inr ⟨h, by omega⟩
  clear hpre xS
  rcases hcs with ⟨hc, hv⟩ | ⟨hc, hv⟩
  · rw [decide_eq_true hc] at hsame
    rcases hv with ⟨p1, p2, rfl⟩ | ⟨p1, p2, rfl⟩ | ⟨p1, p2, rfl⟩ | ⟨p1, p2, rfl⟩
    all_goals
      repeat' (first | ((with_reducible refine at_ixaddr ?_); first | refine sx_indexQ rfl (hAn (by omega)) rfl (by omega) ?_ | refine sx_indexQ rfl (hAr (by omega)) rfl (by omega) ?_ | refine sx_indexQ rfl (hA1 (by omega)).1 rfl (by omega) ?_ | refine sx_indexQ rfl (hA2 (by omega)).1 rfl (by omega) ?_) | ((with_reducible refine at_load ?_); first | refine sx_loadS1 0 k rfl hon (hAn (by omega)) (by omega) (by omega) rfl hvp ?_ | refine sx_loadS1 1 (k + 1) rfl hoo (hAr (by omega)) (by omega) (by omega) rfl hvq ?_ | refine sx_loadS1 1 k rfl hoo (hAr (by omega)) (by omega) (by omega) rfl hvd ?_ | refine sx_loadOldA (vs := ra.row) rfl (hA1 (by omega)).2.2 (hA1 (by omega)).2.1 (by simp) rfl hva ?_ | refine sx_loadOldA (vs := rb.row) rfl (hA2 (by omega)).2.2 (hA2 (by omega)).2.1 (by simp) rfl hvb ?_) | ((with_reducible refine at_call 35 ?_); refine sx_callv (fun w hm => hsame _ (hoa.mem hm.nil) (hob.mem hm.nil)) ?_ rfl) | ((with_reducible refine at_op ?_); first | ((with_reducible refine at_guard ?_); refine sx_want rfl rfl rfl ras ?_) | ((with_reducible refine at_move ?_); refine sx_move _ vf ?_) | ((with_reducible refine at_bin ?_); first | refine sx_lss rfl rfl ?_ | refine sx_gtr rfl rfl ?_ | refine sx_add rfl rfl bnd ?_) | ((with_reducible refine at_assign ?_); refine sx_assign _ vf ?_) | ((with_reducible refine at_pick ?_); refine sx_pickT (.bool _) rfl dec rfl ?_) | ((with_reducible refine at_buildS ?_); (refine sx_buildS _ rfl rfl rfl bcs rfl ?_; intro b)) | ((with_reducible refine at_append ?_); (refine sx_append1 (v := .slice _ _ _) rfl rfl rot0 asm rfl bnd rfl bnd ?_; intro v c ho; obtain ⟨A, cp, rfl, hcp⟩ := ho.len)) | refine sx_len rfl ?_) | refine sx_nil ?_ | ((with_reducible refine at_code ?_); first | refine cx_seq ?_ | refine cx_quiet rfl dk dk ?_ | refine cx_region ?_ | refine cx_skip ?_ | refine cx_block ?_ | (refine cx_cond rfl (fun h => ?_) (fun h => ?_) <;> (try simp only [decide_eq_true_eq, decide_eq_false_iff_not, Bool.and_eq_true, Bool.or_eq_true, Bool.and_eq_false_iff, Bool.or_eq_false_iff, Bool.not_eq_true', Bool.not_eq_false', Bool.not_true, Bool.not_false, Bool.true_or, Bool.or_true, Bool.false_or, Bool.or_false, Bool.and_true, Bool.true_and, Bool.false_and, Bool.and_false, reduceCtorEq, Classical.not_not, beq_self_eq_true, bne_self_eq_false, not_true_eq_false, not_false_eq_true, or_false, false_or, or_true, true_or, and_true, true_and, and_false, false_and, or_self, and_self] at h) <;> (try (exfalso; omega)))) | ((with_reducible refine at_exit ?_); first | refine qx_then ?_ | refine qx_in_normal ?_))
      (all_goals try (exfalso; omega)); refine qx_mem (L' := [c, cr]) ?_ (fun w hm => by exact hm.picks [0, 0]); exact hK2 (n2 - (k + 1)) _ _ _ (by omega) ⟨k + 1, _, _, c, ⟨rfl, rfl, rfl, rfl, rfl, iv (by omega), trivial⟩, rfl, by rw [hnx]; exact ho, by omega, rfl⟩
  · rw [decide_eq_false hc] at hsame
    rcases hv with ⟨p1, rfl⟩ | ⟨p1, rfl⟩
    all_goals
      repeat' (first | ((with_reducible refine at_ixaddr ?_); first | refine sx_indexQ rfl (hAn (by omega)) rfl (by omega) ?_ | refine sx_indexQ rfl (hAr (by omega)) rfl (by omega) ?_ | refine sx_indexQ rfl (hA1 (by omega)).1 rfl (by omega) ?_ | refine sx_indexQ rfl (hA2 (by omega)).1 rfl (by omega) ?_) | ((with_reducible refine at_load ?_); first | refine sx_loadS1 0 k rfl hon (hAn (by omega)) (by omega) (by omega) rfl hvp ?_ | refine sx_loadS1 1 (k + 1) rfl hoo (hAr (by omega)) (by omega) (by omega) rfl hvq ?_ | refine sx_loadOldA (vs := ra.row) rfl (hA1 (by omega)).2.2 (hA1 (by omega)).2.1 (by simp) rfl hva ?_ | refine sx_loadOldA (vs := rb.row) rfl (hA2 (by omega)).2.2 (hA2 (by omega)).2.1 (by simp) rfl hvb ?_) | ((with_reducible refine at_call 35 ?_); refine sx_callv (fun w hm => hsame _ (hoa.mem hm.nil) (hob.mem hm.nil)) ?_ rfl) | ((with_reducible refine at_op ?_); first | ((with_reducible refine at_guard ?_); refine sx_skip rfl rfl rfl ras ?_) | ((with_reducible refine at_move ?_); refine sx_move _ vf ?_) | ((with_reducible refine at_bin ?_); first | refine sx_lss rfl rfl ?_ | refine sx_gtr rfl rfl ?_ | refine sx_add rfl rfl bnd ?_) | ((with_reducible refine at_assign ?_); refine sx_assign _ vf ?_) | ((with_reducible refine at_pick ?_); refine sx_pickF (.bool _) rfl dec rfl ?_) | ((with_reducible refine at_buildS ?_); (refine sx_buildS _ rfl rfl rfl bcs rfl ?_; intro b)) | ((with_reducible refine at_append ?_); (refine sx_append1 (v := .slice _ _ _) rfl rfl rot0 asm rfl bnd rfl bnd ?_; intro v c ho; obtain ⟨A, cp, rfl, hcp⟩ := ho.len)) | refine sx_len rfl ?_) | refine sx_nil ?_ | ((with_reducible refine at_code ?_); first | refine cx_seq ?_ | refine cx_quiet rfl dk dk ?_ | refine cx_region ?_ | refine cx_skip ?_ | refine cx_block ?_ | refine cx_false rfl ?_ | (refine cx_cond rfl (fun h => ?_) (fun h => ?_) <;> (try simp only [decide_eq_true_eq, decide_eq_false_iff_not, Bool.and_eq_true, Bool.or_eq_true, Bool.and_eq_false_iff, Bool.or_eq_false_iff, Bool.not_eq_true', Bool.not_eq_false', Bool.not_true, Bool.not_false, Bool.true_or, Bool.or_true, Bool.false_or, Bool.or_false, Bool.and_true, Bool.true_and, Bool.false_and, Bool.and_false, reduceCtorEq, Classical.not_not, beq_self_eq_true, bne_self_eq_false, not_true_eq_false, not_false_eq_true, or_false, false_or, or_true, true_or, and_true, true_and, and_false, false_and, or_self, and_self] at h) <;> (try (exfalso; omega)))) | ((with_reducible refine at_exit ?_); first | refine qx_then ?_ | refine qx_in_normal ?_))
      (all_goals try (exfalso; omega)); refine qx_mem (L' := [c, cr]) ?_ (fun w hm => by exact hm.picks [0, 0]); exact hK2 (n2 - (k + 1)) _ _ _ (by omega) ⟨k + 1, _, _, c, ⟨rfl, rfl, rfl, rfl, rfl, iv (by omega), trivial⟩, rfl, by rw [hnx]; exact ho, by omega, rfl⟩
end Go.Proofs.YtoelbnhjamddgaaDoor
