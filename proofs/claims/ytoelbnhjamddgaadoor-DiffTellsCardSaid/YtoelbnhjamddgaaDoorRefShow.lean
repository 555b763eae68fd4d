/- The reference: a rule as text. -/
import Derived.Test.YtoelbnhjamddgaaDoorShowR
import Derived.Test.YtoelbnhjamddgaaDoorRefShS
import Derived.Test.YtoelbnhjamddgaaDoorPfxS
set_option linter.unusedSimpArgs false
set_option linter.unusedVariables false
set_option maxRecDepth 100000
namespace Go.Port
theorem tl_none (T : List UInt8) : T ++ tlW [] = T := List.append_nil T
theorem tl_one (T x : List UInt8) : T ++ tlW [x] = T ++ 32 :: x := by unfold tlW; simp
theorem tl_two (T x y : List UInt8) : T ++ tlW [x, y] = T ++ (32 :: x ++ 32 :: y) := by unfold tlW; simp
theorem tl_way (way : Int) : tlW (vW way) = (if way = 1 then [32, 105, 110] else []) ++ (if way = 2 then [32, 111, 117, 116] else []) := by
  unfold vW
  by_cases h1 : way = 1
  · rw [if_pos h1, if_pos h1, if_neg (by omega)]; rfl
  · rw [if_neg h1, if_neg h1]
    by_cases h2 : way = 2
    · rw [if_pos h2, if_pos h2]; rfl
    · rw [if_neg h2, if_neg h2]; rfl
theorem qW_len (b : Bool) : (tlW (qW b)).length ≤ 6 := by cases b <;> decide
theorem kW_1 : tlW (kW 1) = [32, 107, 105, 110, 100, 32, 115, 116, 114, 101, 97, 109] := by decide
theorem kW_2 : tlW (kW 2) = [32, 107, 105, 110, 100, 32, 115, 105, 110, 103, 108, 101] := by decide
theorem kW_3 : tlW (kW 3) = [32, 107, 105, 110, 100, 32, 101, 99, 104, 111] := by decide
theorem kW_len (k : Int) : (tlW (kW k)).length ≤ 12 := by
  unfold kW
  split
  · decide
  · split
    · decide
    · split <;> decide
theorem tlS_len (l : List Sp) : (tlW (sW l)).length ≤ (shL l).length + 6 := by
  unfold sW tlW
  split
  · simp
  · simp
theorem pxT_len {a n : Nat} (h : n ≤ 32) : (pxT a n).length ≤ 21 := by
  have h1 := addrT_len a
  have h2 := decLen_le (u := n) 4 (by omega)
  unfold pxT
  split
  · decide
  · rw [List.length_append, List.length_append]
    simp only [List.length_cons, List.length_nil]
    omega
end Go.Port
namespace Go.Proofs.YtoelbnhjamddgaaDoor
open Go.RowKit Go.Port
attribute [local irreducible] Calls spE pxE shL pxT tlW
set_option maxHeartbeats 16000000 in
theorem ref_ShowRule (ps qk kp : Bool) (way kind sa sl da dl : Int) {FA TA : Option Addr} {fl fc tl tc : Nat} {lf lt : List Sp} {w : World} (hf : IsSl w 2 FA fl fc (rowsS lf)) (hfl : fl = lf.length) (ht : IsSl w 2 TA tl tc (rowsS lt)) (htl : tl = lt.length) (hok : RcOk ⟨ps, qk, kp, way, kind, sa, sl, da, dl, lf, lt⟩) :
    Calls Tryd.prog 57 #[.agg #[.bool ps, .bool qk, .bool kp, .int .i64 way, .int .i64 kind, .int .i64 sa, .int .i64 sl, .int .i64 da, .int .i64 dl, .slice FA fl fc, .slice TA tl tc]] w (Ret w [] (isV (tx (shR ⟨ps, qk, kp, way, kind, sa, sl, da, dl, lf, lt⟩)))) := by
  rw [shR_text]
  dsimp only
  obtain ⟨hway, hkind, hsrc, hdst, ⟨hlf, hlf10⟩, hlt, hlt10⟩ := hok
  dsimp only at hway hkind hsrc hdst hlf hlf10 hlt hlt10
  have hB1 := pxE_0 hsrc
  have hB2 := pxE_0 hdst
  unfold pxB at hB1 hB2
  obtain ⟨a, rfl⟩ : ∃ k : Nat, sa = k := ⟨sa.toNat, by omega⟩
  obtain ⟨n, rfl⟩ : ∃ k : Nat, sl = k := ⟨sl.toNat, by omega⟩
  obtain ⟨d, rfl⟩ : ∃ k : Nat, da = k := ⟨da.toNat, by omega⟩
  obtain ⟨m, rfl⟩ : ∃ k : Nat, dl = k := ⟨dl.toNat, by omega⟩
  rw [Int.toNat_natCast, Int.toNat_natCast, Int.toNat_natCast, Int.toNat_natCast]
  have hP1 := pxT_len (a := a) (n := n) (by omega)
  have hP2 := pxT_len (a := d) (n := m) (by omega)
  have hS1 := shL_len hlf
  have hS2 := shL_len hlt
  have hsp1 := fun w => ref_ShowPrefix a n w (by omega) (by omega)
  have hsp2 := fun w => ref_ShowPrefix d m w (by omega) (by omega)
  have hss1 := fun w' (h : IsSl w' 2 FA fl fc (rowsS lf)) => ref_ShowSpans h hfl (by omega) hlf
  have hss2 := fun w' (h : IsSl w' 2 TA tl tc (rowsS lt)) => ref_ShowSpans h htl (by omega) hlt
  clear hsrc hdst
  refine cx_enter (args := [.agg #[.bool ps, .bool qk, .bool kp, .int .i64 way, .int .i64 kind, .int .i64 (a : Int), .int .i64 (n : Int), .int .i64 (d : Int), .int .i64 (m : Int), .slice FA fl fc, .slice TA tl tc]]) (F := [(0, .agg #[.bool ps, .bool qk, .bool kp, .int .i64 way, .int .i64 kind, .int .i64 (a : Int), .int .i64 (n : Int), .int .i64 (d : Int), .int .i64 (m : Int), .slice FA fl fc, .slice TA tl tc])]) _ [] Tryd.func57 rfl Tryd.ntmps57 (by simp) rfl (Mem.refl _) (fun g => ?_)
  repeat' (first | (with_reducible refine stop_rss 2 ?_) | ((with_reducible refine at_op ?_); first | ((with_reducible refine at_assign ?_); refine sx_assign _ vf ?_) | (refine sx_box rfl ?_; intro b)) | refine sx_nil ?_ | ((with_reducible refine at_code ?_); first | refine cx_seq ?_ | refine cx_region ?_) | ((with_reducible refine at_exit ?_); refine qx_then ?_))
  refine halt_go ?_
  refine cx_cut (fun fr L => ∃ b, FF fr [(1, .pointer (some ⟨b, 0, none⟩)), (3, tx (pW ps))] ∧ L = [[(b, .cells #[.bool ps, .bool qk, .bool kp, .int .i64 way, .int .i64 kind, .int .i64 (a : Int), .int .i64 (n : Int), .int .i64 (d : Int), .int .i64 (m : Int), .slice FA fl fc, .slice TA tl tc] 55 (0, 0))]]) (fun K hK => ?_) ?_
  · cases ps
    · repeat' (first | ((with_reducible refine at_op ?_); first | ((with_reducible refine at_load ?_); refine sx_loadE rfl pc gv ?_) | refine sx_fieldAddr rfl ?_) | refine sx_nil ?_ | ((with_reducible refine at_code ?_); first | refine cx_seq ?_ | refine cx_region ?_ | refine cx_skip ?_ | refine cx_false rfl ?_) | ((with_reducible refine at_exit ?_); refine qx_then ?_))
      exact hK _ _ _ ⟨_, ⟨rfl, rfl, trivial⟩, rfl⟩
    · repeat' (first | ((with_reducible refine at_op ?_); first | ((with_reducible refine at_assign ?_); refine sx_assign _ vf ?_) | ((with_reducible refine at_load ?_); refine sx_loadE rfl pc gv ?_) | refine sx_fieldAddr rfl ?_) | refine sx_nil ?_ | ((with_reducible refine at_code ?_); first | refine cx_seq ?_ | refine cx_region ?_ | refine cx_true rfl ?_) | ((with_reducible refine at_exit ?_); refine qx_then ?_))
      exact hK _ _ _ ⟨_, ⟨rfl, rfl, trivial⟩, rfl⟩
  rintro fr L ⟨b, hF, rfl⟩
  refine cx_use hF fun g => ?_
  clear hF
  obtain ⟨T0, hT0⟩ : ∃ T, T = pW ps := ⟨_, rfl⟩
  have hlT0 : T0.length ≤ 5 := by rw [hT0]; unfold pW; split <;> decide
  rw [← hT0]
  refine cx_cut (fun fr L => ∃ b, FF fr [(1, .pointer (some ⟨b, 0, none⟩)), (3, tx (T0 ++ tlW (qW qk)))] ∧ L = [[(b, .cells #[.bool ps, .bool qk, .bool kp, .int .i64 way, .int .i64 kind, .int .i64 (a : Int), .int .i64 (n : Int), .int .i64 (d : Int), .int .i64 (m : Int), .slice FA fl fc, .slice TA tl tc] 55 (0, 0))]]) (fun K hK => ?_) ?_
  · cases qk
    · repeat' (first | ((with_reducible refine at_op ?_); first | ((with_reducible refine at_load ?_); refine sx_loadE rfl pc gv ?_) | refine sx_fieldAddr rfl ?_) | refine sx_nil ?_ | ((with_reducible refine at_code ?_); first | refine cx_seq ?_ | refine cx_region ?_ | refine cx_skip ?_ | refine cx_false rfl ?_) | ((with_reducible refine at_exit ?_); refine qx_then ?_))
      exact hK _ _ _ ⟨_, ⟨rfl, congrArg tx (tl_none T0).symm, trivial⟩, rfl⟩
    · repeat' (first | ((with_reducible refine at_bin ?_); refine sx_addT rfl rfl (by (try simp only [List.length_append, List.length_cons, List.length_nil]); omega) ?_) | ((with_reducible refine at_op ?_); first | ((with_reducible refine at_move ?_); refine sx_move _ vf ?_) | ((with_reducible refine at_assign ?_); refine sx_assign _ vf ?_) | ((with_reducible refine at_load ?_); refine sx_loadE rfl pc gv ?_) | refine sx_fieldAddr rfl ?_) | refine sx_nil ?_ | ((with_reducible refine at_code ?_); first | refine cx_seq ?_ | refine cx_region ?_ | refine cx_true rfl ?_) | ((with_reducible refine at_exit ?_); refine qx_then ?_))
      exact hK _ _ _ ⟨_, ⟨rfl, congrArg tx (tl_one T0 _).symm, trivial⟩, rfl⟩
  rintro fr L ⟨b, hF, rfl⟩
  refine cx_use hF fun g => ?_
  clear hF
  obtain ⟨T1, hT1⟩ : ∃ T, T = T0 ++ tlW (qW qk) := ⟨_, rfl⟩
  have h9 : (tlW (qW qk)).length ≤ 6 := qW_len qk
  have hlT1 : T1.length ≤ 11 := by rw [hT1, List.length_append]; omega
  rw [← hT1]
  refine cx_cut (fun fr L => ∃ b, FF fr [(1, .pointer (some ⟨b, 0, none⟩)), (3, tx (T1 ++ (if way = 1 then [32, 105, 110] else [])))] ∧ L = [[(b, .cells #[.bool ps, .bool qk, .bool kp, .int .i64 way, .int .i64 kind, .int .i64 (a : Int), .int .i64 (n : Int), .int .i64 (d : Int), .int .i64 (m : Int), .slice FA fl fc, .slice TA tl tc] 55 (0, 0))]]) (fun K hK => ?_) ?_
  · by_cases h1 : way = 1
    · have q := decide_eq_true h1
      rw [if_pos h1] at hK
      repeat' (first | ((with_reducible refine at_bin ?_); refine sx_addT rfl rfl (by (try simp only [List.length_append, List.length_cons, List.length_nil]); omega) ?_) | ((with_reducible refine at_op ?_); first | ((with_reducible refine at_move ?_); refine sx_move _ vf ?_) | ((with_reducible refine at_bin ?_); refine sx_eql rfl rfl ?_) | ((with_reducible refine at_assign ?_); refine sx_assign _ vf ?_) | ((with_reducible refine at_load ?_); refine sx_loadE rfl pc gv ?_) | refine sx_fieldAddr rfl ?_) | refine sx_nil ?_ | ((with_reducible refine at_code ?_); first | refine cx_seq ?_ | refine cx_region ?_ | (refine cx_cond rfl (fun h => ?_) (fun h => ?_) <;> (try simp only [decide_eq_true_eq, decide_eq_false_iff_not, Bool.and_eq_true, Bool.or_eq_true, Bool.and_eq_false_iff, Bool.or_eq_false_iff, Bool.not_eq_true', Bool.not_eq_false', Bool.not_true, Bool.not_false, Bool.true_or, Bool.or_true, Bool.false_or, Bool.or_false, Bool.and_true, Bool.true_and, Bool.false_and, Bool.and_false, reduceCtorEq, Classical.not_not, beq_self_eq_true, bne_self_eq_false, not_true_eq_false, not_false_eq_true, or_false, false_or, or_true, true_or, and_true, true_and, and_false, false_and, or_self, and_self] at h) <;> (try (exfalso; omega)))) | ((with_reducible refine at_exit ?_); refine qx_then ?_))
      (all_goals try (exfalso; omega)); exact hK _ _ _ ⟨_, ⟨rfl, rfl, trivial⟩, rfl⟩
    · have q := decide_eq_false h1
      rw [if_neg h1, List.append_nil] at hK
      repeat' (first | ((with_reducible refine at_op ?_); first | ((with_reducible refine at_bin ?_); refine sx_eql rfl rfl ?_) | ((with_reducible refine at_load ?_); refine sx_loadE rfl pc gv ?_) | refine sx_fieldAddr rfl ?_) | refine sx_nil ?_ | ((with_reducible refine at_code ?_); first | refine cx_seq ?_ | refine cx_region ?_ | refine cx_skip ?_ | (refine cx_cond rfl (fun h => ?_) (fun h => ?_) <;> (try simp only [decide_eq_true_eq, decide_eq_false_iff_not, Bool.and_eq_true, Bool.or_eq_true, Bool.and_eq_false_iff, Bool.or_eq_false_iff, Bool.not_eq_true', Bool.not_eq_false', Bool.not_true, Bool.not_false, Bool.true_or, Bool.or_true, Bool.false_or, Bool.or_false, Bool.and_true, Bool.true_and, Bool.false_and, Bool.and_false, reduceCtorEq, Classical.not_not, beq_self_eq_true, bne_self_eq_false, not_true_eq_false, not_false_eq_true, or_false, false_or, or_true, true_or, and_true, true_and, and_false, false_and, or_self, and_self] at h) <;> (try (exfalso; omega)))) | ((with_reducible refine at_exit ?_); refine qx_then ?_))
      (all_goals try (exfalso; omega)); exact hK _ _ _ ⟨_, ⟨rfl, rfl, trivial⟩, rfl⟩
  rintro fr L ⟨b, hF, rfl⟩
  refine cx_use hF fun g => ?_
  clear hF
  obtain ⟨T2, hT2⟩ : ∃ T, T = T1 ++ (if way = 1 then [32, 105, 110] else []) := ⟨_, rfl⟩
  have hlT2 : T2.length ≤ 14 := by rw [hT2, List.length_append]; split <;> simp <;> omega
  rw [← hT2]
  refine cx_cut (fun fr L => ∃ b, FF fr [(1, .pointer (some ⟨b, 0, none⟩)), (3, tx (T2 ++ (if way = 2 then [32, 111, 117, 116] else [])))] ∧ L = [[(b, .cells #[.bool ps, .bool qk, .bool kp, .int .i64 way, .int .i64 kind, .int .i64 (a : Int), .int .i64 (n : Int), .int .i64 (d : Int), .int .i64 (m : Int), .slice FA fl fc, .slice TA tl tc] 55 (0, 0))]]) (fun K hK => ?_) ?_
  · by_cases h1 : way = 2
    · have q := decide_eq_true h1
      rw [if_pos h1] at hK
      repeat' (first | ((with_reducible refine at_bin ?_); refine sx_addT rfl rfl (by (try simp only [List.length_append, List.length_cons, List.length_nil]); omega) ?_) | ((with_reducible refine at_op ?_); first | ((with_reducible refine at_move ?_); refine sx_move _ vf ?_) | ((with_reducible refine at_bin ?_); refine sx_eql rfl rfl ?_) | ((with_reducible refine at_assign ?_); refine sx_assign _ vf ?_) | ((with_reducible refine at_load ?_); refine sx_loadE rfl pc gv ?_) | refine sx_fieldAddr rfl ?_) | refine sx_nil ?_ | ((with_reducible refine at_code ?_); first | refine cx_seq ?_ | refine cx_region ?_ | (refine cx_cond rfl (fun h => ?_) (fun h => ?_) <;> (try simp only [decide_eq_true_eq, decide_eq_false_iff_not, Bool.and_eq_true, Bool.or_eq_true, Bool.and_eq_false_iff, Bool.or_eq_false_iff, Bool.not_eq_true', Bool.not_eq_false', Bool.not_true, Bool.not_false, Bool.true_or, Bool.or_true, Bool.false_or, Bool.or_false, Bool.and_true, Bool.true_and, Bool.false_and, Bool.and_false, reduceCtorEq, Classical.not_not, beq_self_eq_true, bne_self_eq_false, not_true_eq_false, not_false_eq_true, or_false, false_or, or_true, true_or, and_true, true_and, and_false, false_and, or_self, and_self] at h) <;> (try (exfalso; omega)))) | ((with_reducible refine at_exit ?_); refine qx_then ?_))
      (all_goals try (exfalso; omega)); exact hK _ _ _ ⟨_, ⟨rfl, rfl, trivial⟩, rfl⟩
    · have q := decide_eq_false h1
      rw [if_neg h1, List.append_nil] at hK
      repeat' (first | ((with_reducible refine at_op ?_); first | ((with_reducible refine at_bin ?_); refine sx_eql rfl rfl ?_) | ((with_reducible refine at_load ?_); refine sx_loadE rfl pc gv ?_) | refine sx_fieldAddr rfl ?_) | refine sx_nil ?_ | ((with_reducible refine at_code ?_); first | refine cx_seq ?_ | refine cx_region ?_ | refine cx_skip ?_ | (refine cx_cond rfl (fun h => ?_) (fun h => ?_) <;> (try simp only [decide_eq_true_eq, decide_eq_false_iff_not, Bool.and_eq_true, Bool.or_eq_true, Bool.and_eq_false_iff, Bool.or_eq_false_iff, Bool.not_eq_true', Bool.not_eq_false', Bool.not_true, Bool.not_false, Bool.true_or, Bool.or_true, Bool.false_or, Bool.or_false, Bool.and_true, Bool.true_and, Bool.false_and, Bool.and_false, reduceCtorEq, Classical.not_not, beq_self_eq_true, bne_self_eq_false, not_true_eq_false, not_false_eq_true, or_false, false_or, or_true, true_or, and_true, true_and, and_false, false_and, or_self, and_self] at h) <;> (try (exfalso; omega)))) | ((with_reducible refine at_exit ?_); refine qx_then ?_))
      (all_goals try (exfalso; omega)); exact hK _ _ _ ⟨_, ⟨rfl, rfl, trivial⟩, rfl⟩
  rintro fr L ⟨b, hF, rfl⟩
  refine cx_use hF fun g => ?_
  clear hF
  obtain ⟨T3, hT3⟩ : ∃ T, T = T2 ++ (if way = 2 then [32, 111, 117, 116] else []) := ⟨_, rfl⟩
  have hlT3 : T3.length ≤ 18 := by rw [hT3, List.length_append]; split <;> simp <;> omega
  rw [← hT3]
  refine cx_cut (fun fr L => ∃ b, FF fr [(1, .pointer (some ⟨b, 0, none⟩)), (3, tx (T3 ++ tlW (kW kind)))] ∧ L = [[(b, .cells #[.bool ps, .bool qk, .bool kp, .int .i64 way, .int .i64 kind, .int .i64 (a : Int), .int .i64 (n : Int), .int .i64 (d : Int), .int .i64 (m : Int), .slice FA fl fc, .slice TA tl tc] 55 (0, 0))]]) (fun K hK => ?_) ?_
  · rcases (by omega : kind = 0 ∨ kind = 1 ∨ kind = 2 ∨ kind = 3) with rfl | rfl | rfl | rfl
    · repeat' (first | ((with_reducible refine at_op ?_); first | ((with_reducible refine at_bin ?_); refine sx_eql rfl rfl ?_) | ((with_reducible refine at_assign ?_); refine sx_assign _ vf ?_) | ((with_reducible refine at_load ?_); refine sx_loadE rfl pc gv ?_) | refine sx_fieldAddr rfl ?_) | refine sx_nil ?_ | ((with_reducible refine at_code ?_); first | refine cx_seq ?_ | refine cx_region ?_ | refine cx_skip ?_ | refine cx_block ?_ | refine cx_false rfl ?_) | ((with_reducible refine at_exit ?_); first | refine qx_then ?_ | refine qx_in_normal ?_))
      exact hK _ _ _ ⟨_, ⟨rfl, congrArg tx (tl_none T3).symm, trivial⟩, rfl⟩
    · repeat' (first | ((with_reducible refine at_bin ?_); refine sx_addT rfl rfl (by (try simp only [List.length_append, List.length_cons, List.length_nil]); omega) ?_) | ((with_reducible refine at_op ?_); first | ((with_reducible refine at_move ?_); refine sx_move _ vf ?_) | ((with_reducible refine at_bin ?_); refine sx_eql rfl rfl ?_) | ((with_reducible refine at_assign ?_); refine sx_assign _ vf ?_) | ((with_reducible refine at_load ?_); refine sx_loadE rfl pc gv ?_) | refine sx_fieldAddr rfl ?_) | refine sx_nil ?_ | ((with_reducible refine at_code ?_); first | refine cx_seq ?_ | refine cx_region ?_ | refine cx_block ?_ | refine cx_true rfl ?_) | ((with_reducible refine at_exit ?_); first | refine qx_then ?_ | refine qx_in_normal ?_))
      exact hK _ _ _ ⟨_, ⟨rfl, congrArg (fun x => tx (T3 ++ x)) kW_1.symm, trivial⟩, rfl⟩
    · repeat' (first | ((with_reducible refine at_bin ?_); refine sx_addT rfl rfl (by (try simp only [List.length_append, List.length_cons, List.length_nil]); omega) ?_) | ((with_reducible refine at_op ?_); first | ((with_reducible refine at_move ?_); refine sx_move _ vf ?_) | ((with_reducible refine at_bin ?_); refine sx_eql rfl rfl ?_) | ((with_reducible refine at_assign ?_); refine sx_assign _ vf ?_) | ((with_reducible refine at_load ?_); refine sx_loadE rfl pc gv ?_) | refine sx_fieldAddr rfl ?_) | refine sx_nil ?_ | ((with_reducible refine at_code ?_); first | refine cx_seq ?_ | refine cx_region ?_ | refine cx_block ?_ | refine cx_true rfl ?_ | refine cx_false rfl ?_) | ((with_reducible refine at_exit ?_); first | refine qx_then ?_ | refine qx_in_normal ?_))
      exact hK _ _ _ ⟨_, ⟨rfl, congrArg (fun x => tx (T3 ++ x)) kW_2.symm, trivial⟩, rfl⟩
    · repeat' (first | ((with_reducible refine at_bin ?_); refine sx_addT rfl rfl (by (try simp only [List.length_append, List.length_cons, List.length_nil]); omega) ?_) | ((with_reducible refine at_op ?_); first | ((with_reducible refine at_move ?_); refine sx_move _ vf ?_) | ((with_reducible refine at_bin ?_); refine sx_eql rfl rfl ?_) | ((with_reducible refine at_assign ?_); refine sx_assign _ vf ?_) | ((with_reducible refine at_load ?_); refine sx_loadE rfl pc gv ?_) | refine sx_fieldAddr rfl ?_) | refine sx_nil ?_ | ((with_reducible refine at_code ?_); first | refine cx_seq ?_ | refine cx_region ?_ | refine cx_block ?_ | refine cx_true rfl ?_ | refine cx_false rfl ?_) | ((with_reducible refine at_exit ?_); first | refine qx_then ?_ | refine qx_in_normal ?_))
      exact hK _ _ _ ⟨_, ⟨rfl, congrArg (fun x => tx (T3 ++ x)) kW_3.symm, trivial⟩, rfl⟩
  rintro fr L ⟨b, hF, rfl⟩
  refine cx_use hF fun g => ?_
  clear hF
  obtain ⟨T4, hT4⟩ : ∃ T, T = T3 ++ tlW (kW kind) := ⟨_, rfl⟩
  have h9 : (tlW (kW kind)).length ≤ 12 := kW_len kind
  have hlT4 : T4.length ≤ 30 := by rw [hT4, List.length_append]; omega
  rw [← hT4]
  repeat' (first | (with_reducible refine stop_rss 19 ?_) | ((with_reducible refine at_load ?_); refine sx_loadV 0 [_, _] rfl rfl rfl rfl ?_) | ((with_reducible refine at_bin ?_); refine sx_addT rfl rfl (by (try simp only [List.length_append, List.length_cons, List.length_nil]); omega) ?_) | ((with_reducible refine at_call 88 ?_); refine sx_callv (fun w hm => hsp1 _) ?_ rfl) | ((with_reducible refine at_op ?_); first | ((with_reducible refine at_move ?_); refine sx_move _ vf ?_) | ((with_reducible refine at_assign ?_); refine sx_assign _ vf ?_) | refine sx_fieldAddr rfl ?_) | refine sx_nil ?_ | ((with_reducible refine at_code ?_); first | refine cx_seq ?_ | refine cx_region ?_) | ((with_reducible refine at_exit ?_); refine qx_then ?_))
  refine halt_go ?_
  refine cx_cut (fun fr L => ∃ b, FF fr [(1, .pointer (some ⟨b, 0, none⟩)), (3, tx (T4 ++ [32, 102, 114, 111, 109, 32] ++ pxT a n ++ tlW (sW lf)))] ∧ L = [[(b, .cells #[.bool ps, .bool qk, .bool kp, .int .i64 way, .int .i64 kind, .int .i64 (a : Int), .int .i64 (n : Int), .int .i64 (d : Int), .int .i64 (m : Int), .slice FA fl fc, .slice TA tl tc] 55 (0, 0))]]) (fun K hK => ?_) ?_
  · by_cases h1 : lf = []
    · have q := decide_eq_false (show ¬ (0 : Int) < (fl : Int) by rw [hfl, h1]; decide)
      have e : tlW (sW lf) = [] := by rw [h1]; unfold sW tlW; rfl
      have he : T4 ++ [32, 102, 114, 111, 109, 32] ++ pxT a n ++ tlW (sW lf) = T4 ++ [32, 102, 114, 111, 109, 32] ++ pxT a n := by rw [e, List.append_nil]
      have hz : fl = 0 := by rw [hfl, h1]; rfl
      repeat' (first | ((with_reducible refine at_op ?_); first | ((with_reducible refine at_bin ?_); refine sx_gtr rfl rfl ?_) | ((with_reducible refine at_load ?_); refine sx_loadE rfl pc gv ?_) | refine sx_fieldAddr rfl ?_ | refine sx_len rfl ?_) | refine sx_nil ?_ | ((with_reducible refine at_code ?_); first | refine cx_seq ?_ | refine cx_region ?_ | refine cx_skip ?_ | (refine cx_cond rfl (fun h => ?_) (fun h => ?_) <;> (try simp only [decide_eq_true_eq, decide_eq_false_iff_not, Bool.and_eq_true, Bool.or_eq_true, Bool.and_eq_false_iff, Bool.or_eq_false_iff, Bool.not_eq_true', Bool.not_eq_false', Bool.not_true, Bool.not_false, Bool.true_or, Bool.or_true, Bool.false_or, Bool.or_false, Bool.and_true, Bool.true_and, Bool.false_and, Bool.and_false, reduceCtorEq, Classical.not_not, beq_self_eq_true, bne_self_eq_false, not_true_eq_false, not_false_eq_true, or_false, false_or, or_true, true_or, and_true, true_and, and_false, false_and, or_self, and_self] at h) <;> (try (exfalso; omega)))) | ((with_reducible refine at_exit ?_); refine qx_then ?_))
      (all_goals try (exfalso; omega)); exact hK _ _ _ ⟨_, ⟨rfl, congrArg tx he.symm, trivial⟩, rfl⟩
    · have hlp := List.length_pos_iff.2 h1
      have q := decide_eq_true (show (0 : Int) < (fl : Int) by omega)
      have e : tlW (sW lf) = [32, 112, 111, 114, 116, 32] ++ shL lf := by unfold sW tlW; rw [if_neg h1]; simp
      have he : T4 ++ [32, 102, 114, 111, 109, 32] ++ pxT a n ++ tlW (sW lf) = T4 ++ [32, 102, 114, 111, 109, 32] ++ pxT a n ++ [32, 112, 111, 114, 116, 32] ++ shL lf := by rw [e, ← List.append_assoc]
      repeat' (first | ((with_reducible refine at_bin ?_); refine sx_addT rfl rfl (by (try simp only [List.length_append, List.length_cons, List.length_nil]); omega) ?_) | ((with_reducible refine at_call 89 ?_); refine sx_callv (fun w hm => hss1 _ (hf.mem hm.nil)) ?_ rfl) | ((with_reducible refine at_op ?_); first | ((with_reducible refine at_move ?_); refine sx_move _ vf ?_) | ((with_reducible refine at_bin ?_); refine sx_gtr rfl rfl ?_) | ((with_reducible refine at_assign ?_); refine sx_assign _ vf ?_) | ((with_reducible refine at_load ?_); refine sx_loadE rfl pc gv ?_) | refine sx_fieldAddr rfl ?_ | refine sx_len rfl ?_) | refine sx_nil ?_ | ((with_reducible refine at_code ?_); first | refine cx_seq ?_ | refine cx_region ?_ | (refine cx_cond rfl (fun h => ?_) (fun h => ?_) <;> (try simp only [decide_eq_true_eq, decide_eq_false_iff_not, Bool.and_eq_true, Bool.or_eq_true, Bool.and_eq_false_iff, Bool.or_eq_false_iff, Bool.not_eq_true', Bool.not_eq_false', Bool.not_true, Bool.not_false, Bool.true_or, Bool.or_true, Bool.false_or, Bool.or_false, Bool.and_true, Bool.true_and, Bool.false_and, Bool.and_false, reduceCtorEq, Classical.not_not, beq_self_eq_true, bne_self_eq_false, not_true_eq_false, not_false_eq_true, or_false, false_or, or_true, true_or, and_true, true_and, and_false, false_and, or_self, and_self] at h) <;> (try (exfalso; omega)))) | ((with_reducible refine at_exit ?_); refine qx_then ?_))
      (all_goals try (exfalso; omega)); exact hK _ _ _ ⟨_, ⟨rfl, congrArg tx he.symm, trivial⟩, rfl⟩
  rintro fr L ⟨b, hF, rfl⟩
  refine cx_use hF fun g => ?_
  clear hF
  obtain ⟨T5, hT5⟩ : ∃ T, T = T4 ++ [32, 102, 114, 111, 109, 32] ++ pxT a n ++ tlW (sW lf) := ⟨_, rfl⟩
  have hlT5 : T5.length ≤ 240 := by rw [hT5]; simp only [List.length_append, List.length_cons, List.length_nil]; have := tlS_len lf; omega
  rw [← hT5]
  repeat' (first | (with_reducible refine stop_rss 24 ?_) | ((with_reducible refine at_load ?_); refine sx_loadV 0 [_, _] rfl rfl rfl rfl ?_) | ((with_reducible refine at_bin ?_); refine sx_addT rfl rfl (by (try simp only [List.length_append, List.length_cons, List.length_nil]); omega) ?_) | ((with_reducible refine at_call 88 ?_); refine sx_callv (fun w hm => hsp2 _) ?_ rfl) | ((with_reducible refine at_op ?_); first | ((with_reducible refine at_move ?_); refine sx_move _ vf ?_) | ((with_reducible refine at_assign ?_); refine sx_assign _ vf ?_) | refine sx_fieldAddr rfl ?_) | refine sx_nil ?_ | ((with_reducible refine at_code ?_); first | refine cx_seq ?_ | refine cx_region ?_) | ((with_reducible refine at_exit ?_); refine qx_then ?_))
  refine halt_go ?_
  refine cx_cut (fun fr L => ∃ b, FF fr [(1, .pointer (some ⟨b, 0, none⟩)), (3, tx (T5 ++ [32, 116, 111, 32] ++ pxT d m ++ tlW (sW lt)))] ∧ L = [[(b, .cells #[.bool ps, .bool qk, .bool kp, .int .i64 way, .int .i64 kind, .int .i64 (a : Int), .int .i64 (n : Int), .int .i64 (d : Int), .int .i64 (m : Int), .slice FA fl fc, .slice TA tl tc] 55 (0, 0))]]) (fun K hK => ?_) ?_
  · by_cases h1 : lt = []
    · have q := decide_eq_false (show ¬ (0 : Int) < (tl : Int) by rw [htl, h1]; decide)
      have e : tlW (sW lt) = [] := by rw [h1]; unfold sW tlW; rfl
      have he : T5 ++ [32, 116, 111, 32] ++ pxT d m ++ tlW (sW lt) = T5 ++ [32, 116, 111, 32] ++ pxT d m := by rw [e, List.append_nil]
      have hz : tl = 0 := by rw [htl, h1]; rfl
      repeat' (first | ((with_reducible refine at_op ?_); first | ((with_reducible refine at_bin ?_); refine sx_gtr rfl rfl ?_) | ((with_reducible refine at_load ?_); refine sx_loadE rfl pc gv ?_) | refine sx_fieldAddr rfl ?_ | refine sx_len rfl ?_) | refine sx_nil ?_ | ((with_reducible refine at_code ?_); first | refine cx_seq ?_ | refine cx_region ?_ | refine cx_skip ?_ | (refine cx_cond rfl (fun h => ?_) (fun h => ?_) <;> (try simp only [decide_eq_true_eq, decide_eq_false_iff_not, Bool.and_eq_true, Bool.or_eq_true, Bool.and_eq_false_iff, Bool.or_eq_false_iff, Bool.not_eq_true', Bool.not_eq_false', Bool.not_true, Bool.not_false, Bool.true_or, Bool.or_true, Bool.false_or, Bool.or_false, Bool.and_true, Bool.true_and, Bool.false_and, Bool.and_false, reduceCtorEq, Classical.not_not, beq_self_eq_true, bne_self_eq_false, not_true_eq_false, not_false_eq_true, or_false, false_or, or_true, true_or, and_true, true_and, and_false, false_and, or_self, and_self] at h) <;> (try (exfalso; omega)))) | ((with_reducible refine at_exit ?_); refine qx_then ?_))
      (all_goals try (exfalso; omega)); exact hK _ _ _ ⟨_, ⟨rfl, congrArg tx he.symm, trivial⟩, rfl⟩
    · have hlp := List.length_pos_iff.2 h1
      have q := decide_eq_true (show (0 : Int) < (tl : Int) by omega)
      have e : tlW (sW lt) = [32, 112, 111, 114, 116, 32] ++ shL lt := by unfold sW tlW; rw [if_neg h1]; simp
      have he : T5 ++ [32, 116, 111, 32] ++ pxT d m ++ tlW (sW lt) = T5 ++ [32, 116, 111, 32] ++ pxT d m ++ [32, 112, 111, 114, 116, 32] ++ shL lt := by rw [e, ← List.append_assoc]
      repeat' (first | ((with_reducible refine at_bin ?_); refine sx_addT rfl rfl (by (try simp only [List.length_append, List.length_cons, List.length_nil]); omega) ?_) | ((with_reducible refine at_call 89 ?_); refine sx_callv (fun w hm => hss2 _ (ht.mem hm.nil)) ?_ rfl) | ((with_reducible refine at_op ?_); first | ((with_reducible refine at_move ?_); refine sx_move _ vf ?_) | ((with_reducible refine at_bin ?_); refine sx_gtr rfl rfl ?_) | ((with_reducible refine at_assign ?_); refine sx_assign _ vf ?_) | ((with_reducible refine at_load ?_); refine sx_loadE rfl pc gv ?_) | refine sx_fieldAddr rfl ?_ | refine sx_len rfl ?_) | refine sx_nil ?_ | ((with_reducible refine at_code ?_); first | refine cx_seq ?_ | refine cx_region ?_ | (refine cx_cond rfl (fun h => ?_) (fun h => ?_) <;> (try simp only [decide_eq_true_eq, decide_eq_false_iff_not, Bool.and_eq_true, Bool.or_eq_true, Bool.and_eq_false_iff, Bool.or_eq_false_iff, Bool.not_eq_true', Bool.not_eq_false', Bool.not_true, Bool.not_false, Bool.true_or, Bool.or_true, Bool.false_or, Bool.or_false, Bool.and_true, Bool.true_and, Bool.false_and, Bool.and_false, reduceCtorEq, Classical.not_not, beq_self_eq_true, bne_self_eq_false, not_true_eq_false, not_false_eq_true, or_false, false_or, or_true, true_or, and_true, true_and, and_false, false_and, or_self, and_self] at h) <;> (try (exfalso; omega)))) | ((with_reducible refine at_exit ?_); refine qx_then ?_))
      (all_goals try (exfalso; omega)); exact hK _ _ _ ⟨_, ⟨rfl, congrArg tx he.symm, trivial⟩, rfl⟩
  rintro fr L ⟨b, hF, rfl⟩
  refine cx_use hF fun g => ?_
  clear hF
  obtain ⟨T6, hT6⟩ : ∃ T, T = T5 ++ [32, 116, 111, 32] ++ pxT d m ++ tlW (sW lt) := ⟨_, rfl⟩
  have hlT6 : T6.length ≤ 480 := by rw [hT6]; simp only [List.length_append, List.length_cons, List.length_nil]; have := tlS_len lt; omega
  rw [← hT6]
  have hfin : T1 ++ tlW (vW way) ++ tlW (kW kind) ++ [32, 102, 114, 111, 109, 32] ++ pxT a n ++ tlW (sW lf) ++ [32, 116, 111, 32] ++ pxT d m ++ tlW (sW lt) ++ tlW (eW kp) = T6 ++ tlW (eW kp) := by
    have hv : T1 ++ tlW (vW way) = T3 := by rw [hT3, hT2, tl_way, List.append_assoc]
    rw [hT6, hT5, hT4, ← hv]
  clear hT0 hT1 hT2 hT3 hT4 hT5 hT6
  cases kp
  · rw [show T6 ++ tlW (eW false) = T6 from tl_none T6] at hfin
    repeat' (first | ((with_reducible refine at_op ?_); first | ((with_reducible refine at_move ?_); refine sx_move _ vf ?_) | ((with_reducible refine at_assign ?_); refine sx_assign _ vf ?_) | ((with_reducible refine at_load ?_); refine sx_loadE rfl pc gv ?_) | refine sx_fieldAddr rfl ?_) | refine sx_nil ?_ | ((with_reducible refine at_code ?_); first | refine cx_seq ?_ | refine cx_region ?_ | refine cx_skip ?_ | refine cx_ret ?_ | refine cx_false rfl ?_) | ((with_reducible refine at_exit ?_); refine qx_then ?_))
    exact qx_ret1 (v := tx _) [] rfl rfl ⟨by rw [hfin], rfl⟩ (fun w hm => hm.nil)
  · rw [show T6 ++ tlW (eW true) = T6 ++ [32, 107, 101, 101, 112] from tl_one T6 _] at hfin
    repeat' (first | ((with_reducible refine at_bin ?_); refine sx_addT rfl rfl (by (try simp only [List.length_append, List.length_cons, List.length_nil]); omega) ?_) | ((with_reducible refine at_op ?_); first | ((with_reducible refine at_move ?_); refine sx_move _ vf ?_) | ((with_reducible refine at_assign ?_); refine sx_assign _ vf ?_) | ((with_reducible refine at_load ?_); refine sx_loadE rfl pc gv ?_) | refine sx_fieldAddr rfl ?_) | refine sx_nil ?_ | ((with_reducible refine at_code ?_); first | refine cx_seq ?_ | refine cx_region ?_ | refine cx_ret ?_ | refine cx_true rfl ?_) | ((with_reducible refine at_exit ?_); refine qx_then ?_))
    exact qx_ret1 (v := tx _) [] rfl rfl ⟨by rw [hfin], rfl⟩ (fun w hm => hm.nil)
theorem ref_ShowRuleR (r : Ru) {w : World} (h : r.ok w) (hk : RcOk r.con) : Calls Tryd.prog 57 #[.agg r.row.toArray] w (Ret w [] (isV (tx (shR r.con)))) :=
  ref_ShowRule r.ps r.qk r.kp r.way r.kind r.sa r.sl r.da r.dl h.1.1 h.1.2 h.2.1 h.2.2 hk
end Go.Proofs.YtoelbnhjamddgaaDoor
