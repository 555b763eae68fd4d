/- portref2: a pool's Tick. -/
import Derived.Test.YtlpdapfihgpheaaDoorFragK
import Derived.Test.YtlpdapfihgpheaaDoorEngB
set_option linter.unusedSimpArgs false
set_option linter.unusedVariables false
set_option maxRecDepth 100000
namespace Go.Proofs.YtlpdapfihgpheaaDoor
open Go.RowKit Go.Port
attribute [local irreducible] Calls
/-- A pool of the document's, and its heaps. -/
def rpC (life now : Int) (mb : Nat) (A : Option Addr) (cap : Nat) (cL : Ch) (RL : List Rh) : Ch := (mb, .cells [.int .i64 life, .int .i64 now, .slice A RL.length cap].toArray 42 (0, 0)) :: (cL ++ RL.flatMap (·.c))
/-- What is not forgotten. -/
def liveR (life u : Int) (RL : List Rh) : List Rh := RL.filter fun x => !decide (life ≤ u - x.began)
theorem rows11 (x : Rh) : x.row.length = 11 := rfl
set_option maxHeartbeats 8000000 in
theorem ref_Time (u : Int) (w : World) : Calls Tryd.prog 20 #[.int .i64 u] w (Ret w [] (isV (.bool (decide (0 ≤ u) && decide (u ≤ 1000000))))) := by
  refine cx_enter (args := [.int .i64 u]) (F := [(0, .int .i64 u)]) _ [] Tryd.func20 rfl Tryd.ntmps20 (by simp) rfl (Mem.refl _) (fun g => ?_)
  repeat' (first | ((with_reducible refine at_op ?_); first | ((with_reducible refine at_guard ?_); first | refine sx_want rfl rfl rfl ras ?_ | refine sx_skip rfl rfl rfl ras ?_ | (refine sx_andG rfl rfl rfl rfl rfl rfl ?_ (fun hb K hK => ?_); apply Exists.intro; refine And.intro (fun hb K hK => ?_) (fun g => ?_))) | ((with_reducible refine at_move ?_); refine sx_move _ vf ?_) | ((with_reducible refine at_bin ?_); first | refine sx_leq rfl rfl ?_ | refine sx_geq rfl rfl ?_) | ((with_reducible refine at_assign ?_); refine sx_assign _ vf ?_)) | refine sx_nil ?_ | ((with_reducible refine at_grp ?_); refine sx_grpC rfl ?_) | ((with_reducible refine at_aft ?_); first | refine sx_aftN rfl ?_ | refine sx_aftC rfl ?_) | ((with_reducible refine at_code ?_); first | refine cx_seq ?_ | refine cx_region ?_ | refine cx_ret ?_) | ((with_reducible refine at_exit ?_); first | refine qx_then ?_ | ((with_reducible refine at_K ?_); first | exact hK _ _ _ rfl ⟨rfl, rfl⟩ rfl | exact hK _ _ _ rfl rfl ⟨rfl, rfl⟩ rfl)))
  all_goals exact qx_ret1 (v := .bool _) [] rfl rfl ⟨by simp only [*, decide_true, decide_false, Bool.and_true, Bool.true_and, Bool.false_and, Bool.and_false], rfl⟩ (fun w hm => hm.nil)
theorem live_step {life u : Int} {RL : List Rh} {i : Nat} {x : Rh} (h : RL[i]? = some x) : liveR life u (RL.take (i + 1)) = if life ≤ u - x.began then liveR life u (RL.take i) else liveR life u (RL.take i) ++ [x] := by
  obtain ⟨hi, he⟩ := List.getElem?_eq_some_iff.1 h
  unfold liveR
  rw [List.take_succ_eq_append_getElem hi, List.filter_append, List.filter_cons, he]
  by_cases hl : life ≤ u - x.began
  · rw [if_pos hl, decide_eq_true hl, if_neg (by decide), List.filter_nil, List.append_nil]
  · rw [if_neg hl, decide_eq_false hl, if_pos (by decide), List.filter_nil]
set_option maxHeartbeats 8000000 in
theorem ref_Tick {life now u : Int} {mb cap : Nat} {A : Option Addr} {cL : Ch} {RL : List Rh} {w : World} {D : List Nat} (hL : OwnS 65 11 (.slice A RL.length cap) RL.length (RL.flatMap Rh.row) cL) (hlen : RL.length ≤ 100) (hlife : 1 ≤ life ∧ life ≤ 1000000) (hnow : 0 ≤ now ∧ now ≤ 1000000) (hbg : ∀ x ∈ RL, 0 ≤ x.began ∧ x.began ≤ 1000000)
    (hD : D = (rpC life now mb A cap cL RL).map (·.1)) (hM : Mem w w D [rpC life now mb A cap cL RL]) :
    Calls Tryd.prog 11 #[.pointer (some ⟨mb, 0, none⟩), .int .i64 u] w (Ret w D (fun v L =>
      (∃ e, ((u < 0 ∨ 1000000 < u) ∧ e = 1 ∨ (0 ≤ u ∧ u ≤ 1000000 ∧ u < now) ∧ e = 6) ∧ v = .tuple #[.int .i64 0, .int .i64 e] ∧ L = [rpC life now mb A cap cL RL]) ∨
      ((0 ≤ u ∧ u ≤ 1000000 ∧ now ≤ u) ∧ v = .tuple #[.int .i64 ((RL.length : Int) - (liveR life u RL).length), .int .i64 0] ∧ ∃ A' cap' cL', L = [rpC life u mb A' cap' cL' (liveR life u RL)] ∧ OwnS 65 11 (.slice A' (liveR life u RL).length cap') (liveR life u RL).length ((liveR life u RL).flatMap Rh.row) cL'))) := by
  refine cx_enter (args := [.pointer (some ⟨mb, 0, none⟩), .int .i64 u]) (F := [(0, .pointer (some ⟨mb, 0, none⟩)), (1, .int .i64 u)]) _ [rpC life now mb A cap cL RL] Tryd.func11 rfl Tryd.ntmps11 (by simp) rfl hM (fun g => ?_)
  clear hM
  refine cx_mem (L' := [[(mb, .cells [.int .i64 life, .int .i64 now, .slice A RL.length cap].toArray 42 (0, 0))], cL, RL.flatMap (·.c)]) ?_ (fun w hm => hm.perm (by simp [rpC]))
  repeat' (first | ((with_reducible refine at_call 20 ?_); refine sx_callv (fun w hm => ref_Time u _) ?_ rfl) | ((with_reducible refine at_op ?_); first | ((with_reducible refine at_move ?_); refine sx_move _ vf ?_) | ((with_reducible refine at_bin ?_); refine sx_lss rfl rfl ?_) | ((with_reducible refine at_assign ?_); refine sx_assign _ vf ?_) | ((with_reducible refine at_load ?_); refine sx_loadE rfl pc gv ?_) | ((with_reducible refine at_stores ?_); first | refine sx_stval _ vf ?_ | (apply sx_store rfl rfl rfl rfl; (repeat (first | exact set_z rfl | apply set_succ)))) | refine sx_nilCheck rfl ?_ | refine sx_fieldAddr rfl ?_ | refine sx_not rfl ?_) | refine sx_nil ?_ | ((with_reducible refine at_code ?_); first | refine cx_seq ?_ | refine cx_region ?_ | refine cx_skip ?_ | refine cx_ret ?_ | refine cx_block ?_ | (refine cx_cond rfl (fun h => ?_) (fun h => ?_) <;> (try simp only [decide_eq_true_eq, decide_eq_false_iff_not, Bool.and_eq_true, Bool.or_eq_true, Bool.and_eq_false_iff, Bool.or_eq_false_iff, Bool.not_eq_true', Bool.not_eq_false', Bool.not_true, Bool.not_false, Bool.true_or, Bool.or_true, Bool.false_or, Bool.or_false, Bool.and_true, Bool.true_and, Bool.false_and, Bool.and_false, reduceCtorEq, Classical.not_not, beq_self_eq_true, bne_self_eq_false, not_true_eq_false, not_false_eq_true, or_false, false_or, or_true, true_or, and_true, true_and, and_false, false_and, or_self, and_self] at h) <;> (try (exfalso; omega)))) | ((with_reducible refine at_exit ?_); first | refine qx_then ?_ | refine qx_then_ret ?_))
  all_goals try (exfalso; omega)
  · exact qx_ret2 (v := .int _ _) (x := .int _ _) [rpC life now mb A cap cL RL] rfl rfl rfl (.inl ⟨1, .inl ⟨by omega, rfl⟩, rfl, rfl⟩) (fun w hm => hm.perm (by simp [rpC]))
  · exact qx_ret2 (v := .int _ _) (x := .int _ _) [rpC life now mb A cap cL RL] rfl rfl rfl (.inl ⟨6, .inr ⟨by omega, rfl⟩, rfl, rfl⟩) (fun w hm => hm.perm (by simp [rpC]))
  have hu : 0 ≤ u ∧ u ≤ 1000000 ∧ now ≤ u := by omega
  refine cx_mem (L' := [[(mb, .cells [.int .i64 life, .int .i64 u, .slice A RL.length cap].toArray 42 (0, 0))], cL, [], RL.flatMap (·.c)]) ?_ (fun w hm => hm.perm (by simp))
  refine cx_loop (fun mm fr L => ∃ (i : Nat) (Ao : Option Addr) (co : Nat) (cO : Ch) (R1 : List Rh), FF fr [(0, .pointer (some ⟨mb, 0, none⟩)), (1, .int .i64 u), (7, .int .i64 ((i : Int) - (R1.length : Nat))), (8, .slice Ao R1.length co), (9, .int .i64 i)] ∧ L = [[(mb, .cells [.int .i64 life, .int .i64 u, .slice A RL.length cap].toArray 42 (0, 0))], cL, cO, RL.flatMap (·.c)] ∧ R1 = liveR life u (RL.take i) ∧ OwnS 65 11 (.slice Ao R1.length co) R1.length (R1.flatMap Rh.row) cO ∧ R1.length ≤ i ∧ i ≤ RL.length ∧ mm = RL.length - i) RL.length ⟨0, none, 0, [], [], ffr, rfl, rfl, OwnS.nil _ _, Nat.le_refl _, by omega, rfl⟩ ?_
  rintro mm fr L ⟨i, Ao, co, cO, R1, hF, rfl, hR1, hoo, hle, hi, rfl⟩ K hK
  refine cx_use hF fun g => ?_
  clear hF
  by_cases hin : i < RL.length
  rotate_left
  · clear hK
    obtain rfl : i = RL.length := by omega
    rw [List.take_length] at hR1
    subst hR1
    repeat' (first | ((with_reducible refine at_op ?_); first | ((with_reducible refine at_move ?_); refine sx_move _ vf ?_) | ((with_reducible refine at_bin ?_); refine sx_lss rfl rfl ?_) | ((with_reducible refine at_assign ?_); refine sx_assign _ vf ?_) | ((with_reducible refine at_load ?_); refine sx_loadE rfl pc gv ?_) | ((with_reducible refine at_stores ?_); first | refine sx_stval _ vf ?_ | (apply sx_store rfl rfl rfl rfl; (repeat (first | exact set_z rfl | apply set_succ)))) | refine sx_nilCheck rfl ?_ | refine sx_fieldAddr rfl ?_ | refine sx_len rfl ?_) | refine sx_nil ?_ | ((with_reducible refine at_code ?_); first | refine cx_seq ?_ | refine cx_region ?_ | refine cx_ret ?_ | refine cx_exit ?_ | (refine cx_cond rfl (fun h => ?_) (fun h => ?_) <;> (try simp only [decide_eq_true_eq, decide_eq_false_iff_not, Bool.and_eq_true, Bool.or_eq_true, Bool.and_eq_false_iff, Bool.or_eq_false_iff, Bool.not_eq_true', Bool.not_eq_false', Bool.not_true, Bool.not_false, Bool.true_or, Bool.or_true, Bool.false_or, Bool.or_false, Bool.and_true, Bool.true_and, Bool.false_and, Bool.and_false, reduceCtorEq, Classical.not_not, beq_self_eq_true, bne_self_eq_false, not_true_eq_false, not_false_eq_true, or_false, false_or, or_true, true_or, and_true, true_and, and_false, false_and, or_self, and_self] at h) <;> (try (exfalso; omega)))) | ((with_reducible refine at_exit ?_); first | refine qx_then ?_ | refine qx_in_here ?_ | refine qx_then_exit ?_))
    all_goals try (exfalso; omega)
    refine qx_ret2 (v := .int _ _) (x := .int _ _) [rpC life u mb Ao co cO (liveR life u RL)] rfl rfl rfl (.inr ⟨hu, rfl, Ao, co, cO, rfl, hoo⟩) (fun w hm => ?_)
    have h1 : Mem _ _ _ [[(mb, .cells [.int .i64 life, .int .i64 u, .slice Ao (liveR life u RL).length co].toArray 42 (0, 0))], cO, RL.flatMap (·.c)] := hm.picks [0, 1, 1]
    refine h1.sub ?_
    simp only [List.flatten_cons, List.flatten_nil, List.append_nil, rpC, List.cons_append, List.nil_append]
    exact ((flat_sub List.filter_sublist).append_left _).cons_cons _
  obtain ⟨x, hx⟩ : ∃ x, RL[i]? = some x := ⟨_, List.getElem?_eq_getElem hin⟩
  have hxb := hbg x (List.mem_of_getElem? hx)
  have hst := live_step (life := life) (u := u) hx
  rw [← hR1] at hst
  have hv : ∀ jj v, x.row[jj]? = some v → (RL.flatMap Rh.row)[(i : Int).toNat * 11 + jj]? = some v := fun jj v h => by rw [Int.toNat_natCast]; exact flat_get (f := Rh.row) (q := 11) rows11 hx h
  obtain ⟨bA, hbA⟩ := hL.base'
  have hA := hbA (by omega)
  repeat' (first | (with_reducible refine stop_r 13 ?_) | (with_reducible refine stop_r 14 ?_) | ((with_reducible refine at_reg 12 ?_); refine cx_held2 dk ?_) | ((with_reducible refine at_ixaddr ?_); refine sx_indexQ rfl hA rfl (by omega) ?_) | ((with_reducible refine at_load ?_); refine sx_loadS1 1 ((i : Int).toNat * 11 + 8) rfl hL hA (by omega) (by omega) rfl (hv 8 _ rfl) ?_) | ((with_reducible refine at_held ?_); first | (refine ah_pk tk (fun hT => ?_); first | (refine ah_pure _ (o := ⟨_, _, _, _, _, _⟩) hT rfl rfl rfl rfl rfl ?_; apply Exists.intro; refine And.intro ?_ ?_) | refine ah_nil _ hT rfl rfl ?_ | refine ah_skip _ (o := ⟨_, _, _, _, _, _⟩) hT rfl rfl rfl rfl rfl rfl ras ?_ | (refine ah_pureW _ (o := ⟨_, _, _, _, _, _⟩) hT rfl rfl rfl rfl rfl rfl rfl rfl ras ?_; apply Exists.intro; refine And.intro ?_ ?_)) | refine ah_over2 dk ?_) | ((with_reducible refine at_op ?_); first | ((with_reducible refine at_move ?_); refine sx_move _ vf ?_) | ((with_reducible refine at_bin ?_); first | refine sx_lss rfl rfl ?_ | refine sx_geq rfl rfl ?_ | refine sx_sub rfl rfl bnd ?_) | ((with_reducible refine at_load ?_); refine sx_loadE rfl pc gv ?_) | refine sx_nilCheck rfl ?_ | refine sx_fieldAddr rfl ?_ | refine sx_len rfl ?_) | refine sx_nil ?_ | ((with_reducible refine at_code ?_); first | refine cx_seq ?_ | refine cx_region ?_ | refine cx_skip ?_ | refine cx_block ?_ | (refine cx_cond rfl (fun h => ?_) (fun h => ?_) <;> (try simp only [decide_eq_true_eq, decide_eq_false_iff_not, Bool.and_eq_true, Bool.or_eq_true, Bool.and_eq_false_iff, Bool.or_eq_false_iff, Bool.not_eq_true', Bool.not_eq_false', Bool.not_true, Bool.not_false, Bool.true_or, Bool.or_true, Bool.false_or, Bool.or_false, Bool.and_true, Bool.true_and, Bool.false_and, Bool.and_false, reduceCtorEq, Classical.not_not, beq_self_eq_true, bne_self_eq_false, not_true_eq_false, not_false_eq_true, or_false, false_or, or_true, true_or, and_true, true_and, and_false, false_and, or_self, and_self] at h) <;> (try (exfalso; omega)))) | ((with_reducible refine at_exit ?_); first | refine qx_then ?_ | exact qx_isF))
  all_goals try (exfalso; omega)
  · rename_i h0
    refine halt_go ?_
    have hl : life ≤ u - x.began := h
    rw [if_pos hl] at hst
    repeat' (first | ((with_reducible refine at_op ?_); first | ((with_reducible refine at_move ?_); refine sx_move _ vf ?_) | ((with_reducible refine at_bin ?_); refine sx_add rfl rfl bnd ?_) | ((with_reducible refine at_assign ?_); refine sx_assign _ vf ?_)) | refine sx_nil ?_ | ((with_reducible refine at_code ?_); refine cx_region ?_) | ((with_reducible refine at_exit ?_); first | refine qx_then ?_ | refine qx_in_normal ?_))
    all_goals try (exfalso; omega)
    refine hK (RL.length - (i + 1)) _ _ _ (by omega) ⟨i + 1, Ao, co, cO, R1, ?_, rfl, hst.symm, hoo, by omega, by omega, rfl⟩
    rw [show ((i + 1 : Nat) : Int) - (R1.length : Nat) = (i : Int) - (R1.length : Nat) + 1 by omega]
    exact ffr
  · refine halt_go ?_
    have hl : ¬ life ≤ u - x.began := h
    rw [if_neg hl] at hst
    repeat' (first | ((with_reducible refine at_ixaddr ?_); refine sx_indexQ rfl hA rfl (by omega) ?_) | ((with_reducible refine at_load ?_); refine sx_loadSA 1 ((i : Int).toNat * 11) x.row rfl hL hA (by omega) (by omega) rfl rfl hv ?_) | ((with_reducible refine at_op ?_); first | ((with_reducible refine at_move ?_); refine sx_move _ vf ?_) | ((with_reducible refine at_bin ?_); refine sx_add rfl rfl bnd ?_) | ((with_reducible refine at_assign ?_); refine sx_assign _ vf ?_) | ((with_reducible refine at_load ?_); refine sx_loadE rfl pc gv ?_) | refine sx_nilCheck rfl ?_ | refine sx_fieldAddr rfl ?_ | ((with_reducible refine at_buildS ?_); (refine sx_buildS _ rfl rfl rfl bcs rfl ?_; intro b)) | ((with_reducible refine at_append ?_); (refine sx_append1 (v := .slice _ _ _) rfl rfl rot2 asm rfl bnd rfl bnd ?_; intro v c ho; obtain ⟨A, cp, rfl, hcp⟩ := ho.len))) | refine sx_nil ?_ | ((with_reducible refine at_code ?_); refine cx_region ?_) | ((with_reducible refine at_exit ?_); first | refine qx_then ?_ | refine qx_in_normal ?_))
    all_goals try (exfalso; omega)
    refine qx_mem (L' := [_, cL, c, _]) ?_ (fun w hm => hm.picks [1, 1, 0, 0])
    have ho2 : OwnS 65 11 (.slice A (R1 ++ [x]).length cp) (R1 ++ [x]).length ((R1 ++ [x]).flatMap Rh.row) c := by
      rw [List.length_append, List.length_singleton, List.flatMap_append, List.flatMap_cons, List.flatMap_nil, List.append_nil]
      exact ho
    refine hK (RL.length - (i + 1)) _ _ _ (by omega) ⟨i + 1, A, cp, c, R1 ++ [x], ?_, rfl, hst.symm, ho2, by rw [List.length_append, List.length_singleton]; omega, by omega, rfl⟩
    rw [List.length_append, List.length_singleton, show ((i + 1 : Nat) : Int) - ((R1.length + 1 : Nat) : Int) = (i : Int) - (R1.length : Nat) by omega]
    exact ffr
end Go.Proofs.YtlpdapfihgpheaaDoor
