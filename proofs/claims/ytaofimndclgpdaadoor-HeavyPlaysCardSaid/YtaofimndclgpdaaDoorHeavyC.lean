/- heavy: a take from all counts; Count. -/
import Derived.Test.YtaofimndclgpdaaDoorHeavyB
import Derived.Test.YtaofimndclgpdaaDoorSxTx
set_option linter.unusedSimpArgs false
set_option linter.unusedVariables false
set_option maxRecDepth 100000
namespace Go.Port
theorem left_step {C C' : Cn} {S : List Nat} {x : Int × Int × Nat} (hx : x ∈ C) (hs : x.2.2 ∉ S) (hsub : (hM C').map (·.2.2) = (hM C).map (·.2.2) ∨ (hM C').Sublist (hM C)) : (leftK (hM C') (S ++ [x.2.2])).length < (leftK (hM C) S).length := by
  have he : (x.1, Go.Value.int .i64 x.2.1, x.2.2) ∈ hM C := List.mem_map_of_mem (f := fun e : Int × Int × Nat => (e.1, Go.Value.int .i64 e.2.1, e.2.2)) hx
  have key := left_less (M := hM C) (M' := hM C) (S := S) (e := (x.1, Go.Value.int .i64 x.2.1, x.2.2)) he hs (List.Sublist.refl _)
  rcases hsub with h | h
  · have e1 : ∀ (M : MK Int) (S : List Nat), (leftK M S).length = ((M.map (·.2.2)).filter (fun b => !S.contains b)).length := fun M S => by
      unfold leftK
      induction M with
      | nil => rfl
      | cons e M ih =>
        rw [List.filter_cons, List.map_cons, List.filter_cons]
        by_cases hc : (!S.contains e.2.2) = true
        · rw [if_pos hc, if_pos hc, List.length_cons, List.length_cons, ih]
        · rw [if_neg hc, if_neg hc, ih]
    rw [e1, h, ← e1]
    exact key
  · exact left_less he hs h
end Go.Port
namespace Go.Proofs.YtaofimndclgpdaaDoor
open Go.RowKit Go.Port
attribute [local irreducible] Calls
theorem take_one (k v : Int) (w : World) : Calls Tryd.prog 33 #[.int .i64 k, .int .i64 v] w (Ret w [] (isV (.bool (decide (v ≤ 0))))) := by
  refine cx_enter (args := [.int .i64 k, .int .i64 v]) (F := [(0, .int .i64 k), (1, .int .i64 v)]) _ [] Tryd.func33 rfl Tryd.ntmps33 (by simp) rfl (Mem.refl _) (fun g => ?_)
  repeat' (first | ((with_reducible refine at_op ?_); first | ((with_reducible refine at_move ?_); refine sx_move _ vf ?_) | ((with_reducible refine at_bin ?_); refine sx_leq rfl rfl ?_) | ((with_reducible refine at_assign ?_); refine sx_assign _ vf ?_)) | refine sx_nil ?_ | ((with_reducible refine at_code ?_); first | refine cx_seq ?_ | refine cx_region ?_ | refine cx_ret ?_) | ((with_reducible refine at_exit ?_); refine qx_then ?_))
  exact qx_ret1 (v := .bool _) [] rfl rfl ⟨rfl, rfl⟩ (fun w hm => hm.nil)
def goes (e : Int × Int × Nat) : Bool := decide (e.2.1 ≤ 0)
set_option maxHeartbeats 8000000 in
theorem del_func {r ck : Nat} {C : Cn} {w : World} (hC : CnOk C ck) (hM0 : Mem w w [r] [[(r, kObj kvI (hM C) ck)]]) :
    Calls Tryd.prog 32 #[.map (some r), .func (.func 33) #[] #[]] w (Ret w [r] (fun v L => v = .tuple #[] ∧ L = [[(r, kObj kvI (hM (C.filter (fun e => !goes e))) ck)]])) := by
  refine cx_enter (args := [.map (some r), .func (.func 33) #[] #[]]) (F := [(0, .map (some r)), (1, .func (.func 33) #[] #[])]) _ [[(r, kObj kvI (hM C) ck)]] Tryd.func32 rfl Tryd.ntmps32 (by simp) rfl hM0 (fun g => ?_)
  repeat' (first | (refine sx_rangeK 0 rfl rfl ?_; intro it) | ((with_reducible refine at_op ?_); ((with_reducible refine at_move ?_); refine sx_move _ vf ?_)) | refine sx_nil ?_ | ((with_reducible refine at_code ?_); first | refine cx_seq ?_ | refine cx_region ?_ | refine cx_block ?_) | ((with_reducible refine at_exit ?_); refine qx_then ?_))
  all_goals try (exfalso; omega)
  refine cx_loop (fun mm fr L => ∃ (S : List Nat), FF fr [(0, .map (some r)), (1, .func (.func 33) #[] #[]), (7, .pointer (some ⟨it, 0, none⟩))] ∧ L = [[(it, itObj r ck S ck)], [(r, kObj kvI (hM (C.filter (keepC S goes))) ck)]] ∧ mm = (leftK (hM (C.filter (keepC S goes))) S).length) (leftK (hM (C.filter (keepC [] goes))) []).length ?_ ?_
  · refine ⟨[], ffr, ?_, rfl⟩
    rw [cut_none]
  rintro mm fr L ⟨S, hF, rfl, rfl⟩ K hK
  refine cx_use hF fun g => ?_
  clear hF
  have hCf := hC.filter (keepC S goes)
  repeat' (first | (with_reducible refine stop_rs 3 ?_) | (refine sx_nextK 0 rfl rfl (hM_low hCf) (Nat.le_refl _) (fun hleft => ?_) (fun e he hns => ?_); rotate_left; obtain ⟨x, hx, rfl⟩ := List.mem_map.1 he; rotate_right) | (refine sx_itEntryK 0 1 rfl rfl rfl he (hM_borns hCf) ?_) | ((with_reducible refine at_op ?_); first | ((with_reducible refine at_assign ?_); refine sx_assign _ vf ?_) | refine sx_extract rfl rfl ?_) | refine sx_nil ?_ | ((with_reducible refine at_code ?_); first | refine cx_seq ?_ | refine cx_region ?_ | refine cx_skip ?_ | refine cx_exit ?_ | refine cx_block ?_ | refine cx_true rfl ?_ | refine cx_false rfl ?_) | ((with_reducible refine at_exit ?_); first | refine qx_then ?_ | refine qx_in_here ?_ | refine qx_then_exit ?_))
  all_goals try (exfalso; omega)
  · have e := cut_all hleft
    rw [e]
    exact qx_end0 [[(r, kObj kvI (hM (C.filter (fun x => !goes x))) ck)]] rfl ⟨rfl, rfl⟩ (fun w hm => hm.picks [1])
  refine halt_go ?_
  have hxC : x ∈ C := (List.mem_filter.1 hx).1
  repeat' (first | (with_reducible refine stop_r 4 ?_) | ((with_reducible refine at_callT _ ?_); refine sx_callF (k := 33) rfl (fun w hm => take_one x.1 x.2.1 w) ?_ rfl) | ((with_reducible refine at_op ?_); ((with_reducible refine at_move ?_); refine sx_move _ vf ?_)) | refine sx_nil ?_ | ((with_reducible refine at_code ?_); first | refine cx_seq ?_ | refine cx_region ?_ | refine cx_skip ?_ | (refine cx_cond rfl (fun h => ?_) (fun h => ?_) <;> (try simp only [decide_eq_true_eq, decide_eq_false_iff_not, Bool.and_eq_true, Bool.or_eq_true, Bool.and_eq_false_iff, Bool.or_eq_false_iff, Bool.not_eq_true', Bool.not_eq_false', Bool.not_true, Bool.not_false, Bool.true_or, Bool.or_true, Bool.false_or, Bool.or_false, Bool.and_true, Bool.true_and, Bool.false_and, Bool.and_false, reduceCtorEq, Classical.not_not, beq_self_eq_true, bne_self_eq_false, not_true_eq_false, not_false_eq_true, or_false, false_or, or_true, true_or, and_true, true_and, and_false, false_and, or_self, and_self] at h) <;> (try (exfalso; omega)))) | ((with_reducible refine at_exit ?_); first | refine qx_then ?_ | refine qx_in_normal ?_))
  all_goals try (exfalso; omega)
  · refine halt_go ?_
    have ho : goes x = true := decide_eq_true h
    obtain ⟨j, hk1, hk2, hk3⟩ := lkK_some (hM_keys hCf) he
    have hdel : (hM (C.filter (keepC S goes))).eraseIdx j = hM (C.filter (keepC (S ++ [x.2.2]) goes)) := by
      rw [← cut_del hC hxC ho]
      refine hk2.trans ?_
      unfold hM
      rw [List.filter_map]
      rfl
    repeat' (first | ((with_reducible refine at_delK ?_); refine sx_mem ?_ (fun w hm => rot1.mem hm); refine sx_delK (kv := kvI) (k := x.1) rfl rfl hk1 ?_) | ((with_reducible refine at_op ?_); ((with_reducible refine at_move ?_); refine sx_move _ vf ?_)) | refine sx_nil ?_ | ((with_reducible refine at_code ?_); refine cx_region ?_) | ((with_reducible refine at_exit ?_); refine qx_in_normal ?_))
    all_goals try (exfalso; omega)
    refine qx_mem (L' := [_, _]) ?_ (fun w hm => hm.picks [1, 0])
    rw [hdel]
    exact hK _ _ _ _ (left_step hx hns (.inr (by rw [← hdel]; exact List.eraseIdx_sublist _ _))) ⟨S ++ [x.2.2], ffr, rfl, rfl⟩
  · have ho : goes x = false := decide_eq_false h
    have hst := cut_stay hC (S := S) hxC ho
    exact hK _ _ _ _ (left_step hx hns (.inr (by rw [← hst]; exact List.Sublist.refl _))) ⟨S ++ [x.2.2], ffr, by rw [← hst], rfl⟩
set_option maxHeartbeats 8000000 in
theorem heavy_take {n less all m : Int} {hb r ck : Nat} {C : Cn} {w : World} {D : List Nat} (hC : CnOk C ck) (hbd : ∀ e ∈ C, 0 ≤ e.2.1 ∧ e.2.1 ≤ 9007199254740992) (hm0 : 0 ≤ m ∧ m ≤ 9007199254740992) (hl0 : 0 ≤ less ∧ less ≤ 9007199254740992) (hD : D = (hvC n less all hb r ck C).map (·.1)) (hM0 : Mem w w D [hvC n less all hb r ck C]) :
    Calls Tryd.prog 20 #[.pointer (some ⟨hb, 0, none⟩), .int .i64 m] w (Ret w D (fun v L => v = .tuple #[] ∧ L = [hvC n (less + m) all hb r ck (takeC m C)])) := by
  refine cx_enter (args := [.pointer (some ⟨hb, 0, none⟩), .int .i64 m]) (F := [(0, .pointer (some ⟨hb, 0, none⟩)), (1, .int .i64 m)]) _ [hvC n less all hb r ck C] Tryd.func20 rfl Tryd.ntmps20 (by simp) rfl hM0 (fun g => ?_)
  clear hM0
  refine cx_mem (L' := [[(hb, .cells [.int .i64 n, .int .i64 less, .int .i64 all, .map (some r)].toArray 50 (0, 0))], [(r, kObj kvI (hM C) ck)]]) ?_ (fun w hm => hm.perm (.refl _))
  repeat' (first | (refine sx_rangeK 1 rfl rfl ?_; intro it) | ((with_reducible refine at_op ?_); first | ((with_reducible refine at_move ?_); refine sx_move _ vf ?_) | ((with_reducible refine at_load ?_); refine sx_loadE rfl pc gv ?_) | refine sx_nilCheck rfl ?_ | refine sx_fieldAddr rfl ?_) | refine sx_nil ?_ | ((with_reducible refine at_code ?_); first | refine cx_seq ?_ | refine cx_region ?_ | refine cx_block ?_) | ((with_reducible refine at_exit ?_); refine qx_then ?_))
  all_goals try (exfalso; omega)
  refine cx_loop (fun mm fr L => ∃ (S : List Nat), FF fr [(0, .pointer (some ⟨hb, 0, none⟩)), (1, .int .i64 m), (9, .pointer (some ⟨it, 0, none⟩))] ∧ L = [[(it, itObj r ck S ck)], [(hb, .cells [.int .i64 n, .int .i64 less, .int .i64 all, .map (some r)].toArray 50 (0, 0))], [(r, kObj kvI (hM (C.map (lessC m S))) ck)]] ∧ mm = (leftK (hM (C.map (lessC m S))) S).length) (leftK (hM (C.map (lessC m []))) []).length ?_ ?_
  · refine ⟨[], ffr, ?_, rfl⟩
    have e : C.map (lessC m []) = C := by
      conv => rhs; rw [← List.map_id C]
      exact List.map_congr_left fun e _ => by simp [lessC]
    rw [e]
  rintro mm fr L ⟨S, hF, rfl, rfl⟩ K hK
  refine cx_use hF fun g => ?_
  clear hF
  have hCf := less_ok hC m S
  repeat' (first | (with_reducible refine stop_r 3 ?_) | (refine sx_nextK 1 rfl rfl (hM_low hCf) (Nat.le_refl _) (fun hleft => ?_) (fun e he hns => ?_); rotate_left; obtain ⟨x, hx, rfl⟩ := List.mem_map.1 he; rotate_right) | (refine sx_itEntryK 0 2 rfl rfl rfl he (hM_borns hCf) ?_) | (with_reducible refine stop_rs 4 ?_) | ((with_reducible refine at_op ?_); first | ((with_reducible refine at_assign ?_); refine sx_assign _ vf ?_) | refine sx_extract rfl rfl ?_) | refine sx_nil ?_ | ((with_reducible refine at_code ?_); first | refine cx_seq ?_ | refine cx_region ?_ | refine cx_skip ?_ | refine cx_exit ?_ | refine cx_block ?_ | refine cx_true rfl ?_ | refine cx_false rfl ?_) | ((with_reducible refine at_exit ?_); first | refine qx_then ?_ | refine qx_in_here ?_ | refine qx_then_exit ?_))
  all_goals try (exfalso; omega)
  · refine halt_go ?_
    have hall := less_all hleft
    rw [hall]
    have hCm : CnOk (C.map fun e => (e.1, e.2.1 - m, e.2.2)) ck := by rw [← hall]; exact hCf
    repeat' (first | ((with_reducible refine at_call 32 ?_); (first | (refine sx_rot rot0 ?_; refine sx_call (fun w hm => del_func hCm hm.self) ?_) | (refine sx_rot rot1 ?_; refine sx_call (fun w hm => del_func hCm hm.self) ?_) | (refine sx_rot rot2 ?_; refine sx_call (fun w hm => del_func hCm hm.self) ?_) | (refine sx_rot rot3 ?_; refine sx_call (fun w hm => del_func hCm hm.self) ?_) | (refine sx_rot rot4 ?_; refine sx_call (fun w hm => del_func hCm hm.self) ?_) | (refine sx_rot rot5 ?_; refine sx_call (fun w hm => del_func hCm hm.self) ?_)); rintro _ _ ⟨rfl, rfl⟩; refine sx_app1 ?_) | ((with_reducible refine at_op ?_); first | ((with_reducible refine at_move ?_); refine sx_move _ vf ?_) | ((with_reducible refine at_bin ?_); refine sx_add rfl rfl bnd ?_) | ((with_reducible refine at_load ?_); refine sx_loadE rfl pc gv ?_) | ((with_reducible refine at_stores ?_); first | refine sx_stval _ vf ?_ | (refine sx_rot rot2 ?_; (apply sx_store rfl rfl rfl rfl; (repeat (first | exact set_z rfl | apply set_succ))))) | refine sx_nilCheck rfl ?_ | refine sx_fieldAddr rfl ?_) | refine sx_nil ?_ | ((with_reducible refine at_code ?_); first | refine cx_seq ?_ | refine cx_region ?_) | ((with_reducible refine at_exit ?_); refine qx_then ?_))
    all_goals try (exfalso; omega)
    exact qx_end0 [hvC n (less + m) all hb r ck (takeC m C)] rfl ⟨rfl, rfl⟩ (fun w hm => (hm.picks [0, 0]).perm (.refl _))
  refine halt_go ?_
  obtain ⟨y, hy, hyx⟩ := List.mem_map.1 hx
  have hxC : x ∈ C := by
    have h1 : lessC m S y = y := by
      unfold lessC
      rw [if_neg]
      rw [← hyx, lessC_key.2] at hns
      exact hns
    rw [← hyx, h1]
    exact hy
  have hxb := hbd x hxC
  obtain ⟨j, hk1, hk2, hk3⟩ := lkK_some (hM_keys hCf) he
  have hlk : ((lkK (hM (C.map (lessC m S))) x.1).map (·.2)).getD (.int .i64 0) = .int .i64 x.2.1 := by rw [hk1]; rfl
  have hjx : (C.map (lessC m S))[j]? = some x := by
    have h1 := hk3
    unfold hM at h1
    rw [List.getElem?_map] at h1
    cases hc : (C.map (lessC m S))[j]? with
    | none => rw [hc] at h1; cases h1
    | some z =>
      rw [hc] at h1
      have h2 : z.1 = x.1 ∧ z.2.2 = x.2.2 := by
        simp only [Option.map_some, Option.some.injEq, Prod.mk.injEq] at h1
        exact ⟨h1.1, h1.2.2⟩
      rw [inj_of_nodup hCf.keys (List.mem_of_getElem? hc) hx h2.1]
  have hset : (hM (C.map (lessC m S))).set j (x.1, .int .i64 (x.2.1 - m), x.2.2) = hM (C.map (lessC m (S ++ [x.2.2]))) := by
    rw [← less_set hC hjx hns]
    unfold hM
    rw [List.map_set]
  repeat' (first | (refine sx_lookK (kv := kvI) (k := x.1) 2 rfl rfl rfl hlk ?_) | (refine sx_mem ?_ (fun w hm => rot2.mem hm); refine sx_putYK (kv := kvI) (k := x.1) (v := .int .i64 (x.2.1 - m)) rfl rfl rfl hk1 hk3 ?_) | ((with_reducible refine at_op ?_); first | ((with_reducible refine at_move ?_); refine sx_move _ vf ?_) | ((with_reducible refine at_bin ?_); refine sx_sub rfl rfl bnd ?_) | ((with_reducible refine at_load ?_); refine sx_loadE rfl pc gv ?_) | refine sx_nilCheck rfl ?_ | refine sx_fieldAddr rfl ?_) | refine sx_nil ?_ | ((with_reducible refine at_code ?_); refine cx_region ?_) | ((with_reducible refine at_exit ?_); refine qx_in_normal ?_))
  all_goals try (exfalso; omega)
  refine qx_mem (L' := [_, _, _]) ?_ (fun w hm => hm.picks [1, 1, 0])
  rw [hset]
  refine hK _ _ _ _ (left_step hx hns (.inl ?_)) ⟨S ++ [x.2.2], ffr, rfl, rfl⟩
  unfold hM
  rw [List.map_map, List.map_map, List.map_map, List.map_map]
  exact List.map_congr_left fun e _ => by
    show (lessC m (S ++ [x.2.2]) e).2.2 = (lessC m S e).2.2
    rw [lessC_key.2, lessC_key.2]
set_option maxHeartbeats 4000000 in
theorem heavy_Count {n less all : Int} {hb r ck : Nat} {C : Cn} (k : Int) {w : World} (h : Has w (hvC n less all hb r ck C)) : Calls Tryd.prog 8 #[.pointer (some ⟨hb, 0, none⟩), .int .i64 k] w (Ret w [] (isV (.agg #[.int .i64 k, .int .i64 (lkH (hl C) k), .int .i64 less]))) := by
  have h0 : w.heap[hb]? = some (.cells [.int .i64 n, .int .i64 less, .int .i64 all, .map (some r)].toArray 50 (0, 0)) := h _ (List.Mem.head _)
  have h1 : w.heap[r]? = some (kObj kvI (hM C) ck) := h _ (List.Mem.tail _ (List.Mem.head _))
  refine cx_enter (args := [.pointer (some ⟨hb, 0, none⟩), .int .i64 k]) (F := [(0, .pointer (some ⟨hb, 0, none⟩)), (1, .int .i64 k)]) _ [] Tryd.func8 rfl Tryd.ntmps8 (by simp) rfl (Mem.refl _) (fun g => ?_)
  repeat' (first | ((with_reducible refine at_reg 1 ?_); refine cx_held0 dk ?_) | ((with_reducible refine at_load ?_); refine sx_loadB rfl h0 rfl ?_) | (refine sx_lookKM (kv := kvI) (k := k) rfl rfl (fun w hm => hm.old0 h1) hM_lk ?_) | ((with_reducible refine at_build ?_); refine sx_build [.int .i64 k, .int .i64 (lkH (hl C) k), .int .i64 less] rfl ?_) | ((with_reducible refine at_held ?_); first | (refine ah_pk tk (fun hT => ?_); first | (refine ah_pure _ (o := ⟨_, _, _, _, _, _⟩) hT rfl rfl rfl rfl rfl ?_; apply Exists.intro; refine And.intro ?_ ?_) | refine ah_nil _ hT rfl rfl ?_ | refine ah_skip _ (o := ⟨_, _, _, _, _, _⟩) hT rfl rfl rfl rfl rfl rfl ras ?_ | (refine ah_pureW _ (o := ⟨_, _, _, _, _, _⟩) hT rfl rfl rfl rfl rfl rfl rfl rfl ras ?_; apply Exists.intro; refine And.intro ?_ ?_)) | refine ah_lone _ (o := ⟨_, _, _, _, _, _⟩) lon rfl ?_ | refine ah_over0 dk ?_) | ((with_reducible refine at_exit ?_); refine qx_held (fun w hm => hm) ?_) | ((with_reducible refine at_op ?_); first | ((with_reducible refine at_move ?_); refine sx_move _ vf ?_) | ((with_reducible refine at_stores ?_); first | refine sx_stval _ vf ?_ | refine sx_storeW rfl rfl rfl rfl ?_) | refine sx_fieldAddr rfl ?_ | (refine sx_alloc ?_; intro b)) | refine sx_nil ?_ | ((with_reducible refine at_code ?_); first | refine cx_seq ?_ | refine cx_region ?_ | refine cx_ret ?_) | ((with_reducible refine at_exit ?_); first | refine qx_then ?_ | exact qx_isF))
  exact qx_retC1 0 [] rfl rfl rfl rfl ⟨rfl, rfl⟩ (fun w hm => hm.nil)
end Go.Proofs.YtaofimndclgpdaaDoor
