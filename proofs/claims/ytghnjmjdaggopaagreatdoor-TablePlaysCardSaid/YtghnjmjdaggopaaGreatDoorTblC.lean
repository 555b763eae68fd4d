/- table: live, Tick. -/
import Derived.Test.YtghnjmjdaggopaaGreatDoorFuB
import Derived.Test.YtghnjmjdaggopaaGreatDoorFuC
set_option linter.unusedSimpArgs false
set_option linter.unusedVariables false
set_option maxRecDepth 100000
namespace Go.Port
theorem live_perm {now : Int} {C C' : Tb} (h : C.Perm C') : liveT now C = liveT now C' := (h.filter _).length_eq
theorem live_snoc (now : Int) (pre : Tb) (x : K5 × Fl × Nat) : liveT now (pre ++ [x]) = liveT now pre + if now < x.2.1.un then 1 else 0 := by
  unfold liveT stayT oldT
  rw [List.filter_append, List.length_append]
  by_cases h : now < x.2.1.un
  · rw [if_pos h, List.filter_cons, if_pos (by simp; omega)]; rfl
  · rw [if_neg h, List.filter_cons, if_neg (by simp; omega)]; rfl
theorem rows5_snoc (gs : List K5) (k : K5) : rowsG enc5 (gs ++ [k]) = rowsG enc5 gs ++ enc5 k := by
  unfold rowsG
  rw [List.flatMap_append]
  simp
end Go.Port
namespace Go.Proofs.YtghnjmjdaggopaaGreatDoor
open Go.RowKit Go.Port
attribute [local irreducible] Calls
set_option maxHeartbeats 4000000 in
theorem table_live {max tnow : Int} {tb r ck : Nat} {C : Tb} (now : Int) {w : World} (hC : MgOk C ck) (hlen : C.length ≤ 100) (h : Has w (tbC max tnow tb r ck C)) : Calls Tryz.prog 33 #[.pointer (some ⟨tb, 0, none⟩), .int .i64 now] w (Ret w [] (isV (.int .i64 (liveT now C)))) := by
  have h0 : w.heap[tb]? = some (.cells [.int .i64 max, .int .i64 tnow, .map (some r)].toArray 74 (0, 0)) := h _ (List.Mem.head _)
  have h1 : w.heap[r]? = some (kObj kv5 (gM fval C) ck) := h _ (List.Mem.tail _ (List.Mem.head _))
  refine cx_enter (args := [.pointer (some ⟨tb, 0, none⟩), .int .i64 now]) (F := [(0, .pointer (some ⟨tb, 0, none⟩)), (1, .int .i64 now)]) _ [] Tryz.func33 rfl Tryz.ntmps33 (by simp) rfl (Mem.refl _) (fun g => ?_)
  repeat' (first | ((with_reducible refine at_load ?_); refine sx_loadB rfl h0 rfl ?_) | (refine sx_rangeKW (kv := kv5) (M := gM fval C) (ck := ck) rfl (fun w hm => hm.old0 h1) ?_; intro it) | ((with_reducible refine at_op ?_); first | ((with_reducible refine at_move ?_); refine sx_move _ vf ?_) | ((with_reducible refine at_assign ?_); refine sx_assign _ vf ?_) | refine sx_nilCheck rfl ?_ | refine sx_fieldAddr rfl ?_) | refine sx_nil ?_ | ((with_reducible refine at_code ?_); first | refine cx_seq ?_ | refine cx_region ?_ | refine cx_block ?_) | ((with_reducible refine at_exit ?_); refine qx_then ?_))
  all_goals try (exfalso; omega)
  refine cx_loop (fun mm fr L => ∃ (S : List Nat) (pre : Tb) (c0 : Nat), FF fr [(1, .int .i64 now), (5, .int .i64 (liveT now pre)), (12, .pointer (some ⟨it, 0, none⟩))] ∧ L = [[(it, itObj r ck S c0)]] ∧ ck ≤ c0 ∧ mm = (C.filter (fun e => !S.contains e.2.2)).length ∧ (pre ++ C.filter (fun e => !S.contains e.2.2)).Perm C) (C.filter (fun e => !([] : List Nat).contains e.2.2)).length ?_ ?_
  · exact ⟨[], [], ck, ffr, rfl, Nat.le_refl _, rfl, .of_eq (List.filter_eq_self.2 fun _ _ => rfl)⟩
  rintro mm fr L ⟨S, pre, c0, hF, rfl, hc0, rfl, hperm⟩ K hK
  refine cx_use hF fun g => ?_
  clear hF
  have hpl : pre.length + (C.filter (fun e => !S.contains e.2.2)).length = C.length := by
    have := hperm.length_eq
    rw [List.length_append] at this
    exact this
  have hlp := live_le now pre
  repeat' (first | (with_reducible refine stop_rs 4 ?_) | (with_reducible refine stop_rs 7 ?_) | (refine sx_nextKW (kv := kv5) (M := gM fval C) (ck := ck) rfl (fun w hm => hm.old0 h1) (gM_low hC) hc0 (fun hleft => ?_) (fun e he hns => ?_); rotate_left; obtain ⟨x, hx, rfl⟩ := List.mem_map.1 he; rotate_right) | ((with_reducible refine at_op ?_); refine sx_extract rfl rfl ?_) | refine sx_nil ?_ | ((with_reducible refine at_code ?_); first | refine cx_seq ?_ | refine cx_region ?_ | refine cx_skip ?_ | refine cx_exit ?_ | refine cx_block ?_ | refine cx_true rfl ?_ | refine cx_false rfl ?_) | ((with_reducible refine at_exit ?_); first | refine qx_then ?_ | refine qx_in_here ?_ | refine qx_then_exit ?_))
  all_goals try (exfalso; omega)
  · clear hK
    refine halt_go ?_
    rw [left_gM] at hleft
    have hnil : C.filter (fun e => !S.contains e.2.2) = [] := List.map_eq_nil_iff.1 hleft
    rw [hnil, List.append_nil] at hperm
    repeat' (first | ((with_reducible refine at_op ?_); first | ((with_reducible refine at_move ?_); refine sx_move _ vf ?_) | ((with_reducible refine at_assign ?_); refine sx_assign _ vf ?_)) | refine sx_nil ?_ | ((with_reducible refine at_code ?_); first | refine cx_seq ?_ | refine cx_region ?_ | refine cx_ret ?_) | ((with_reducible refine at_exit ?_); refine qx_then ?_))
    all_goals try (exfalso; omega)
    rw [live_perm hperm]
    exact qx_ret1 (v := .int _ _) [] rfl rfl ⟨rfl, rfl⟩ (fun w hm => hm.nil)
  refine halt_go ?_
  have hstep := came_stepG hC.borns hx hns
  have hsl := hstep.length_eq
  rw [List.length_cons] at hsl
  have hnew : (pre ++ [x] ++ C.filter (fun e => !(S ++ [x.2.2]).contains e.2.2)).Perm C := by
    rw [List.append_assoc]
    exact (List.Perm.append_left _ hstep.symm).trans hperm
  have hun : x.2.1.row[6]? = some (.int .i64 x.2.1.un) := rfl
  by_cases hu : now < x.2.1.un
  · have hls : liveT now (pre ++ [x]) = liveT now pre + 1 := by rw [live_snoc, if_pos hu]
    repeat' (first | (refine sx_itEntryKW (kv := kv5) (M := gM fval C) (ck := ck) 0 rfl rfl (fun w hm => hm.old0 h1) he (gM_borns hC) ?_) | ((with_reducible refine at_stores ?_); refine sx_storeW (vs := x.2.1.row) rfl rfl rfl rfl ?_) | ((with_reducible refine at_load ?_); refine sx_loadX1 0 rfl rfl hun ?_) | ((with_reducible refine at_op ?_); first | ((with_reducible refine at_move ?_); refine sx_move _ vf ?_) | ((with_reducible refine at_bin ?_); first | refine sx_gtr rfl rfl ?_ | refine sx_add rfl rfl bnd ?_) | ((with_reducible refine at_assign ?_); refine sx_assign _ vf ?_) | ((with_reducible refine at_stores ?_); refine sx_stval _ vf ?_) | refine sx_fieldAddr rfl ?_ | refine sx_extract rfl rfl ?_ | (refine sx_alloc ?_; intro b)) | refine sx_nil ?_ | ((with_reducible refine at_code ?_); first | refine cx_seq ?_ | refine cx_region ?_ | (refine cx_cond rfl (fun h => ?_) (fun h => ?_) <;> (try simp only [decide_eq_true_eq, decide_eq_false_iff_not, Bool.and_eq_true, Bool.or_eq_true, Bool.and_eq_false_iff, Bool.or_eq_false_iff, Bool.not_eq_true', Bool.not_eq_false', Bool.not_true, Bool.not_false, Bool.true_or, Bool.or_true, Bool.false_or, Bool.or_false, Bool.and_true, Bool.true_and, Bool.false_and, Bool.and_false, reduceCtorEq, Classical.not_not, beq_self_eq_true, bne_self_eq_false, not_true_eq_false, not_false_eq_true, or_false, false_or, or_true, true_or, and_true, true_and, and_false, false_and, or_self, and_self] at h) <;> (try (exfalso; omega)))) | ((with_reducible refine at_exit ?_); first | refine qx_then ?_ | refine qx_in_normal ?_))
    all_goals try (exfalso; omega)
    rw [show ((liveT now pre : Nat) : Int) + 1 = ((liveT now (pre ++ [x]) : Nat) : Int) by omega]
    refine qx_mem (L' := [[(it, itObj r ck (S ++ [x.2.2]) ck)]]) ?_ (fun w hm => by exact hm.picks [1])
    exact hK _ _ _ _ (by omega) ⟨S ++ [x.2.2], pre ++ [x], ck, ffr, rfl, Nat.le_refl _, rfl, hnew⟩
  · have hls : liveT now (pre ++ [x]) = liveT now pre := by rw [live_snoc, if_neg hu]; rfl
    repeat' (first | (refine sx_itEntryKW (kv := kv5) (M := gM fval C) (ck := ck) 0 rfl rfl (fun w hm => hm.old0 h1) he (gM_borns hC) ?_) | ((with_reducible refine at_stores ?_); refine sx_storeW (vs := x.2.1.row) rfl rfl rfl rfl ?_) | ((with_reducible refine at_load ?_); refine sx_loadX1 0 rfl rfl hun ?_) | ((with_reducible refine at_op ?_); first | ((with_reducible refine at_move ?_); refine sx_move _ vf ?_) | ((with_reducible refine at_bin ?_); refine sx_gtr rfl rfl ?_) | ((with_reducible refine at_stores ?_); refine sx_stval _ vf ?_) | refine sx_fieldAddr rfl ?_ | refine sx_extract rfl rfl ?_ | (refine sx_alloc ?_; intro b)) | refine sx_nil ?_ | ((with_reducible refine at_code ?_); first | refine cx_seq ?_ | refine cx_region ?_ | refine cx_skip ?_ | (refine cx_cond rfl (fun h => ?_) (fun h => ?_) <;> (try simp only [decide_eq_true_eq, decide_eq_false_iff_not, Bool.and_eq_true, Bool.or_eq_true, Bool.and_eq_false_iff, Bool.or_eq_false_iff, Bool.not_eq_true', Bool.not_eq_false', Bool.not_true, Bool.not_false, Bool.true_or, Bool.or_true, Bool.false_or, Bool.or_false, Bool.and_true, Bool.true_and, Bool.false_and, Bool.and_false, reduceCtorEq, Classical.not_not, beq_self_eq_true, bne_self_eq_false, not_true_eq_false, not_false_eq_true, or_false, false_or, or_true, true_or, and_true, true_and, and_false, false_and, or_self, and_self] at h) <;> (try (exfalso; omega)))) | ((with_reducible refine at_exit ?_); first | refine qx_then ?_ | refine qx_in_normal ?_))
    all_goals try (exfalso; omega)
    rw [← hls]
    refine qx_mem (L' := [[(it, itObj r ck (S ++ [x.2.2]) ck)]]) ?_ (fun w hm => by exact hm.picks [1])
    exact hK _ _ _ _ (by omega) ⟨S ++ [x.2.2], pre ++ [x], ck, ffr, rfl, Nat.le_refl _, rfl, hnew⟩
set_option maxHeartbeats 8000000 in
theorem table_Tick {max tnow : Int} {tb r ck : Nat} {C : Tb} (now : Int) {w : World} {D : List Nat} (hC : MgOk C ck) (hlen : C.length ≤ 100) (hnow : (0 ≤ now ∧ now ≤ 1000000) ∧ tnow ≤ now) (hD : D = (tbC max tnow tb r ck C).map (·.1)) (hM0 : Mem w w D [tbC max tnow tb r ck C]) :
    Calls Tryz.prog 17 #[.pointer (some ⟨tb, 0, none⟩), .int .i64 now] w (Ret w D (fun v L => ∃ (gs : List K5) (A : Option Addr) (cap : Nat) (c : Ch), v = .tuple #[.slice A gs.length cap, .nilIface] ∧ L = [tbC max now tb r ck (stayT now C), c] ∧ OwnS 37 5 (.slice A gs.length cap) gs.length (rowsG enc5 gs) c ∧ gs.Perm ((C.filter (oldT now)).map fun e => e.2.1.key) ∧ gs.Pairwise (fun x y => ltOf K5.cmp y x = false))) := by
  refine cx_enter (args := [.pointer (some ⟨tb, 0, none⟩), .int .i64 now]) (F := [(0, .pointer (some ⟨tb, 0, none⟩)), (1, .int .i64 now)]) _ [tbC max tnow tb r ck C] Tryz.func17 rfl Tryz.ntmps17 (by simp) rfl hM0 (fun g => ?_)
  clear hM0
  refine cx_mem (L' := [[(tb, .cells [.int .i64 max, .int .i64 tnow, .map (some r)].toArray 74 (0, 0))], [(r, kObj kv5 (gM fval C) ck)]]) ?_ (fun w hm => hm.perm (.refl _))
  repeat' (first | ((with_reducible refine at_call 39 ?_); refine sx_callv (fun w hm => track_Time _ _) ?_ rfl) | (refine sx_rangeK 1 rfl rfl ?_; intro it) | ((with_reducible refine at_op ?_); first | ((with_reducible refine at_move ?_); refine sx_move _ vf ?_) | ((with_reducible refine at_bin ?_); refine sx_lss rfl rfl ?_) | ((with_reducible refine at_assign ?_); refine sx_assign _ vf ?_) | ((with_reducible refine at_load ?_); refine sx_loadE rfl pc gv ?_) | ((with_reducible refine at_stores ?_); first | refine sx_stval _ vf ?_ | (apply sx_store rfl rfl rfl rfl; (repeat (first | exact set_z rfl | apply set_succ)))) | refine sx_nilCheck rfl ?_ | refine sx_fieldAddr rfl ?_ | refine sx_not rfl ?_) | refine sx_nil ?_ | ((with_reducible refine at_code ?_); first | refine cx_seq ?_ | refine cx_region ?_ | refine cx_skip ?_ | refine cx_block ?_ | (refine cx_cond rfl (fun h => ?_) (fun h => ?_) <;> (try simp only [decide_eq_true_eq, decide_eq_false_iff_not, Bool.and_eq_true, Bool.or_eq_true, Bool.and_eq_false_iff, Bool.or_eq_false_iff, Bool.not_eq_true', Bool.not_eq_false', Bool.not_true, Bool.not_false, Bool.true_or, Bool.or_true, Bool.false_or, Bool.or_false, Bool.and_true, Bool.true_and, Bool.false_and, Bool.and_false, reduceCtorEq, Classical.not_not, beq_self_eq_true, bne_self_eq_false, not_true_eq_false, not_false_eq_true, or_false, false_or, or_true, true_or, and_true, true_and, and_false, false_and, or_self, and_self] at h) <;> (try (exfalso; omega)))) | ((with_reducible refine at_exit ?_); first | refine qx_then ?_ | refine qx_in_normal ?_))
  all_goals try (exfalso; omega)
  refine cx_mem (L' := [[(it, itObj r ck [] ck)], [(r, kObj kv5 (gM fval (C.filter (keepG [] (oldT now)))) ck)], [(tb, .cells [.int .i64 max, .int .i64 now, .map (some r)].toArray 74 (0, 0))], []]) ?_ (fun w hm => by rw [cutG_none]; exact Mem.perm (L := [[(it, itObj r ck [] ck)], [(r, kObj kv5 (gM fval C) ck)], [(tb, .cells [.int .i64 max, .int .i64 now, .map (some r)].toArray 74 (0, 0))]]) (by exact hm.picks [0, 1, 0]) (by simp))
  refine cx_loop (fun mm fr L => ∃ (S : List Nat) (gs : List K5) (Ag : Option Addr) (cg : Nat) (c1 : Ch), FF fr [(0, .pointer (some ⟨tb, 0, none⟩)), (1, .int .i64 now), (6, .slice Ag gs.length cg), (30, .pointer (some ⟨it, 0, none⟩))] ∧ L = [[(it, itObj r ck S ck)], [(r, kObj kv5 (gM fval (C.filter (keepG S (oldT now)))) ck)], [(tb, .cells [.int .i64 max, .int .i64 now, .map (some r)].toArray 74 (0, 0))], c1] ∧ mm = (leftK (gM fval (C.filter (keepG S (oldT now)))) S).length ∧ OwnS 37 5 (.slice Ag gs.length cg) gs.length (rowsG enc5 gs) c1 ∧ gs.Perm ((goneS S (oldT now) C).map fun e => e.2.1.key)) (leftK (gM fval (C.filter (keepG [] (oldT now)))) []).length ?_ ?_
  · exact ⟨[], [], none, 0, [], ffr, rfl, rfl, OwnS.nil _ _, by rw [gone_nil]; exact .refl _⟩
  rintro mm fr L ⟨S, gs, Ag, cg, c1, hF, rfl, rfl, hoo, hgs⟩ K hK
  refine cx_use hF fun g => ?_
  clear hF
  have hCf := hC.filter (keepG S (oldT now))
  have hgl : gs.length ≤ 100 := by
    have h1 := hgs.length_eq
    rw [List.length_map] at h1
    have h2 : (goneS S (oldT now) C).length ≤ C.length := List.length_filter_le _ _
    omega
  repeat' (first | (with_reducible refine stop_rs 9 ?_) | (with_reducible refine stop_rs 13 ?_) | (refine sx_nextK 0 rfl rfl (gM_low hCf) (Nat.le_refl _) (fun hleft => ?_) (fun e he hns => ?_); rotate_left; obtain ⟨x, hx, rfl⟩ := List.mem_map.1 he; rotate_right) | ((with_reducible refine at_op ?_); refine sx_extract rfl rfl ?_) | refine sx_nil ?_ | ((with_reducible refine at_code ?_); first | refine cx_seq ?_ | refine cx_region ?_ | refine cx_skip ?_ | refine cx_exit ?_ | refine cx_block ?_ | refine cx_true rfl ?_ | refine cx_false rfl ?_) | ((with_reducible refine at_exit ?_); first | refine qx_then ?_ | refine qx_in_here ?_ | refine qx_then_exit ?_))
  all_goals try (exfalso; omega)
  · clear hK
    refine halt_go ?_
    rw [cutG_all hleft]
    rw [gone_all hleft] at hgs
    refine cx_mem (L' := [c1, [(tb, .cells [.int .i64 max, .int .i64 now, .map (some r)].toArray 74 (0, 0))], [(r, kObj kv5 (gM fval (C.filter (fun x => !oldT now x))) ck)]]) ?_ (fun w hm => by exact hm.picks [3, 2, 1])
    repeat' (first | ((with_reducible refine at_call 40 ?_); (first | (refine sx_rot rot0 ?_; refine sx_call (fun w hm => sort_keys hm.self hoo rfl (by omega)) ?_) | (refine sx_rot rot1 ?_; refine sx_call (fun w hm => sort_keys hm.self hoo rfl (by omega)) ?_) | (refine sx_rot rot2 ?_; refine sx_call (fun w hm => sort_keys hm.self hoo rfl (by omega)) ?_) | (refine sx_rot rot3 ?_; refine sx_call (fun w hm => sort_keys hm.self hoo rfl (by omega)) ?_) | (refine sx_rot rot4 ?_; refine sx_call (fun w hm => sort_keys hm.self hoo rfl (by omega)) ?_) | (refine sx_rot rot5 ?_; refine sx_call (fun w hm => sort_keys hm.self hoo rfl (by omega)) ?_)); rintro _ _ ⟨rfl, d, c', rfl, hod, hdp, hds⟩; have hdl := hdp.length_eq; refine sx_app1 ?_) | ((with_reducible refine at_op ?_); first | ((with_reducible refine at_move ?_); refine sx_move _ vf ?_) | ((with_reducible refine at_assign ?_); refine sx_assign _ vf ?_)) | refine sx_nil ?_ | ((with_reducible refine at_code ?_); first | refine cx_seq ?_ | refine cx_region ?_ | refine cx_ret ?_) | ((with_reducible refine at_exit ?_); refine qx_then ?_))
    all_goals try (exfalso; omega)
    rw [← hdl] at hod ⊢
    exact qx_ret2 (v := .slice _ _ _) (x := .nilIface) [tbC max now tb r ck (stayT now C), c'] rfl rfl rfl ⟨d, Ag, cg, c', rfl, rfl, hod, hdp.trans hgs, hds⟩ (fun w hm => Mem.perm (L := [[(tb, .cells [.int .i64 max, .int .i64 now, .map (some r)].toArray 74 (0, 0))], [(r, kObj kv5 (gM fval (C.filter (fun x => !oldT now x))) ck)], c']) (by exact hm.picks [1, 1, 0]) (.refl _))
  refine halt_go ?_
  have hxC : x ∈ C := (List.mem_filter.1 hx).1
  have hun : x.2.1.row[6]? = some (.int .i64 x.2.1.un) := rfl
  have hkey : ∀ j v, (enc5 x.2.1.key)[j]? = some v → x.2.1.row[0 + j]? = some v := fun j v hj => by
    rw [Nat.zero_add]
    have h1 : x.2.1.row = enc5 x.2.1.key ++ x.2.1.row.drop 5 := rfl
    rw [h1, List.getElem?_append_left (List.getElem?_eq_some_iff.1 hj).1]
    exact hj
  by_cases hu : x.2.1.un ≤ now
  · have ho : oldT now x = true := decide_eq_true hu
    repeat' (first | (with_reducible refine stop_r 12 ?_) | (refine sx_itEntryK 0 1 rfl rfl rfl he (gM_borns hCf) ?_) | ((with_reducible refine at_stores ?_); first | (refine sx_rot rot1 ?_; refine sx_storeW (vs := enc5 x.1) rfl rfl rfl rfl ?_) | (refine sx_rot rot1 ?_; refine sx_storeW (vs := x.2.1.row) rfl rfl rfl rfl ?_)) | ((with_reducible refine at_load ?_); first | refine sx_loadX1 0 rfl rfl hun ?_ | refine sx_loadX 0 rfl rfl hkey rfl ?_) | ((with_reducible refine at_buildS ?_); (refine sx_buildS (enc5 x.2.1.key) rfl rfl rfl rfl rfl ?_; intro bl)) | ((with_reducible refine at_append ?_); refine sx_append1 (v := .slice _ _ _) rfl rfl rot5 hoo rfl bnd rfl (by omega) ?_; rintro _ cE hoE; obtain ⟨AE, cpE, rfl, hcpE⟩ := hoE.len) | ((with_reducible refine at_op ?_); first | ((with_reducible refine at_move ?_); refine sx_move _ vf ?_) | ((with_reducible refine at_bin ?_); refine sx_leq rfl rfl ?_) | ((with_reducible refine at_assign ?_); refine sx_assign _ vf ?_) | ((with_reducible refine at_stores ?_); refine sx_stval _ vf ?_) | refine sx_fieldAddr rfl ?_ | refine sx_extract rfl rfl ?_ | (refine sx_alloc ?_; intro b)) | refine sx_nil ?_ | ((with_reducible refine at_code ?_); first | refine cx_seq ?_ | refine cx_region ?_ | (refine cx_cond rfl (fun h => ?_) (fun h => ?_) <;> (try simp only [decide_eq_true_eq, decide_eq_false_iff_not, Bool.and_eq_true, Bool.or_eq_true, Bool.and_eq_false_iff, Bool.or_eq_false_iff, Bool.not_eq_true', Bool.not_eq_false', Bool.not_true, Bool.not_false, Bool.true_or, Bool.or_true, Bool.false_or, Bool.or_false, Bool.and_true, Bool.true_and, Bool.false_and, Bool.and_false, reduceCtorEq, Classical.not_not, beq_self_eq_true, bne_self_eq_false, not_true_eq_false, not_false_eq_true, or_false, false_or, or_true, true_or, and_true, true_and, and_false, false_and, or_self, and_self] at h) <;> (try (exfalso; omega)))) | ((with_reducible refine at_exit ?_); refine qx_then ?_))
    all_goals try (exfalso; omega)
    refine halt_go ?_
    obtain ⟨j, hk1, hk2⟩ := gM_del (val := fval) hCf hx
    have hdel : (gM fval (C.filter (keepG S (oldT now)))).eraseIdx j = gM fval (C.filter (keepG (S ++ [x.2.2]) (oldT now))) := by
      rw [hk2, cutG_del hC hxC ho]
    have hk0 : ∀ j v, (enc5 x.1)[j]? = some v → (enc5 x.1)[0 + j]? = some v := fun j v hj => by rw [Nat.zero_add]; exact hj
    refine cx_mem (L' := [_, _, _, _, _, _]) ?_ (fun w hm => hm.picks [5, 2, 2, 2, 0, 0])
    repeat' (first | ((with_reducible refine at_reg 12 ?_); refine cx_held2 dk ?_) | ((with_reducible refine at_held ?_); first | (refine ah_not 0 rfl ?_; refine ah_isp 0 rfl ?_; refine ah_at 0 dk (fun hT => ?_); (refine ah_pure 0 (o := ⟨_, _, _, _, _, _⟩) hT rfl rfl rfl rfl rfl ?_; apply Exists.intro; refine And.intro ?_ ?_)) | (refine ah_not 1 rfl ?_; refine ah_isp 1 rfl ?_; refine ah_at 1 dk (fun hT => ?_); refine ah_nil 1 hT rfl rfl ?_) | (refine ah_not 2 rfl ?_; refine ah_isp 2 rfl ?_; refine ah_at 2 dk (fun hT => ?_); (refine ah_pure 2 (o := ⟨_, _, _, _, _, _⟩) hT rfl rfl rfl rfl rfl ?_; apply Exists.intro; refine And.intro ?_ ?_)) | (refine ah_not 3 rfl ?_; refine ah_isp 3 rfl ?_; refine ah_at 3 dk (fun hT => ?_); (refine ah_pure 3 (o := ⟨_, _, _, _, _, _⟩) hT rfl rfl rfl rfl rfl ?_; apply Exists.intro; refine And.intro ?_ ?_)) | (refine ah_not 4 rfl ?_; refine ah_isp 4 rfl ?_; refine ah_at 4 dk (fun hT => ?_); (refine ah_pure 4 (o := ⟨_, _, _, _, _, _⟩) hT rfl rfl rfl rfl rfl ?_; apply Exists.intro; refine And.intro ?_ ?_)) | (refine ah_not 5 rfl ?_; refine ah_lone 5 (o := ⟨_, _, _, _, _, _⟩) dk rfl ?_) | refine ah_over2 dk ?_) | ((with_reducible refine at_load ?_); refine sx_loadX 1 rfl rfl hk0 rfl ?_) | ((with_reducible refine at_delK ?_); refine sx_mem ?_ (fun w hm => rot3.mem hm); refine sx_delK (kv := kv5) (k := x.1) rfl rfl hk1 ?_) | ((with_reducible refine at_exit ?_); refine qx_held (fun w hm => held_mid1 hm) ?_) | ((with_reducible refine at_op ?_); first | ((with_reducible refine at_move ?_); refine sx_move _ vf ?_) | ((with_reducible refine at_load ?_); refine sx_loadE rfl pc gv ?_) | refine sx_fieldAddr rfl ?_) | refine sx_nil ?_ | ((with_reducible refine at_exit ?_); first | exact qx_isF | refine qx_in_normal ?_))
    all_goals try (exfalso; omega)
    all_goals
      refine qx_mem (L' := [[(it, itObj r ck (S ++ [x.2.2]) ck)], [(r, kObj kv5 ((gM fval (C.filter (keepG S (oldT now)))).eraseIdx j) ck)], [(tb, .cells [.int .i64 max, .int .i64 now, .map (some r)].toArray 74 (0, 0))], cE]) ?_ (fun w hm => by exact hm.picks [3, 2, 0, 1])
      rw [hdel]
      have hsub : (gM fval (C.filter (keepG (S ++ [x.2.2]) (oldT now)))).Sublist (gM fval (C.filter (keepG S (oldT now)))) := by rw [← hdel]; exact List.eraseIdx_sublist _ _
      have e1 : gs.length + 1 = (gs ++ [x.2.1.key]).length := by rw [List.length_append]; rfl
      have hoE' : OwnS 37 5 (.slice AE (gs.length + 1) cpE) (gs.length + 1) (rowsG enc5 (gs ++ [x.2.1.key])) cE := by
        rw [rows5_snoc]
        exact hoE
      have hgs' : (gs ++ [x.2.1.key]).Perm ((goneS (S ++ [x.2.2]) (oldT now) C).map fun e => e.2.1.key) := by
        have h1 := (gone_step hC.borns hxC hns ho).map (fun e : K5 × Fl × Nat => e.2.1.key)
        rw [List.map_append] at h1
        exact (hgs.append_right _).trans h1.symm
      rw [e1] at hoE' ⊢
      exact hK _ _ _ _ (leftG_step hx hns hsub) ⟨S ++ [x.2.2], gs ++ [x.2.1.key], AE, cpE, cE, ffr, rfl, rfl, hoE', hgs'⟩
  · have ho : oldT now x = false := decide_eq_false hu
    repeat' (first | (refine sx_itEntryK 0 1 rfl rfl rfl he (gM_borns hCf) ?_) | ((with_reducible refine at_stores ?_); first | (refine sx_rot rot1 ?_; refine sx_storeW (vs := enc5 x.1) rfl rfl rfl rfl ?_) | (refine sx_rot rot1 ?_; refine sx_storeW (vs := x.2.1.row) rfl rfl rfl rfl ?_)) | ((with_reducible refine at_load ?_); refine sx_loadX1 0 rfl rfl hun ?_) | ((with_reducible refine at_op ?_); first | ((with_reducible refine at_move ?_); refine sx_move _ vf ?_) | ((with_reducible refine at_bin ?_); refine sx_leq rfl rfl ?_) | ((with_reducible refine at_stores ?_); refine sx_stval _ vf ?_) | refine sx_fieldAddr rfl ?_ | refine sx_extract rfl rfl ?_ | (refine sx_alloc ?_; intro b)) | refine sx_nil ?_ | ((with_reducible refine at_code ?_); first | refine cx_seq ?_ | refine cx_region ?_ | refine cx_skip ?_ | (refine cx_cond rfl (fun h => ?_) (fun h => ?_) <;> (try simp only [decide_eq_true_eq, decide_eq_false_iff_not, Bool.and_eq_true, Bool.or_eq_true, Bool.and_eq_false_iff, Bool.or_eq_false_iff, Bool.not_eq_true', Bool.not_eq_false', Bool.not_true, Bool.not_false, Bool.true_or, Bool.or_true, Bool.false_or, Bool.or_false, Bool.and_true, Bool.true_and, Bool.false_and, Bool.and_false, reduceCtorEq, Classical.not_not, beq_self_eq_true, bne_self_eq_false, not_true_eq_false, not_false_eq_true, or_false, false_or, or_true, true_or, and_true, true_and, and_false, false_and, or_self, and_self] at h) <;> (try (exfalso; omega)))) | ((with_reducible refine at_exit ?_); first | refine qx_then ?_ | refine qx_in_normal ?_))
    all_goals try (exfalso; omega)
    have hst := cutG_stay hC (S := S) hxC ho
    have hgst := gone_stay (S := S) hC.borns hxC ho
    refine qx_mem (L' := [[(it, itObj r ck (S ++ [x.2.2]) ck)], [(r, kObj kv5 (gM fval (C.filter (keepG S (oldT now)))) ck)], [(tb, .cells [.int .i64 max, .int .i64 now, .map (some r)].toArray 74 (0, 0))], c1]) ?_ (fun w hm => by exact hm.picks [2, 2, 2, 2])
    exact hK _ _ _ _ (leftG_step hx hns (by rw [← hst]; exact List.Sublist.refl _)) ⟨S ++ [x.2.2], gs, Ag, cg, c1, ffr, by rw [← hst], rfl, hoo, by rw [hgst]; exact hgs⟩
end Go.Proofs.YtghnjmjdaggopaaGreatDoor
