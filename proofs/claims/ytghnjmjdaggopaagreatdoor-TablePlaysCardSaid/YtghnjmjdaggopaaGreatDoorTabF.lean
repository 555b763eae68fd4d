/- table: All. -/
import Derived.Test.YtghnjmjdaggopaaGreatDoorTabA
import Derived.Test.YtghnjmjdaggopaaGreatDoorTabS
import Derived.Test.YtghnjmjdaggopaaGreatDoorTabT
set_option linter.unusedSimpArgs false
set_option linter.unusedVariables false
set_option maxRecDepth 100000
namespace Go.Proofs.YtghnjmjdaggopaaGreatDoor
open Go.RowKit Go.Port
attribute [local irreducible] Calls
set_option maxHeartbeats 4000000 in
theorem table_All {max tnow : Int} {tb r ck : Nat} {C : Tb} {Al : List Fl} {w : World} (hTR : TRel max C ck Al) (hmx : max ≤ 100) (h : Has w (tbC max tnow tb r ck C)) : Calls Tryz.prog 22 #[.pointer (some ⟨tb, 0, none⟩)] w (Ret w [] (fun v L => ∃ (A' : Option Addr) (cap' : Nat) (c' : Ch), v = .slice A' Al.length cap' ∧ L = [c'] ∧ OwnS 45 15 (.slice A' Al.length cap') Al.length (rowsG Fl.row Al) c')) := by
  have hC := hTR.ok
  have hlen : C.length ≤ 100 := by have := hTR.len; omega
  have h0 : w.heap[tb]? = some (.cells [.int .i64 max, .int .i64 tnow, .map (some r)].toArray 74 (0, 0)) := h _ (List.Mem.head _)
  have h1 : w.heap[r]? = some (kObj kv5 (gM fval C) ck) := h _ (List.Mem.tail _ (List.Mem.head _))
  refine cx_enter (args := [.pointer (some ⟨tb, 0, none⟩)]) (F := [(0, .pointer (some ⟨tb, 0, none⟩))]) _ [] Tryz.func22 rfl Tryz.ntmps22 (by simp) rfl (Mem.refl _) (fun g => ?_)
  repeat' (first | ((with_reducible refine at_load ?_); refine sx_loadB rfl h0 rfl ?_) | (refine sx_rangeKW (kv := kv5) (M := gM fval C) (ck := ck) rfl (fun w hm => hm.old0 h1) ?_; intro it) | ((with_reducible refine at_op ?_); first | ((with_reducible refine at_move ?_); refine sx_move _ vf ?_) | ((with_reducible refine at_assign ?_); refine sx_assign _ vf ?_) | refine sx_nilCheck rfl ?_ | refine sx_fieldAddr rfl ?_) | refine sx_nil ?_ | ((with_reducible refine at_code ?_); first | refine cx_seq ?_ | refine cx_region ?_ | refine cx_block ?_) | ((with_reducible refine at_exit ?_); refine qx_then ?_))
  all_goals try (exfalso; omega)
  refine cx_mem (L' := [[(it, itObj r ck [] ck)], []]) ?_ (fun w hm => hm.perm (by simp))
  refine cx_loop (fun mm fr L => ∃ (S : List Nat) (pre : Tb) (c0 : Nat) (fs : List Fl) (Ao : Option Addr) (co : Nat) (c1 : Ch), FF fr [(3, .slice Ao fs.length co), (10, .pointer (some ⟨it, 0, none⟩))] ∧ L = [[(it, itObj r ck S c0)], c1] ∧ ck ≤ c0 ∧ mm = (C.filter (fun e => !S.contains e.2.2)).length ∧ (pre ++ C.filter (fun e => !S.contains e.2.2)).Perm C ∧ fs = pre.map (·.2.1) ∧ OwnS 45 15 (.slice Ao fs.length co) fs.length (rowsG Fl.row fs) c1) (C.filter (fun e => !([] : List Nat).contains e.2.2)).length ?_ ?_
  · exact ⟨[], [], ck, [], none, 0, [], ffr, rfl, Nat.le_refl _, rfl, .of_eq (List.filter_eq_self.2 fun _ _ => rfl), rfl, OwnS.nil _ _⟩
  rintro mm fr L ⟨S, pre, c0, fs, Ao, co, c1, hF, rfl, hc0, rfl, hperm, hfs, hoo⟩ K hK
  refine cx_use hF fun g => ?_
  clear hF
  have hpl : pre.length + (C.filter (fun e => !S.contains e.2.2)).length = C.length := by
    have := hperm.length_eq
    rw [List.length_append] at this
    exact this
  have hfl : fs.length = pre.length := by rw [hfs, List.length_map]
  repeat' (first | (with_reducible refine stop_rs 4 ?_) | (with_reducible refine stop_rs 6 ?_) | (refine sx_nextKW (kv := kv5) (M := gM fval C) (ck := ck) rfl (fun w hm => hm.old0 h1) (gM_low hC) hc0 (fun hleft => ?_) (fun e he hns => ?_); rotate_left; obtain ⟨x, hx, rfl⟩ := List.mem_map.1 he; rotate_right) | ((with_reducible refine at_op ?_); refine sx_extract rfl rfl ?_) | refine sx_nil ?_ | ((with_reducible refine at_code ?_); first | refine cx_seq ?_ | refine cx_region ?_ | refine cx_skip ?_ | refine cx_exit ?_ | refine cx_block ?_ | refine cx_true rfl ?_ | refine cx_false rfl ?_) | ((with_reducible refine at_exit ?_); first | refine qx_then ?_ | refine qx_in_here ?_ | refine qx_then_exit ?_))
  all_goals try (exfalso; omega)
  · clear hK
    refine halt_go ?_
    rw [left_gM] at hleft
    have hnil : C.filter (fun e => !S.contains e.2.2) = [] := List.map_eq_nil_iff.1 hleft
    rw [hnil, List.append_nil] at hperm
    have hfp : fs.Perm (C.map (·.2.1)) := by rw [hfs]; exact hperm.map _
    refine cx_mem (L' := [c1]) ?_ (fun w hm => by exact hm.picks [1])
    repeat' (first | ((with_reducible refine at_call 42 ?_); (first | (refine sx_rot rot0 ?_; refine sx_call (fun w hm => sort_flows hm.self hoo rfl (by omega)) ?_) | (refine sx_rot rot1 ?_; refine sx_call (fun w hm => sort_flows hm.self hoo rfl (by omega)) ?_) | (refine sx_rot rot2 ?_; refine sx_call (fun w hm => sort_flows hm.self hoo rfl (by omega)) ?_) | (refine sx_rot rot3 ?_; refine sx_call (fun w hm => sort_flows hm.self hoo rfl (by omega)) ?_) | (refine sx_rot rot4 ?_; refine sx_call (fun w hm => sort_flows hm.self hoo rfl (by omega)) ?_) | (refine sx_rot rot5 ?_; refine sx_call (fun w hm => sort_flows hm.self hoo rfl (by omega)) ?_)); rintro _ _ ⟨rfl, d, c', rfl, hod, hdp, hds⟩; refine sx_app1 ?_) | ((with_reducible refine at_op ?_); first | ((with_reducible refine at_move ?_); refine sx_move _ vf ?_) | ((with_reducible refine at_assign ?_); refine sx_assign _ vf ?_)) | refine sx_nil ?_ | ((with_reducible refine at_code ?_); first | refine cx_seq ?_ | refine cx_region ?_ | refine cx_ret ?_) | ((with_reducible refine at_exit ?_); refine qx_then ?_))
    all_goals try (exfalso; omega)
    have hdA : d = Al := hTR.all (hdp.trans hfp) (hds.imp fun {a b} hab => of_decide_eq_false hab)
    have hln : fs.length = Al.length := by rw [← hdA]; exact hdp.length_eq.symm
    rw [hdA, hln] at hod
    rw [hln]
    exact qx_ret1 (v := .slice _ _ _) [c'] rfl rfl ⟨Ao, co, c', rfl, rfl, hod⟩ (fun w hm => hm)
  refine halt_go ?_
  have hstep := came_stepG hC.borns hx hns
  have hsl := hstep.length_eq
  rw [List.length_cons] at hsl
  have hnew : (pre ++ [x] ++ C.filter (fun e => !(S ++ [x.2.2]).contains e.2.2)).Perm C := by
    rw [List.append_assoc]
    exact (List.Perm.append_left _ hstep.symm).trans hperm
  repeat' (first | (refine sx_itEntryKW (kv := kv5) (M := gM fval C) (ck := ck) 0 rfl rfl (fun w hm => hm.old0 h1) he (gM_borns hC) ?_) | ((with_reducible refine at_stores ?_); refine sx_storeW (vs := x.2.1.row) rfl rfl rfl rfl ?_) | ((with_reducible refine at_buildS ?_); (refine sx_buildS x.2.1.row rfl rfl rfl rfl rfl ?_; intro bl)) | ((with_reducible refine at_op ?_); first | ((with_reducible refine at_move ?_); refine sx_move _ vf ?_) | ((with_reducible refine at_assign ?_); refine sx_assign _ vf ?_) | ((with_reducible refine at_load ?_); refine sx_loadWE rfl pc gl ?_) | ((with_reducible refine at_stores ?_); refine sx_stval _ vf ?_) | refine sx_extract rfl rfl ?_ | ((with_reducible refine at_append ?_); (refine sx_append1 (v := .slice _ _ _) rfl rfl rot2 asm rfl bnd rfl bnd ?_; intro v c ho; obtain ⟨A, cp, rfl, hcp⟩ := ho.len)) | (refine sx_alloc ?_; intro b)) | refine sx_nil ?_ | ((with_reducible refine at_code ?_); first | refine cx_seq ?_ | refine cx_region ?_) | ((with_reducible refine at_exit ?_); first | refine qx_then ?_ | refine qx_in_normal ?_))
  all_goals try (exfalso; omega)
  have hoE : OwnS 45 15 (.slice A (fs.length + 1) cp) (fs ++ [x.2.1]).length (rowsG Fl.row (fs ++ [x.2.1])) c := by
    rw [rowsF_snoc, List.length_append]
    exact ho
  have e1 : fs.length + 1 = (fs ++ [x.2.1]).length := by rw [List.length_append]; rfl
  rw [e1] at hoE ⊢
  refine qx_mem (L' := [[(it, itObj r ck (S ++ [x.2.2]) ck)], c]) ?_ (fun w hm => by exact hm.picks [2, 0])
  exact hK _ _ _ _ (by omega) ⟨S ++ [x.2.2], pre ++ [x], ck, fs ++ [x.2.1], A, cp, c, ffr, rfl, Nat.le_refl _, rfl, hnew, by rw [List.map_append, hfs]; rfl, hoE⟩
end Go.Proofs.YtghnjmjdaggopaaGreatDoor
