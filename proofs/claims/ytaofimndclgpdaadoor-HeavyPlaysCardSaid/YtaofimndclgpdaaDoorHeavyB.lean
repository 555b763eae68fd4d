/- heavy: New, All, Count; what a take leaves: the plain part besides. -/
import Derived.Test.YtaofimndclgpdaaDoorHeavyA
import Derived.Test.YtaofimndclgpdaaDoorHeavyL
import Derived.Test.YtaofimndclgpdaaDoorFragP
set_option linter.unusedSimpArgs false
set_option linter.unusedVariables false
set_option maxRecDepth 100000
namespace Go.Port
open Go.RowKit
/-- Counts: the key, how many, when it was put. -/
abbrev Cn := List (Int × Int × Nat)
def hM (C : Cn) : MK Int := C.map fun e => (e.1, .int .i64 e.2.1, e.2.2)
def hl (C : Cn) : List (Int × Int) := C.map fun e => (e.1, e.2.1)
structure CnOk (C : Cn) (ck : Nat) : Prop where
  keys : (C.map (·.1)).Nodup
  borns : (C.map (·.2.2)).Nodup
  low : ∀ e ∈ C, e.2.2 < ck
theorem hM_keys {C : Cn} {ck : Nat} (h : CnOk C ck) : ((hM C).map (·.1)).Nodup := by
  unfold hM
  rw [List.map_map]
  exact h.keys
theorem hM_borns {C : Cn} {ck : Nat} (h : CnOk C ck) : ((hM C).map (·.2.2)).Nodup := by
  unfold hM
  rw [List.map_map]
  exact h.borns
theorem hM_low {C : Cn} {ck : Nat} (h : CnOk C ck) : ∀ e ∈ hM C, e.2.2 < ck := fun e he => by
  obtain ⟨x, hx, rfl⟩ := List.mem_map.1 he
  exact h.low x hx
theorem CnOk.filter {C : Cn} {ck : Nat} (h : CnOk C ck) (p : Int × Int × Nat → Bool) : CnOk (C.filter p) ck :=
  ⟨h.keys.sublist (List.filter_sublist.map _), h.borns.sublist (List.filter_sublist.map _), fun x hx => h.low x (List.mem_filter.1 hx).1⟩
theorem hM_lk {C : Cn} {k : Int} : ((lkK (hM C) k).map (·.2)).getD (.int .i64 0) = .int .i64 (lkH (hl C) k) := by
  induction C with
  | nil => rfl
  | cons e C ih =>
    show ((lkK ((e.1, Value.int .i64 e.2.1, e.2.2) :: hM C) k).map (·.2)).getD _ = .int .i64 (lkH ((e.1, e.2.1) :: hl C) k)
    rw [lkK, lkH]
    by_cases h : e.1 = k
    · rw [if_pos h, if_pos h]; rfl
    · rw [if_neg h, if_neg h, ← ih, Option.map_map]
      rfl
/-- Gone so far: those that came, and are to go. -/
def keepC (S : List Nat) (old : Int × Int × Nat → Bool) (e : Int × Int × Nat) : Bool := !(S.contains e.2.2 && old e)
theorem cut_del {C : Cn} {ck : Nat} (h : CnOk C ck) {S : List Nat} {old : Int × Int × Nat → Bool} {x : Int × Int × Nat} (hx : x ∈ C) (ho : old x = true) : (C.filter (keepC S old)).filter (fun y => decide (y.1 ≠ x.1)) = C.filter (keepC (S ++ [x.2.2]) old) := by
  rw [List.filter_filter]
  refine List.filter_congr fun y hy => ?_
  unfold keepC
  by_cases he : y = x
  · subst he
    simp [ho]
  · have h1 : y.1 ≠ x.1 := fun e => he (inj_of_nodup h.keys hy hx e)
    have h2 : y.2.2 ≠ x.2.2 := fun e => he (inj_of_nodup h.borns hy hx e)
    simp [h1, h2]
theorem cut_stay {C : Cn} {ck : Nat} (h : CnOk C ck) {S : List Nat} {old : Int × Int × Nat → Bool} {x : Int × Int × Nat} (hx : x ∈ C) (ho : old x = false) : C.filter (keepC S old) = C.filter (keepC (S ++ [x.2.2]) old) := by
  refine List.filter_congr fun y hy => ?_
  unfold keepC
  by_cases he : y = x
  · subst he
    simp [ho]
  · have h2 : y.2.2 ≠ x.2.2 := fun e => he (inj_of_nodup h.borns hy hx e)
    simp [h2]
theorem cut_all {C : Cn} {S : List Nat} {old : Int × Int × Nat → Bool} (h : leftK (hM (C.filter (keepC S old))) S = []) : C.filter (keepC S old) = C.filter (fun x => !old x) := by
  refine List.filter_congr fun y hy => ?_
  unfold keepC
  by_cases hb : y.2.2 ∈ S
  · simp [hb]
  · have h1 : (y.1, Value.int .i64 y.2.1, y.2.2) ∈ leftK (hM (C.filter (keepC S old))) S := by
      rw [leftK_mem]
      refine ⟨List.mem_map_of_mem (f := fun e : Int × Int × Nat => (e.1, Value.int .i64 e.2.1, e.2.2)) (List.mem_filter.2 ⟨hy, ?_⟩), hb⟩
      unfold keepC
      simp [hb]
    rw [h] at h1
    cases h1
theorem cut_none (C : Cn) (old : Int × Int × Nat → Bool) : C.filter (keepC [] old) = C := List.filter_eq_self.2 fun x _ => by simp [keepC]
/-- Less so far: those that came. -/
def lessC (n : Int) (S : List Nat) (e : Int × Int × Nat) : Int × Int × Nat := if e.2.2 ∈ S then (e.1, e.2.1 - n, e.2.2) else e
theorem lessC_key {n : Int} {S : List Nat} {e : Int × Int × Nat} : (lessC n S e).1 = e.1 ∧ (lessC n S e).2.2 = e.2.2 := by
  unfold lessC
  split <;> exact ⟨rfl, rfl⟩
theorem less_ok {C : Cn} {ck : Nat} (h : CnOk C ck) (n : Int) (S : List Nat) : CnOk (C.map (lessC n S)) ck := by
  refine ⟨?_, ?_, fun e he => ?_⟩
  · rw [List.map_map, show ((fun x : Int × Int × Nat => x.1) ∘ lessC n S) = (fun x => x.1) from funext fun e => lessC_key.1]
    exact h.keys
  · rw [List.map_map, show ((fun x : Int × Int × Nat => x.2.2) ∘ lessC n S) = (fun x => x.2.2) from funext fun e => lessC_key.2]
    exact h.borns
  · obtain ⟨x, hx, rfl⟩ := List.mem_map.1 he
    rw [lessC_key.2]
    exact h.low x hx
theorem less_set {C : Cn} {ck : Nat} (h : CnOk C ck) {n : Int} {S : List Nat} {x : Int × Int × Nat} {j : Nat} (hj : (C.map (lessC n S))[j]? = some x) (hx : x.2.2 ∉ S) : (C.map (lessC n S)).set j (x.1, x.2.1 - n, x.2.2) = C.map (lessC n (S ++ [x.2.2])) := by
  refine List.ext_getElem? fun i => ?_
  rw [List.getElem?_set, List.getElem?_map]
  rw [List.getElem?_map] at hj
  cases hc : C[j]? with
  | none => rw [hc] at hj; cases hj
  | some y =>
    rw [hc] at hj
    have hy : lessC n S y = x := Option.some.inj hj
    have hyx : y = x := by
      unfold lessC at hy
      split at hy
      · rename_i h1
        rw [← hy] at hx
        exact absurd h1 hx
      · exact hy
    subst hyx
    by_cases hij : j = i
    · subst hij
      rw [if_pos rfl, if_pos (by rw [List.length_map]; exact (List.getElem?_eq_some_iff.1 hc).1), List.getElem?_map, hc]
      simp [lessC]
    · rw [if_neg hij, List.getElem?_map]
      cases hi : C[i]? with
      | none => rfl
      | some z =>
        have hz : z.2.2 ≠ y.2.2 := fun e => hij (by
          have h1 := (List.getElem?_eq_some_iff.1 hc).1
          have h2 := (List.getElem?_eq_some_iff.1 hi).1
          refine (List.getElem?_inj (l := C.map (·.2.2)) (by rw [List.length_map]; exact h1) h.borns).1 ?_
          rw [List.getElem?_map, List.getElem?_map, hc, hi]
          exact congrArg some e.symm)
        simp [lessC, hz]
/-- What a take leaves. -/
def takeC (n : Int) (C : Cn) : Cn := (C.map fun e => (e.1, e.2.1 - n, e.2.2)).filter fun e => !decide (e.2.1 ≤ 0)
theorem less_all {C : Cn} {n : Int} {S : List Nat} (h : leftK (hM (C.map (lessC n S))) S = []) : C.map (lessC n S) = C.map fun e => (e.1, e.2.1 - n, e.2.2) := by
  refine List.map_congr_left fun y hy => ?_
  unfold lessC
  rw [if_pos]
  refine Classical.byContradiction fun hb => ?_
  have h1 : ((lessC n S y).1, Value.int .i64 (lessC n S y).2.1, (lessC n S y).2.2) ∈ leftK (hM (C.map (lessC n S))) S := by
    rw [leftK_mem]
    exact ⟨List.mem_map_of_mem (f := fun e : Int × Int × Nat => (e.1, Value.int .i64 e.2.1, e.2.2)) (List.mem_map_of_mem hy), by rw [lessC_key.2]; exact hb⟩
  rw [h] at h1
  cases h1
theorem take_plain (n : Int) : ∀ C : Cn, hl (takeC n C) = takH n (hl C)
  | [] => rfl
  | e :: C => by
    have ih := take_plain n C
    unfold takeC at ih ⊢
    unfold hl at ih ⊢
    rw [List.map_cons, List.filter_cons, List.map_cons, takH]
    by_cases h : e.2.1 - n ≤ 0
    · rw [if_neg (by simp [h]), if_pos h]
      exact ih
    · rw [if_pos (by simp [h]), if_neg h, List.map_cons, ih]
theorem take_ok {C : Cn} {ck : Nat} (h : CnOk C ck) (n : Int) : CnOk (takeC n C) ck := by
  refine CnOk.filter ⟨?_, ?_, fun e he => ?_⟩ _
  · rw [List.map_map]; exact h.keys
  · rw [List.map_map]; exact h.borns
  · obtain ⟨x, hx, rfl⟩ := List.mem_map.1 he
    exact h.low x hx
end Go.Port
namespace Go.Proofs.YtaofimndclgpdaaDoor
open Go.RowKit Go.Port
attribute [local irreducible] Calls
def hvBox (n less all : Int) (r : Nat) : Obj := .cells [.int .i64 n, .int .i64 less, .int .i64 all, .map (some r)].toArray 50 (0, 0)
def hvC (n less all : Int) (hb r ck : Nat) (C : Cn) : Ch := [(hb, hvBox n less all r), (r, kObj kvI (hM C) ck)]
theorem heavy_keys (n : Int) (w : World) : Calls Tryd.prog 15 #[.int .i64 n] w (Ret w [] (isV (.bool (decide (1 ≤ n) && decide (n ≤ 20))))) := by
  refine cx_enter (args := [.int .i64 n]) (F := [(0, .int .i64 n)]) _ [] Tryd.func15 rfl Tryd.ntmps15 (by simp) rfl (Mem.refl _) (fun g => ?_)
  repeat' (first | ((with_reducible refine at_any ?_); first | (refine ax_pure (o := ⟨_, _, _, _, _, _⟩) rfl dk rfl rfl rfl rfl ?_; apply Exists.intro; refine And.intro (fun w => ?_) ?_) | refine ax_skip (o := ⟨_, _, _, _, _, _⟩) dk rfl rfl rfl rfl rfl rfl ras ?_ | refine ax_lone (o := ⟨_, _, _, _, _, _⟩) dk rfl ?_ | refine ax_over dk ?_) | ((with_reducible refine at_op ?_); first | ((with_reducible refine at_guard ?_); first | refine sx_want rfl rfl rfl ras ?_ | refine sx_skip rfl rfl rfl ras ?_ | refine sx_skipu rfl rfl rfl ?_ | refine sx_skip' rfl rfl rfl ras ?_ | refine sx_lit true rfl rfl rfl dec ?_ | refine sx_lit false rfl rfl rfl dec ?_ | (refine sx_orG rfl rfl rfl rfl rfl rfl ?_ (fun hb K hK => ?_); apply Exists.intro; refine And.intro (fun hb K hK => ?_) (fun g => ?_)) | (refine sx_andG rfl rfl rfl rfl rfl rfl ?_ (fun hb K hK => ?_); apply Exists.intro; refine And.intro (fun hb K hK => ?_) (fun g => ?_))) | ((with_reducible refine at_move ?_); first | refine sx_move _ vf ?_) | ((with_reducible refine at_bin ?_); first | refine sx_lss rfl rfl ?_ | refine sx_leq rfl rfl ?_ | refine sx_gtr rfl rfl ?_ | refine sx_geq rfl rfl ?_ | refine sx_eql rfl rfl ?_ | refine sx_neq rfl rfl ?_ | refine sx_add rfl rfl bnd ?_ | refine sx_sub rfl rfl bnd ?_ | refine sx_mul rfl rfl bnd ?_ | refine sx_quo rfl rfl bnd ?_ | refine sx_rem rfl rfl bnd ?_ | refine sx_subU8 rfl rfl bnd ?_ | refine sx_shr rfl rfl bnd ?_ | refine sx_shl8 rfl rfl bnd ?_ | refine sx_or8 rfl rfl bnd ?_ | refine sx_or15 rfl rfl bnd ?_ | refine sx_not15 rfl rfl bnd ?_ | refine sx_andI rfl rfl bnd ?_ | refine sx_remT rfl rfl bnd ?_ | refine sx_err_ne rfl ?_ | refine sx_err_eq rfl ?_ | refine sx_errn_ne rfl ?_ | refine sx_errn_eq rfl ?_ | refine sx_pure (v := .bool _) rfl ?_ | refine sx_pure (v := .int _ _) rfl ?_) | ((with_reducible refine at_assign ?_); first | refine sx_assign _ vf ?_) | ((with_reducible refine at_load ?_); first | refine sx_loadE rfl pc gv ?_ | refine sx_loadWE rfl pc gl ?_ | (apply sx_loadB rfl; assumption; rfl) | (apply sx_loadBW rfl; assumption; rfl)) | ((with_reducible refine at_stores ?_); first | refine sx_stval _ vf ?_ | (apply sx_store rfl rfl rfl rfl; (repeat (first | exact set_z rfl | apply set_succ))) | (refine sx_rot rot1 ?_; (apply sx_store rfl rfl rfl rfl; (repeat (first | exact set_z rfl | apply set_succ)))) | (refine sx_rot rot2 ?_; (apply sx_store rfl rfl rfl rfl; (repeat (first | exact set_z rfl | apply set_succ)))) | (refine sx_rot rot3 ?_; (apply sx_store rfl rfl rfl rfl; (repeat (first | exact set_z rfl | apply set_succ)))) | (refine sx_rot rot4 ?_; (apply sx_store rfl rfl rfl rfl; (repeat (first | exact set_z rfl | apply set_succ)))) | (refine sx_rot rot5 ?_; (apply sx_store rfl rfl rfl rfl; (repeat (first | exact set_z rfl | apply set_succ)))) | (refine sx_rot rot6 ?_; (apply sx_store rfl rfl rfl rfl; (repeat (first | exact set_z rfl | apply set_succ)))) | (refine sx_rot rot7 ?_; (apply sx_store rfl rfl rfl rfl; (repeat (first | exact set_z rfl | apply set_succ)))) | refine sx_storeW rfl rfl rfl rfl ?_ | (refine sx_rot rot1 ?_; refine sx_storeW rfl rfl rfl rfl ?_) | (refine sx_rot rot2 ?_; refine sx_storeW rfl rfl rfl rfl ?_) | (refine sx_rot rot3 ?_; refine sx_storeW rfl rfl rfl rfl ?_) | (refine sx_rot rot4 ?_; refine sx_storeW rfl rfl rfl rfl ?_) | (refine sx_rot rot5 ?_; refine sx_storeW rfl rfl rfl rfl ?_) | (refine sx_rot rot6 ?_; refine sx_storeW rfl rfl rfl rfl ?_) | (refine sx_rot rot7 ?_; refine sx_storeW rfl rfl rfl rfl ?_)) | refine sx_nilCheck rfl ?_ | refine sx_fieldAddr rfl ?_ | refine sx_not rfl ?_ | refine sx_neg rfl bnd ?_ | ((with_reducible refine at_build ?_); first | refine sx_build _ blds ?_) | refine sx_extract rfl rfl ?_ | ((with_reducible refine at_pick ?_); first | refine sx_pickT (.int _ _) rfl dec rfl ?_ | refine sx_pickT (.bool _) rfl dec rfl ?_ | refine sx_pickF (.int _ _) rfl dec rfl ?_ | refine sx_pickF (.bool _) rfl dec rfl ?_) | ((with_reducible refine at_iface ?_); first | refine sx_iface _ vf ?_) | refine sx_index rfl rfl bnd ?_ | ((with_reducible refine at_ixaddr ?_); first | refine sx_place _ rfl rfl bnd plc ?_) | refine sx_sliceFrom rfl rfl bnd ?_ | refine sx_sliceTo rfl rfl bnd ?_ | refine sx_sliceBoth rfl rfl rfl bnd ?_ | refine sx_sliceFull rfl rfl rfl bnd ?_ | ((with_reducible refine at_conv ?_); first | refine sx_convIn rfl bnd ?_ | refine sx_convU8 rfl bnd ?_ | refine sx_convU8m rfl ?_ | refine sx_convU32m rfl ?_ | refine sx_convU64m rfl ?_) | ((with_reducible refine at_buildS ?_); first | (refine sx_buildS _ rfl rfl rfl bcs rfl ?_; intro b)) | ((with_reducible refine at_append ?_); first | (refine sx_append1 (v := .slice _ _ _) rfl rfl rotN (OwnS.nil _ _) rfl bnd rfl bnd ?_; intro v c ho; obtain ⟨A, cp, rfl, hcp⟩ := ho.len) | (refine sx_append1 (v := .slice _ _ _) rfl rfl rot0 asm rfl bnd rfl bnd ?_; intro v c ho; obtain ⟨A, cp, rfl, hcp⟩ := ho.len) | (refine sx_append1 (v := .slice _ _ _) rfl rfl rot1 asm rfl bnd rfl bnd ?_; intro v c ho; obtain ⟨A, cp, rfl, hcp⟩ := ho.len) | (refine sx_append1 (v := .slice _ _ _) rfl rfl rot2 asm rfl bnd rfl bnd ?_; intro v c ho; obtain ⟨A, cp, rfl, hcp⟩ := ho.len) | (refine sx_append1 (v := .slice _ _ _) rfl rfl rot3 asm rfl bnd rfl bnd ?_; intro v c ho; obtain ⟨A, cp, rfl, hcp⟩ := ho.len) | (refine sx_append1 (v := .slice _ _ _) rfl rfl rot4 asm rfl bnd rfl bnd ?_; intro v c ho; obtain ⟨A, cp, rfl, hcp⟩ := ho.len) | (refine sx_append1 (v := .slice _ _ _) rfl rfl rot5 asm rfl bnd rfl bnd ?_; intro v c ho; obtain ⟨A, cp, rfl, hcp⟩ := ho.len) | (refine sx_append1 (v := .slice _ _ _) rfl rfl rot6 asm rfl bnd rfl bnd ?_; intro v c ho; obtain ⟨A, cp, rfl, hcp⟩ := ho.len) | (refine sx_append1 (v := .slice _ _ _) rfl rfl rot7 asm rfl bnd rfl bnd ?_; intro v c ho; obtain ⟨A, cp, rfl, hcp⟩ := ho.len) | (refine sx_append1 (v := .slice _ _ _) rfl rfl rot8 asm rfl bnd rfl bnd ?_; intro v c ho; obtain ⟨A, cp, rfl, hcp⟩ := ho.len)) | refine sx_len rfl ?_ | refine sx_min rfl rfl ?_ | refine sx_max rfl rfl ?_ | refine sx_field rfl rfl ?_ | (refine sx_box rfl ?_; intro b) | (refine sx_box1 rfl rfl ?_; intro b) | (refine sx_alloc ?_; intro b) | (refine sx_alloc1 rfl ?_; intro b) | refine sx_pure vfs ?_) | refine sx_nil ?_ | ((with_reducible refine at_grp ?_); first | refine sx_grpN rfl ?_ | refine sx_grpC rfl ?_) | ((with_reducible refine at_aft ?_); first | refine sx_aftN rfl ?_ | refine sx_aftC rfl ?_) | ((with_reducible refine at_code ?_); first | refine cx_seq ?_ | refine cx_quiet rfl dk dk ?_ | refine cx_any dk ?_ | refine cx_region ?_ | refine cx_skip ?_ | refine cx_ret ?_ | refine cx_exit ?_ | refine cx_block ?_ | refine cx_true rfl ?_ | refine cx_false rfl ?_ | (refine cx_cond rfl (fun h => ?_) (fun h => ?_) <;> (try simp only [decide_eq_true_eq, decide_eq_false_iff_not, Bool.and_eq_true, Bool.or_eq_true, Bool.and_eq_false_iff, Bool.or_eq_false_iff, Bool.not_eq_true', Bool.not_eq_false', Bool.not_true, Bool.not_false, Bool.true_or, Bool.or_true, Bool.false_or, Bool.or_false, Bool.and_true, Bool.true_and, Bool.false_and, Bool.and_false, reduceCtorEq, Classical.not_not, beq_self_eq_true, bne_self_eq_false, not_true_eq_false, not_false_eq_true, or_false, false_or, or_true, true_or, and_true, true_and, and_false, false_and, or_self, and_self] at h) <;> (try (exfalso; omega)))) | ((with_reducible refine at_exit ?_); first | refine qx_then ?_ | exact qx_isF | refine qx_any ?_ | ((with_reducible refine at_K ?_); first | exact hK _ _ _ rfl ⟨rfl, rfl⟩ rfl | exact hK _ _ _ rfl rfl ⟨rfl, rfl⟩ rfl) | refine qx_in_here ?_ | refine qx_in_normal ?_ | refine qx_in_ret ?_ | refine qx_in_out rfl ?_ | refine qx_then_ret ?_ | refine qx_then_exit ?_))
  all_goals exact qx_ret1 (v := .bool _) [] rfl rfl ⟨by simp only [*, decide_true, decide_false, Bool.and_true, Bool.true_and, Bool.false_and, Bool.and_false], rfl⟩ (fun w hm => hm.nil)
theorem heavy_New (n : Int) (w : World) : Calls Tryd.prog 4 #[.int .i64 n] w (Ret w [] (fun v L => (¬ (1 ≤ n ∧ n ≤ 20) ∧ v = .tuple #[.pointer none, er 1] ∧ L = []) ∨ ((1 ≤ n ∧ n ≤ 20) ∧ ∃ hb r : Nat, v = .tuple #[.pointer (some ⟨hb, 0, none⟩), .nilIface] ∧ L = [hvC n 0 0 hb r 0 []]))) := by
  refine cx_enter (args := [.int .i64 n]) (F := [(0, .int .i64 n)]) _ [] Tryd.func4 rfl Tryd.ntmps4 (by simp) rfl (Mem.refl _) (fun g => ?_)
  repeat' (first | ((with_reducible refine at_call 15 ?_); refine sx_callv (fun w hm => heavy_keys n _) ?_ rfl) | (refine sx_makeMapK kvI ?_; intro r) | ((with_reducible refine at_build ?_); refine sx_build [.int .i64 n, .int .i64 0, .int .i64 0, .map (some r)] rfl ?_) | ((with_reducible refine at_any ?_); first | (refine ax_pure (o := ⟨_, _, _, _, _, _⟩) rfl dk rfl rfl rfl rfl ?_; apply Exists.intro; refine And.intro (fun w => ?_) ?_) | refine ax_skip (o := ⟨_, _, _, _, _, _⟩) dk rfl rfl rfl rfl rfl rfl ras ?_ | refine ax_lone (o := ⟨_, _, _, _, _, _⟩) dk rfl ?_ | refine ax_over dk ?_) | ((with_reducible refine at_op ?_); first | ((with_reducible refine at_guard ?_); first | refine sx_want rfl rfl rfl ras ?_ | refine sx_skip rfl rfl rfl ras ?_ | refine sx_skipu rfl rfl rfl ?_ | refine sx_skip' rfl rfl rfl ras ?_ | refine sx_lit true rfl rfl rfl dec ?_ | refine sx_lit false rfl rfl rfl dec ?_ | (refine sx_orG rfl rfl rfl rfl rfl rfl ?_ (fun hb K hK => ?_); apply Exists.intro; refine And.intro (fun hb K hK => ?_) (fun g => ?_)) | (refine sx_andG rfl rfl rfl rfl rfl rfl ?_ (fun hb K hK => ?_); apply Exists.intro; refine And.intro (fun hb K hK => ?_) (fun g => ?_))) | ((with_reducible refine at_move ?_); first | refine sx_move _ vf ?_) | ((with_reducible refine at_bin ?_); first | refine sx_lss rfl rfl ?_ | refine sx_leq rfl rfl ?_ | refine sx_gtr rfl rfl ?_ | refine sx_geq rfl rfl ?_ | refine sx_eql rfl rfl ?_ | refine sx_neq rfl rfl ?_ | refine sx_add rfl rfl bnd ?_ | refine sx_sub rfl rfl bnd ?_ | refine sx_mul rfl rfl bnd ?_ | refine sx_quo rfl rfl bnd ?_ | refine sx_rem rfl rfl bnd ?_ | refine sx_subU8 rfl rfl bnd ?_ | refine sx_shr rfl rfl bnd ?_ | refine sx_shl8 rfl rfl bnd ?_ | refine sx_or8 rfl rfl bnd ?_ | refine sx_or15 rfl rfl bnd ?_ | refine sx_not15 rfl rfl bnd ?_ | refine sx_andI rfl rfl bnd ?_ | refine sx_remT rfl rfl bnd ?_ | refine sx_err_ne rfl ?_ | refine sx_err_eq rfl ?_ | refine sx_errn_ne rfl ?_ | refine sx_errn_eq rfl ?_ | refine sx_pure (v := .bool _) rfl ?_ | refine sx_pure (v := .int _ _) rfl ?_) | ((with_reducible refine at_assign ?_); first | refine sx_assign _ vf ?_) | ((with_reducible refine at_load ?_); first | refine sx_loadE rfl pc gv ?_ | refine sx_loadWE rfl pc gl ?_ | (apply sx_loadB rfl; assumption; rfl) | (apply sx_loadBW rfl; assumption; rfl)) | ((with_reducible refine at_stores ?_); first | refine sx_stval _ vf ?_ | (apply sx_store rfl rfl rfl rfl; (repeat (first | exact set_z rfl | apply set_succ))) | (refine sx_rot rot1 ?_; (apply sx_store rfl rfl rfl rfl; (repeat (first | exact set_z rfl | apply set_succ)))) | (refine sx_rot rot2 ?_; (apply sx_store rfl rfl rfl rfl; (repeat (first | exact set_z rfl | apply set_succ)))) | (refine sx_rot rot3 ?_; (apply sx_store rfl rfl rfl rfl; (repeat (first | exact set_z rfl | apply set_succ)))) | (refine sx_rot rot4 ?_; (apply sx_store rfl rfl rfl rfl; (repeat (first | exact set_z rfl | apply set_succ)))) | (refine sx_rot rot5 ?_; (apply sx_store rfl rfl rfl rfl; (repeat (first | exact set_z rfl | apply set_succ)))) | (refine sx_rot rot6 ?_; (apply sx_store rfl rfl rfl rfl; (repeat (first | exact set_z rfl | apply set_succ)))) | (refine sx_rot rot7 ?_; (apply sx_store rfl rfl rfl rfl; (repeat (first | exact set_z rfl | apply set_succ)))) | refine sx_storeW rfl rfl rfl rfl ?_ | (refine sx_rot rot1 ?_; refine sx_storeW rfl rfl rfl rfl ?_) | (refine sx_rot rot2 ?_; refine sx_storeW rfl rfl rfl rfl ?_) | (refine sx_rot rot3 ?_; refine sx_storeW rfl rfl rfl rfl ?_) | (refine sx_rot rot4 ?_; refine sx_storeW rfl rfl rfl rfl ?_) | (refine sx_rot rot5 ?_; refine sx_storeW rfl rfl rfl rfl ?_) | (refine sx_rot rot6 ?_; refine sx_storeW rfl rfl rfl rfl ?_) | (refine sx_rot rot7 ?_; refine sx_storeW rfl rfl rfl rfl ?_)) | refine sx_nilCheck rfl ?_ | refine sx_fieldAddr rfl ?_ | refine sx_not rfl ?_ | refine sx_neg rfl bnd ?_ | ((with_reducible refine at_build ?_); first | refine sx_build _ blds ?_) | refine sx_extract rfl rfl ?_ | ((with_reducible refine at_pick ?_); first | refine sx_pickT (.int _ _) rfl dec rfl ?_ | refine sx_pickT (.bool _) rfl dec rfl ?_ | refine sx_pickF (.int _ _) rfl dec rfl ?_ | refine sx_pickF (.bool _) rfl dec rfl ?_) | ((with_reducible refine at_iface ?_); first | refine sx_iface _ vf ?_) | refine sx_index rfl rfl bnd ?_ | ((with_reducible refine at_ixaddr ?_); first | refine sx_place _ rfl rfl bnd plc ?_) | refine sx_sliceFrom rfl rfl bnd ?_ | refine sx_sliceTo rfl rfl bnd ?_ | refine sx_sliceBoth rfl rfl rfl bnd ?_ | refine sx_sliceFull rfl rfl rfl bnd ?_ | ((with_reducible refine at_conv ?_); first | refine sx_convIn rfl bnd ?_ | refine sx_convU8 rfl bnd ?_ | refine sx_convU8m rfl ?_ | refine sx_convU32m rfl ?_ | refine sx_convU64m rfl ?_) | ((with_reducible refine at_buildS ?_); first | (refine sx_buildS _ rfl rfl rfl bcs rfl ?_; intro b)) | ((with_reducible refine at_append ?_); first | (refine sx_append1 (v := .slice _ _ _) rfl rfl rotN (OwnS.nil _ _) rfl bnd rfl bnd ?_; intro v c ho; obtain ⟨A, cp, rfl, hcp⟩ := ho.len) | (refine sx_append1 (v := .slice _ _ _) rfl rfl rot0 asm rfl bnd rfl bnd ?_; intro v c ho; obtain ⟨A, cp, rfl, hcp⟩ := ho.len) | (refine sx_append1 (v := .slice _ _ _) rfl rfl rot1 asm rfl bnd rfl bnd ?_; intro v c ho; obtain ⟨A, cp, rfl, hcp⟩ := ho.len) | (refine sx_append1 (v := .slice _ _ _) rfl rfl rot2 asm rfl bnd rfl bnd ?_; intro v c ho; obtain ⟨A, cp, rfl, hcp⟩ := ho.len) | (refine sx_append1 (v := .slice _ _ _) rfl rfl rot3 asm rfl bnd rfl bnd ?_; intro v c ho; obtain ⟨A, cp, rfl, hcp⟩ := ho.len) | (refine sx_append1 (v := .slice _ _ _) rfl rfl rot4 asm rfl bnd rfl bnd ?_; intro v c ho; obtain ⟨A, cp, rfl, hcp⟩ := ho.len) | (refine sx_append1 (v := .slice _ _ _) rfl rfl rot5 asm rfl bnd rfl bnd ?_; intro v c ho; obtain ⟨A, cp, rfl, hcp⟩ := ho.len) | (refine sx_append1 (v := .slice _ _ _) rfl rfl rot6 asm rfl bnd rfl bnd ?_; intro v c ho; obtain ⟨A, cp, rfl, hcp⟩ := ho.len) | (refine sx_append1 (v := .slice _ _ _) rfl rfl rot7 asm rfl bnd rfl bnd ?_; intro v c ho; obtain ⟨A, cp, rfl, hcp⟩ := ho.len) | (refine sx_append1 (v := .slice _ _ _) rfl rfl rot8 asm rfl bnd rfl bnd ?_; intro v c ho; obtain ⟨A, cp, rfl, hcp⟩ := ho.len)) | refine sx_len rfl ?_ | refine sx_min rfl rfl ?_ | refine sx_max rfl rfl ?_ | refine sx_field rfl rfl ?_ | (refine sx_box rfl ?_; intro b) | (refine sx_box1 rfl rfl ?_; intro b) | (refine sx_alloc ?_; intro b) | (refine sx_alloc1 rfl ?_; intro b) | refine sx_pure vfs ?_) | refine sx_nil ?_ | ((with_reducible refine at_grp ?_); first | refine sx_grpN rfl ?_ | refine sx_grpC rfl ?_) | ((with_reducible refine at_aft ?_); first | refine sx_aftN rfl ?_ | refine sx_aftC rfl ?_) | ((with_reducible refine at_code ?_); first | refine cx_seq ?_ | refine cx_quiet rfl dk dk ?_ | refine cx_any dk ?_ | refine cx_region ?_ | refine cx_skip ?_ | refine cx_ret ?_ | refine cx_exit ?_ | refine cx_block ?_ | refine cx_true rfl ?_ | refine cx_false rfl ?_ | (refine cx_cond rfl (fun h => ?_) (fun h => ?_) <;> (try simp only [decide_eq_true_eq, decide_eq_false_iff_not, Bool.and_eq_true, Bool.or_eq_true, Bool.and_eq_false_iff, Bool.or_eq_false_iff, Bool.not_eq_true', Bool.not_eq_false', Bool.not_true, Bool.not_false, Bool.true_or, Bool.or_true, Bool.false_or, Bool.or_false, Bool.and_true, Bool.true_and, Bool.false_and, Bool.and_false, reduceCtorEq, Classical.not_not, beq_self_eq_true, bne_self_eq_false, not_true_eq_false, not_false_eq_true, or_false, false_or, or_true, true_or, and_true, true_and, and_false, false_and, or_self, and_self] at h) <;> (try (exfalso; omega)))) | ((with_reducible refine at_exit ?_); first | refine qx_then ?_ | exact qx_isF | refine qx_any ?_ | ((with_reducible refine at_K ?_); first | exact hK _ _ _ rfl ⟨rfl, rfl⟩ rfl | exact hK _ _ _ rfl rfl ⟨rfl, rfl⟩ rfl) | refine qx_in_here ?_ | refine qx_in_normal ?_ | refine qx_in_ret ?_ | refine qx_in_out rfl ?_ | refine qx_then_ret ?_ | refine qx_then_exit ?_))
  · refine qx_ret2 (v := .pointer none) (x := .iface _ _) [] rfl rfl rfl (.inl ⟨by omega, ?_, rfl⟩) (fun w hm => hm.nil)
    rw [er, errV_ne (by decide)]
  · exact qx_ret2 (v := .pointer _) (x := .nilIface) [hvC n 0 0 _ r 0 []] rfl rfl rfl (.inr ⟨by omega, _, r, rfl, rfl⟩) (fun w hm => hm.perm (.refl _))
theorem heavy_All {n less all : Int} {hb r ck : Nat} {C : Cn} {w : World} (h : Has w (hvC n less all hb r ck C)) : Calls Tryd.prog 14 #[.pointer (some ⟨hb, 0, none⟩)] w (Ret w [] (isV (.int .i64 all))) := by
  have h0 : w.heap[hb]? = some (.cells [.int .i64 n, .int .i64 less, .int .i64 all, .map (some r)].toArray 50 (0, 0)) := h _ (List.Mem.head _)
  refine cx_enter (args := [.pointer (some ⟨hb, 0, none⟩)]) (F := [(0, .pointer (some ⟨hb, 0, none⟩))]) _ [] Tryd.func14 rfl Tryd.ntmps14 (by simp) rfl (Mem.refl _) (fun g => ?_)
  repeat' (first | ((with_reducible refine at_load ?_); refine sx_loadB rfl h0 rfl ?_) | ((with_reducible refine at_any ?_); first | (refine ax_pure (o := ⟨_, _, _, _, _, _⟩) rfl dk rfl rfl rfl rfl ?_; apply Exists.intro; refine And.intro (fun w => ?_) ?_) | refine ax_skip (o := ⟨_, _, _, _, _, _⟩) dk rfl rfl rfl rfl rfl rfl ras ?_ | refine ax_lone (o := ⟨_, _, _, _, _, _⟩) dk rfl ?_ | refine ax_over dk ?_) | ((with_reducible refine at_op ?_); first | ((with_reducible refine at_guard ?_); first | refine sx_want rfl rfl rfl ras ?_ | refine sx_skip rfl rfl rfl ras ?_ | refine sx_skipu rfl rfl rfl ?_ | refine sx_skip' rfl rfl rfl ras ?_ | refine sx_lit true rfl rfl rfl dec ?_ | refine sx_lit false rfl rfl rfl dec ?_ | (refine sx_orG rfl rfl rfl rfl rfl rfl ?_ (fun hb K hK => ?_); apply Exists.intro; refine And.intro (fun hb K hK => ?_) (fun g => ?_)) | (refine sx_andG rfl rfl rfl rfl rfl rfl ?_ (fun hb K hK => ?_); apply Exists.intro; refine And.intro (fun hb K hK => ?_) (fun g => ?_))) | ((with_reducible refine at_move ?_); first | refine sx_move _ vf ?_) | ((with_reducible refine at_bin ?_); first | refine sx_lss rfl rfl ?_ | refine sx_leq rfl rfl ?_ | refine sx_gtr rfl rfl ?_ | refine sx_geq rfl rfl ?_ | refine sx_eql rfl rfl ?_ | refine sx_neq rfl rfl ?_ | refine sx_add rfl rfl bnd ?_ | refine sx_sub rfl rfl bnd ?_ | refine sx_mul rfl rfl bnd ?_ | refine sx_quo rfl rfl bnd ?_ | refine sx_rem rfl rfl bnd ?_ | refine sx_subU8 rfl rfl bnd ?_ | refine sx_shr rfl rfl bnd ?_ | refine sx_shl8 rfl rfl bnd ?_ | refine sx_or8 rfl rfl bnd ?_ | refine sx_or15 rfl rfl bnd ?_ | refine sx_not15 rfl rfl bnd ?_ | refine sx_andI rfl rfl bnd ?_ | refine sx_remT rfl rfl bnd ?_ | refine sx_err_ne rfl ?_ | refine sx_err_eq rfl ?_ | refine sx_errn_ne rfl ?_ | refine sx_errn_eq rfl ?_ | refine sx_pure (v := .bool _) rfl ?_ | refine sx_pure (v := .int _ _) rfl ?_) | ((with_reducible refine at_assign ?_); first | refine sx_assign _ vf ?_) | ((with_reducible refine at_load ?_); first | refine sx_loadE rfl pc gv ?_ | refine sx_loadWE rfl pc gl ?_ | (apply sx_loadB rfl; assumption; rfl) | (apply sx_loadBW rfl; assumption; rfl)) | ((with_reducible refine at_stores ?_); first | refine sx_stval _ vf ?_ | (apply sx_store rfl rfl rfl rfl; (repeat (first | exact set_z rfl | apply set_succ))) | (refine sx_rot rot1 ?_; (apply sx_store rfl rfl rfl rfl; (repeat (first | exact set_z rfl | apply set_succ)))) | (refine sx_rot rot2 ?_; (apply sx_store rfl rfl rfl rfl; (repeat (first | exact set_z rfl | apply set_succ)))) | (refine sx_rot rot3 ?_; (apply sx_store rfl rfl rfl rfl; (repeat (first | exact set_z rfl | apply set_succ)))) | (refine sx_rot rot4 ?_; (apply sx_store rfl rfl rfl rfl; (repeat (first | exact set_z rfl | apply set_succ)))) | (refine sx_rot rot5 ?_; (apply sx_store rfl rfl rfl rfl; (repeat (first | exact set_z rfl | apply set_succ)))) | (refine sx_rot rot6 ?_; (apply sx_store rfl rfl rfl rfl; (repeat (first | exact set_z rfl | apply set_succ)))) | (refine sx_rot rot7 ?_; (apply sx_store rfl rfl rfl rfl; (repeat (first | exact set_z rfl | apply set_succ)))) | refine sx_storeW rfl rfl rfl rfl ?_ | (refine sx_rot rot1 ?_; refine sx_storeW rfl rfl rfl rfl ?_) | (refine sx_rot rot2 ?_; refine sx_storeW rfl rfl rfl rfl ?_) | (refine sx_rot rot3 ?_; refine sx_storeW rfl rfl rfl rfl ?_) | (refine sx_rot rot4 ?_; refine sx_storeW rfl rfl rfl rfl ?_) | (refine sx_rot rot5 ?_; refine sx_storeW rfl rfl rfl rfl ?_) | (refine sx_rot rot6 ?_; refine sx_storeW rfl rfl rfl rfl ?_) | (refine sx_rot rot7 ?_; refine sx_storeW rfl rfl rfl rfl ?_)) | refine sx_nilCheck rfl ?_ | refine sx_fieldAddr rfl ?_ | refine sx_not rfl ?_ | refine sx_neg rfl bnd ?_ | ((with_reducible refine at_build ?_); first | refine sx_build _ blds ?_) | refine sx_extract rfl rfl ?_ | ((with_reducible refine at_pick ?_); first | refine sx_pickT (.int _ _) rfl dec rfl ?_ | refine sx_pickT (.bool _) rfl dec rfl ?_ | refine sx_pickF (.int _ _) rfl dec rfl ?_ | refine sx_pickF (.bool _) rfl dec rfl ?_) | ((with_reducible refine at_iface ?_); first | refine sx_iface _ vf ?_) | refine sx_index rfl rfl bnd ?_ | ((with_reducible refine at_ixaddr ?_); first | refine sx_place _ rfl rfl bnd plc ?_) | refine sx_sliceFrom rfl rfl bnd ?_ | refine sx_sliceTo rfl rfl bnd ?_ | refine sx_sliceBoth rfl rfl rfl bnd ?_ | refine sx_sliceFull rfl rfl rfl bnd ?_ | ((with_reducible refine at_conv ?_); first | refine sx_convIn rfl bnd ?_ | refine sx_convU8 rfl bnd ?_ | refine sx_convU8m rfl ?_ | refine sx_convU32m rfl ?_ | refine sx_convU64m rfl ?_) | ((with_reducible refine at_buildS ?_); first | (refine sx_buildS _ rfl rfl rfl bcs rfl ?_; intro b)) | ((with_reducible refine at_append ?_); first | (refine sx_append1 (v := .slice _ _ _) rfl rfl rotN (OwnS.nil _ _) rfl bnd rfl bnd ?_; intro v c ho; obtain ⟨A, cp, rfl, hcp⟩ := ho.len) | (refine sx_append1 (v := .slice _ _ _) rfl rfl rot0 asm rfl bnd rfl bnd ?_; intro v c ho; obtain ⟨A, cp, rfl, hcp⟩ := ho.len) | (refine sx_append1 (v := .slice _ _ _) rfl rfl rot1 asm rfl bnd rfl bnd ?_; intro v c ho; obtain ⟨A, cp, rfl, hcp⟩ := ho.len) | (refine sx_append1 (v := .slice _ _ _) rfl rfl rot2 asm rfl bnd rfl bnd ?_; intro v c ho; obtain ⟨A, cp, rfl, hcp⟩ := ho.len) | (refine sx_append1 (v := .slice _ _ _) rfl rfl rot3 asm rfl bnd rfl bnd ?_; intro v c ho; obtain ⟨A, cp, rfl, hcp⟩ := ho.len) | (refine sx_append1 (v := .slice _ _ _) rfl rfl rot4 asm rfl bnd rfl bnd ?_; intro v c ho; obtain ⟨A, cp, rfl, hcp⟩ := ho.len) | (refine sx_append1 (v := .slice _ _ _) rfl rfl rot5 asm rfl bnd rfl bnd ?_; intro v c ho; obtain ⟨A, cp, rfl, hcp⟩ := ho.len) | (refine sx_append1 (v := .slice _ _ _) rfl rfl rot6 asm rfl bnd rfl bnd ?_; intro v c ho; obtain ⟨A, cp, rfl, hcp⟩ := ho.len) | (refine sx_append1 (v := .slice _ _ _) rfl rfl rot7 asm rfl bnd rfl bnd ?_; intro v c ho; obtain ⟨A, cp, rfl, hcp⟩ := ho.len) | (refine sx_append1 (v := .slice _ _ _) rfl rfl rot8 asm rfl bnd rfl bnd ?_; intro v c ho; obtain ⟨A, cp, rfl, hcp⟩ := ho.len)) | refine sx_len rfl ?_ | refine sx_min rfl rfl ?_ | refine sx_max rfl rfl ?_ | refine sx_field rfl rfl ?_ | (refine sx_box rfl ?_; intro b) | (refine sx_box1 rfl rfl ?_; intro b) | (refine sx_alloc ?_; intro b) | (refine sx_alloc1 rfl ?_; intro b) | refine sx_pure vfs ?_) | refine sx_nil ?_ | ((with_reducible refine at_grp ?_); first | refine sx_grpN rfl ?_ | refine sx_grpC rfl ?_) | ((with_reducible refine at_aft ?_); first | refine sx_aftN rfl ?_ | refine sx_aftC rfl ?_) | ((with_reducible refine at_code ?_); first | refine cx_seq ?_ | refine cx_quiet rfl dk dk ?_ | refine cx_any dk ?_ | refine cx_region ?_ | refine cx_skip ?_ | refine cx_ret ?_ | refine cx_exit ?_ | refine cx_block ?_ | refine cx_true rfl ?_ | refine cx_false rfl ?_ | (refine cx_cond rfl (fun h => ?_) (fun h => ?_) <;> (try simp only [decide_eq_true_eq, decide_eq_false_iff_not, Bool.and_eq_true, Bool.or_eq_true, Bool.and_eq_false_iff, Bool.or_eq_false_iff, Bool.not_eq_true', Bool.not_eq_false', Bool.not_true, Bool.not_false, Bool.true_or, Bool.or_true, Bool.false_or, Bool.or_false, Bool.and_true, Bool.true_and, Bool.false_and, Bool.and_false, reduceCtorEq, Classical.not_not, beq_self_eq_true, bne_self_eq_false, not_true_eq_false, not_false_eq_true, or_false, false_or, or_true, true_or, and_true, true_and, and_false, false_and, or_self, and_self] at h) <;> (try (exfalso; omega)))) | ((with_reducible refine at_exit ?_); first | refine qx_then ?_ | exact qx_isF | refine qx_any ?_ | ((with_reducible refine at_K ?_); first | exact hK _ _ _ rfl ⟨rfl, rfl⟩ rfl | exact hK _ _ _ rfl rfl ⟨rfl, rfl⟩ rfl) | refine qx_in_here ?_ | refine qx_in_normal ?_ | refine qx_in_ret ?_ | refine qx_in_out rfl ?_ | refine qx_then_ret ?_ | refine qx_then_exit ?_))
  exact qx_ret1 (v := .int _ _) [] rfl rfl ⟨rfl, rfl⟩ (fun w hm => hm.nil)
end Go.Proofs.YtaofimndclgpdaaDoor
