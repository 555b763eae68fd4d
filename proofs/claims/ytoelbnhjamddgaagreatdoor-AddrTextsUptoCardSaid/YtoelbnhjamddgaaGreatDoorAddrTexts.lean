/- The law AddrTexts, walked. -/
import Derived.Test.YtoelbnhjamddgaaGreatDoorPfxT
import Derived.Test.YtoelbnhjamddgaaGreatDoorRefRp
import Derived.Test.YtoelbnhjamddgaaGreatDoorErrT
import Derived.Test.YtoelbnhjamddgaaGreatDoorEqPx
set_option linter.unusedSimpArgs false
set_option linter.unusedVariables false
set_option maxRecDepth 100000
namespace Go.Proofs.YtoelbnhjamddgaaGreatDoor.addrTexts
open Go.RowKit Go.Port
attribute [local irreducible] Calls addrT pxE pxR addrR pxT
theorem ans_some {a n : Int} : pxAns (some (a, n)) = .tuple #[.agg #[.int .i64 a, .int .i64 n], er 0] := rfl
theorem ans_none : pxAns none = .tuple #[.agg #[.int .i64 0, .int .i64 0], er 2] := rfl
theorem read_some {a n : Int} : pxRead (some (a, n)) = .tuple #[.agg #[.int .i64 a, .int .i64 n], .bool true] := rfl
theorem read_none : pxRead none = .tuple #[.agg #[.int .i64 0, .int .i64 0], .bool false] := rfl
set_option maxHeartbeats 32000000 in
theorem walk (a d n : Int) (s : List UInt8) (w : World) (hg : Laid w) (ht : Txe w) (hs : s.length ≤ 1048576) : Calls Tryz.prog 3 #[.int .i64 a, .agg #[.int .i64 d, .int .i64 n], tx s] w (Ret w [] (isV (.bool true))) := by
  -- the address' text: one result x with one fault f
  obtain ⟨okA, f, x, hok, hsh, hpr⟩ : ∃ (okA : Bool) (f : Int) (x : List UInt8), (decide (0 ≤ a) && decide (a ≤ 4294967295)) = okA ∧ (okA = true → f = 0 ∧ ∀ w, Calls Tryz.prog 7 #[.int .i64 a] w (Ret w [] (isV (tx x)))) ∧ ((okA = false → f = 1 ∧ x = []) ∧ ∀ w', Txe w' → Calls Tryz.prog 8 #[.int .i64 a] w' (Ret w' [] (isV (.tuple #[tx x, er f])))) := by
    by_cases ha : 0 ≤ a ∧ a ≤ 4294967295
    · obtain ⟨k, rfl⟩ : ∃ k : Nat, a = k := ⟨a.toNat, by omega⟩
      exact ⟨true, 0, addrT k, by rw [decide_eq_true ha.1, decide_eq_true ha.2]; rfl, fun _ => ⟨rfl, fun w => ref_Show k w (by omega)⟩, (fun h => by cases h), fun w' hw => addr_Print k w' hw.txt (by omega)⟩
    · exact ⟨false, 1, [], by rw [← Bool.decide_and]; exact decide_eq_false ha, (fun h => by cases h), fun _ => ⟨rfl, rfl⟩, fun w' _ => addr_PrintN a w' ha⟩
  have hra := fun w => ref_Addr a w
  rw [hok] at hra
  have hrd := fun w => ref_ReadAddr s w hs
  have hpa := fun w' (hw : Txe w') => addr_Parse s w' hw hs
  have hrp := fun w => ref_ReadPrefix s w hs
  have hpp := fun w' (hw : Txe w') => addr_ParsePrefix s w' hw hs
  have hck := fun w => addr_Check d n w
  have hpf := fun w => ref_Prefix d n w
  have hpt := fun w' (hw : Txe w') => addr_PrintPrefix d n w' hw
  have hsp : pxE d n = 0 → ∀ w, Calls Tryz.prog 13 #[.agg #[.int .i64 d, .int .i64 n]] w (Ret w [] (isV (tx (if pxE d n = 0 then pxT d.toNat n.toNat else [])))) := fun h w => by
    have hB := pxE_0 h
    unfold pxB at hB
    rw [if_pos h]
    have := ref_ShowPrefix d.toNat n.toNat w (by omega) (by omega)
    rwa [Int.toNat_of_nonneg hB.1.1, Int.toNat_of_nonneg hB.2.1] at this
  have hy0 : ¬ pxE d n = 0 → (if pxE d n = 0 then pxT d.toNat n.toNat else []) = [] := fun h => if_neg h
  generalize (if pxE d n = 0 then pxT d.toNat n.toNat else []) = y at *
  generalize pxE d n = e at *
  generalize addrR s = r at *
  have hcase : (∃ u v, pxR s = some (u, v)) ∨ pxR s = none := by
    cases pxR s with
    | none => exact .inr rfl
    | some q => exact .inl ⟨q.1, q.2, rfl⟩
  generalize pxR s = q at *
  have c1 : (okA = true ∧ f = 0 ∧ ∀ w, Calls Tryz.prog 7 #[.int .i64 a] w (Ret w [] (isV (tx x)))) ∨ (okA = false ∧ f = 1 ∧ x = []) := by
    cases okA with
    | true => exact .inl ⟨rfl, (hsh rfl).1, (hsh rfl).2⟩
    | false => exact .inr ⟨rfl, (hpr.1 rfl).1, (hpr.1 rfl).2⟩
  have hprw := hpr.2
  have c2 : r < 0 ∨ ¬ r < 0 := Classical.em _
  have c3 : (e = 0 ∧ ∀ w, Calls Tryz.prog 13 #[.agg #[.int .i64 d, .int .i64 n]] w (Ret w [] (isV (tx y)))) ∨ (¬ e = 0 ∧ y = []) := by
    by_cases h : e = 0
    · exact .inl ⟨h, hsp h⟩
    · exact .inr ⟨h, hy0 h⟩
  clear hok hsh hpr hsp hy0
  refine cx_enter (args := [.int .i64 a, .agg #[.int .i64 d, .int .i64 n], tx s]) (F := [(0, .int .i64 a), (1, .agg #[.int .i64 d, .int .i64 n]), (2, tx s)]) _ [] Tryz.func3 rfl Tryz.ntmps3 (by simp) rfl (Mem.refl _) (fun g => ?_)
  rcases c1 with ⟨rfl, rfl, hsw⟩ | ⟨rfl, rfl, rfl⟩ <;> rcases c2 with hr | hr <;> rcases c3 with ⟨rfl, hspw⟩ | ⟨he, rfl⟩ <;> rcases hcase with ⟨u, v, rfl⟩ | rfl
  all_goals
    first
      | rw [if_pos hr, if_pos hr] at hpa
      | rw [if_neg hr, if_neg hr] at hpa
    first
      | rw [ans_some] at hpp
      | rw [ans_none] at hpp
    first
      | rw [read_some] at hrp
      | rw [read_none] at hrp
    repeat' (first | ((with_reducible refine at_bin ?_); first | refine sx_neqTE rfl rfl ?_ | refine sx_eqlP rfl rfl ?_) | ((with_reducible refine at_call 6 ?_); refine sx_callv (fun w hm => hra _) ?_ rfl) | ((with_reducible refine at_call 7 ?_); refine sx_callv (fun w hm => hsw _) ?_ rfl) | ((with_reducible refine at_call 8 ?_); refine sx_callv (fun w hm => hprw w (ht.mem hm.nil)) ?_ rfl) | ((with_reducible refine at_call 10 ?_); refine sx_callv (fun w hm => hrd _) ?_ rfl) | ((with_reducible refine at_call 11 ?_); refine sx_callv (fun w hm => hpa w (ht.mem hm.nil)) ?_ rfl) | ((with_reducible refine at_call 12 ?_); refine sx_callv (fun w hm => hpf _) ?_ rfl) | ((with_reducible refine at_call 13 ?_); refine sx_callv (fun w hm => hspw _) ?_ rfl) | ((with_reducible refine at_call 14 ?_); refine sx_callv (fun w hm => hck _) ?_ rfl) | ((with_reducible refine at_call 15 ?_); refine sx_callv (fun w hm => hpt w (ht.mem hm.nil)) ?_ rfl) | ((with_reducible refine at_call 16 ?_); refine sx_callv (fun w hm => hrp _) ?_ rfl) | ((with_reducible refine at_call 17 ?_); refine sx_callv (fun w hm => hpp w (ht.mem hm.nil)) ?_ rfl) | ((with_reducible refine at_call 9 ?_); refine sx_callv (fun w hm => same_ErrT rfl (hg.mem hm)) ?_ rfl) | ((with_reducible refine at_any ?_); first | (refine ax_pure (o := ⟨_, _, _, _, _, _⟩) rfl dk rfl rfl rfl rfl ?_; apply Exists.intro; refine And.intro (fun w => ?_) ?_) | refine ax_skip (o := ⟨_, _, _, _, _, _⟩) dk rfl rfl rfl rfl rfl rfl ras ?_ | refine ax_lone (o := ⟨_, _, _, _, _, _⟩) dk rfl ?_ | refine ax_over dk ?_) | ((with_reducible refine at_op ?_); first | ((with_reducible refine at_guard ?_); first | refine sx_want rfl rfl rfl ras ?_ | refine sx_skip rfl rfl rfl ras ?_ | refine sx_skipu rfl rfl rfl ?_ | refine sx_skip' rfl rfl rfl ras ?_ | refine sx_lit true rfl rfl rfl dec ?_ | refine sx_lit false rfl rfl rfl dec ?_ | (refine sx_orG rfl rfl rfl rfl rfl rfl ?_ (fun hb K hK => ?_); apply Exists.intro; refine And.intro (fun hb K hK => ?_) (fun g => ?_)) | (refine sx_andG rfl rfl rfl rfl rfl rfl ?_ (fun hb K hK => ?_); apply Exists.intro; refine And.intro (fun hb K hK => ?_) (fun g => ?_))) | ((with_reducible refine at_move ?_); first | refine sx_move _ vf ?_) | ((with_reducible refine at_bin ?_); first | refine sx_lss rfl rfl ?_ | refine sx_leq rfl rfl ?_ | refine sx_gtr rfl rfl ?_ | refine sx_geq rfl rfl ?_ | refine sx_eql rfl rfl ?_ | refine sx_neq rfl rfl ?_ | refine sx_add rfl rfl bnd ?_ | refine sx_sub rfl rfl bnd ?_ | refine sx_mul rfl rfl bnd ?_ | refine sx_quo rfl rfl bnd ?_ | refine sx_rem rfl rfl bnd ?_ | refine sx_subU8 rfl rfl bnd ?_ | refine sx_shr rfl rfl bnd ?_ | refine sx_shl8 rfl rfl bnd ?_ | refine sx_or8 rfl rfl bnd ?_ | refine sx_or15 rfl rfl bnd ?_ | refine sx_not15 rfl rfl bnd ?_ | refine sx_andI rfl rfl bnd ?_ | refine sx_remT rfl rfl bnd ?_ | refine sx_err_ne rfl ?_ | refine sx_err_eq rfl ?_ | refine sx_errn_ne rfl ?_ | refine sx_errn_eq rfl ?_ | refine sx_pure (v := .bool _) rfl ?_ | refine sx_pure (v := .int _ _) rfl ?_) | ((with_reducible refine at_assign ?_); first | refine sx_assign _ vf ?_) | ((with_reducible refine at_load ?_); first | refine sx_loadE rfl pc gv ?_ | refine sx_loadWE rfl pc gl ?_ | (apply sx_loadB rfl; assumption; rfl) | (apply sx_loadBW rfl; assumption; rfl)) | ((with_reducible refine at_stores ?_); first | refine sx_stval _ vf ?_ | (apply sx_store rfl rfl rfl rfl; (repeat (first | exact set_z rfl | apply set_succ))) | (refine sx_rot rot1 ?_; (apply sx_store rfl rfl rfl rfl; (repeat (first | exact set_z rfl | apply set_succ)))) | (refine sx_rot rot2 ?_; (apply sx_store rfl rfl rfl rfl; (repeat (first | exact set_z rfl | apply set_succ)))) | (refine sx_rot rot3 ?_; (apply sx_store rfl rfl rfl rfl; (repeat (first | exact set_z rfl | apply set_succ)))) | (refine sx_rot rot4 ?_; (apply sx_store rfl rfl rfl rfl; (repeat (first | exact set_z rfl | apply set_succ)))) | (refine sx_rot rot5 ?_; (apply sx_store rfl rfl rfl rfl; (repeat (first | exact set_z rfl | apply set_succ)))) | (refine sx_rot rot6 ?_; (apply sx_store rfl rfl rfl rfl; (repeat (first | exact set_z rfl | apply set_succ)))) | (refine sx_rot rot7 ?_; (apply sx_store rfl rfl rfl rfl; (repeat (first | exact set_z rfl | apply set_succ)))) | refine sx_storeW rfl rfl rfl rfl ?_ | (refine sx_rot rot1 ?_; refine sx_storeW rfl rfl rfl rfl ?_) | (refine sx_rot rot2 ?_; refine sx_storeW rfl rfl rfl rfl ?_) | (refine sx_rot rot3 ?_; refine sx_storeW rfl rfl rfl rfl ?_) | (refine sx_rot rot4 ?_; refine sx_storeW rfl rfl rfl rfl ?_) | (refine sx_rot rot5 ?_; refine sx_storeW rfl rfl rfl rfl ?_) | (refine sx_rot rot6 ?_; refine sx_storeW rfl rfl rfl rfl ?_) | (refine sx_rot rot7 ?_; refine sx_storeW rfl rfl rfl rfl ?_)) | refine sx_nilCheck rfl ?_ | refine sx_fieldAddr rfl ?_ | refine sx_not rfl ?_ | refine sx_neg rfl bnd ?_ | ((with_reducible refine at_build ?_); first | refine sx_build _ blds ?_) | refine sx_extract rfl rfl ?_ | ((with_reducible refine at_pick ?_); first | refine sx_pickT (.int _ _) rfl dec rfl ?_ | refine sx_pickT (.bool _) rfl dec rfl ?_ | refine sx_pickF (.int _ _) rfl dec rfl ?_ | refine sx_pickF (.bool _) rfl dec rfl ?_) | ((with_reducible refine at_iface ?_); first | refine sx_iface _ vf ?_) | refine sx_index rfl rfl bnd ?_ | ((with_reducible refine at_ixaddr ?_); first | refine sx_place _ rfl rfl bnd plc ?_) | ((with_reducible refine at_conv ?_); first | refine sx_convIn rfl bnd ?_ | refine sx_convU8 rfl bnd ?_ | refine sx_convU8m rfl ?_ | refine sx_convU32m rfl ?_ | refine sx_convU64m rfl ?_) | refine sx_len rfl ?_ | refine sx_min rfl rfl ?_ | refine sx_max rfl rfl ?_ | refine sx_field rfl rfl ?_ | (refine sx_box rfl ?_; intro b) | (refine sx_box1 rfl rfl ?_; intro b) | (refine sx_alloc ?_; intro b) | (refine sx_alloc1 rfl ?_; intro b) | refine sx_pure vfs ?_) | refine sx_nil ?_ | ((with_reducible refine at_grp ?_); first | refine sx_grpN rfl ?_ | refine sx_grpC rfl ?_) | ((with_reducible refine at_aft ?_); first | refine sx_aftN rfl ?_ | refine sx_aftC rfl ?_) | ((with_reducible refine at_code ?_); first | refine cx_seq ?_ | refine cx_quiet rfl dk dk ?_ | refine cx_any dk ?_ | refine cx_region ?_ | refine cx_skip ?_ | refine cx_ret ?_ | refine cx_exit ?_ | refine cx_block ?_ | refine cx_true rfl ?_ | refine cx_false rfl ?_ | (refine cx_cond rfl (fun h => ?_) (fun h => ?_) <;> (try simp only [decide_eq_true_eq, decide_eq_false_iff_not, Bool.and_eq_true, Bool.or_eq_true, Bool.and_eq_false_iff, Bool.or_eq_false_iff, Bool.not_eq_true', Bool.not_eq_false', Bool.not_true, Bool.not_false, Bool.true_or, Bool.or_true, Bool.false_or, Bool.or_false, Bool.and_true, Bool.true_and, Bool.false_and, Bool.and_false, reduceCtorEq, Classical.not_not, beq_self_eq_true, bne_self_eq_false, not_true_eq_false, not_false_eq_true, or_false, false_or, or_true, true_or, and_true, true_and, and_false, false_and, or_self, and_self] at h) <;> (try (exfalso; omega)))) | ((with_reducible refine at_exit ?_); first | refine qx_then ?_ | exact qx_isF | refine qx_any ?_ | ((with_reducible refine at_K ?_); first | exact hK _ _ _ rfl ⟨rfl, rfl⟩ rfl | exact hK _ _ _ rfl rfl ⟨rfl, rfl⟩ rfl) | refine qx_in_here ?_ | refine qx_in_normal ?_ | refine qx_in_ret ?_ | refine qx_in_out rfl ?_ | refine qx_then_ret ?_ | refine qx_then_exit ?_))
    all_goals first
      | (exfalso; omega)
      | exact qx_ret1 (v := .bool _) [] rfl rfl ⟨rfl, rfl⟩ (fun w hm => hm.nil)
      | exact qx_ret1 (v := .bool _) [] rfl rfl ⟨by simp, rfl⟩ (fun w hm => hm.nil)
end Go.Proofs.YtoelbnhjamddgaaGreatDoor.addrTexts
