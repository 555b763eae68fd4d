/- frag: names as keys; New. -/
import Derived.Test.YtlpdapfihgpheaaDoorFragC
import Derived.Test.YtlpdapfihgpheaaDoorEngB
import Derived.Test.YtlpdapfihgpheaaDoorTypes
import Derived.Test.YtlpdapfihgpheaaDoorProg
import Derived.Laws.StructEq
import Derived.WalkKit
import Derived.KernelRfl
set_option linter.unusedSimpArgs false
set_option linter.unusedVariables false
set_option maxRecDepth 100000
namespace Go.Port
open Go.RowKit
/-- A packet's name: kind, source, destination, number. -/
abbrev Nm := Int × Int × Int × Int
def kvN (a : Nm) : Value := .agg #[.int .i64 a.1, .int .i64 a.2.1, .int .i64 a.2.2.1, .int .i64 a.2.2.2]
end Go.Port
namespace Go.Proofs.YtlpdapfihgpheaaDoor
open Go.RowKit Go.Port
attribute [local irreducible] Calls
theorem eq_name (a b : Nm) (w : World) : (Op.equal 67 (kvN a) (kvN b)).run Tryd.prog w = .ok (decide (a = b)) w := by
  obtain ⟨k, s, d, t⟩ := a
  obtain ⟨k', s', d', t'⟩ := b
  have u3 := Tryd.underlying3
  have a3 := Tryd.isAgg3
  have z3 := Tryd.sizeOf3
  have hS : Tryd.prog.underlying 67 = some (.struct (Tryd.prog.fieldsOf 67)) := by kernel_rfl
  unfold Op.equal
  rw [show Op.maxDepth = 9999 + 1 from rfl]
  unfold kvN
  rw [run_equalIn_agg w 9999 67 _ _ hS (by kernel_rfl)]
  simp only [Program.fieldsOf, Tryd.underlying67]
  go_simp
  by_cases h1 : k = k' <;> by_cases h2 : s = s' <;> by_cases h3 : d = d' <;> by_cases h4 : t = t' <;> simp [h1, h2, h3, h4]
theorem check_name (e : Bool) (a : Nm) (w : World) : (Instr.checkKey e 10000 67 (kvN a)).run Tryd.prog w = .ok () w := by
  obtain ⟨k, s, d, t⟩ := a
  have u3 := Tryd.underlying3
  have a3 := Tryd.isAgg3
  have z3 := Tryd.sizeOf3
  have hS : Tryd.prog.underlying 67 = some (.struct (Tryd.prog.fieldsOf 67)) := by kernel_rfl
  have hc : ∀ (v : Value) (w : World), (Instr.checkKey e 9999 3 v).run Tryd.prog w = .ok () w := fun v w => by
    rw [show (9999 : Nat) = 9998 + 1 from rfl, Instr.checkKey, Sem.run_bind, run_underlying u3]
    rfl
  rw [show (10000 : Nat) = 9999 + 1 from rfl]
  unfold kvN
  rw [Instr.checkKey, Sem.run_bind, run_underlying hS, Result.andThen_ok]
  simp only [Program.fieldsOf, Tryd.underlying67]
  generalize 9999 = N at hc
  go_simp
instance : KeyV Tryd.prog 67 Nm kvN where
  check := check_name
  find := fun M k w => find_key (d := .struct (Tryd.prog.fieldsOf 67)) (by kernel_rfl) (fun a b => rfl) eq_name M k w
  same := fun k => by
    rw [show (10000 : Nat) = 9998 + 1 + 1 from rfl]
    unfold kvN
    simp [Instr.sameBits]
instance : MpK Tryd.prog 60 67 68 := ⟨Tryd.underlying60⟩
/-- A pool's own cells. -/
def poolObj (life now : Int) (r : Nat) : Obj := .cells [.int .i64 life, .int .i64 now, .map (some r)].toArray 62 (0, 0)
set_option maxHeartbeats 4000000 in
theorem frag_New (life : Int) (w : World) :
    Calls Tryd.prog 10 #[.int .i64 life] w (Ret w [] (fun v L => ((life < 1 ∨ 1000000 < life) ∧ v = .tuple #[.pointer none, er 1] ∧ L = []) ∨ ((1 ≤ life ∧ life ≤ 1000000) ∧ ∃ pb r : Nat, v = .tuple #[.pointer (some ⟨pb, 0, none⟩), .nilIface] ∧ L = [[(pb, poolObj life 0 r)], [(r, kObj kvN [] 0)]]))) := by
  refine cx_enter (args := [.int .i64 life]) (F := [(0, .int .i64 life)]) _ [] Tryd.func10 rfl Tryd.ntmps10 (by simp) rfl (Mem.refl _) (fun g => ?_)
  repeat' (first | (refine sx_makeMapK kvN ?_; intro r) | ((with_reducible refine at_build ?_); refine sx_build [.int .i64 life, .int .i64 0, .map (some r)] rfl ?_) | ((with_reducible refine at_any ?_); first | (refine ax_pure (o := ⟨_, _, _, _, _, _⟩) rfl dk rfl rfl rfl rfl ?_; apply Exists.intro; refine And.intro (fun w => ?_) ?_) | refine ax_skip (o := ⟨_, _, _, _, _, _⟩) dk rfl rfl rfl rfl rfl rfl ras ?_ | refine ax_lone (o := ⟨_, _, _, _, _, _⟩) dk rfl ?_ | refine ax_over dk ?_) | ((with_reducible refine at_op ?_); first | ((with_reducible refine at_guard ?_); first | refine sx_want rfl rfl rfl ras ?_ | refine sx_skip rfl rfl rfl ras ?_ | refine sx_skipu rfl rfl rfl ?_ | refine sx_skip' rfl rfl rfl ras ?_ | refine sx_lit true rfl rfl rfl dec ?_ | refine sx_lit false rfl rfl rfl dec ?_ | (refine sx_orG rfl rfl rfl rfl rfl rfl ?_ (fun hb K hK => ?_); apply Exists.intro; refine And.intro (fun hb K hK => ?_) (fun g => ?_)) | (refine sx_andG rfl rfl rfl rfl rfl rfl ?_ (fun hb K hK => ?_); apply Exists.intro; refine And.intro (fun hb K hK => ?_) (fun g => ?_))) | ((with_reducible refine at_move ?_); first | refine sx_move _ vf ?_) | ((with_reducible refine at_bin ?_); first | refine sx_lss rfl rfl ?_ | refine sx_leq rfl rfl ?_ | refine sx_gtr rfl rfl ?_ | refine sx_geq rfl rfl ?_ | refine sx_eql rfl rfl ?_ | refine sx_neq rfl rfl ?_ | refine sx_add rfl rfl bnd ?_ | refine sx_sub rfl rfl bnd ?_ | refine sx_mul rfl rfl bnd ?_ | refine sx_quo rfl rfl bnd ?_ | refine sx_rem rfl rfl bnd ?_ | refine sx_subU8 rfl rfl bnd ?_ | refine sx_shr rfl rfl bnd ?_ | refine sx_shl8 rfl rfl bnd ?_ | refine sx_or8 rfl rfl bnd ?_ | refine sx_or15 rfl rfl bnd ?_ | refine sx_not15 rfl rfl bnd ?_ | refine sx_andI rfl rfl bnd ?_ | refine sx_remT rfl rfl bnd ?_ | refine sx_err_ne rfl ?_ | refine sx_err_eq rfl ?_ | refine sx_errn_ne rfl ?_ | refine sx_errn_eq rfl ?_ | refine sx_pure (v := .bool _) rfl ?_ | refine sx_pure (v := .int _ _) rfl ?_) | ((with_reducible refine at_assign ?_); first | refine sx_assign _ vf ?_) | ((with_reducible refine at_load ?_); first | refine sx_loadE rfl pc gv ?_ | refine sx_loadWE rfl pc gl ?_ | (apply sx_loadB rfl; assumption; rfl) | (apply sx_loadBW rfl; assumption; rfl)) | ((with_reducible refine at_stores ?_); first | refine sx_stval _ vf ?_ | refine sx_storeE rfl pr rfl rfl gb sets ?_ | refine sx_storeWE rfl pr rfl gl rfl ?_) | refine sx_nilCheck rfl ?_ | refine sx_fieldAddr rfl ?_ | refine sx_not rfl ?_ | refine sx_neg rfl bnd ?_ | ((with_reducible refine at_build ?_); first | refine sx_build _ blds ?_) | refine sx_extract rfl rfl ?_ | ((with_reducible refine at_pick ?_); first | refine sx_pickT (.int _ _) rfl dec rfl ?_ | refine sx_pickT (.bool _) rfl dec rfl ?_ | refine sx_pickF (.int _ _) rfl dec rfl ?_ | refine sx_pickF (.bool _) rfl dec rfl ?_) | ((with_reducible refine at_iface ?_); first | refine sx_iface _ vf ?_) | refine sx_index rfl rfl bnd ?_ | ((with_reducible refine at_ixaddr ?_); first | refine sx_place _ rfl rfl bnd plc ?_) | refine sx_sliceFrom rfl rfl bnd ?_ | refine sx_sliceTo rfl rfl bnd ?_ | refine sx_sliceBoth rfl rfl rfl bnd ?_ | refine sx_sliceFull rfl rfl rfl bnd ?_ | ((with_reducible refine at_conv ?_); first | refine sx_convIn rfl bnd ?_ | refine sx_convU8 rfl bnd ?_ | refine sx_convU8m rfl ?_ | refine sx_convU32m rfl ?_ | refine sx_convU64m rfl ?_) | ((with_reducible refine at_buildS ?_); first | (refine sx_buildS _ rfl rfl rfl bcs rfl ?_; intro b)) | ((with_reducible refine at_append ?_); first | (refine sx_append1 (v := .slice _ _ _) rfl rfl rotN (OwnS.nil _ _) rfl bnd rfl bnd ?_; intro v c ho; obtain ⟨A, cp, rfl, hcp⟩ := ho.len) | (refine sx_append1 (v := .slice _ _ _) rfl rfl rot0 asm rfl bnd rfl bnd ?_; intro v c ho; obtain ⟨A, cp, rfl, hcp⟩ := ho.len) | (refine sx_append1 (v := .slice _ _ _) rfl rfl rot1 asm rfl bnd rfl bnd ?_; intro v c ho; obtain ⟨A, cp, rfl, hcp⟩ := ho.len) | (refine sx_append1 (v := .slice _ _ _) rfl rfl rot2 asm rfl bnd rfl bnd ?_; intro v c ho; obtain ⟨A, cp, rfl, hcp⟩ := ho.len) | (refine sx_append1 (v := .slice _ _ _) rfl rfl rot3 asm rfl bnd rfl bnd ?_; intro v c ho; obtain ⟨A, cp, rfl, hcp⟩ := ho.len) | (refine sx_append1 (v := .slice _ _ _) rfl rfl rot4 asm rfl bnd rfl bnd ?_; intro v c ho; obtain ⟨A, cp, rfl, hcp⟩ := ho.len) | (refine sx_append1 (v := .slice _ _ _) rfl rfl rot5 asm rfl bnd rfl bnd ?_; intro v c ho; obtain ⟨A, cp, rfl, hcp⟩ := ho.len) | (refine sx_append1 (v := .slice _ _ _) rfl rfl rot6 asm rfl bnd rfl bnd ?_; intro v c ho; obtain ⟨A, cp, rfl, hcp⟩ := ho.len) | (refine sx_append1 (v := .slice _ _ _) rfl rfl rot7 asm rfl bnd rfl bnd ?_; intro v c ho; obtain ⟨A, cp, rfl, hcp⟩ := ho.len) | (refine sx_append1 (v := .slice _ _ _) rfl rfl rot8 asm rfl bnd rfl bnd ?_; intro v c ho; obtain ⟨A, cp, rfl, hcp⟩ := ho.len)) | refine sx_len rfl ?_ | refine sx_min rfl rfl ?_ | refine sx_max rfl rfl ?_ | refine sx_field rfl rfl ?_ | (refine sx_box rfl ?_; intro b) | (refine sx_box1 rfl rfl ?_; intro b) | (refine sx_alloc ?_; intro b) | (refine sx_alloc1 rfl ?_; intro b) | refine sx_pure vfs ?_) | refine sx_nil ?_ | ((with_reducible refine at_grp ?_); first | refine sx_grpN rfl ?_ | refine sx_grpC rfl ?_) | ((with_reducible refine at_aft ?_); first | refine sx_aftN rfl ?_ | refine sx_aftC rfl ?_) | ((with_reducible refine at_code ?_); first | refine cx_seq ?_ | refine cx_quiet rfl dk dk ?_ | refine cx_any dk ?_ | refine cx_region ?_ | refine cx_skip ?_ | refine cx_ret ?_ | refine cx_exit ?_ | refine cx_block ?_ | refine cx_true rfl ?_ | refine cx_false rfl ?_ | (refine cx_cond rfl (fun h => ?_) (fun h => ?_) <;> (try simp only [decide_eq_true_eq, decide_eq_false_iff_not, Bool.and_eq_true, Bool.or_eq_true, Bool.and_eq_false_iff, Bool.or_eq_false_iff, Bool.not_eq_true', Bool.not_eq_false', Bool.not_true, Bool.not_false, Bool.true_or, Bool.or_true, Bool.false_or, Bool.or_false, Bool.and_true, Bool.true_and, Bool.false_and, Bool.and_false, reduceCtorEq, Classical.not_not, beq_self_eq_true, bne_self_eq_false, not_true_eq_false, not_false_eq_true, or_false, false_or, or_true, true_or, and_true, true_and, and_false, false_and, or_self, and_self] at h) <;> (try (exfalso; omega)))) | ((with_reducible refine at_exit ?_); first | refine qx_then ?_ | exact qx_isF | refine qx_any ?_ | ((with_reducible refine at_K ?_); first | exact hK _ _ _ rfl ⟨rfl, rfl⟩ rfl | exact hK _ _ _ rfl rfl ⟨rfl, rfl⟩ rfl) | refine qx_in_here ?_ | refine qx_in_normal ?_ | refine qx_in_ret ?_ | refine qx_in_out rfl ?_ | refine qx_then_ret ?_ | refine qx_then_exit ?_))
  · refine qx_ret2 (v := .pointer none) (x := .iface _ _) [] rfl rfl rfl (.inl ⟨by omega, ?_, rfl⟩) (fun w hm => hm.nil)
    rw [er, errV_ne (by decide)]
  · exact qx_ret2 (v := .pointer _) (x := .nilIface) [_, _] rfl rfl rfl (.inr ⟨by omega, _, r, rfl, rfl⟩) (fun w hm => hm)
end Go.Proofs.YtlpdapfihgpheaaDoor
