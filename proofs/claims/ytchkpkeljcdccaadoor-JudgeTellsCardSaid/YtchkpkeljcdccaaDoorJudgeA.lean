/- judge.Fits: is a rule one for a key? -/
import Derived.Test.YtchkpkeljcdccaaDoorRuleC
import Derived.Test.YtchkpkeljcdccaaDoorSpanB
set_option linter.unusedSimpArgs false
set_option linter.unusedVariables false
set_option maxRecDepth 100000
namespace Go.Port
/-- A rule is one for a key. -/
def fitsR (rw_ kind sa sl da dl : Int) (lf lt : List Sp) (k s f d t w : Int) : Prop :=
  (rw_ = 0 ∨ rw_ = w) ∧ (kind = 0 ∨ kind = k) ∧ pxHas sa sl s ∧ pxHas da dl d ∧ (lf.length = 0 ∨ (spE lf = 0 ∧ hasS lf f)) ∧ (lt.length = 0 ∨ (spE lt = 0 ∧ hasS lt t))
theorem tri (a b : Bool) : (a = false ∧ b = false) ∨ (a = true ∨ (a = false ∧ b = true)) := by
  cases a <;> cases b <;> simp
theorem fits_cases (x1 x2 x3 x4 x5 x6 S Dd Cf Ct : Bool) : ((x1 = false ∧ x2 = false)) ∨
    ((x1 = true ∨ (x1 = false ∧ x2 = true)) ∧ (x3 = false ∧ x4 = false)) ∨
    ((x1 = true ∨ (x1 = false ∧ x2 = true)) ∧ (x3 = true ∨ (x3 = false ∧ x4 = true)) ∧ S = false) ∨
    ((x1 = true ∨ (x1 = false ∧ x2 = true)) ∧ (x3 = true ∨ (x3 = false ∧ x4 = true)) ∧ S = true ∧ Dd = false) ∨
    ((x1 = true ∨ (x1 = false ∧ x2 = true)) ∧ (x3 = true ∨ (x3 = false ∧ x4 = true)) ∧ S = true ∧ Dd = true ∧ (x5 = false ∧ Cf = false)) ∨
    ((x1 = true ∨ (x1 = false ∧ x2 = true)) ∧ (x3 = true ∨ (x3 = false ∧ x4 = true)) ∧ S = true ∧ Dd = true ∧ (x5 = true ∨ (x5 = false ∧ Cf = true)) ∧ (x6 = false ∧ Ct = false)) ∨
    ((x1 = true ∨ (x1 = false ∧ x2 = true)) ∧ (x3 = true ∨ (x3 = false ∧ x4 = true)) ∧ S = true ∧ Dd = true ∧ (x5 = true ∨ (x5 = false ∧ Cf = true)) ∧ (x6 = true ∨ (x6 = false ∧ Ct = true))) := by
  rcases tri x1 x2 with h1 | h1
  · exact .inl h1
  refine .inr ?_
  rcases tri x3 x4 with h2 | h2
  · exact .inl ⟨h1, h2⟩
  refine .inr ?_
  cases S
  · exact .inl ⟨h1, h2, rfl⟩
  refine .inr ?_
  cases Dd
  · exact .inl ⟨h1, h2, rfl, rfl⟩
  refine .inr ?_
  rcases tri x5 Cf with h3 | h3
  · exact .inl ⟨h1, h2, rfl, rfl, h3⟩
  refine .inr ?_
  rcases tri x6 Ct with h4 | h4
  · exact .inl ⟨h1, h2, rfl, rfl, h3, h4⟩
  · exact .inr ⟨h1, h2, rfl, rfl, h3, h4⟩
end Go.Port
namespace Go.Proofs.YtchkpkeljcdccaaDoor
open Go.RowKit Go.Port
attribute [local irreducible] Calls spE pxHas
open Classical in
set_option maxHeartbeats 16000000 in
theorem judge_Fits (ps qk kp : Bool) (rw_ kind sa sl da dl k s f d t wy : Int) {FA TA : Option Addr} {fl fc tl tc : Nat} {lf lt : List Sp} {w : World} (hf : IsSl w 2 FA fl fc (rowsS lf)) (hfl : fl = lf.length) (ht : IsSl w 2 TA tl tc (rowsS lt)) (htl : tl = lt.length) :
    Calls Tryd.prog 39 #[.agg #[.bool ps, .bool qk, .bool kp, .int .i64 rw_, .int .i64 kind, .int .i64 sa, .int .i64 sl, .int .i64 da, .int .i64 dl, .slice FA fl fc, .slice TA tl tc], .agg #[.int .i64 k, .int .i64 s, .int .i64 f, .int .i64 d, .int .i64 t], .int .i64 wy] w (Ret w [] (isV (.bool (decide (fitsR rw_ kind sa sl da dl lf lt k s f d t wy))))) := by
  refine cx_enter (args := [.agg #[.bool ps, .bool qk, .bool kp, .int .i64 rw_, .int .i64 kind, .int .i64 sa, .int .i64 sl, .int .i64 da, .int .i64 dl, .slice FA fl fc, .slice TA tl tc], .agg #[.int .i64 k, .int .i64 s, .int .i64 f, .int .i64 d, .int .i64 t], .int .i64 wy]) (F := [(0, .agg #[.bool ps, .bool qk, .bool kp, .int .i64 rw_, .int .i64 kind, .int .i64 sa, .int .i64 sl, .int .i64 da, .int .i64 dl, .slice FA fl fc, .slice TA tl tc]), (1, .agg #[.int .i64 k, .int .i64 s, .int .i64 f, .int .i64 d, .int .i64 t]), (2, .int .i64 wy)]) _ [] Tryd.func39 rfl Tryd.ntmps39 (by simp) rfl (Mem.refl _) (fun g => ?_)
  have hs1 := fun w => addr_Has sa sl s w
  have hs2 := fun w => addr_Has da dl d w
  have hp1 := fun w' (h : IsSl w' 2 FA fl fc (rowsS lf)) => span_Has (n := f) h hfl
  have hp2 := fun w' (h : IsSl w' 2 TA tl tc (rowsS lt)) => span_Has (n := t) h htl
  obtain ⟨S, hS⟩ : ∃ B, decide (pxHas sa sl s) = B := ⟨_, rfl⟩
  obtain ⟨Dd, hD⟩ : ∃ B, decide (pxHas da dl d) = B := ⟨_, rfl⟩
  obtain ⟨Cf, hC⟩ : ∃ B, decide (spE lf = 0 ∧ hasS lf f) = B := ⟨_, rfl⟩
  obtain ⟨Ct, hT⟩ : ∃ B, decide (spE lt = 0 ∧ hasS lt t) = B := ⟨_, rfl⟩
  have hV : decide (fitsR rw_ kind sa sl da dl lf lt k s f d t wy) = ((decide (rw_ = 0) || decide (rw_ = wy)) && ((decide (kind = 0) || decide (kind = k)) && (S && (Dd && ((decide ((fl : Int) = 0) || Cf) && (decide ((tl : Int) = 0) || Ct)))))) := by
    rw [← hS, ← hD, ← hC, ← hT, show decide ((fl : Int) = 0) = decide (lf.length = 0) by rw [decide_eq_decide]; omega, show decide ((tl : Int) = 0) = decide (lt.length = 0) by rw [decide_eq_decide]; omega]
    simp only [← Bool.decide_or, ← Bool.decide_and]
    exact decide_eq_decide.2 Iff.rfl
  rw [hS] at hs1
  rw [hD] at hs2
  rw [hC] at hp1
  rw [hT] at hp2
  rw [hV]
  clear hV hS hD hC hT hfl htl
  have hc : ((decide (rw_ = 0) = false ∧ decide (rw_ = wy) = false)) ∨
    ((decide (rw_ = 0) = true ∨ (decide (rw_ = 0) = false ∧ decide (rw_ = wy) = true)) ∧ (decide (kind = 0) = false ∧ decide (kind = k) = false)) ∨
    ((decide (rw_ = 0) = true ∨ (decide (rw_ = 0) = false ∧ decide (rw_ = wy) = true)) ∧ (decide (kind = 0) = true ∨ (decide (kind = 0) = false ∧ decide (kind = k) = true)) ∧ S = false) ∨
    ((decide (rw_ = 0) = true ∨ (decide (rw_ = 0) = false ∧ decide (rw_ = wy) = true)) ∧ (decide (kind = 0) = true ∨ (decide (kind = 0) = false ∧ decide (kind = k) = true)) ∧ S = true ∧ Dd = false) ∨
    ((decide (rw_ = 0) = true ∨ (decide (rw_ = 0) = false ∧ decide (rw_ = wy) = true)) ∧ (decide (kind = 0) = true ∨ (decide (kind = 0) = false ∧ decide (kind = k) = true)) ∧ S = true ∧ Dd = true ∧ (decide ((fl : Int) = 0) = false ∧ Cf = false)) ∨
    ((decide (rw_ = 0) = true ∨ (decide (rw_ = 0) = false ∧ decide (rw_ = wy) = true)) ∧ (decide (kind = 0) = true ∨ (decide (kind = 0) = false ∧ decide (kind = k) = true)) ∧ S = true ∧ Dd = true ∧ (decide ((fl : Int) = 0) = true ∨ (decide ((fl : Int) = 0) = false ∧ Cf = true)) ∧ (decide ((tl : Int) = 0) = false ∧ Ct = false)) ∨
    ((decide (rw_ = 0) = true ∨ (decide (rw_ = 0) = false ∧ decide (rw_ = wy) = true)) ∧ (decide (kind = 0) = true ∨ (decide (kind = 0) = false ∧ decide (kind = k) = true)) ∧ S = true ∧ Dd = true ∧ (decide ((fl : Int) = 0) = true ∨ (decide ((fl : Int) = 0) = false ∧ Cf = true)) ∧ (decide ((tl : Int) = 0) = true ∨ (decide ((tl : Int) = 0) = false ∧ Ct = true))) := by
    exact fits_cases _ _ _ _ _ _ _ _ _ _
  rcases hc with ⟨p1, p2⟩ | ⟨(p1 | ⟨p1, p2⟩), q1, q2⟩ | ⟨(p1 | ⟨p1, p2⟩), (q1 | ⟨q1, q2⟩), rfl⟩ | ⟨(p1 | ⟨p1, p2⟩), (q1 | ⟨q1, q2⟩), rfl, rfl⟩ | ⟨(p1 | ⟨p1, p2⟩), (q1 | ⟨q1, q2⟩), rfl, rfl, c1, rfl⟩ | ⟨(p1 | ⟨p1, p2⟩), (q1 | ⟨q1, q2⟩), rfl, rfl, (c1 | ⟨c1, rfl⟩), d1, rfl⟩ | ⟨(p1 | ⟨p1, p2⟩), (q1 | ⟨q1, q2⟩), rfl, rfl, (c1 | ⟨c1, rfl⟩), (d1 | ⟨d1, rfl⟩)⟩
  all_goals
    repeat' (first | ((with_reducible refine at_load ?_); first | refine sx_loadV 0 [_, _] rfl rfl rfl rfl ?_ | refine sx_loadV 1 [_, _] rfl rfl rfl rfl ?_) | ((with_reducible refine at_call 11 ?_); refine sx_callv (fun w hm => hs1 _) ?_ rfl) | ((with_reducible refine at_call 11 ?_); refine sx_callv (fun w hm => hs2 _) ?_ rfl) | ((with_reducible refine at_call 31 ?_); refine sx_callv (fun w hm => hp1 _ (hf.mem hm.nil)) ?_ rfl) | ((with_reducible refine at_call 31 ?_); refine sx_callv (fun w hm => hp2 _ (ht.mem hm.nil)) ?_ rfl) | ((with_reducible refine at_any ?_); first | (refine ax_pure (o := ⟨_, _, _, _, _, _⟩) rfl dk rfl rfl rfl rfl ?_; apply Exists.intro; refine And.intro (fun w => ?_) ?_) | refine ax_skip (o := ⟨_, _, _, _, _, _⟩) dk rfl rfl rfl rfl rfl rfl ras ?_ | refine ax_lone (o := ⟨_, _, _, _, _, _⟩) dk rfl ?_ | refine ax_over dk ?_) | ((with_reducible refine at_op ?_); first | ((with_reducible refine at_guard ?_); first | refine sx_want rfl rfl rfl ras ?_ | refine sx_skip rfl rfl rfl ras ?_ | refine sx_skipu rfl rfl rfl ?_ | refine sx_skip' rfl rfl rfl ras ?_ | refine sx_lit true rfl rfl rfl dec ?_ | refine sx_lit false rfl rfl rfl dec ?_ | (refine sx_orG rfl rfl rfl rfl rfl rfl ?_ (fun hb K hK => ?_); apply Exists.intro; refine And.intro (fun hb K hK => ?_) (fun g => ?_)) | (refine sx_andG rfl rfl rfl rfl rfl rfl ?_ (fun hb K hK => ?_); apply Exists.intro; refine And.intro (fun hb K hK => ?_) (fun g => ?_))) | ((with_reducible refine at_move ?_); first | refine sx_move _ vf ?_) | ((with_reducible refine at_bin ?_); first | refine sx_lss rfl rfl ?_ | refine sx_leq rfl rfl ?_ | refine sx_gtr rfl rfl ?_ | refine sx_geq rfl rfl ?_ | refine sx_eql rfl rfl ?_ | refine sx_neq rfl rfl ?_ | refine sx_add rfl rfl bnd ?_ | refine sx_sub rfl rfl bnd ?_ | refine sx_mul rfl rfl bnd ?_ | refine sx_quo rfl rfl bnd ?_ | refine sx_rem rfl rfl bnd ?_ | refine sx_subU8 rfl rfl bnd ?_ | refine sx_shr rfl rfl bnd ?_ | refine sx_shl8 rfl rfl bnd ?_ | refine sx_or8 rfl rfl bnd ?_ | refine sx_or15 rfl rfl bnd ?_ | refine sx_not15 rfl rfl bnd ?_ | refine sx_andI rfl rfl bnd ?_ | refine sx_remT rfl rfl bnd ?_ | refine sx_err_ne rfl ?_ | refine sx_err_eq rfl ?_ | refine sx_errn_ne rfl ?_ | refine sx_errn_eq rfl ?_ | refine sx_pure (v := .bool _) rfl ?_ | refine sx_pure (v := .int _ _) rfl ?_) | ((with_reducible refine at_assign ?_); first | refine sx_assign _ vf ?_) | ((with_reducible refine at_load ?_); first | refine sx_loadE rfl pc gv ?_ | refine sx_loadWE rfl pc gl ?_ | (apply sx_loadB rfl; assumption; rfl) | (apply sx_loadBW rfl; assumption; rfl)) | refine sx_nilCheck rfl ?_ | refine sx_fieldAddr rfl ?_ | refine sx_not rfl ?_ | refine sx_neg rfl bnd ?_ | ((with_reducible refine at_build ?_); first | refine sx_build _ blds ?_) | refine sx_extract rfl rfl ?_ | ((with_reducible refine at_pick ?_); first | refine sx_pickT (.int _ _) rfl dec rfl ?_ | refine sx_pickT (.bool _) rfl dec rfl ?_ | refine sx_pickF (.int _ _) rfl dec rfl ?_ | refine sx_pickF (.bool _) rfl dec rfl ?_) | ((with_reducible refine at_iface ?_); first | refine sx_iface _ vf ?_) | refine sx_index rfl rfl bnd ?_ | ((with_reducible refine at_ixaddr ?_); first | refine sx_place _ rfl rfl bnd plc ?_) | refine sx_len rfl ?_ | refine sx_min rfl rfl ?_ | refine sx_max rfl rfl ?_ | refine sx_field rfl rfl ?_ | (refine sx_box rfl ?_; intro b) | (refine sx_box1 rfl rfl ?_; intro b) | (refine sx_alloc ?_; intro b) | (refine sx_alloc1 rfl ?_; intro b) | refine sx_pure vfs ?_) | refine sx_nil ?_ | ((with_reducible refine at_grp ?_); first | refine sx_grpN rfl ?_ | refine sx_grpC rfl ?_) | ((with_reducible refine at_aft ?_); first | refine sx_aftN rfl ?_ | refine sx_aftC rfl ?_) | ((with_reducible refine at_code ?_); first | refine cx_seq ?_ | refine cx_quiet rfl dk dk ?_ | refine cx_any dk ?_ | refine cx_region ?_ | refine cx_skip ?_ | refine cx_ret ?_ | refine cx_exit ?_ | refine cx_block ?_ | refine cx_true rfl ?_ | refine cx_false rfl ?_ | (refine cx_cond rfl (fun h => ?_) (fun h => ?_) <;> (try simp only [decide_eq_true_eq, decide_eq_false_iff_not, Bool.and_eq_true, Bool.or_eq_true, Bool.and_eq_false_iff, Bool.or_eq_false_iff, Bool.not_eq_true', Bool.not_eq_false', Bool.not_true, Bool.not_false, Bool.true_or, Bool.or_true, Bool.false_or, Bool.or_false, Bool.and_true, Bool.true_and, Bool.false_and, Bool.and_false, reduceCtorEq, Classical.not_not, beq_self_eq_true, bne_self_eq_false, not_true_eq_false, not_false_eq_true, or_false, false_or, or_true, true_or, and_true, true_and, and_false, false_and, or_self, and_self] at h) <;> (try (exfalso; omega)))) | ((with_reducible refine at_exit ?_); first | refine qx_then ?_ | exact qx_isF | refine qx_any ?_ | ((with_reducible refine at_K ?_); first | exact hK _ _ _ rfl ⟨rfl, rfl⟩ rfl | exact hK _ _ _ rfl rfl ⟨rfl, rfl⟩ rfl) | refine qx_in_here ?_ | refine qx_in_normal ?_ | refine qx_in_ret ?_ | refine qx_in_out rfl ?_ | refine qx_then_ret ?_ | refine qx_then_exit ?_))
    exact qx_ret1 (v := .bool _) [] rfl rfl ⟨by first | (simp only [*] <;> rfl; done) | (simp only [*, Bool.true_or, Bool.false_or, Bool.true_and, Bool.false_and, Bool.or_true, Bool.or_false, Bool.and_false, Bool.and_true]; done) | (simp [*]; done), rfl⟩ (fun w hm => hm.nil)
end Go.Proofs.YtchkpkeljcdccaaDoor
