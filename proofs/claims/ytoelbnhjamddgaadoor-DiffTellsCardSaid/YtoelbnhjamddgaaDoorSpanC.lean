/- span: Tidy. -/
import Derived.Test.YtoelbnhjamddgaaDoorSpanS
import Derived.Test.YtoelbnhjamddgaaDoorSpanA
import Derived.Test.YtoelbnhjamddgaaDoorEngB
set_option linter.unusedSimpArgs false
set_option linter.unusedVariables false
set_option maxRecDepth 100000
namespace Go.Port
open Go.RowKit
theorem rows_one (l : List Sp) : ∀ u ∈ rowsS l, u.oneCell' = true := by
  intro u hu
  unfold rowsS at hu
  obtain ⟨x, _, hx⟩ := List.mem_flatMap.1 hu
  simp [encS] at hx
  rcases hx with rfl | rfl <;> rfl
theorem rowsS_last {dn : List Sp} {x y : Int} {ext : List Value} : (rowsS (dn ++ [(x, y)]) ++ ext)[dn.length * 2 + 1]? = some (.int .i64 y) := by
  rw [List.getElem?_append_left (by rw [rowsS_len, List.length_append, List.length_singleton]; omega), rowsS_at, show (dn.length * 2 + 1) / 2 = dn.length by omega, show (dn.length * 2 + 1) % 2 = 1 by omega, List.getElem?_append_right (Nat.le_refl _), Nat.sub_self]
  rfl
theorem rowsS_set {dn : List Sp} {x y v : Int} {ext : List Value} : (rowsS (dn ++ [(x, y)]) ++ ext).set (dn.length * 2 + 1) (.int .i64 v) = rowsS (dn ++ [(x, v)]) ++ ext := by
  have e : ∀ z : Int, rowsS (dn ++ [(x, z)]) = rowsS dn ++ [.int .i64 x, .int .i64 z] := fun z => by unfold rowsS; rw [List.flatMap_append]; rfl
  rw [e, e, List.append_assoc, List.append_assoc, List.set_append_right _ _ (by rw [rowsS_len]; omega), rowsS_len, show dn.length * 2 + 1 - dn.length * 2 = 1 by omega]
  rfl
theorem rowsS_app (l m : List Sp) : rowsS (l ++ m) = rowsS l ++ rowsS m := by unfold rowsS; rw [List.flatMap_append]
end Go.Port
namespace Go.Proofs.YtoelbnhjamddgaaDoor
open Go.RowKit Go.Port
attribute [local irreducible] Calls
theorem clone_spans {A0 : Option Addr} {len cap : Nat} {l : List Sp} {w : World} (h : IsSl w 2 A0 len cap (rowsS l)) (hl : len = l.length) (hlen : len ≤ 100000) :
    Calls Tryd.prog 60 #[.slice A0 len cap] w (Ret w [] (fun v L => ∃ A' cap' c, v = .slice A' len cap' ∧ L = [c] ∧ OwnS 99 2 (.slice A' len cap') len (rowsS l) c)) := by
  cases A0 with
  | none =>
    have h0 : len = 0 := by
      rcases h.2 with h2 | ⟨b, o, h2, _⟩
      · exact h2
      · cases h2
    subst h0
    obtain rfl : l = [] := List.eq_nil_of_length_eq_zero hl.symm
    refine cx_enter (args := [.slice none 0 cap]) (F := [(0, .slice none 0 cap)]) _ [] Tryd.func60 rfl Tryd.ntmps60 (by simp) rfl (Mem.refl _) (fun g => ?_)
    repeat' (first | ((with_reducible refine at_op ?_); first | ((with_reducible refine at_move ?_); refine sx_move _ vf ?_) | ((with_reducible refine at_bin ?_); refine sx_pure (v := .bool _) rfl ?_) | ((with_reducible refine at_assign ?_); refine sx_assign _ vf ?_)) | refine sx_nil ?_ | ((with_reducible refine at_code ?_); first | refine cx_seq ?_ | refine cx_region ?_ | refine cx_ret ?_ | refine cx_true rfl ?_) | ((with_reducible refine at_exit ?_); first | refine qx_then ?_ | refine qx_then_ret ?_))
    exact qx_ret1 (v := .slice none 0 0) [[]] rfl rfl ⟨_, _, [], rfl, rfl, OwnS.nil _ _⟩ (fun w hm => rotN.mem hm)
  | some a =>
    refine cx_enter (args := [.slice (some a) len cap]) (F := [(0, .slice (some a) len cap)]) _ [] Tryd.func60 rfl Tryd.ntmps60 (by simp) rfl (Mem.refl _) (fun g => ?_)
    repeat' (first | (with_reducible refine at_append ?_); refine sx_append (ys := rowsS l) rfl rfl rot0 (OwnS.lit _ _ _ _ [] rfl (by decide)) (fun w hm => h.mem hm.nil) (rows_one l) (by omega) ?_; intro v c ho; obtain ⟨A, cp, rfl, hcp⟩ := ho.len | ((with_reducible refine at_op ?_); first | ((with_reducible refine at_move ?_); refine sx_move _ vf ?_) | ((with_reducible refine at_bin ?_); refine sx_pure (v := .bool _) rfl ?_) | ((with_reducible refine at_assign ?_); refine sx_assign _ vf ?_) | ((with_reducible refine at_buildS ?_); (refine sx_buildS _ rfl rfl rfl bcs rfl ?_; intro b))) | refine sx_nil ?_ | ((with_reducible refine at_code ?_); first | refine cx_seq ?_ | refine cx_region ?_ | refine cx_skip ?_ | refine cx_ret ?_ | refine cx_false rfl ?_) | ((with_reducible refine at_exit ?_); refine qx_then ?_))
    rw [Nat.zero_add] at *
    exact qx_ret1 (v := .slice _ _ _) [_] rfl rfl ⟨_, _, _, rfl, rfl, by assumption⟩ (fun w hm => hm)
set_option maxHeartbeats 8000000 in
theorem span_TidyG {A0 : Option Addr} {len cap : Nat} {l : List Sp} {w : World} (hrow : IsSl w 2 A0 len cap (rowsS l)) (hl : len = l.length) (hlen : l.length ≤ 100000) (hok : ∀ s ∈ l, ¬ spBad s) :
    Calls Tryd.prog 134 #[.slice A0 len cap] w (Ret w [] (fun v L => ∃ A' m' cap' c out, v = .slice A' m' cap' ∧ L = [c] ∧ OwnS 99 2 (.slice A' m' cap') m' (rowsS out) c ∧ m' = out.length ∧ TidyOf l out)) := by
  refine cx_enter (args := [.slice A0 len cap]) (F := [(0, .slice A0 len cap)]) _ [] Tryd.func134 rfl Tryd.ntmps134 (by simp) rfl (Mem.refl _) (fun g => ?_)
  repeat' (first | (with_reducible refine stop_rs 3 ?_) | ((with_reducible refine at_call 60 ?_); refine sx_call0 (fun w hm => clone_spans (hrow.mem hm.nil) hl (by omega)) ?_; rintro _ _ ⟨As, caps, cs, rfl, rfl, hos⟩; refine sx_app1 ?_) | ((with_reducible refine at_call 137 ?_); (first | (refine sx_rot rot0 ?_; refine sx_call (fun w hm => sort_spans hm.self hos hl (by omega)) ?_) | (refine sx_rot rot1 ?_; refine sx_call (fun w hm => sort_spans hm.self hos hl (by omega)) ?_) | (refine sx_rot rot2 ?_; refine sx_call (fun w hm => sort_spans hm.self hos hl (by omega)) ?_) | (refine sx_rot rot3 ?_; refine sx_call (fun w hm => sort_spans hm.self hos hl (by omega)) ?_)); rintro _ _ ⟨rfl, d, cd, rfl, hod, hperm, hrise⟩; refine sx_app1 ?_) | ((with_reducible refine at_op ?_); first | ((with_reducible refine at_move ?_); refine sx_move _ vf ?_) | ((with_reducible refine at_assign ?_); refine sx_assign _ vf ?_)) | refine sx_nil ?_ | ((with_reducible refine at_code ?_); first | refine cx_seq ?_ | refine cx_region ?_) | ((with_reducible refine at_exit ?_); refine qx_then ?_))
  refine halt_go ?_
  have hdl : d.length = l.length := hperm.length_eq
  have hvl : ∀ s ∈ l, s.1 ≤ s.2 := fun s hs => by have := hok s hs; unfold spBad at this; omega
  have hT := tidy_of hvl hperm hrise
  have hbd : ∀ s ∈ d, ¬ spBad s := fun s hs => hok s (hperm.mem_iff.1 hs)
  obtain ⟨bs, hAs⟩ := hod.base'
  clear hos hok hvl hrow
  repeat' (first | ((with_reducible refine at_op ?_); first | ((with_reducible refine at_move ?_); refine sx_move _ vf ?_) | refine sx_len rfl ?_) | refine sx_nil ?_ | ((with_reducible refine at_code ?_); first | refine cx_seq ?_ | refine cx_region ?_ | refine cx_block ?_) | ((with_reducible refine at_exit ?_); refine qx_then ?_))
  refine cx_mem (L' := [[], cd]) ?_ (fun w hm => rotN.mem hm)
  refine cx_loop (fun mm fr L => ∃ (i : Nat) (Ao : Option Addr) (mo co : Nat) (cO : Ch) (out : List Sp), FF fr [(2, .slice Ao mo co), (10, .slice As len caps), (11, .int .i64 len), (12, .int .i64 i)] ∧ L = [cO, cd] ∧ OwnS 99 2 (.slice Ao mo co) mo (rowsS out) cO ∧ mo = out.length ∧ mo ≤ i ∧ i ≤ len ∧ mm = len - i ∧ ((i = 0 ∧ out = []) ∨ ∃ dn a b, out = dn ++ [(a, b)] ∧ tidyL d = dn ++ stpS a b (d.drop i) ∧ (0 ≤ a ∧ a ≤ 65535 ∧ 0 ≤ b ∧ b ≤ 65535))) len ?_ ?_
  · exact ⟨0, none, 0, 0, [], [], ffr, rfl, OwnS.nil _ _, rfl, by omega, by omega, rfl, .inl ⟨rfl, rfl⟩⟩
  rintro mm fr L ⟨i, Ao, mo, co, cO, out, hF, rfl, hoo, hmo, hmi, hi, hmm, hst⟩ K hK
  subst hmm
  refine cx_use hF fun g => ?_
  clear hF
  by_cases hin : i < len
  rotate_left
  · repeat' (first | ((with_reducible refine at_op ?_); first | ((with_reducible refine at_move ?_); refine sx_move _ vf ?_) | ((with_reducible refine at_bin ?_); refine sx_lss rfl rfl ?_) | ((with_reducible refine at_assign ?_); refine sx_assign _ vf ?_)) | refine sx_nil ?_ | ((with_reducible refine at_code ?_); first | refine cx_seq ?_ | refine cx_region ?_ | refine cx_ret ?_ | refine cx_exit ?_ | (refine cx_cond rfl (fun h => ?_) (fun h => ?_) <;> (try simp only [decide_eq_true_eq, decide_eq_false_iff_not, Bool.and_eq_true, Bool.or_eq_true, Bool.and_eq_false_iff, Bool.or_eq_false_iff, Bool.not_eq_true', Bool.not_eq_false', Bool.not_true, Bool.not_false, Bool.true_or, Bool.or_true, Bool.false_or, Bool.or_false, Bool.and_true, Bool.true_and, Bool.false_and, Bool.and_false, reduceCtorEq, Classical.not_not, beq_self_eq_true, bne_self_eq_false, not_true_eq_false, not_false_eq_true, or_false, false_or, or_true, true_or, and_true, true_and, and_false, false_and, or_self, and_self] at h) <;> (try (exfalso; omega)))) | ((with_reducible refine at_exit ?_); first | refine qx_then ?_ | refine qx_in_here ?_ | refine qx_then_exit ?_))
    all_goals try (exfalso; omega)
    refine qx_ret1 (v := .slice _ _ _) [cO] rfl rfl ⟨Ao, mo, co, cO, out, rfl, rfl, hoo, hmo, ?_⟩ (fun w hm => by exact hm.picks [0])
    rcases hst with ⟨h0, ho⟩ | ⟨dn, a, b, ho, ht, _⟩
    · have : d = [] := List.eq_nil_of_length_eq_zero (by omega)
      rw [this] at hT
      rw [ho]; exact hT
    · rw [List.drop_of_length_le (by omega)] at ht
      rw [ho]
      have ht2 : tidyL d = dn ++ [(a, b)] := ht
      rw [← ht2]; exact hT
  obtain ⟨⟨a, b'⟩, hs⟩ : ∃ s, d[i]? = some s := ⟨_, List.getElem?_eq_getElem (by omega)⟩
  have hsb := hbd _ (List.mem_of_getElem? hs)
  unfold spBad at hsb
  dsimp only at hsb
  have hrow' := rowsS_get hs (k := (i : Int).toNat * 2) (by omega)
  unfold encS at hrow'
  dsimp only at hrow'
  have hdrop : d.drop i = (a, b') :: d.drop (i + 1) := by
    obtain ⟨hi', he⟩ := List.getElem?_eq_some_iff.1 hs
    rw [List.drop_eq_getElem_cons hi', he]
  repeat' (first | (with_reducible refine stop_rs 7 ?_) | ((with_reducible refine at_ixaddr ?_); refine sx_indexQ rfl (hAs (by omega)) rfl (by omega) ?_) | ((with_reducible refine at_load ?_); refine sx_loadSA 1 ((i : Int).toNat * 2) [.int .i64 a, .int .i64 b'] rfl hod (hAs (by omega)) (by omega) (by omega) rfl rfl hrow' ?_) | ((with_reducible refine at_op ?_); first | ((with_reducible refine at_move ?_); refine sx_move _ vf ?_) | ((with_reducible refine at_bin ?_); first | refine sx_lss rfl rfl ?_ | refine sx_sub rfl rfl bnd ?_) | ((with_reducible refine at_assign ?_); refine sx_assign _ vf ?_) | ((with_reducible refine at_stores ?_); first | refine sx_stval _ vf ?_ | refine sx_storeW rfl rfl rfl rfl ?_) | refine sx_len rfl ?_ | (refine sx_alloc ?_; intro b)) | refine sx_nil ?_ | ((with_reducible refine at_code ?_); first | refine cx_seq ?_ | refine cx_region ?_ | refine cx_skip ?_ | refine cx_block ?_ | (refine cx_cond rfl (fun h => ?_) (fun h => ?_) <;> (try simp only [decide_eq_true_eq, decide_eq_false_iff_not, Bool.and_eq_true, Bool.or_eq_true, Bool.and_eq_false_iff, Bool.or_eq_false_iff, Bool.not_eq_true', Bool.not_eq_false', Bool.not_true, Bool.not_false, Bool.true_or, Bool.or_true, Bool.false_or, Bool.or_false, Bool.and_true, Bool.true_and, Bool.false_and, Bool.and_false, reduceCtorEq, Classical.not_not, beq_self_eq_true, bne_self_eq_false, not_true_eq_false, not_false_eq_true, or_false, false_or, or_true, true_or, and_true, true_and, and_false, false_and, or_self, and_self] at h) <;> (try (exfalso; omega)))) | ((with_reducible refine at_exit ?_); refine qx_then ?_))
  refine halt_go ?_
  rcases hst with ⟨h0, ho0⟩ | ⟨dn, x, y, ho0, ht, hxy⟩
  · subst ho0
    have hmo0 : mo = 0 := hmo
    subst hmo0
    have hd : decide ((0 : Int) ≤ ((0 : Nat) : Int) - 1) = false := by decide
    subst h0
    have hodd : OwnS 99 2 (.slice Ao 0 co) 0 (rowsS []) cO := hoo
    repeat' (first | ((with_reducible refine at_op ?_); first | ((with_reducible refine at_guard ?_); refine sx_skip rfl rfl rfl ras ?_) | ((with_reducible refine at_move ?_); refine sx_move _ vf ?_) | ((with_reducible refine at_bin ?_); first | refine sx_geq rfl rfl ?_ | refine sx_add rfl rfl bnd ?_) | ((with_reducible refine at_assign ?_); refine sx_assign _ vf ?_) | ((with_reducible refine at_load ?_); refine sx_loadWE rfl pc gl ?_) | ((with_reducible refine at_pick ?_); refine sx_pickF (.bool _) rfl dec rfl ?_) | ((with_reducible refine at_buildS ?_); (refine sx_buildS _ rfl rfl rfl bcs rfl ?_; intro b)) | ((with_reducible refine at_append ?_); (refine sx_append1 (v := .slice _ _ _) rfl rfl rot1 asm rfl bnd rfl bnd ?_; intro v c ho; obtain ⟨A, cp, rfl, hcp⟩ := ho.len))) | refine sx_nil ?_ | ((with_reducible refine at_code ?_); first | refine cx_seq ?_ | refine cx_quiet rfl dk dk ?_ | refine cx_region ?_ | refine cx_false rfl ?_) | ((with_reducible refine at_exit ?_); first | refine qx_then ?_ | refine qx_in_normal ?_))
    all_goals try (exfalso; omega)
    have e : d = (a, b') :: d.drop 1 := hdrop
    refine qx_mem ?_ (fun w hm => by exact hm.picks [0, 1])
    exact hK (len - (0 + 1)) _ _ _ (by omega) ⟨0 + 1, A, 0 + 1, cp, c, [(a, b')], ffr, rfl, ho, rfl, by omega, by omega, rfl, .inr ⟨[], a, b', rfl, by rw [e]; rfl, by omega⟩⟩
  have hmo1 : mo = dn.length + 1 := by rw [hmo, ho0, List.length_append]; rfl
  subst ho0
  obtain ⟨bo, ext, rfl, rfl, _, hcap, hmax, hcl⟩ := own_formS hoo (by omega)
  have hd : decide ((0 : Int) ≤ (mo : Int) - 1) = true := decide_eq_true (by omega)
  have hlt : dn.length * 2 + 1 < (rowsS (dn ++ [(x, y)]) ++ ext).length := by rw [List.length_append, rowsS_len, List.length_append, List.length_singleton]; omega
  by_cases hle : a ≤ y + 1
  · have hd2 : decide (a ≤ y + 1) = true := decide_eq_true hle
    have est : stpS x y ((a, b') :: d.drop (i + 1)) = stpS x (max y b') (d.drop (i + 1)) := if_pos hle
    rw [hdrop, est] at ht
    repeat' (first | (with_reducible refine stop_r 8 ?_) | ((with_reducible refine at_ixaddr ?_); first | refine sx_indexQ rfl rfl rfl (by omega) ?_ | refine sx_place (dn.length * 2 + 1) rfl rfl (by decide) (by omega) ?_) | ((with_reducible refine at_load ?_); refine sx_loadX1 1 rfl rfl rowsS_last ?_) | ((with_reducible refine at_op ?_); first | ((with_reducible refine at_guard ?_); refine sx_want rfl rfl rfl ras ?_) | ((with_reducible refine at_move ?_); refine sx_move _ vf ?_) | ((with_reducible refine at_bin ?_); first | refine sx_leq rfl rfl ?_ | refine sx_geq rfl rfl ?_ | refine sx_add rfl rfl bnd ?_) | ((with_reducible refine at_load ?_); refine sx_loadE rfl pc gv ?_) | ((with_reducible refine at_pick ?_); refine sx_pickT (.bool _) rfl dec rfl ?_) | ((with_reducible refine at_ixaddr ?_); refine sx_place _ rfl rfl bnd plc ?_)) | refine sx_nil ?_ | ((with_reducible refine at_code ?_); first | refine cx_seq ?_ | refine cx_quiet rfl dk dk ?_ | (refine cx_cond rfl (fun h => ?_) (fun h => ?_) <;> (try simp only [decide_eq_true_eq, decide_eq_false_iff_not, Bool.and_eq_true, Bool.or_eq_true, Bool.and_eq_false_iff, Bool.or_eq_false_iff, Bool.not_eq_true', Bool.not_eq_false', Bool.not_true, Bool.not_false, Bool.true_or, Bool.or_true, Bool.false_or, Bool.or_false, Bool.and_true, Bool.true_and, Bool.false_and, Bool.and_false, reduceCtorEq, Classical.not_not, beq_self_eq_true, bne_self_eq_false, not_true_eq_false, not_false_eq_true, or_false, false_or, or_true, true_or, and_true, true_and, and_false, false_and, or_self, and_self] at h) <;> (try (exfalso; omega)))) | ((with_reducible refine at_exit ?_); refine qx_then ?_))
    all_goals try (exfalso; omega)
    refine halt_go ?_
    clear hperm hrise hT hod hoo
    repeat' (first | ((with_reducible refine at_reg 8 ?_); refine cx_heldA dk ?_) | ((with_reducible refine at_held ?_); first | (refine ah_not 6 rfl ?_; refine ah_lone 6 (o := ⟨_, _, _, _, _, _⟩) dk rfl ?_) | (refine ah_not 7 rfl ?_; refine ah_isp 7 rfl ?_; refine ah_at 7 dk (fun hT => ?_); refine ah_pure 7 (o := ⟨_, _, _, _, _, _⟩) hT rfl rfl rfl rfl rfl ?_; apply Exists.intro; refine And.intro ?_ ?_) | (refine ah_not 8 rfl ?_; refine ah_isp 8 rfl ?_; refine ah_at 8 dk (fun hT => ?_); refine ah_pure 8 (o := ⟨_, _, _, _, _, _⟩) hT rfl rfl rfl rfl rfl ?_; apply Exists.intro; refine And.intro ?_ ?_) | (refine ah_not 10 rfl ?_; refine ah_isp 10 rfl ?_; refine ah_at 10 dk (fun hT => ?_); refine ah_pure 10 (o := ⟨_, _, _, _, _, _⟩) hT rfl rfl rfl rfl rfl ?_; apply Exists.intro; refine And.intro ?_ ?_) | (refine ah_not 11 rfl ?_; refine ah_isp 11 rfl ?_; refine ah_at 11 dk (fun hT => ?_); refine ah_pure 11 (o := ⟨_, _, _, _, _, _⟩) hT rfl rfl rfl rfl rfl ?_; apply Exists.intro; refine And.intro ?_ ?_)) | ((with_reducible refine at_ixaddr ?_); first | refine sx_indexQ rfl rfl rfl (by omega) ?_ | refine sx_place (dn.length * 2 + 1) rfl rfl (by decide) (by omega) ?_) | ((with_reducible refine at_load ?_); refine sx_loadX1 1 rfl rfl rowsS_last ?_) | ((with_reducible refine at_stores ?_); refine sx_rot rot1 ?_; refine sx_store rfl rfl rfl (Nat.ble_eq_true_of_le hlt) rowsS_set ?_) | ((with_reducible refine at_held ?_); first | (refine ah_not 0 rfl ?_; refine ah_isp 0 rfl ?_; refine ah_at 0 dk (fun hT => ?_); first | (refine ah_pure 0 (o := ⟨_, _, _, _, _, _⟩) hT rfl rfl rfl rfl rfl ?_; apply Exists.intro; refine And.intro ?_ ?_) | refine ah_nil 0 hT rfl rfl ?_ | refine ah_skip 0 (o := ⟨_, _, _, _, _, _⟩) hT rfl rfl rfl rfl rfl rfl ras ?_ | (refine ah_pureW 0 (o := ⟨_, _, _, _, _, _⟩) hT rfl rfl rfl rfl rfl rfl rfl rfl ras ?_; apply Exists.intro; refine And.intro ?_ ?_)) | (refine ah_not 1 rfl ?_; refine ah_isp 1 rfl ?_; refine ah_at 1 dk (fun hT => ?_); first | (refine ah_pure 1 (o := ⟨_, _, _, _, _, _⟩) hT rfl rfl rfl rfl rfl ?_; apply Exists.intro; refine And.intro ?_ ?_) | refine ah_nil 1 hT rfl rfl ?_ | refine ah_skip 1 (o := ⟨_, _, _, _, _, _⟩) hT rfl rfl rfl rfl rfl rfl ras ?_ | (refine ah_pureW 1 (o := ⟨_, _, _, _, _, _⟩) hT rfl rfl rfl rfl rfl rfl rfl rfl ras ?_; apply Exists.intro; refine And.intro ?_ ?_)) | (refine ah_not 2 rfl ?_; refine ah_isp 2 rfl ?_; refine ah_at 2 dk (fun hT => ?_); first | (refine ah_pure 2 (o := ⟨_, _, _, _, _, _⟩) hT rfl rfl rfl rfl rfl ?_; apply Exists.intro; refine And.intro ?_ ?_) | refine ah_nil 2 hT rfl rfl ?_ | refine ah_skip 2 (o := ⟨_, _, _, _, _, _⟩) hT rfl rfl rfl rfl rfl rfl ras ?_ | (refine ah_pureW 2 (o := ⟨_, _, _, _, _, _⟩) hT rfl rfl rfl rfl rfl rfl rfl rfl ras ?_; apply Exists.intro; refine And.intro ?_ ?_)) | (refine ah_not 3 rfl ?_; refine ah_isp 3 rfl ?_; refine ah_at 3 dk (fun hT => ?_); first | (refine ah_pure 3 (o := ⟨_, _, _, _, _, _⟩) hT rfl rfl rfl rfl rfl ?_; apply Exists.intro; refine And.intro ?_ ?_) | refine ah_nil 3 hT rfl rfl ?_ | refine ah_skip 3 (o := ⟨_, _, _, _, _, _⟩) hT rfl rfl rfl rfl rfl rfl ras ?_ | (refine ah_pureW 3 (o := ⟨_, _, _, _, _, _⟩) hT rfl rfl rfl rfl rfl rfl rfl rfl ras ?_; apply Exists.intro; refine And.intro ?_ ?_)) | (refine ah_not 4 rfl ?_; refine ah_isp 4 rfl ?_; refine ah_at 4 dk (fun hT => ?_); first | (refine ah_pure 4 (o := ⟨_, _, _, _, _, _⟩) hT rfl rfl rfl rfl rfl ?_; apply Exists.intro; refine And.intro ?_ ?_) | refine ah_nil 4 hT rfl rfl ?_ | refine ah_skip 4 (o := ⟨_, _, _, _, _, _⟩) hT rfl rfl rfl rfl rfl rfl ras ?_ | (refine ah_pureW 4 (o := ⟨_, _, _, _, _, _⟩) hT rfl rfl rfl rfl rfl rfl rfl rfl ras ?_; apply Exists.intro; refine And.intro ?_ ?_)) | (refine ah_not 5 rfl ?_; refine ah_isp 5 rfl ?_; refine ah_at 5 dk (fun hT => ?_); first | (refine ah_pure 5 (o := ⟨_, _, _, _, _, _⟩) hT rfl rfl rfl rfl rfl ?_; apply Exists.intro; refine And.intro ?_ ?_) | refine ah_nil 5 hT rfl rfl ?_ | refine ah_skip 5 (o := ⟨_, _, _, _, _, _⟩) hT rfl rfl rfl rfl rfl rfl ras ?_ | (refine ah_pureW 5 (o := ⟨_, _, _, _, _, _⟩) hT rfl rfl rfl rfl rfl rfl rfl rfl ras ?_; apply Exists.intro; refine And.intro ?_ ?_)) | (refine ah_not 9 rfl ?_; refine ah_lone 9 (o := ⟨_, _, _, _, _, _⟩) dk rfl ?_) | (refine ah_not 12 rfl ?_; refine ah_lone 12 (o := ⟨_, _, _, _, _, _⟩) dk rfl ?_) | refine ah_over1 dk ?_) | ((with_reducible refine at_exit ?_); first | refine qx_held (fun w hm => hm) ?_ | refine qx_held (fun w hm => held_mid1 hm) ?_) | ((with_reducible refine at_op ?_); first | ((with_reducible refine at_move ?_); refine sx_move _ vf ?_) | ((with_reducible refine at_bin ?_); refine sx_add rfl rfl bnd ?_) | ((with_reducible refine at_load ?_); refine sx_loadE rfl pc gv ?_) | ((with_reducible refine at_stores ?_); refine sx_stval _ vf ?_) | ((with_reducible refine at_ixaddr ?_); refine sx_place _ rfl rfl bnd plc ?_) | refine sx_max rfl rfl ?_) | refine sx_nil ?_ | ((with_reducible refine at_code ?_); refine cx_region ?_) | ((with_reducible refine at_exit ?_); first | refine qx_then ?_ | exact qx_isF | refine qx_in_normal ?_))
    refine qx_mem ?_ (fun w hm => by exact hm.picks [1, 1])
    have hlen2 : (rowsS (dn ++ [(x, max y b')]) ++ ext).length = co * 2 := by rw [List.length_append, rowsS_len, List.length_append, List.length_singleton] at hcl ⊢; exact hcl
    refine hK (len - (i + 1)) _ _ _ (by omega) ⟨i + 1, some ⟨bo, 0, none⟩, mo, co, _, dn ++ [(x, max y b')], ffr, rfl, ⟨?_, .inr ⟨bo, co, ext, rfl, hcap, hmax, hlen2, rfl⟩⟩, ?_, by omega, by omega, rfl, .inr ⟨dn, x, max y b', rfl, ht, by omega⟩⟩
    · rw [rowsS_len, List.length_append, List.length_singleton, hmo1]
    · rw [hmo1, List.length_append]; rfl
  have est : stpS x y ((a, b') :: d.drop (i + 1)) = (x, y) :: stpS a b' (d.drop (i + 1)) := if_neg hle
  rw [hdrop, est] at ht
  have hd2 : decide (a ≤ y + 1) = false := decide_eq_false hle
  repeat' (first | ((with_reducible refine at_ixaddr ?_); first | refine sx_indexQ rfl rfl rfl (by omega) ?_ | refine sx_place (dn.length * 2 + 1) rfl rfl (by decide) (by omega) ?_) | ((with_reducible refine at_load ?_); refine sx_loadX1 1 rfl rfl rowsS_last ?_) | ((with_reducible refine at_op ?_); first | ((with_reducible refine at_guard ?_); refine sx_want rfl rfl rfl ras ?_) | ((with_reducible refine at_move ?_); refine sx_move _ vf ?_) | ((with_reducible refine at_bin ?_); first | refine sx_leq rfl rfl ?_ | refine sx_geq rfl rfl ?_ | refine sx_add rfl rfl bnd ?_) | ((with_reducible refine at_assign ?_); refine sx_assign _ vf ?_) | ((with_reducible refine at_load ?_); first | refine sx_loadE rfl pc gv ?_ | refine sx_loadWE rfl pc gl ?_) | ((with_reducible refine at_pick ?_); refine sx_pickT (.bool _) rfl dec rfl ?_) | ((with_reducible refine at_ixaddr ?_); refine sx_place _ rfl rfl bnd plc ?_) | ((with_reducible refine at_buildS ?_); (refine sx_buildS _ rfl rfl rfl bcs rfl ?_; intro b)) | ((with_reducible refine at_append ?_); (refine sx_append1 (v := .slice _ _ _) rfl rfl rot1 asm rfl bnd rfl bnd ?_; intro v c ho; obtain ⟨A, cp, rfl, hcp⟩ := ho.len))) | refine sx_nil ?_ | ((with_reducible refine at_code ?_); first | refine cx_seq ?_ | refine cx_quiet rfl dk dk ?_ | refine cx_region ?_ | (refine cx_cond rfl (fun h => ?_) (fun h => ?_) <;> (try simp only [decide_eq_true_eq, decide_eq_false_iff_not, Bool.and_eq_true, Bool.or_eq_true, Bool.and_eq_false_iff, Bool.or_eq_false_iff, Bool.not_eq_true', Bool.not_eq_false', Bool.not_true, Bool.not_false, Bool.true_or, Bool.or_true, Bool.false_or, Bool.or_false, Bool.and_true, Bool.true_and, Bool.false_and, Bool.and_false, reduceCtorEq, Classical.not_not, beq_self_eq_true, bne_self_eq_false, not_true_eq_false, not_false_eq_true, or_false, false_or, or_true, true_or, and_true, true_and, and_false, false_and, or_self, and_self] at h) <;> (try (exfalso; omega)))) | ((with_reducible refine at_exit ?_); first | refine qx_then ?_ | refine qx_in_normal ?_))
  all_goals try (exfalso; omega)
  refine qx_mem ?_ (fun w hm => by exact hm.picks [0, 1])
  refine hK (len - (i + 1)) _ _ _ (by omega) ⟨i + 1, A, mo + 1, cp, c, dn ++ [(x, y)] ++ [(a, b')], ffr, rfl, ?_, ?_, by omega, by omega, rfl, .inr ⟨dn ++ [(x, y)], a, b', rfl, by rw [ht]; simp, by omega⟩⟩
  · rw [rowsS_app]; exact ho
  · rw [List.length_append, ← hmo]; rfl
theorem span_Tidy {A0 : Option Addr} {len cap : Nat} {l : List Sp} {w : World} (hrow : IsSl w 2 A0 len cap (rowsS l)) (hl : len = l.length) (hE : spE l = 0) :
    Calls Tryd.prog 134 #[.slice A0 len cap] w (Ret w [] (fun v L => ∃ A' m' cap' c out, v = .slice A' m' cap' ∧ L = [c] ∧ OwnS 99 2 (.slice A' m' cap') m' (rowsS out) c ∧ m' = out.length ∧ TidyOf l out)) :=
  span_TidyG hrow hl (by have := (spE_0.1 hE).1; omega) (spE_0.1 hE).2
end Go.Proofs.YtoelbnhjamddgaaDoor
