/- diff: both, table, Common. -/
import Derived.Test.YtoelbnhjamddgaaDoorDiffA
import Derived.Test.YtoelbnhjamddgaaDoorMakeC
set_option linter.unusedSimpArgs false
set_option linter.unusedVariables false
set_option maxRecDepth 100000
namespace Go.Port
open Go.RowKit
/-- The table's numbers. -/
def tabV (a b : List Rc) (i k : Nat) : Value := .int .i64 (lcs (a.drop i) (b.drop k) : Nat)
/-- A table is there. -/
def TabAt (w : World) (a b : List Rc) (bt : Nat) (Bs : Nat → Nat) : Prop := ∀ i, i ≤ a.length → w.cell? ⟨bt, i, none⟩ = some (.slice (some ⟨Bs i, 0, none⟩) (b.length + 1) (b.length + 1)) ∧ ∀ k, k ≤ b.length → w.cell? ⟨Bs i, k, none⟩ = some (tabV a b i k)
theorem lcs_lt (a b : List Rc) (h : a.length ≤ 20) (i k : Nat) : lcs (a.drop i) (b.drop k) ≤ 20 := by
  have := (lcs_le (a.drop i) (b.drop k)).1
  rw [List.length_drop] at this
  omega
end Go.Port
namespace Go.Proofs.YtoelbnhjamddgaaDoor
open Go.RowKit Go.Port
attribute [local irreducible] Calls
theorem diff_both {A1 A2 : Option Addr} {n1 n2 c1 c2 : Nat} {a b : List Ru} {w : World} (h1 : IsSl w 11 A1 n1 c1 (a.flatMap Ru.row)) (h2 : IsSl w 11 A2 n2 c2 (b.flatMap Ru.row)) (hn1 : n1 = a.length) (hn2 : n2 = b.length) (ho1 : ∀ r ∈ a, r.ok w) (ho2 : ∀ r ∈ b, r.ok w) :
    Calls Tryd.prog 36 #[.slice A1 n1 c1, .slice A2 n2 c2] w (Ret w [] (isV (er (if ¬ rcE a = 0 then rcE a else rcE b)))) := by
  refine cx_enter (args := [.slice A1 n1 c1, .slice A2 n2 c2]) (F := [(0, .slice A1 n1 c1), (1, .slice A2 n2 c2)]) _ [] Tryd.func36 rfl Tryd.ntmps36 (by simp) rfl (Mem.refl _) (fun g => ?_)
  have q1 : ∀ w', Mem w w' [] [] → ∀ r ∈ a, r.ok w' := fun w' hm r hr => ⟨⟨(ho1 r hr).1.1.mem hm, (ho1 r hr).1.2⟩, (ho1 r hr).2.1.mem hm, (ho1 r hr).2.2⟩
  have q2 : ∀ w', Mem w w' [] [] → ∀ r ∈ b, r.ok w' := fun w' hm r hr => ⟨⟨(ho2 r hr).1.1.mem hm, (ho2 r hr).1.2⟩, (ho2 r hr).2.1.mem hm, (ho2 r hr).2.2⟩
  by_cases hE : rcE a = 0
  · rw [if_neg (fun h => h hE)]
    repeat' (first | ((with_reducible refine at_call 58 ?_); refine sx_callv (fun w hm => rule_Check (h1.mem hm.nil) hn1 (q1 w hm.nil)) ?_ rfl) | ((with_reducible refine at_call 58 ?_); refine sx_callv (fun w hm => rule_Check (h2.mem hm.nil) hn2 (q2 w hm.nil)) ?_ rfl) | ((with_reducible refine at_op ?_); first | ((with_reducible refine at_move ?_); refine sx_move _ vf ?_) | ((with_reducible refine at_bin ?_); refine sx_err_ne rfl ?_) | ((with_reducible refine at_assign ?_); refine sx_assign _ vf ?_)) | refine sx_nil ?_ | ((with_reducible refine at_code ?_); first | refine cx_seq ?_ | refine cx_region ?_ | refine cx_skip ?_ | refine cx_ret ?_ | (refine cx_cond rfl (fun h => ?_) (fun h => ?_) <;> (try simp only [decide_eq_true_eq, decide_eq_false_iff_not, Bool.and_eq_true, Bool.or_eq_true, Bool.and_eq_false_iff, Bool.or_eq_false_iff, Bool.not_eq_true', Bool.not_eq_false', Bool.not_true, Bool.not_false, Bool.true_or, Bool.or_true, Bool.false_or, Bool.or_false, Bool.and_true, Bool.true_and, Bool.false_and, Bool.and_false, reduceCtorEq, Classical.not_not, beq_self_eq_true, bne_self_eq_false, not_true_eq_false, not_false_eq_true, or_false, false_or, or_true, true_or, and_true, true_and, and_false, false_and, or_self, and_self] at h) <;> (try (exfalso; omega)))) | ((with_reducible refine at_exit ?_); refine qx_then ?_))
    all_goals first
      | (exfalso; omega)
      | exact qx_ret1 (v := errV _ _) [] rfl rfl ⟨rfl, rfl⟩ (fun w hm => hm.nil)
  · rw [if_pos hE]
    repeat' (first | ((with_reducible refine at_call 58 ?_); refine sx_callv (fun w hm => rule_Check (h1.mem hm.nil) hn1 (q1 w hm.nil)) ?_ rfl) | ((with_reducible refine at_op ?_); first | ((with_reducible refine at_move ?_); refine sx_move _ vf ?_) | ((with_reducible refine at_bin ?_); refine sx_err_ne rfl ?_) | ((with_reducible refine at_assign ?_); refine sx_assign _ vf ?_)) | refine sx_nil ?_ | ((with_reducible refine at_code ?_); first | refine cx_seq ?_ | refine cx_region ?_ | refine cx_ret ?_ | (refine cx_cond rfl (fun h => ?_) (fun h => ?_) <;> (try simp only [decide_eq_true_eq, decide_eq_false_iff_not, Bool.and_eq_true, Bool.or_eq_true, Bool.and_eq_false_iff, Bool.or_eq_false_iff, Bool.not_eq_true', Bool.not_eq_false', Bool.not_true, Bool.not_false, Bool.true_or, Bool.or_true, Bool.false_or, Bool.or_false, Bool.and_true, Bool.true_and, Bool.false_and, Bool.and_false, reduceCtorEq, Classical.not_not, beq_self_eq_true, bne_self_eq_false, not_true_eq_false, not_false_eq_true, or_false, false_or, or_true, true_or, and_true, true_and, and_false, false_and, or_self, and_self] at h) <;> (try (exfalso; omega)))) | ((with_reducible refine at_exit ?_); first | refine qx_then ?_ | refine qx_then_ret ?_))
    all_goals first
      | (exfalso; omega)
      | exact qx_ret1 (v := errV _ _) [] rfl rfl ⟨rfl, rfl⟩ (fun w hm => hm.nil)
set_option maxHeartbeats 16000000 in
theorem diff_table {A1 A2 : Option Addr} {n1 n2 c1 c2 : Nat} {a b : List Ru} {w : World} (h1 : IsSl w 11 A1 n1 c1 (a.flatMap Ru.row)) (h2 : IsSl w 11 A2 n2 c2 (b.flatMap Ru.row)) (hn1 : n1 = a.length) (hn2 : n2 = b.length) (ho1 : ∀ r ∈ a, r.ok w) (ho2 : ∀ r ∈ b, r.ok w) (he1 : rcE a = 0) (he2 : rcE b = 0) :
    Calls Tryd.prog 37 #[.slice A1 n1 c1, .slice A2 n2 c2] w (Ret w [] (fun v L => ∃ bt Bs c, v = .slice (some ⟨bt, 0, none⟩) (n1 + 1) (n1 + 1) ∧ L = [c] ∧ ∀ w', Has w' c → TabAt w' (a.map Ru.con) (b.map Ru.con) bt Bs)) := by
  obtain ⟨hl1, hp1⟩ := rc_bd he1
  obtain ⟨hl2, hp2⟩ := rc_bd he2
  obtain ⟨x1, o1, hA1⟩ := h1.base
  obtain ⟨x2, o2, hA2⟩ := h2.base
  refine cx_enter (args := [.slice A1 n1 c1, .slice A2 n2 c2]) (F := [(0, .slice A1 n1 c1), (1, .slice A2 n2 c2)]) _ [] Tryd.func37 rfl Tryd.ntmps37 (by simp) rfl (Mem.refl _) (fun g => ?_)
  repeat' (first | (refine sx_makeSlice (m := n1 + 1) (c := n1 + 1) rfl rfl (by omega) (by omega) (Nat.le_refl _) rfl (by omega) (by omega) ?_; intro bk) | ((with_reducible refine at_op ?_); first | ((with_reducible refine at_move ?_); refine sx_move _ vf ?_) | ((with_reducible refine at_bin ?_); refine sx_add rfl rfl bnd ?_) | ((with_reducible refine at_assign ?_); refine sx_assign _ vf ?_) | refine sx_len rfl ?_) | refine sx_nil ?_ | ((with_reducible refine at_code ?_); first | refine cx_seq ?_ | refine cx_region ?_ | refine cx_block ?_) | ((with_reducible refine at_exit ?_); refine qx_then ?_))
  refine cx_mem (L' := [[(bk, .cells (List.replicate (n1 + 1) (.slice none 0 0)).toArray 75 (0, 0))], []]) ?_ (fun w hm => rot1.mem (rotN.mem hm))
  refine cx_loop (fun mm fr L => ∃ (x : Int) (t : Nat) (T : List Value) (Bs : Nat → Nat) (pool : Ch), FF fr [(0, .slice A1 n1 c1), (1, .slice A2 n2 c2), (5, .slice (some ⟨bk, 0, none⟩) (n1 + 1) (n1 + 1)), (6, .int .i64 x)] ∧ L = [[(bk, .cells T.toArray 75 (0, 0))], pool] ∧ x = (t : Int) - 1 ∧ t ≤ n1 + 1 ∧ T.length = n1 + 1 ∧ mm = t ∧
    (∀ j, t ≤ j → j ≤ n1 → T[j]? = some (.slice (some ⟨Bs j, 0, none⟩) (n2 + 1) (n2 + 1))) ∧ ∀ w', Has w' pool → ∀ j, t ≤ j → j ≤ n1 → ∀ k, k ≤ n2 → w'.cell? ⟨Bs j, k, none⟩ = some (tabV (a.map Ru.con) (b.map Ru.con) j k)) (n1 + 1)
    ⟨_, n1 + 1, _, fun _ => 0, [], ffr, rfl, by omega, Nat.le_refl _, List.length_replicate, rfl, fun j _ _ => by omega, fun w' _ j _ _ => by omega⟩ ?_
  rintro mm fr L ⟨x, t, T, Bs, pool, hF, rfl, hx, ht, hTl, rfl, hT, hpool⟩ K hK
  refine cx_use hF fun g => ?_
  clear hF
  by_cases hgo : mm = 0
  · subst hgo
    clear hK
    repeat' (first | ((with_reducible refine at_op ?_); first | ((with_reducible refine at_move ?_); refine sx_move _ vf ?_) | ((with_reducible refine at_bin ?_); refine sx_geq rfl rfl ?_) | ((with_reducible refine at_assign ?_); refine sx_assign _ vf ?_)) | refine sx_nil ?_ | ((with_reducible refine at_code ?_); first | refine cx_seq ?_ | refine cx_region ?_ | refine cx_ret ?_ | refine cx_exit ?_ | (refine cx_cond rfl (fun h => ?_) (fun h => ?_) <;> (try simp only [decide_eq_true_eq, decide_eq_false_iff_not, Bool.and_eq_true, Bool.or_eq_true, Bool.and_eq_false_iff, Bool.or_eq_false_iff, Bool.not_eq_true', Bool.not_eq_false', Bool.not_true, Bool.not_false, Bool.true_or, Bool.or_true, Bool.false_or, Bool.or_false, Bool.and_true, Bool.true_and, Bool.false_and, Bool.and_false, reduceCtorEq, Classical.not_not, beq_self_eq_true, bne_self_eq_false, not_true_eq_false, not_false_eq_true, or_false, false_or, or_true, true_or, and_true, true_and, and_false, false_and, or_self, and_self] at h) <;> (try (exfalso; omega)))) | ((with_reducible refine at_exit ?_); first | refine qx_then ?_ | refine qx_in_here ?_ | refine qx_then_exit ?_))
    all_goals try (exfalso; omega)
    refine qx_ret1 (v := .slice _ _ _) [[(bk, .cells T.toArray 75 (0, 0))] ++ pool] rfl rfl ⟨bk, Bs, _, rfl, rfl, fun w' hw i hi => ?_⟩ (fun w hm => hm.perm (by simp))
    have hb1 : w'.heap[bk]? = some (.cells T.toArray 75 (0, 0)) := hw (bk, _) (by simp)
    rw [List.length_map] at hi
    rw [List.length_map, ← hn2]
    refine ⟨cell_of_cells hb1 (hT i (Nat.zero_le _) (by omega)), fun k hk => hpool w' (fun e he => hw e (List.mem_append_right _ he)) i (Nat.zero_le _) (by omega) k hk⟩
  obtain ⟨i0, rfl⟩ : ∃ i0, mm = i0 + 1 := ⟨mm - 1, by omega⟩
  obtain rfl : x = (i0 : Int) := by omega
  clear hx hgo
  have hi0 : 0 + (i0 : Int).toNat * 1 = i0 := by omega
  have hi1 : 0 + ((i0 : Int) + 1).toNat * 1 = i0 + 1 := by omega
  repeat' (first | (refine sx_makeSlice (m := n2 + 1) (c := n2 + 1) rfl rfl (by omega) (by omega) (Nat.le_refl _) rfl (by omega) (by omega) ?_; intro bc) | ((with_reducible refine at_stores ?_); first | refine sx_stval _ vf ?_ | (refine sx_rot rot1 ?_; refine sx_store rfl rfl rfl (Nat.ble_eq_true_of_le (by omega)) rfl ?_)) | ((with_reducible refine at_op ?_); first | ((with_reducible refine at_move ?_); refine sx_move _ vf ?_) | ((with_reducible refine at_bin ?_); first | refine sx_geq rfl rfl ?_ | refine sx_add rfl rfl bnd ?_ | refine sx_sub rfl rfl bnd ?_) | ((with_reducible refine at_assign ?_); refine sx_assign _ vf ?_) | refine sx_index rfl rfl bnd ?_ | refine sx_len rfl ?_) | refine sx_nil ?_ | ((with_reducible refine at_code ?_); first | refine cx_seq ?_ | refine cx_region ?_ | refine cx_skip ?_ | refine cx_block ?_ | refine cx_true rfl ?_) | ((with_reducible refine at_exit ?_); refine qx_then ?_))
  all_goals try (exfalso; omega)
  obtain ⟨T', hT'⟩ : ∃ T', T' = T.set (0 + (i0 : Int).toNat * 1) (.slice (some ⟨bc, 0, none⟩) (n2 + 1) (n2 + 1)) := ⟨_, rfl⟩
  rw [← hT']
  have hTl' : T'.length = n1 + 1 := by rw [hT', List.length_set, hTl]
  obtain ⟨Bn, hBn⟩ : ∃ Bn : Nat → Nat, Bn = fun j => if j = i0 then bc else Bs j := ⟨_, rfl⟩
  have hTn : ∀ j, i0 ≤ j → j ≤ n1 → T'[j]? = some (.slice (some ⟨Bn j, 0, none⟩) (n2 + 1) (n2 + 1)) := fun j hj hj' => by
    rw [hT', hi0, hBn]
    dsimp only
    by_cases e : j = i0
    · subst e
      rw [if_pos rfl, List.getElem?_set_self (by omega)]
    · rw [if_neg e, List.getElem?_set_ne (fun h => e h.symm)]
      exact hT j (by omega) hj'
  clear hT'
  refine cx_loop (fun mm fr L => ∃ (y : Int) (s : Nat) (R : List Value), FF fr [(0, .slice A1 n1 c1), (1, .slice A2 n2 c2), (5, .slice (some ⟨bk, 0, none⟩) (n1 + 1) (n1 + 1)), (6, .int .i64 (i0 : Int)), (7, .int .i64 y)] ∧ L = [[(bk, .cells T'.toArray 75 (0, 0))], [(bc, .cells R.toArray 3 (0, 0))], pool] ∧ y = (s : Int) - 1 ∧ s ≤ n2 ∧ R.length = n2 + 1 ∧ mm = s ∧ ∀ j, j ≤ n2 → (s ≤ j ∨ i0 = n1) → R[j]? = some (tabV (a.map Ru.con) (b.map Ru.con) i0 j)) n2
    ⟨_, n2, _, ffr, rfl, rfl, Nat.le_refl _, List.length_replicate, rfl, fun j hj hh => by
      have e : lcs ((a.map Ru.con).drop i0) ((b.map Ru.con).drop j) = 0 := by
        rcases hh with hh | hh
        · rw [List.drop_of_length_le (l := b.map Ru.con) (by rw [List.length_map]; omega), lcs_nilr]
        · rw [List.drop_of_length_le (l := a.map Ru.con) (by rw [List.length_map]; omega), lcs_nil]
      unfold tabV
      rw [e, List.getElem?_replicate, if_pos (by omega)]
      rfl⟩ ?_
  rintro mm fr L ⟨y, s, R, hF, rfl, hy, hs, hRl, rfl, hR⟩ K2 hK2
  refine cx_use hF fun g => ?_
  clear hF
  by_cases hgo : mm = 0 ∨ i0 = n1
  · clear hK2
    repeat' (first | ((with_reducible refine at_op ?_); first | ((with_reducible refine at_guard ?_); first | refine sx_want rfl rfl rfl ras ?_ | refine sx_skip rfl rfl rfl ras ?_ | (refine sx_andG rfl rfl rfl rfl rfl rfl ?_ (fun hb K hK => ?_); apply Exists.intro; refine And.intro (fun hb K hK => ?_) (fun g => ?_))) | ((with_reducible refine at_move ?_); refine sx_move _ vf ?_) | ((with_reducible refine at_bin ?_); first | refine sx_lss rfl rfl ?_ | refine sx_geq rfl rfl ?_ | refine sx_sub rfl rfl bnd ?_) | ((with_reducible refine at_assign ?_); refine sx_assign _ vf ?_) | refine sx_len rfl ?_) | refine sx_nil ?_ | ((with_reducible refine at_grp ?_); refine sx_grpC rfl ?_) | ((with_reducible refine at_code ?_); first | refine cx_seq ?_ | refine cx_region ?_ | refine cx_exit ?_ | (refine cx_cond rfl (fun h => ?_) (fun h => ?_) <;> (try simp only [decide_eq_true_eq, decide_eq_false_iff_not, Bool.and_eq_true, Bool.or_eq_true, Bool.and_eq_false_iff, Bool.or_eq_false_iff, Bool.not_eq_true', Bool.not_eq_false', Bool.not_true, Bool.not_false, Bool.true_or, Bool.or_true, Bool.false_or, Bool.or_false, Bool.and_true, Bool.true_and, Bool.false_and, Bool.and_false, reduceCtorEq, Classical.not_not, beq_self_eq_true, bne_self_eq_false, not_true_eq_false, not_false_eq_true, or_false, false_or, or_true, true_or, and_true, true_and, and_false, false_and, or_self, and_self] at h) <;> (try (exfalso; omega)))) | ((with_reducible refine at_exit ?_); first | refine qx_then ?_ | ((with_reducible refine at_K ?_); first | exact hK _ _ _ rfl ⟨rfl, rfl⟩ rfl | exact hK _ _ _ rfl rfl ⟨rfl, rfl⟩ rfl) | refine qx_in_here ?_ | refine qx_in_normal ?_ | refine qx_then_exit ?_))
    all_goals try (exfalso; omega)
    all_goals
      refine qx_mem (L' := [[(bk, .cells T'.toArray 75 (0, 0))], [(bc, .cells R.toArray 3 (0, 0))] ++ pool]) ?_ (fun w hm => hm.perm (by simp))
      refine hK i0 _ _ _ (by omega) ⟨_, i0, T', Bn, _, ffr, rfl, rfl, by omega, hTl', rfl, hTn, fun w' hw j hj hj' k hk => ?_⟩
      rw [hBn]
      dsimp only
      by_cases e : j = i0
      · subst e
        rw [if_pos rfl]
        exact cell_of_cells (hw (bc, .cells R.toArray 3 (0, 0)) (by simp)) (hR k hk (by omega))
      · rw [if_neg e]
        exact hpool w' (fun e he => hw e (List.mem_append_right _ he)) j (by omega) hj' k hk
  obtain ⟨k0, rfl⟩ : ∃ k0, mm = k0 + 1 := ⟨mm - 1, by omega⟩
  obtain rfl : y = (k0 : Int) := by omega
  have hin : i0 < n1 := by omega
  have hkn : k0 < n2 := by omega
  clear hy hgo hK
  obtain ⟨ra, hra⟩ : ∃ r, a[i0]? = some r := ⟨_, List.getElem?_eq_getElem (by omega)⟩
  obtain ⟨rb, hrb⟩ : ∃ r, b[k0]? = some r := ⟨_, List.getElem?_eq_getElem (by omega)⟩
  have hpost := lcs_post (a := a.map Ru.con) (b := b.map Ru.con) (i := i0) (k := k0) (x := ra.con) (y := rb.con) (by rw [List.getElem?_map, hra]; rfl) (by rw [List.getElem?_map, hrb]; rfl)
  have hoa := ho1 _ (List.mem_of_getElem? hra)
  have hob := ho2 _ (List.mem_of_getElem? hrb)
  have hba := hp1 _ (List.mem_of_getElem? hra)
  have hbf : ra.fl ≤ 4611686018427387904 := by have := hoa.1.2; omega
  have hbt : ra.tl ≤ 4611686018427387904 := by have := hoa.2.2; omega
  have hva : ∀ j v, ra.row[j]? = some v → (a.flatMap Ru.row)[(i0 : Int).toNat * 11 + j]? = some v := fun j v hv => ru_at (i := (i0 : Int).toNat) (by rw [Int.toNat_natCast]; exact hra) j v hv
  have hvb : ∀ j v, rb.row[j]? = some v → (b.flatMap Ru.row)[(k0 : Int).toNat * 11 + j]? = some v := fun j v hv => ru_at (i := (k0 : Int).toNat) (by rw [Int.toNat_natCast]; exact hrb) j v hv
  have hx1 := lcs_lt (a.map Ru.con) (b.map Ru.con) (by rw [List.length_map]; exact hl1) (i0 + 1) k0
  have hx2 := lcs_lt (a.map Ru.con) (b.map Ru.con) (by rw [List.length_map]; exact hl1) i0 (k0 + 1)
  have hx3 := lcs_lt (a.map Ru.con) (b.map Ru.con) (by rw [List.length_map]; exact hl1) (i0 + 1) (k0 + 1)
  have hc0 : ∀ w', Has w' [(bk, .cells T'.toArray 75 (0, 0))] → w'.cell? ⟨bk, 0 + (i0 : Int).toNat * 1, none⟩ = some (.slice (some ⟨bc, 0, none⟩) (n2 + 1) (n2 + 1)) := fun w' hw => by
    have := hTn i0 (Nat.le_refl _) (by omega)
    rw [hBn] at this
    dsimp only at this
    rw [if_pos rfl] at this
    rw [hi0]
    exact cell_of_cells (hw _ (List.Mem.head _)) this
  have hc1 : ∀ w', Has w' [(bk, .cells T'.toArray 75 (0, 0))] → w'.cell? ⟨bk, 0 + ((i0 : Int) + 1).toNat * 1, none⟩ = some (.slice (some ⟨Bs (i0 + 1), 0, none⟩) (n2 + 1) (n2 + 1)) := fun w' hw => by
    have := hTn (i0 + 1) (by omega) (by omega)
    rw [hBn] at this
    dsimp only at this
    rw [if_neg (by omega)] at this
    rw [hi1]
    exact cell_of_cells (hw _ (List.Mem.head _)) this
  have hk0 : 0 + (k0 : Int).toNat * 1 = k0 := by omega
  have hk1 : 0 + ((k0 : Int) + 1).toNat * 1 = k0 + 1 := by omega
  have hd0 : ∀ w', Has w' pool → w'.cell? ⟨Bs (i0 + 1), 0 + (k0 : Int).toNat * 1, none⟩ = some (.int .i64 (lcs ((a.map Ru.con).drop (i0 + 1)) ((b.map Ru.con).drop k0) : Nat)) := fun w' hw => by
    rw [hk0]
    exact hpool w' hw (i0 + 1) (Nat.le_refl _) (by omega) k0 (by omega)
  have hd1 : ∀ w', Has w' pool → w'.cell? ⟨Bs (i0 + 1), 0 + ((k0 : Int) + 1).toNat * 1, none⟩ = some (.int .i64 (lcs ((a.map Ru.con).drop (i0 + 1)) ((b.map Ru.con).drop (k0 + 1)) : Nat)) := fun w' hw => by
    rw [hk1]
    exact hpool w' hw (i0 + 1) (Nat.le_refl _) (by omega) (k0 + 1) (by omega)
  have hd2 : ∀ w', Has w' [(bc, .cells R.toArray 3 (0, 0))] → w'.cell? ⟨bc, 0 + ((k0 : Int) + 1).toNat * 1, none⟩ = some (.int .i64 (lcs ((a.map Ru.con).drop i0) ((b.map Ru.con).drop (k0 + 1)) : Nat)) := fun w' hw => by
    rw [hk1]
    exact cell_of_cells (hw _ (List.Mem.head _)) (hR (k0 + 1) (by omega) (by omega))
  clear hpool hTn
  generalize lcs ((a.map Ru.con).drop (i0 + 1)) ((b.map Ru.con).drop k0) = X1 at *
  generalize lcs ((a.map Ru.con).drop (i0 + 1)) ((b.map Ru.con).drop (k0 + 1)) = X3 at *
  have hend : ∀ (u : Int) (R' : List Value), u = lcs ((a.map Ru.con).drop i0) ((b.map Ru.con).drop k0) → R'.length = n2 + 1 → R'[k0]? = some (.int .i64 u) → (∀ j, ¬ j = k0 → R'[j]? = R[j]?) → ∀ j, j ≤ n2 → (k0 ≤ j ∨ i0 = n1) → R'[j]? = some (tabV (a.map Ru.con) (b.map Ru.con) i0 j) := fun u R' hu hl h1 h2 j hj hh => by
    by_cases e : j = k0
    · subst e
      rw [h1, hu]; rfl
    · rw [h2 j e]
      exact hR j hj (by omega)
  have hgk : ∀ (R' : List Value) (v : Value), R'.length = n2 + 1 → (R'.set (0 + (k0 : Int).toNat * 1) v)[k0]? = some v := fun R' v hl => by rw [hk0, List.getElem?_set_self (by omega)]
  have hgn : ∀ (R' : List Value) (v : Value) (j : Nat), ¬ j = k0 → (R'.set (0 + (k0 : Int).toNat * 1) v)[j]? = R'[j]? := fun R' v j hj => by rw [hk0, List.getElem?_set_ne (fun h => hj h.symm)]
  clear hR
  generalize hY : lcs ((a.map Ru.con).drop i0) ((b.map Ru.con).drop (k0 + 1)) = X2 at *
  repeat' (first | ((with_reducible refine at_reg 9 ?_); refine cx_still 23 _ _ (List.take_append_drop 23 _).symm rfl dk dk ?_; dsimp only [List.take, List.drop]) | ((with_reducible refine at_reg 11 ?_); refine cx_still 16 _ _ (List.take_append_drop 16 _).symm rfl dk dk ?_; dsimp only [List.take, List.drop]) | (with_reducible refine qx_tail ?_) | ((with_reducible refine at_load ?_); first | refine sx_loadM rfl (fun w hm => hc0 w (hm.at 0 rfl)) ?_ | refine sx_loadM rfl (fun w hm => hc0 w (hm.at 1 rfl)) ?_ | refine sx_loadM rfl (fun w hm => hc1 w (hm.at 0 rfl)) ?_ | refine sx_loadM rfl (fun w hm => hc1 w (hm.at 1 rfl)) ?_ | refine sx_loadM rfl (fun w hm => hd0 w (hm.at 2 rfl)) ?_ | refine sx_loadM rfl (fun w hm => hd1 w (hm.at 2 rfl)) ?_ | refine sx_loadM rfl (fun w hm => hd2 w (hm.at 1 rfl)) ?_ | refine sx_loadOldA (vs := ra.row) rfl (hA1 (by omega)).2.2 (hA1 (by omega)).2.1 (by simp) rfl hva ?_ | refine sx_loadOldA (vs := rb.row) rfl (hA2 (by omega)).2.2 (hA2 (by omega)).2.1 (by simp) rfl hvb ?_) | ((with_reducible refine at_ixaddr ?_); first | refine sx_indexQ rfl (hA1 (by omega)).1 rfl (by omega) ?_ | refine sx_indexQ rfl (hA2 (by omega)).1 rfl (by omega) ?_) | ((with_reducible refine at_stores ?_); first | refine sx_stval _ vf ?_ | (refine sx_rot rot1 ?_; refine sx_store rfl rfl rfl (Nat.ble_eq_true_of_le (by first | omega | (rw [List.length_set]; omega))) rfl ?_) | (refine sx_store rfl rfl rfl (Nat.ble_eq_true_of_le (by first | omega | (rw [List.length_set]; omega))) rfl ?_)) | ((with_reducible refine at_call 38 ?_); refine sx_callv (fun w hm => diff_sameR ra rb (hoa.mem hm.nil) (hob.mem hm.nil) hbf hbt) ?_ rfl) | ((with_reducible refine at_op ?_); first | ((with_reducible refine at_guard ?_); refine sx_want rfl rfl rfl ras ?_) | ((with_reducible refine at_move ?_); refine sx_move _ vf ?_) | ((with_reducible refine at_bin ?_); first | refine sx_lss rfl rfl ?_ | refine sx_geq rfl rfl ?_ | refine sx_add rfl rfl bnd ?_ | refine sx_sub rfl rfl bnd ?_) | ((with_reducible refine at_assign ?_); refine sx_assign _ vf ?_) | ((with_reducible refine at_pick ?_); refine sx_pickT (.bool _) rfl dec rfl ?_) | refine sx_index rfl rfl bnd ?_ | refine sx_len rfl ?_ | refine sx_max rfl rfl ?_) | refine sx_nil ?_ | ((with_reducible refine at_code ?_); first | refine cx_seq ?_ | refine cx_quiet rfl dk dk ?_ | refine cx_region ?_ | refine cx_skip ?_ | refine cx_block ?_ | (refine cx_cond rfl (fun h => ?_) (fun h => ?_) <;> (try simp only [decide_eq_true_eq, decide_eq_false_iff_not, Bool.and_eq_true, Bool.or_eq_true, Bool.and_eq_false_iff, Bool.or_eq_false_iff, Bool.not_eq_true', Bool.not_eq_false', Bool.not_true, Bool.not_false, Bool.true_or, Bool.or_true, Bool.false_or, Bool.or_false, Bool.and_true, Bool.true_and, Bool.false_and, Bool.and_false, reduceCtorEq, Classical.not_not, beq_self_eq_true, bne_self_eq_false, not_true_eq_false, not_false_eq_true, or_false, false_or, or_true, true_or, and_true, true_and, and_false, false_and, or_self, and_self] at h) <;> (try (exfalso; omega)))) | ((with_reducible refine at_exit ?_); first | refine qx_then ?_ | refine qx_in_normal ?_))
  all_goals try (exfalso; omega)
  · rw [if_pos h] at hpost
    refine qx_mem ?_ (fun w hm => rot1.mem hm)
    exact hK2 k0 _ _ _ (by omega) ⟨_, k0, _, ffr, rfl, rfl, by omega, by rw [List.length_set, List.length_set, hRl], rfl, hend _ _ (by rw [hpost]; omega) (by rw [List.length_set, List.length_set, hRl]) (hgk _ _ (by rw [List.length_set, hRl])) (fun j hj => by rw [hgn _ _ j hj, hgn _ _ j hj])⟩
  · rw [if_neg h] at hpost
    refine qx_mem ?_ (fun w hm => rot1.mem hm)
    exact hK2 k0 _ _ _ (by omega) ⟨_, k0, _, ffr, rfl, rfl, by omega, by rw [List.length_set, hRl], rfl, hend _ _ (by rw [hpost]; omega) (by rw [List.length_set, hRl]) (hgk _ _ hRl) (fun j hj => by rw [hgn _ _ j hj])⟩
set_option maxHeartbeats 4000000 in
theorem diff_Common {A1 A2 : Option Addr} {n1 n2 c1 c2 : Nat} {a b : List Ru} {w : World} (h1 : IsSl w 11 A1 n1 c1 (a.flatMap Ru.row)) (h2 : IsSl w 11 A2 n2 c2 (b.flatMap Ru.row)) (hn1 : n1 = a.length) (hn2 : n2 = b.length) (ho1 : ∀ r ∈ a, r.ok w) (ho2 : ∀ r ∈ b, r.ok w) (he1 : rcE a = 0) (he2 : rcE b = 0) :
    Calls Tryd.prog 20 #[.slice A1 n1 c1, .slice A2 n2 c2] w (Ret w [] (isV (.tuple #[.int .i64 (lcs (a.map Ru.con) (b.map Ru.con) : Nat), er 0]))) := by
  refine cx_enter (args := [.slice A1 n1 c1, .slice A2 n2 c2]) (F := [(0, .slice A1 n1 c1), (1, .slice A2 n2 c2)]) _ [] Tryd.func20 rfl Tryd.ntmps20 (by simp) rfl (Mem.refl _) (fun g => ?_)
  have q1 : ∀ w', Mem w w' [] [] → ∀ r ∈ a, r.ok w' := fun w' hm r hr => (ho1 r hr).mem hm
  have q2 : ∀ w', Mem w w' [] [] → ∀ r ∈ b, r.ok w' := fun w' hm r hr => (ho2 r hr).mem hm
  have hb := fun w' (h1' : IsSl w' 11 A1 n1 c1 (a.flatMap Ru.row)) (h2' : IsSl w' 11 A2 n2 c2 (b.flatMap Ru.row)) (p1 : ∀ r ∈ a, r.ok w') (p2 : ∀ r ∈ b, r.ok w') => diff_both h1' h2' hn1 hn2 p1 p2
  rw [if_neg (fun h => h he1), he2, er, errV_zero] at hb
  repeat' (first | ((with_reducible refine at_load ?_); first | refine sx_loadM (v := .slice (some ⟨Bs 0, 0, none⟩) (n2 + 1) (n2 + 1)) rfl (fun w hm => h00 w (hm.at 0 rfl)) ?_ | refine sx_loadM (v := .int .i64 (lcs (a.map Ru.con) (b.map Ru.con) : Nat)) rfl (fun w hm => h11 w (hm.at 0 rfl)) ?_) | ((with_reducible refine at_call 36 ?_); refine sx_callv (fun w hm => hb w (h1.mem hm.nil) (h2.mem hm.nil) (q1 w hm.nil) (q2 w hm.nil)) ?_ rfl) | ((with_reducible refine at_call 37 ?_); refine sx_call0 (fun w hm => diff_table (h1.mem hm.nil) (h2.mem hm.nil) hn1 hn2 (q1 w hm.nil) (q2 w hm.nil) he1 he2) ?_; rintro _ _ ⟨bt, Bs, ct, rfl, rfl, hT⟩; (have h00 : ∀ w', Has w' ct → w'.cell? ⟨bt, 0 + (0 : Int).toNat * 1, none⟩ = some (.slice (some ⟨Bs 0, 0, none⟩) (n2 + 1) (n2 + 1)) := fun w' hw => by have := ((hT w' hw) 0 (Nat.zero_le _)).1; rw [List.length_map, ← hn2] at this; exact this); (have h11 : ∀ w', Has w' ct → w'.cell? ⟨Bs 0, 0 + (0 : Int).toNat * 1, none⟩ = some (.int .i64 (lcs (a.map Ru.con) (b.map Ru.con) : Nat)) := fun w' hw => ((hT w' hw) 0 (Nat.zero_le _)).2 0 (Nat.zero_le _)); refine sx_app1 ?_) | ((with_reducible refine at_op ?_); first | ((with_reducible refine at_move ?_); refine sx_move _ vf ?_) | ((with_reducible refine at_bin ?_); refine sx_errn_ne rfl ?_) | ((with_reducible refine at_assign ?_); refine sx_assign _ vf ?_) | refine sx_index rfl rfl bnd ?_) | refine sx_nil ?_ | ((with_reducible refine at_code ?_); first | refine cx_seq ?_ | refine cx_region ?_ | refine cx_skip ?_ | refine cx_ret ?_ | refine cx_false rfl ?_) | ((with_reducible refine at_exit ?_); refine qx_then ?_))
  all_goals try (exfalso; omega)
  exact qx_ret2 (v := .int _ _) (x := .nilIface) [] rfl rfl rfl ⟨by rw [er, errV_zero], rfl⟩ (fun w hm => hm.nil)
end Go.Proofs.YtoelbnhjamddgaaDoor
