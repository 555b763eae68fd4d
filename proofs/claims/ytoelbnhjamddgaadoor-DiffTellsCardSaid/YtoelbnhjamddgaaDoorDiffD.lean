/- diff.Diff. -/
import Derived.Test.YtoelbnhjamddgaaDoorDiffB
set_option linter.unusedSimpArgs false
set_option linter.unusedVariables false
set_option maxRecDepth 100000
namespace Go.Port
open Go.RowKit
section
variable {α : Type} [DecidableEq α] {A B : List α} {i k n : Nat} {x y : α}
theorem diff_same_step (hx : A[i]? = some x) (hy : B[k]? = some x) : diffL (A.drop i) (B.drop k) n = diffL (A.drop (i + 1)) (B.drop (k + 1)) (n + 1) := by
  obtain ⟨hi, rfl⟩ := List.getElem?_eq_some_iff.1 hx
  obtain ⟨hk, he⟩ := List.getElem?_eq_some_iff.1 hy
  rw [List.drop_eq_getElem_cons hi, List.drop_eq_getElem_cons hk, diffL, if_pos he.symm]
theorem diff_del_step (hx : A[i]? = some x) (hy : B[k]? = some y) (hne : ¬ x = y) (he : lcs (A.drop (i + 1)) (B.drop k) = lcs (A.drop i) (B.drop k)) : diffL (A.drop i) (B.drop k) n = (n, false, x) :: diffL (A.drop (i + 1)) (B.drop k) n := by
  obtain ⟨hi, rfl⟩ := List.getElem?_eq_some_iff.1 hx
  obtain ⟨hk, rfl⟩ := List.getElem?_eq_some_iff.1 hy
  rw [List.drop_eq_getElem_cons hi, List.drop_eq_getElem_cons hk] at he ⊢
  rw [diffL, if_neg hne, if_pos he]
theorem diff_put_step (hx : A[i]? = some x) (hy : B[k]? = some y) (hne : ¬ x = y) (he : ¬ lcs (A.drop (i + 1)) (B.drop k) = lcs (A.drop i) (B.drop k)) : diffL (A.drop i) (B.drop k) n = (n, true, y) :: diffL (A.drop i) (B.drop (k + 1)) (n + 1) := by
  obtain ⟨hi, rfl⟩ := List.getElem?_eq_some_iff.1 hx
  obtain ⟨hk, rfl⟩ := List.getElem?_eq_some_iff.1 hy
  rw [List.drop_eq_getElem_cons hi, List.drop_eq_getElem_cons hk] at he ⊢
  rw [diffL, if_neg hne, if_neg he]
theorem diff_del_end (hx : A[i]? = some x) (hk : B.length ≤ k) : diffL (A.drop i) (B.drop k) n = (n, false, x) :: diffL (A.drop (i + 1)) (B.drop k) n := by
  obtain ⟨hi, rfl⟩ := List.getElem?_eq_some_iff.1 hx
  rw [List.drop_eq_getElem_cons hi, List.drop_of_length_le hk, diffL]
theorem diff_put_end (hi : A.length ≤ i) (hy : B[k]? = some y) : diffL (A.drop i) (B.drop k) n = (n, true, y) :: diffL (A.drop i) (B.drop (k + 1)) (n + 1) := by
  obtain ⟨hk, rfl⟩ := List.getElem?_eq_some_iff.1 hy
  rw [List.drop_of_length_le hi, List.drop_eq_getElem_cons hk, diffL]
end
theorem eu_snoc (es : List Eu) (e : Eu) : es.flatMap Eu.row ++ e.row = (es ++ [e]).flatMap Eu.row := by rw [List.flatMap_append, List.flatMap_cons, List.flatMap_nil, List.append_nil]
theorem ed_snoc {es : List Eu} {r' : Ru} {k : Nat} {put : Bool} {x : Rc} {rest : List (Ed Rc)} {t : List Ec} (hc : r'.con = x) (h : es.map Eu.con ++ ((k, put, x) :: rest).map Ed.int = t) : (es ++ [(⟨(k : Int), put, r'⟩ : Eu)]).map Eu.con ++ rest.map Ed.int = t := by
  rw [← h, ← hc, List.map_append, List.append_assoc]
  rfl
theorem pool_snoc {es : List Eu} {r' : Ru} {k : Int} {put : Bool} {pool c' : Ch} (h1 : ∀ w', Has w' pool → ∀ e ∈ es, e.r.ok w') (h2 : ∀ w', Has w' c' → r'.ok w') : ∀ w', Has w' (c' ++ pool) → ∀ e ∈ es ++ [(⟨k, put, r'⟩ : Eu)], e.r.ok w' := fun w' hw e he => by
  rcases List.mem_append.1 he with he | he
  · exact h1 w' (fun e he => hw e (List.mem_append_right _ he)) e he
  · obtain rfl := List.mem_singleton.1 he
    exact h2 w' (fun e he => hw e (List.mem_append_left _ he))
end Go.Port
namespace Go.Proofs.YtoelbnhjamddgaaDoor
open Go.RowKit Go.Port
attribute [local irreducible] Calls
set_option maxHeartbeats 16000000 in
theorem diff_Diff {A1 A2 : Option Addr} {n1 n2 c1 c2 : Nat} {a b : List Ru} {w : World} (h1 : IsSl w 11 A1 n1 c1 (a.flatMap Ru.row)) (h2 : IsSl w 11 A2 n2 c2 (b.flatMap Ru.row)) (hn1 : n1 = a.length) (hn2 : n2 = b.length) (ho1 : ∀ r ∈ a, r.ok w) (ho2 : ∀ r ∈ b, r.ok w) :
    Calls Tryd.prog 18 #[.slice A1 n1 c1, .slice A2 n2 c2] w (Ret w [] (fun v L => (¬ (if ¬ rcE a = 0 then rcE a else rcE b) = 0 ∧ v = .tuple #[.slice none 0 0, er (if ¬ rcE a = 0 then rcE a else rcE b)] ∧ L = []) ∨ ((rcE a = 0 ∧ rcE b = 0) ∧ ∃ A m cap c, ∃ es : List Eu, v = .tuple #[.slice A m cap, er 0] ∧ L = [c] ∧ m = es.length ∧ es.map Eu.con = (diffL (a.map Ru.con) (b.map Ru.con) 0).map Ed.int ∧ ∀ w', Has w' c → IsSl w' 13 A m cap (es.flatMap Eu.row) ∧ ∀ e ∈ es, e.r.ok w'))) := by
  refine cx_enter (args := [.slice A1 n1 c1, .slice A2 n2 c2]) (F := [(0, .slice A1 n1 c1), (1, .slice A2 n2 c2)]) _ [] Tryd.func18 rfl Tryd.ntmps18 (by simp) rfl (Mem.refl _) (fun g => ?_)
  have q1 : ∀ w', Mem w w' [] [] → ∀ r ∈ a, r.ok w' := fun w' hm r hr => (ho1 r hr).mem hm
  have q2 : ∀ w', Mem w w' [] [] → ∀ r ∈ b, r.ok w' := fun w' hm r hr => (ho2 r hr).mem hm
  have hb := fun w' (h1' : IsSl w' 11 A1 n1 c1 (a.flatMap Ru.row)) (h2' : IsSl w' 11 A2 n2 c2 (b.flatMap Ru.row)) (p1 : ∀ r ∈ a, r.ok w') (p2 : ∀ r ∈ b, r.ok w') => diff_both h1' h2' hn1 hn2 p1 p2
  by_cases hE : (if ¬ rcE a = 0 then rcE a else rcE b) = 0
  rotate_left
  · repeat' (first | ((with_reducible refine at_call 36 ?_); refine sx_callv (fun w hm => hb w (h1.mem hm.nil) (h2.mem hm.nil) (q1 w hm.nil) (q2 w hm.nil)) ?_ rfl) | ((with_reducible refine at_op ?_); first | ((with_reducible refine at_move ?_); refine sx_move _ vf ?_) | ((with_reducible refine at_bin ?_); refine sx_err_ne rfl ?_) | ((with_reducible refine at_assign ?_); refine sx_assign _ vf ?_)) | refine sx_nil ?_ | ((with_reducible refine at_code ?_); first | refine cx_seq ?_ | refine cx_region ?_ | refine cx_ret ?_ | (refine cx_cond rfl (fun h => ?_) (fun h => ?_) <;> (try simp only [decide_eq_true_eq, decide_eq_false_iff_not, Bool.and_eq_true, Bool.or_eq_true, Bool.and_eq_false_iff, Bool.or_eq_false_iff, Bool.not_eq_true', Bool.not_eq_false', Bool.not_true, Bool.not_false, Bool.true_or, Bool.or_true, Bool.false_or, Bool.or_false, Bool.and_true, Bool.true_and, Bool.false_and, Bool.and_false, reduceCtorEq, Classical.not_not, beq_self_eq_true, bne_self_eq_false, not_true_eq_false, not_false_eq_true, or_false, false_or, or_true, true_or, and_true, true_and, and_false, false_and, or_self, and_self] at h) <;> (try (exfalso; omega)))) | ((with_reducible refine at_exit ?_); first | refine qx_then ?_ | refine qx_then_ret ?_))
    all_goals first
      | (exfalso; omega)
      | exact qx_ret2 (v := .slice none 0 0) (x := errV _ _) [] rfl rfl rfl (.inl ⟨hE, rfl, rfl⟩) (fun w hm => hm.nil)
  rw [hE, er, errV_zero] at hb
  have he1 : rcE a = 0 := Classical.byContradiction fun h => by rw [if_pos h] at hE; exact h hE
  have he2 : rcE b = 0 := by rw [if_neg (fun h => h he1)] at hE; exact hE
  obtain ⟨hl1, hp1⟩ := rc_bd he1
  obtain ⟨hl2, hp2⟩ := rc_bd he2
  obtain ⟨x1, o1, hA1⟩ := h1.base
  obtain ⟨x2, o2, hA2⟩ := h2.base
  repeat' (first | ((with_reducible refine at_call 36 ?_); refine sx_callv (fun w hm => hb w (h1.mem hm.nil) (h2.mem hm.nil) (q1 w hm.nil) (q2 w hm.nil)) ?_ rfl) | ((with_reducible refine at_call 37 ?_); refine sx_call0 (fun w hm => diff_table (h1.mem hm.nil) (h2.mem hm.nil) hn1 hn2 (q1 w hm.nil) (q2 w hm.nil) he1 he2) ?_; rintro _ _ ⟨bt, Bs, ct, rfl, rfl, hT⟩; refine sx_app1 ?_) | ((with_reducible refine at_op ?_); first | ((with_reducible refine at_move ?_); refine sx_move _ vf ?_) | ((with_reducible refine at_bin ?_); refine sx_errn_ne rfl ?_) | ((with_reducible refine at_assign ?_); refine sx_assign _ vf ?_)) | refine sx_nil ?_ | ((with_reducible refine at_code ?_); first | refine cx_seq ?_ | refine cx_region ?_ | refine cx_skip ?_ | refine cx_block ?_ | refine cx_false rfl ?_) | ((with_reducible refine at_exit ?_); refine qx_then ?_))
  all_goals try (exfalso; omega)
  clear hb q1 q2 hE
  refine cx_mem (L' := [[], [], ct]) ?_ (fun w hm => rotN.mem (rotN.mem hm))
  refine cx_loop (fun mm fr L => ∃ (i k : Nat) (Ao : Option Addr) (mo co : Nat) (cO pool : Ch) (es : List Eu), FF fr [(0, .slice A1 n1 c1), (1, .slice A2 n2 c2), (7, .slice (some ⟨bt, 0, none⟩) (n1 + 1) (n1 + 1)), (8, .slice Ao mo co), (9, .int .i64 (k : Int)), (10, .int .i64 (i : Int)), (11, .int .i64 (k : Int))] ∧ L = [cO, pool, ct] ∧ OwnS 57 13 (.slice Ao mo co) mo (es.flatMap Eu.row) cO ∧ mo = es.length ∧ mo ≤ i + k ∧ i ≤ n1 ∧ k ≤ n2 ∧ mm = (n1 - i) + (n2 - k) ∧ (∀ w', Has w' pool → ∀ e ∈ es, e.r.ok w') ∧ es.map Eu.con ++ (diffL ((a.map Ru.con).drop i) ((b.map Ru.con).drop k) k).map Ed.int = (diffL (a.map Ru.con) (b.map Ru.con) 0).map Ed.int) (n1 + n2)
    ⟨0, 0, none, 0, 0, [], [], [], ffr, rfl, OwnS.nil _ _, rfl, by omega, by omega, by omega, by omega, (fun _ _ e he => by cases he), rfl⟩ ?_
  rintro mm fr L ⟨i, k, Ao, mo, co, cO, pool, es, hF, rfl, hoo, hmo, hmi, hi, hk, rfl, hpool, hst⟩ K hK
  refine cx_use hF fun g => ?_
  clear hF
  by_cases hend : i = n1 ∧ k = n2
  · obtain ⟨rfl, rfl⟩ := hend
    rw [List.drop_of_length_le (l := a.map Ru.con) (by rw [List.length_map]; omega), List.drop_of_length_le (l := b.map Ru.con) (by rw [List.length_map]; omega), diffL, List.map_nil, List.append_nil] at hst
    clear hK
    repeat' (first | ((with_reducible refine at_op ?_); first | ((with_reducible refine at_guard ?_); first | refine sx_want rfl rfl rfl ras ?_ | refine sx_lit false rfl rfl rfl dec ?_) | ((with_reducible refine at_move ?_); refine sx_move _ vf ?_) | ((with_reducible refine at_bin ?_); refine sx_lss rfl rfl ?_) | ((with_reducible refine at_assign ?_); refine sx_assign _ vf ?_) | ((with_reducible refine at_pick ?_); refine sx_pickF (.bool _) rfl dec rfl ?_) | refine sx_len rfl ?_) | refine sx_nil ?_ | ((with_reducible refine at_code ?_); first | refine cx_seq ?_ | refine cx_region ?_ | refine cx_ret ?_ | refine cx_exit ?_ | (refine cx_cond rfl (fun h => ?_) (fun h => ?_) <;> (try simp only [decide_eq_true_eq, decide_eq_false_iff_not, Bool.and_eq_true, Bool.or_eq_true, Bool.and_eq_false_iff, Bool.or_eq_false_iff, Bool.not_eq_true', Bool.not_eq_false', Bool.not_true, Bool.not_false, Bool.true_or, Bool.or_true, Bool.false_or, Bool.or_false, Bool.and_true, Bool.true_and, Bool.false_and, Bool.and_false, reduceCtorEq, Classical.not_not, beq_self_eq_true, bne_self_eq_false, not_true_eq_false, not_false_eq_true, or_false, false_or, or_true, true_or, and_true, true_and, and_false, false_and, or_self, and_self] at h) <;> (try (exfalso; omega)))) | ((with_reducible refine at_exit ?_); first | refine qx_then ?_ | refine qx_in_here ?_ | refine qx_then_exit ?_))
    all_goals try (exfalso; omega)
    exact qx_ret2 (v := .slice _ _ _) (x := .nilIface) [cO ++ pool] rfl rfl rfl (.inr ⟨⟨he1, he2⟩, Ao, mo, co, _, es, by rw [er, errV_zero], rfl, hmo, hst, fun w' hw => ⟨(hoo.sees (fun e he => hw e (List.mem_append_left _ he))).1, hpool w' (fun e he => hw e (List.mem_append_right _ he))⟩⟩) (fun w hm => (hm.picks [0, 0]).perm (by simp [Port.picks]))
  have hT0 : i < n1 → ∀ w', Has w' ct → w'.cell? ⟨bt, 0 + (i : Int).toNat * 1, none⟩ = some (.slice (some ⟨Bs i, 0, none⟩) (n2 + 1) (n2 + 1)) := fun h w' hw => by
    have := (hT w' hw i (by rw [List.length_map]; omega)).1
    rw [List.length_map, ← hn2] at this
    rw [show 0 + (i : Int).toNat * 1 = i by omega]; exact this
  have hT1 : i < n1 → ∀ w', Has w' ct → w'.cell? ⟨bt, 0 + ((i : Int) + 1).toNat * 1, none⟩ = some (.slice (some ⟨Bs (i + 1), 0, none⟩) (n2 + 1) (n2 + 1)) := fun h w' hw => by
    have := (hT w' hw (i + 1) (by rw [List.length_map]; omega)).1
    rw [List.length_map, ← hn2] at this
    rw [show 0 + ((i : Int) + 1).toNat * 1 = i + 1 by omega]; exact this
  have hV0 : i < n1 → ∀ w', Has w' ct → w'.cell? ⟨Bs i, 0 + (k : Int).toNat * 1, none⟩ = some (.int .i64 (lcs ((a.map Ru.con).drop i) ((b.map Ru.con).drop k) : Nat)) := fun h w' hw => by
    rw [show 0 + (k : Int).toNat * 1 = k by omega]
    exact (hT w' hw i (by rw [List.length_map]; omega)).2 k (by rw [List.length_map]; omega)
  have hV1 : i < n1 → ∀ w', Has w' ct → w'.cell? ⟨Bs (i + 1), 0 + (k : Int).toNat * 1, none⟩ = some (.int .i64 (lcs ((a.map Ru.con).drop (i + 1)) ((b.map Ru.con).drop k) : Nat)) := fun h w' hw => by
    rw [show 0 + (k : Int).toNat * 1 = k by omega]
    exact (hT w' hw (i + 1) (by rw [List.length_map]; omega)).2 k (by rw [List.length_map]; omega)
  have hgA : ∀ ra, a[i]? = some ra → (ra.ok w ∧ (ra.lf.length ≤ 10 ∧ ra.lt.length ≤ 10) ∧ ra.fl ≤ 4611686018427387904 ∧ ra.tl ≤ 4611686018427387904) ∧ ∀ j v, ra.row[j]? = some v → (a.flatMap Ru.row)[(i : Int).toNat * 11 + j]? = some v := fun ra hra => by
    have hoa := ho1 _ (List.mem_of_getElem? hra)
    have hba := hp1 _ (List.mem_of_getElem? hra)
    exact ⟨⟨hoa, hba, by have := hoa.1.2; omega, by have := hoa.2.2; omega⟩, fun j v hv => ru_at (i := (i : Int).toNat) (by rw [Int.toNat_natCast]; exact hra) j v hv⟩
  have hgB : ∀ rb, b[k]? = some rb → (rb.ok w ∧ (rb.lf.length ≤ 10 ∧ rb.lt.length ≤ 10) ∧ rb.fl ≤ 4611686018427387904 ∧ rb.tl ≤ 4611686018427387904) ∧ ∀ j v, rb.row[j]? = some v → (b.flatMap Ru.row)[(k : Int).toNat * 11 + j]? = some v := fun rb hrb => by
    have hob := ho2 _ (List.mem_of_getElem? hrb)
    have hbb := hp2 _ (List.mem_of_getElem? hrb)
    exact ⟨⟨hob, hbb, by have := hob.1.2; omega, by have := hob.2.2; omega⟩, fun j v hv => ru_at (i := (k : Int).toNat) (by rw [Int.toNat_natCast]; exact hrb) j v hv⟩
  clear hT ho1 ho2 hp1 hp2
  by_cases hin : i < n1
  · obtain ⟨ra, hra⟩ : ∃ r, a[i]? = some r := ⟨_, List.getElem?_eq_getElem (by omega)⟩
    obtain ⟨⟨hoa, hba, hbf, hbt⟩, hva⟩ := hgA ra hra
    have hra' : (a.map Ru.con)[i]? = some ra.con := by rw [List.getElem?_map, hra]; rfl
    have g1 : decide ((i : Int) < (n1 : Int)) = true := decide_eq_true (by omega)
    by_cases hkn : k < n2
    · obtain ⟨rb, hrb⟩ : ∃ r, b[k]? = some r := ⟨_, List.getElem?_eq_getElem (by omega)⟩
      obtain ⟨⟨hob, hbb, _, _⟩, hvb⟩ := hgB rb hrb
      have hrb' : (b.map Ru.con)[k]? = some rb.con := by rw [List.getElem?_map, hrb]; rfl
      have g2 : decide ((k : Int) < (n2 : Int)) = true := decide_eq_true (by omega)
      clear hgA hgB
      by_cases hsame : ra.con = rb.con
      · have g3 : decide (ra.con = rb.con) = true := decide_eq_true hsame
        rw [diff_same_step hra' (by rw [hsame]; exact hrb')] at hst
        repeat' (first | (refine cx_cond rfl (fun h => ?_) (fun h => ?_) <;> (try simp only [decide_eq_true_eq, decide_eq_false_iff_not, Bool.and_eq_true, Bool.or_eq_true, Bool.and_eq_false_iff, Bool.or_eq_false_iff, Bool.not_eq_true', Bool.not_eq_false', Bool.not_true, Bool.not_false, Bool.true_or, Bool.or_true, Bool.false_or, Bool.or_false, Bool.and_true, Bool.true_and, Bool.false_and, Bool.and_false, reduceCtorEq, Classical.not_not, beq_self_eq_true, bne_self_eq_false, not_true_eq_false, not_false_eq_true, or_false, false_or, or_true, true_or, and_true, true_and, and_false, false_and, or_self, and_self] at h) <;> (try (exfalso; first | exact h hsame | exact hsame h | omega))) | ((with_reducible refine at_ixaddr ?_); refine sx_indexQ rfl (hA1 (by omega)).1 rfl (by omega) ?_) | ((with_reducible refine at_load ?_); refine sx_loadOldA (vs := ra.row) rfl (hA1 (by omega)).2.2 (hA1 (by omega)).2.1 (by simp) rfl hva ?_) | ((with_reducible refine at_ixaddr ?_); refine sx_indexQ rfl (hA2 (by omega)).1 rfl (by omega) ?_) | ((with_reducible refine at_load ?_); refine sx_loadOldA (vs := rb.row) rfl (hA2 (by omega)).2.2 (hA2 (by omega)).2.1 (by simp) rfl hvb ?_) | ((with_reducible refine at_call 38 ?_); refine sx_callv (fun w hm => diff_sameR ra rb (hoa.mem hm.nil) (hob.mem hm.nil) hbf hbt) ?_ rfl) | ((with_reducible refine at_op ?_); first | ((with_reducible refine at_guard ?_); first | refine sx_want rfl rfl rfl ras ?_ | refine sx_skip rfl rfl rfl ras ?_) | ((with_reducible refine at_move ?_); refine sx_move _ vf ?_) | ((with_reducible refine at_bin ?_); first | refine sx_lss rfl rfl ?_ | refine sx_add rfl rfl bnd ?_) | ((with_reducible refine at_assign ?_); refine sx_assign _ vf ?_) | ((with_reducible refine at_pick ?_); refine sx_pickT (.bool _) rfl dec rfl ?_) | refine sx_len rfl ?_) | refine sx_nil ?_ | ((with_reducible refine at_code ?_); first | refine cx_seq ?_ | refine cx_quiet rfl dk dk ?_ | refine cx_region ?_ | refine cx_skip ?_ | refine cx_block ?_) | ((with_reducible refine at_exit ?_); first | refine qx_then ?_ | refine qx_in_normal ?_))
        all_goals try (exfalso; omega)
        exact hK ((n1 - (i + 1)) + (n2 - (k + 1))) _ _ _ (by omega) ⟨i + 1, k + 1, Ao, mo, co, cO, pool, es, ffr, rfl, hoo, hmo, by omega, by omega, by omega, rfl, hpool, hst⟩
      · have g3 : decide (ra.con = rb.con) = false := decide_eq_false hsame
        by_cases heq : lcs ((a.map Ru.con).drop (i + 1)) ((b.map Ru.con).drop k) = lcs ((a.map Ru.con).drop i) ((b.map Ru.con).drop k)
        · rw [diff_del_step hra' hrb' hsame heq] at hst
          generalize lcs ((a.map Ru.con).drop (i + 1)) ((b.map Ru.con).drop k) = X1 at *
          generalize lcs ((a.map Ru.con).drop i) ((b.map Ru.con).drop k) = X2 at *
          have g4 : decide ((X1 : Int) = (X2 : Int)) = true := decide_eq_true (by omega)
          repeat' (first | (refine cx_cond rfl (fun h => ?_) (fun h => ?_) <;> (try simp only [decide_eq_true_eq, decide_eq_false_iff_not, Bool.and_eq_true, Bool.or_eq_true, Bool.and_eq_false_iff, Bool.or_eq_false_iff, Bool.not_eq_true', Bool.not_eq_false', Bool.not_true, Bool.not_false, Bool.true_or, Bool.or_true, Bool.false_or, Bool.or_false, Bool.and_true, Bool.true_and, Bool.false_and, Bool.and_false, reduceCtorEq, Classical.not_not, beq_self_eq_true, bne_self_eq_false, not_true_eq_false, not_false_eq_true, or_false, false_or, or_true, true_or, and_true, true_and, and_false, false_and, or_self, and_self] at h) <;> (try (exfalso; first | exact h hsame | exact hsame h | omega))) | ((with_reducible refine at_load ?_); first | refine sx_loadM rfl (fun w hm => hT0 (by omega) w (hm.at 2 rfl)) ?_ | refine sx_loadM rfl (fun w hm => hT1 (by omega) w (hm.at 2 rfl)) ?_ | refine sx_loadM rfl (fun w hm => hV0 (by omega) w (hm.at 2 rfl)) ?_ | refine sx_loadM rfl (fun w hm => hV1 (by omega) w (hm.at 2 rfl)) ?_) | ((with_reducible refine at_ixaddr ?_); refine sx_indexQ rfl (hA1 (by omega)).1 rfl (by omega) ?_) | ((with_reducible refine at_load ?_); refine sx_loadOldA (vs := ra.row) rfl (hA1 (by omega)).2.2 (hA1 (by omega)).2.1 (by simp) rfl hva ?_) | ((with_reducible refine at_ixaddr ?_); refine sx_indexQ rfl (hA2 (by omega)).1 rfl (by omega) ?_) | ((with_reducible refine at_load ?_); refine sx_loadOldA (vs := rb.row) rfl (hA2 (by omega)).2.2 (hA2 (by omega)).2.1 (by simp) rfl hvb ?_) | ((with_reducible refine at_call 38 ?_); refine sx_callv (fun w hm => diff_sameR ra rb (hoa.mem hm.nil) (hob.mem hm.nil) hbf hbt) ?_ rfl) | ((with_reducible refine at_call 39 ?_); refine sx_call0 (fun w hm => diff_cloneR ra (hoa.mem hm.nil) (by omega) (by omega)) ?_; rintro _ _ ⟨r', c', rfl, rfl, hcon, hok'⟩; refine sx_app1 ?_) | ((with_reducible refine at_build ?_); refine sx_build (Eu.row ⟨_, _, r'⟩) rfl ?_) | ((with_reducible refine at_buildS ?_); (refine sx_buildS (Eu.row ⟨_, _, r'⟩) rfl rfl rfl rfl rfl ?_; intro bl)) | ((with_reducible refine at_append ?_); refine sx_append1 (v := .slice _ _ _) rfl rfl rot1 hoo rfl bnd rfl (by omega) ?_; rintro _ cE hoE; obtain ⟨AE, cpE, rfl, hcpE⟩ := hoE.len) | ((with_reducible refine at_op ?_); first | ((with_reducible refine at_guard ?_); first | refine sx_want rfl rfl rfl ras ?_ | refine sx_skip rfl rfl rfl ras ?_) | ((with_reducible refine at_move ?_); refine sx_move _ vf ?_) | ((with_reducible refine at_bin ?_); first | refine sx_lss rfl rfl ?_ | refine sx_eql rfl rfl ?_ | refine sx_add rfl rfl bnd ?_) | ((with_reducible refine at_assign ?_); refine sx_assign _ vf ?_) | ((with_reducible refine at_pick ?_); refine sx_pickT (.bool _) rfl dec rfl ?_) | refine sx_index rfl rfl bnd ?_ | refine sx_len rfl ?_) | refine sx_nil ?_ | ((with_reducible refine at_code ?_); first | refine cx_seq ?_ | refine cx_quiet rfl dk dk ?_ | refine cx_region ?_ | refine cx_skip ?_ | refine cx_block ?_) | ((with_reducible refine at_exit ?_); first | refine qx_then ?_ | refine qx_in_normal ?_))
          all_goals try (exfalso; omega)
          refine qx_mem (L' := [cE, c' ++ pool, ct]) ?_ (fun w hm => hm.perm (by simp))
          rw [eu_snoc] at hoE
          exact hK ((n1 - (i + 1)) + (n2 - (k))) _ _ _ (by omega) ⟨i + 1, k, AE, mo + 1, cpE, cE, c' ++ pool, _, ffr, rfl, hoE, by rw [List.length_append, ← hmo]; rfl, by omega, by omega, by omega, rfl, pool_snoc hpool hok', ed_snoc hcon hst⟩
        · rw [diff_put_step hra' hrb' hsame heq] at hst
          generalize lcs ((a.map Ru.con).drop (i + 1)) ((b.map Ru.con).drop k) = X1 at *
          generalize lcs ((a.map Ru.con).drop i) ((b.map Ru.con).drop k) = X2 at *
          have g4 : decide ((X1 : Int) = (X2 : Int)) = false := decide_eq_false (by omega)
          repeat' (first | (refine cx_cond rfl (fun h => ?_) (fun h => ?_) <;> (try simp only [decide_eq_true_eq, decide_eq_false_iff_not, Bool.and_eq_true, Bool.or_eq_true, Bool.and_eq_false_iff, Bool.or_eq_false_iff, Bool.not_eq_true', Bool.not_eq_false', Bool.not_true, Bool.not_false, Bool.true_or, Bool.or_true, Bool.false_or, Bool.or_false, Bool.and_true, Bool.true_and, Bool.false_and, Bool.and_false, reduceCtorEq, Classical.not_not, beq_self_eq_true, bne_self_eq_false, not_true_eq_false, not_false_eq_true, or_false, false_or, or_true, true_or, and_true, true_and, and_false, false_and, or_self, and_self] at h) <;> (try (exfalso; first | exact h hsame | exact hsame h | omega))) | ((with_reducible refine at_load ?_); first | refine sx_loadM rfl (fun w hm => hT0 (by omega) w (hm.at 2 rfl)) ?_ | refine sx_loadM rfl (fun w hm => hT1 (by omega) w (hm.at 2 rfl)) ?_ | refine sx_loadM rfl (fun w hm => hV0 (by omega) w (hm.at 2 rfl)) ?_ | refine sx_loadM rfl (fun w hm => hV1 (by omega) w (hm.at 2 rfl)) ?_) | ((with_reducible refine at_ixaddr ?_); refine sx_indexQ rfl (hA1 (by omega)).1 rfl (by omega) ?_) | ((with_reducible refine at_load ?_); refine sx_loadOldA (vs := ra.row) rfl (hA1 (by omega)).2.2 (hA1 (by omega)).2.1 (by simp) rfl hva ?_) | ((with_reducible refine at_ixaddr ?_); refine sx_indexQ rfl (hA2 (by omega)).1 rfl (by omega) ?_) | ((with_reducible refine at_load ?_); refine sx_loadOldA (vs := rb.row) rfl (hA2 (by omega)).2.2 (hA2 (by omega)).2.1 (by simp) rfl hvb ?_) | ((with_reducible refine at_call 38 ?_); refine sx_callv (fun w hm => diff_sameR ra rb (hoa.mem hm.nil) (hob.mem hm.nil) hbf hbt) ?_ rfl) | ((with_reducible refine at_call 39 ?_); refine sx_call0 (fun w hm => diff_cloneR rb (hob.mem hm.nil) (by omega) (by omega)) ?_; rintro _ _ ⟨r', c', rfl, rfl, hcon, hok'⟩; refine sx_app1 ?_) | ((with_reducible refine at_build ?_); refine sx_build (Eu.row ⟨_, _, r'⟩) rfl ?_) | ((with_reducible refine at_buildS ?_); (refine sx_buildS (Eu.row ⟨_, _, r'⟩) rfl rfl rfl rfl rfl ?_; intro bl)) | ((with_reducible refine at_append ?_); refine sx_append1 (v := .slice _ _ _) rfl rfl rot1 hoo rfl bnd rfl (by omega) ?_; rintro _ cE hoE; obtain ⟨AE, cpE, rfl, hcpE⟩ := hoE.len) | ((with_reducible refine at_op ?_); first | ((with_reducible refine at_guard ?_); first | refine sx_want rfl rfl rfl ras ?_ | refine sx_skip rfl rfl rfl ras ?_) | ((with_reducible refine at_move ?_); refine sx_move _ vf ?_) | ((with_reducible refine at_bin ?_); first | refine sx_lss rfl rfl ?_ | refine sx_eql rfl rfl ?_ | refine sx_add rfl rfl bnd ?_) | ((with_reducible refine at_assign ?_); refine sx_assign _ vf ?_) | ((with_reducible refine at_pick ?_); refine sx_pickT (.bool _) rfl dec rfl ?_) | refine sx_index rfl rfl bnd ?_ | refine sx_len rfl ?_) | refine sx_nil ?_ | ((with_reducible refine at_code ?_); first | refine cx_seq ?_ | refine cx_quiet rfl dk dk ?_ | refine cx_region ?_ | refine cx_skip ?_ | refine cx_block ?_) | ((with_reducible refine at_exit ?_); first | refine qx_then ?_ | refine qx_in_normal ?_))
          all_goals try (exfalso; omega)
          refine qx_mem (L' := [cE, c' ++ pool, ct]) ?_ (fun w hm => hm.perm (by simp))
          rw [eu_snoc] at hoE
          exact hK ((n1 - (i)) + (n2 - (k + 1))) _ _ _ (by omega) ⟨i, k + 1, AE, mo + 1, cpE, cE, c' ++ pool, _, ffr, rfl, hoE, by rw [List.length_append, ← hmo]; rfl, by omega, by omega, by omega, rfl, pool_snoc hpool hok', ed_snoc hcon hst⟩
    · have g2 : decide ((k : Int) < (n2 : Int)) = false := decide_eq_false (by omega)
      rw [diff_del_end hra' (by rw [List.length_map]; omega)] at hst
      have hz : ∀ j, lcs ((a.map Ru.con).drop j) ((b.map Ru.con).drop k) = 0 := fun j => by rw [List.drop_of_length_le (l := b.map Ru.con) (by rw [List.length_map]; omega), lcs_nilr]
      rw [hz] at hV0 hV1
      have g4 : decide (((0 : Nat) : Int) = ((0 : Nat) : Int)) = true := decide_eq_true rfl
      clear hz
      repeat' (first | ((with_reducible refine at_load ?_); first | refine sx_loadM rfl (fun w hm => hT0 (by omega) w (hm.at 2 rfl)) ?_ | refine sx_loadM rfl (fun w hm => hT1 (by omega) w (hm.at 2 rfl)) ?_ | refine sx_loadM rfl (fun w hm => hV0 (by omega) w (hm.at 2 rfl)) ?_ | refine sx_loadM rfl (fun w hm => hV1 (by omega) w (hm.at 2 rfl)) ?_) | ((with_reducible refine at_ixaddr ?_); refine sx_indexQ rfl (hA1 (by omega)).1 rfl (by omega) ?_) | ((with_reducible refine at_load ?_); refine sx_loadOldA (vs := ra.row) rfl (hA1 (by omega)).2.2 (hA1 (by omega)).2.1 (by simp) rfl hva ?_) | ((with_reducible refine at_call 39 ?_); refine sx_call0 (fun w hm => diff_cloneR ra (hoa.mem hm.nil) (by omega) (by omega)) ?_; rintro _ _ ⟨r', c', rfl, rfl, hcon, hok'⟩; refine sx_app1 ?_) | ((with_reducible refine at_build ?_); refine sx_build (Eu.row ⟨_, _, r'⟩) rfl ?_) | ((with_reducible refine at_buildS ?_); (refine sx_buildS (Eu.row ⟨_, _, r'⟩) rfl rfl rfl rfl rfl ?_; intro bl)) | ((with_reducible refine at_append ?_); refine sx_append1 (v := .slice _ _ _) rfl rfl rot1 hoo rfl bnd rfl (by omega) ?_; rintro _ cE hoE; obtain ⟨AE, cpE, rfl, hcpE⟩ := hoE.len) | ((with_reducible refine at_op ?_); first | ((with_reducible refine at_guard ?_); first | refine sx_want rfl rfl rfl ras ?_ | refine sx_skip rfl rfl rfl ras ?_) | ((with_reducible refine at_move ?_); refine sx_move _ vf ?_) | ((with_reducible refine at_bin ?_); first | refine sx_lss rfl rfl ?_ | refine sx_eql rfl rfl ?_ | refine sx_add rfl rfl bnd ?_) | ((with_reducible refine at_assign ?_); refine sx_assign _ vf ?_) | ((with_reducible refine at_pick ?_); first | refine sx_pickT (.bool _) rfl dec rfl ?_ | refine sx_pickF (.bool _) rfl dec rfl ?_) | refine sx_index rfl rfl bnd ?_ | refine sx_len rfl ?_) | refine sx_nil ?_ | ((with_reducible refine at_code ?_); first | refine cx_seq ?_ | refine cx_quiet rfl dk dk ?_ | refine cx_region ?_ | refine cx_skip ?_ | refine cx_block ?_ | refine cx_true rfl ?_ | refine cx_false rfl ?_) | ((with_reducible refine at_exit ?_); first | refine qx_then ?_ | refine qx_in_normal ?_))
      all_goals try (exfalso; omega)
      refine qx_mem (L' := [cE, c' ++ pool, ct]) ?_ (fun w hm => hm.perm (by simp))
      rw [eu_snoc] at hoE
      exact hK ((n1 - (i + 1)) + (n2 - (k))) _ _ _ (by omega) ⟨i + 1, k, AE, mo + 1, cpE, cE, c' ++ pool, _, ffr, rfl, hoE, by rw [List.length_append, ← hmo]; rfl, by omega, by omega, by omega, rfl, pool_snoc hpool hok', ed_snoc hcon hst⟩
  · have g1 : decide ((i : Int) < (n1 : Int)) = false := decide_eq_false (by omega)
    have hkn : k < n2 := by omega
    obtain ⟨rb, hrb⟩ : ∃ r, b[k]? = some r := ⟨_, List.getElem?_eq_getElem (by omega)⟩
    obtain ⟨⟨hob, hbb, _, _⟩, hvb⟩ := hgB rb hrb
    have hrb' : (b.map Ru.con)[k]? = some rb.con := by rw [List.getElem?_map, hrb]; rfl
    rw [diff_put_end (by rw [List.length_map]; omega) hrb'] at hst
    repeat' (first | ((with_reducible refine at_ixaddr ?_); refine sx_indexQ rfl (hA2 (by omega)).1 rfl (by omega) ?_) | ((with_reducible refine at_load ?_); refine sx_loadOldA (vs := rb.row) rfl (hA2 (by omega)).2.2 (hA2 (by omega)).2.1 (by simp) rfl hvb ?_) | ((with_reducible refine at_call 39 ?_); refine sx_call0 (fun w hm => diff_cloneR rb (hob.mem hm.nil) (by omega) (by omega)) ?_; rintro _ _ ⟨r', c', rfl, rfl, hcon, hok'⟩; refine sx_app1 ?_) | ((with_reducible refine at_build ?_); refine sx_build (Eu.row ⟨_, _, r'⟩) rfl ?_) | ((with_reducible refine at_buildS ?_); (refine sx_buildS (Eu.row ⟨_, _, r'⟩) rfl rfl rfl rfl rfl ?_; intro bl)) | ((with_reducible refine at_append ?_); refine sx_append1 (v := .slice _ _ _) rfl rfl rot1 hoo rfl bnd rfl (by omega) ?_; rintro _ cE hoE; obtain ⟨AE, cpE, rfl, hcpE⟩ := hoE.len) | ((with_reducible refine at_op ?_); first | ((with_reducible refine at_guard ?_); first | refine sx_want rfl rfl rfl ras ?_ | refine sx_skip rfl rfl rfl ras ?_) | ((with_reducible refine at_move ?_); refine sx_move _ vf ?_) | ((with_reducible refine at_bin ?_); first | refine sx_lss rfl rfl ?_ | refine sx_add rfl rfl bnd ?_) | ((with_reducible refine at_assign ?_); refine sx_assign _ vf ?_) | ((with_reducible refine at_pick ?_); refine sx_pickF (.bool _) rfl dec rfl ?_) | refine sx_len rfl ?_) | refine sx_nil ?_ | ((with_reducible refine at_code ?_); first | refine cx_seq ?_ | refine cx_quiet rfl dk dk ?_ | refine cx_region ?_ | refine cx_skip ?_ | refine cx_block ?_ | refine cx_false rfl ?_ | (refine cx_cond rfl (fun h => ?_) (fun h => ?_) <;> (try simp only [decide_eq_true_eq, decide_eq_false_iff_not, Bool.and_eq_true, Bool.or_eq_true, Bool.and_eq_false_iff, Bool.or_eq_false_iff, Bool.not_eq_true', Bool.not_eq_false', Bool.not_true, Bool.not_false, Bool.true_or, Bool.or_true, Bool.false_or, Bool.or_false, Bool.and_true, Bool.true_and, Bool.false_and, Bool.and_false, reduceCtorEq, Classical.not_not, beq_self_eq_true, bne_self_eq_false, not_true_eq_false, not_false_eq_true, or_false, false_or, or_true, true_or, and_true, true_and, and_false, false_and, or_self, and_self] at h) <;> (try (exfalso; omega)))) | ((with_reducible refine at_exit ?_); first | refine qx_then ?_ | refine qx_in_normal ?_))
    all_goals try (exfalso; omega)
    refine qx_mem (L' := [cE, c' ++ pool, ct]) ?_ (fun w hm => hm.perm (by simp))
    rw [eu_snoc] at hoE
    exact hK ((n1 - (i)) + (n2 - (k + 1))) _ _ _ (by omega) ⟨i, k + 1, AE, mo + 1, cpE, cE, c' ++ pool, _, ffr, rfl, hoE, by rw [List.length_append, ← hmo]; rfl, by omega, by omega, by omega, rfl, pool_snoc hpool hok', ed_snoc hcon hst⟩
end Go.Proofs.YtoelbnhjamddgaaDoor
