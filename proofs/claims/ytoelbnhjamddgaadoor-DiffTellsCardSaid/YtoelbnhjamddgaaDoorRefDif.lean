/- The reference: the edits that make one list of rules of another one. -/
import Derived.Test.YtoelbnhjamddgaaDoorRefCom
import Derived.Test.YtoelbnhjamddgaaDoorDiffD
set_option linter.unusedSimpArgs false
set_option linter.unusedVariables false
set_option maxRecDepth 100000
namespace Go.Port
theorem IsSl.cap {w : World} {sz : Nat} {A : Option Addr} {len cap : Nat} {xs : List Value} (h : IsSl w sz A len cap xs) : len ≤ cap := by
  obtain ⟨_, h0 | ⟨b, o, _, _, hc, _⟩⟩ := h
  · omega
  · exact hc
theorem ru_tail (r : Ru) (l : List Ru) : ((r :: l).flatMap Ru.row).drop (1 * 11) = l.flatMap Ru.row := by
  rw [List.flatMap_cons]
  exact List.drop_left' rfl
end Go.Port
namespace Go.Proofs.YtoelbnhjamddgaaDoor
open Go.RowKit Go.Port
attribute [local irreducible] Calls
set_option maxHeartbeats 16000000 in
theorem ref_Diff {A1 A2 : Option Addr} {n1 n2 c1 c2 : Nat} {a z : List Ru} {w : World} (h1 : IsSl w 11 A1 n1 c1 (a.flatMap Ru.row)) (h2 : IsSl w 11 A2 n2 c2 (z.flatMap Ru.row)) (hn1 : n1 = a.length) (hn2 : n2 = z.length) (ho1 : ∀ r ∈ a, r.ok w ∧ RcOk r.con) (ho2 : ∀ r ∈ z, r.ok w ∧ RcOk r.con) (hb1 : n1 ≤ 20) (hb2 : n2 ≤ 20) :
    Calls Tryd.prog 16 #[.slice A1 n1 c1, .slice A2 n2 c2] w (Ret w [] (fun v L => ∃ A m cap c, ∃ es : List Eu, v = .slice A m cap ∧ L = [c] ∧ OwnS 57 13 (.slice A m cap) m (es.flatMap Eu.row) c ∧ m = es.length ∧ es.map Eu.con = (diffL (a.map Ru.con) (z.map Ru.con) 0).map Ed.int ∧ ∀ e ∈ es, e.r ∈ a ∨ e.r ∈ z)) := by
  refine cx_enter (args := [.slice A1 n1 c1, .slice A2 n2 c2]) (F := [(0, .slice A1 n1 c1), (1, .slice A2 n2 c2)]) _ [] Tryd.func16 rfl Tryd.ntmps16 (by simp) rfl (Mem.refl _) (fun g => ?_)
  repeat' (first | ((with_reducible refine at_op ?_); ((with_reducible refine at_assign ?_); refine sx_assign _ vf ?_)) | refine sx_nil ?_ | ((with_reducible refine at_code ?_); first | refine cx_seq ?_ | refine cx_region ?_ | refine cx_block ?_) | ((with_reducible refine at_exit ?_); refine qx_then ?_))
  refine cx_mem (L' := [[]]) ?_ (fun w hm => rotN.mem hm)
  refine cx_loop (fun mm fr L => ∃ (x y : List Ru) (AX AY : Option Addr) (nx cx ny cy k : Nat) (Ao : Option Addr) (mo co : Nat) (cO : Ch) (es : List Eu), FF fr [(0, .slice AX nx cx), (1, .slice AY ny cy), (5, .slice Ao mo co), (6, .int .i64 k)] ∧ L = [cO] ∧ OwnS 57 13 (.slice Ao mo co) mo (es.flatMap Eu.row) cO ∧ mo = es.length ∧ (IsSl w 11 AX nx cx (x.flatMap Ru.row) ∧ nx = x.length ∧ ∀ r ∈ x, (r.ok w ∧ RcOk r.con) ∧ r ∈ a) ∧ (IsSl w 11 AY ny cy (y.flatMap Ru.row) ∧ ny = y.length ∧ ∀ r ∈ y, (r.ok w ∧ RcOk r.con) ∧ r ∈ z) ∧ (nx ≤ 20 ∧ ny ≤ 20 ∧ mo + nx + ny ≤ 40 ∧ k + ny ≤ 40) ∧ mm = nx + ny ∧ (∀ e ∈ es, e.r ∈ a ∨ e.r ∈ z) ∧ es.map Eu.con ++ (diffL (x.map Ru.con) (y.map Ru.con) k).map Ed.int = (diffL (a.map Ru.con) (z.map Ru.con) 0).map Ed.int) (n1 + n2)
    ⟨a, z, A1, A2, n1, c1, n2, c2, 0, none, 0, 0, [], [], ffr, rfl, OwnS.nil _ _, rfl, ⟨h1, hn1, fun r hr => ⟨ho1 r hr, hr⟩⟩, ⟨h2, hn2, fun r hr => ⟨ho2 r hr, hr⟩⟩, by omega, rfl, (fun e he => by cases he), rfl⟩ ?_
  clear h1 h2 hn1 hn2 ho1 ho2 hb1 hb2
  rintro mm fr L ⟨x, y, AX, AY, nx, cx, ny, cy, k, Ao, mo, co, cO, es, hF, rfl, hoo, hmo, ⟨hX, hnx, hoxF⟩, ⟨hY, hny, hoyF⟩, hbd, rfl, hes, hst⟩ K hK
  refine cx_use hF fun g => ?_
  clear hF
  have hox := fun r hr => (hoxF r hr).1
  have hoy := fun r hr => (hoyF r hr).1
  have hcx := hX.cap
  have hcy := hY.cap
  obtain ⟨x1, o1, hA1⟩ := hX.base
  obtain ⟨x2, o2, hA2⟩ := hY.base
  have hcom := fun w' (i1 : IsSl w' 11 AX nx cx (x.flatMap Ru.row)) (i2 : IsSl w' 11 AY ny cy (y.flatMap Ru.row)) (i3 : ∀ r ∈ x, r.ok w' ∧ RcOk r.con) (i4 : ∀ r ∈ y, r.ok w' ∧ RcOk r.con) => ref_Common i1 i2 hnx hny i3 i4 hbd.1 hbd.2.1
  have q1 : ∀ {w' : World} {L : List Ch}, Mem w w' [] L → ∀ r ∈ x, r.ok w' ∧ RcOk r.con := fun hm r hr => ⟨(hox r hr).1.mem hm, (hox r hr).2⟩
  have q2 : ∀ {w' : World} {L : List Ch}, Mem w w' [] L → ∀ r ∈ y, r.ok w' ∧ RcOk r.con := fun hm r hr => ⟨(hoy r hr).1.mem hm, (hoy r hr).2⟩
  cases x with
  | nil =>
    have hx0 : nx = 0 := hnx
    cases y with
    | nil =>
      have hy0 : ny = 0 := hny
      rw [List.map_nil, diffL, List.map_nil, List.append_nil] at hst
      clear hK
      repeat' (first | ((with_reducible refine at_op ?_); first | ((with_reducible refine at_guard ?_); first | refine sx_want rfl rfl rfl ras ?_ | refine sx_lit false rfl rfl rfl dec ?_) | ((with_reducible refine at_move ?_); refine sx_move _ vf ?_) | ((with_reducible refine at_bin ?_); refine sx_gtr rfl rfl ?_) | ((with_reducible refine at_assign ?_); refine sx_assign _ vf ?_) | ((with_reducible refine at_pick ?_); refine sx_pickF (.bool _) rfl dec rfl ?_) | refine sx_len rfl ?_) | refine sx_nil ?_ | ((with_reducible refine at_code ?_); first | refine cx_seq ?_ | refine cx_region ?_ | refine cx_ret ?_ | refine cx_exit ?_ | (refine cx_cond rfl (fun h => ?_) (fun h => ?_) <;> (try simp only [decide_eq_true_eq, decide_eq_false_iff_not, Bool.and_eq_true, Bool.or_eq_true, Bool.and_eq_false_iff, Bool.or_eq_false_iff, Bool.not_eq_true', Bool.not_eq_false', Bool.not_true, Bool.not_false, Bool.true_or, Bool.or_true, Bool.false_or, Bool.or_false, Bool.and_true, Bool.true_and, Bool.false_and, Bool.and_false, reduceCtorEq, Classical.not_not, beq_self_eq_true, bne_self_eq_false, not_true_eq_false, not_false_eq_true, or_false, false_or, or_true, true_or, and_true, true_and, and_false, false_and, or_self, and_self] at h) <;> (try (exfalso; omega)))) | ((with_reducible refine at_exit ?_); first | refine qx_then ?_ | refine qx_in_here ?_ | refine qx_then_exit ?_))
      all_goals try (exfalso; omega)
      exact qx_ret1 (v := .slice _ _ _) [cO] rfl rfl ⟨Ao, mo, co, cO, es, rfl, rfl, hoo, hmo, hst, hes⟩ (fun w hm => by exact hm.picks [0])
    | cons rb y' =>
      have hyp : 0 < ny := by rw [hny]; exact Nat.succ_pos _
      have dx : decide ((0 : Int) < (nx : Int)) = false := decide_eq_false (by omega)
      have dy : decide ((0 : Int) < (ny : Int)) = true := decide_eq_true (by omega)
      have hY' := hY.from (k := 1) (by omega) hcy
      rw [ru_tail] at hY'
      have hvb : ∀ j v, rb.row[j]? = some v → ((rb :: y').flatMap Ru.row)[0 + j]? = some v := fun j v hv => by have := ru_at (l := rb :: y') (i := 0) rfl j v hv; simpa using this
      rw [List.map_nil, List.map_cons, diffL] at hst
      repeat' (first | ((with_reducible refine at_ixaddr ?_); refine sx_indexQ rfl (hA2 (by omega)).1 rfl (by omega) ?_) | ((with_reducible refine at_load ?_); refine sx_loadOldA (k := 0) (vs := rb.row) rfl (hA2 (by omega)).2.2 (hA2 (by omega)).2.1 (by simp) rfl hvb ?_) | ((with_reducible refine at_buildS ?_); (refine sx_buildS (Eu.row ⟨_, _, rb⟩) rfl rfl rfl rfl rfl ?_; intro bl)) | ((with_reducible refine at_build ?_); refine sx_build (Eu.row ⟨_, _, rb⟩) rfl ?_) | ((with_reducible refine at_op ?_); first | ((with_reducible refine at_guard ?_); first | refine sx_want rfl rfl rfl ras ?_ | refine sx_skip rfl rfl rfl ras ?_) | ((with_reducible refine at_move ?_); refine sx_move _ vf ?_) | ((with_reducible refine at_bin ?_); first | refine sx_gtr rfl rfl ?_ | refine sx_add rfl rfl bnd ?_) | ((with_reducible refine at_assign ?_); refine sx_assign _ vf ?_) | ((with_reducible refine at_pick ?_); refine sx_pickF (.bool _) rfl dec rfl ?_) | refine sx_sliceFrom rfl rfl bnd ?_ | ((with_reducible refine at_append ?_); (refine sx_append1 (v := .slice _ _ _) rfl rfl rot0 asm rfl bnd rfl bnd ?_; intro v c ho; obtain ⟨A, cp, rfl, hcp⟩ := ho.len)) | refine sx_len rfl ?_) | refine sx_nil ?_ | ((with_reducible refine at_code ?_); first | refine cx_seq ?_ | refine cx_quiet rfl dk dk ?_ | refine cx_region ?_ | refine cx_skip ?_ | refine cx_block ?_ | refine cx_false rfl ?_ | (refine cx_cond rfl (fun h => ?_) (fun h => ?_) <;> (try simp only [decide_eq_true_eq, decide_eq_false_iff_not, Bool.and_eq_true, Bool.or_eq_true, Bool.and_eq_false_iff, Bool.or_eq_false_iff, Bool.not_eq_true', Bool.not_eq_false', Bool.not_true, Bool.not_false, Bool.true_or, Bool.or_true, Bool.false_or, Bool.or_false, Bool.and_true, Bool.true_and, Bool.false_and, Bool.and_false, reduceCtorEq, Classical.not_not, beq_self_eq_true, bne_self_eq_false, not_true_eq_false, not_false_eq_true, or_false, false_or, or_true, true_or, and_true, true_and, and_false, false_and, or_self, and_self] at h) <;> (try (exfalso; omega)))) | ((with_reducible refine at_exit ?_); first | refine qx_then ?_ | refine qx_in_normal ?_))
      all_goals try (exfalso; omega)
      refine qx_mem (L' := [c]) ?_ (fun w hm => by exact hm.picks [0])
      rw [eu_snoc] at ho
      exact hK (nx + (ny - 1)) _ _ _ (by omega) ⟨[], y', AX, shift AY cy 1 11, nx, cx, ny - 1, cy - 1, k + 1, _, mo + 1, _, c, es ++ [⟨(k : Int), true, rb⟩], ⟨rfl, rfl, rfl, iv (by omega), trivial⟩, rfl, ho, by rw [List.length_append, ← hmo]; rfl, ⟨hX, hnx, hoxF⟩, ⟨hY', by rw [hny]; rfl, fun r hr => hoyF r (List.mem_cons_of_mem _ hr)⟩, by omega, rfl, (fun e he => (List.mem_append.1 he).elim (hes e) fun h => by rw [List.mem_singleton.1 h]; exact .inr (hoyF _ (List.Mem.head _)).2), ed_snoc rfl hst⟩
  | cons ra x' =>
    have hxp : 0 < nx := by rw [hnx]; exact Nat.succ_pos _
    have dx : decide ((0 : Int) < (nx : Int)) = true := decide_eq_true (by omega)
    have hX' := hX.from (k := 1) (by omega) hcx
    rw [ru_tail] at hX'
    have hva : ∀ j v, ra.row[j]? = some v → ((ra :: x').flatMap Ru.row)[0 + j]? = some v := fun j v hv => by have := ru_at (l := ra :: x') (i := 0) rfl j v hv; simpa using this
    have q3 : ∀ {w' : World} {L : List Ch}, Mem w w' [] L → ∀ r ∈ x', r.ok w' ∧ RcOk r.con := fun hm r hr => q1 hm r (List.mem_cons_of_mem _ hr)
    have hcoS := fun w' (i1 : IsSl w' 11 (shift AX cx 1 11) (nx - 1) (cx - 1) (x'.flatMap Ru.row)) (i2 : IsSl w' 11 AY ny cy (y.flatMap Ru.row)) (i3 : ∀ r ∈ x', r.ok w' ∧ RcOk r.con) (i4 : ∀ r ∈ y, r.ok w' ∧ RcOk r.con) => ref_Common i1 i2 (by rw [hnx]; rfl) hny i3 i4 (by omega) hbd.2.1
    cases y with
    | nil =>
      have hy0 : ny = 0 := hny
      have dy : decide ((0 : Int) < (ny : Int)) = false := decide_eq_false (by omega)
      rw [List.map_cons, List.map_nil, diffL] at hst
      rw [List.map_nil, lcs_nilr] at hcom hcoS
      have g4 : decide (((0 : Nat) : Int) = ((0 : Nat) : Int)) = true := decide_eq_true rfl
      repeat' (first | ((with_reducible refine at_ixaddr ?_); refine sx_indexQ rfl (hA1 (by omega)).1 rfl (by omega) ?_) | ((with_reducible refine at_load ?_); refine sx_loadOldA (k := 0) (vs := ra.row) rfl (hA1 (by omega)).2.2 (hA1 (by omega)).2.1 (by simp) rfl hva ?_) | ((with_reducible refine at_buildS ?_); (refine sx_buildS (Eu.row ⟨_, _, ra⟩) rfl rfl rfl rfl rfl ?_; intro bl)) | ((with_reducible refine at_build ?_); refine sx_build (Eu.row ⟨_, _, ra⟩) rfl ?_) | ((with_reducible refine at_call 17 ?_); refine sx_callv (fun w hm => hcoS _ (hX'.mem hm.nil) (hY.mem hm.nil) (q3 hm) (q2 hm)) ?_ rfl) | ((with_reducible refine at_call 17 ?_); refine sx_callv (fun w hm => hcom _ (hX.mem hm.nil) (hY.mem hm.nil) (q1 hm) (q2 hm)) ?_ rfl) | ((with_reducible refine at_op ?_); first | ((with_reducible refine at_guard ?_); first | refine sx_want rfl rfl rfl ras ?_ | refine sx_skip rfl rfl rfl ras ?_) | ((with_reducible refine at_move ?_); refine sx_move _ vf ?_) | ((with_reducible refine at_bin ?_); first | refine sx_gtr rfl rfl ?_ | refine sx_eql rfl rfl ?_) | ((with_reducible refine at_assign ?_); refine sx_assign _ vf ?_) | ((with_reducible refine at_pick ?_); first | refine sx_pickT (.bool _) rfl dec rfl ?_ | refine sx_pickF (.bool _) rfl dec rfl ?_) | refine sx_sliceFrom rfl rfl bnd ?_ | ((with_reducible refine at_append ?_); (refine sx_append1 (v := .slice _ _ _) rfl rfl rot0 asm rfl bnd rfl bnd ?_; intro v c ho; obtain ⟨A, cp, rfl, hcp⟩ := ho.len)) | refine sx_len rfl ?_) | refine sx_nil ?_ | ((with_reducible refine at_code ?_); first | refine cx_seq ?_ | refine cx_quiet rfl dk dk ?_ | refine cx_region ?_ | refine cx_skip ?_ | refine cx_exit ?_ | refine cx_block ?_ | refine cx_true rfl ?_ | refine cx_false rfl ?_) | ((with_reducible refine at_exit ?_); first | refine qx_then ?_ | refine qx_in_here ?_ | refine qx_then_exit ?_))
      all_goals try (exfalso; omega)
      refine qx_mem (L' := [c]) ?_ (fun w hm => by exact hm.picks [0])
      rw [eu_snoc] at ho
      exact hK (nx - 1 + (ny)) _ _ _ (by omega) ⟨x', [], shift AX cx 1 11, AY, nx - 1, cx - 1, ny, cy, k, _, mo + 1, _, c, es ++ [⟨(k : Int), false, ra⟩], ⟨rfl, rfl, rfl, iv (by omega), trivial⟩, rfl, ho, by rw [List.length_append, ← hmo]; rfl, ⟨hX', by rw [hnx]; rfl, fun r hr => hoxF r (List.mem_cons_of_mem _ hr)⟩, ⟨hY, hny, hoyF⟩, by omega, rfl, (fun e he => (List.mem_append.1 he).elim (hes e) fun h => by rw [List.mem_singleton.1 h]; exact .inl (hoxF _ (List.Mem.head _)).2), ed_snoc rfl hst⟩
    | cons rb y' =>
      have hyp : 0 < ny := by rw [hny]; exact Nat.succ_pos _
      have dy : decide ((0 : Int) < (ny : Int)) = true := decide_eq_true (by omega)
      have hY' := hY.from (k := 1) (by omega) hcy
      rw [ru_tail] at hY'
      have hvb : ∀ j v, rb.row[j]? = some v → ((rb :: y').flatMap Ru.row)[0 + j]? = some v := fun j v hv => by have := ru_at (l := rb :: y') (i := 0) rfl j v hv; simpa using this
      have hoa := hox _ (List.Mem.head _)
      have hob := hoy _ (List.Mem.head _)
      have hsame := fun w' (p1 : ra.ok w') (p2 : rb.ok w') => ref_Same ra rb p1 p2 hoa.2 hob.2
      rw [List.map_cons, List.map_cons, diffL] at hst
      rw [List.map_cons, List.map_cons] at hcom
      rw [List.map_cons] at hcoS
      by_cases hc : ra.con = rb.con
      · rw [decide_eq_true hc] at hsame
        rw [if_pos hc] at hst
        clear hcom hcoS
        repeat' (first | ((with_reducible refine at_ixaddr ?_); first | refine sx_indexQ rfl (hA1 (by omega)).1 rfl (by omega) ?_ | refine sx_indexQ rfl (hA2 (by omega)).1 rfl (by omega) ?_) | ((with_reducible refine at_load ?_); first | refine sx_loadOldA (k := 0) (vs := ra.row) rfl (hA1 (by omega)).2.2 (hA1 (by omega)).2.1 (by simp) rfl hva ?_ | refine sx_loadOldA (k := 0) (vs := rb.row) rfl (hA2 (by omega)).2.2 (hA2 (by omega)).2.1 (by simp) rfl hvb ?_) | ((with_reducible refine at_call 35 ?_); refine sx_callv (fun w hm => hsame _ (hoa.1.mem hm.nil) (hob.1.mem hm.nil)) ?_ rfl) | ((with_reducible refine at_op ?_); first | ((with_reducible refine at_guard ?_); first | refine sx_want rfl rfl rfl ras ?_ | refine sx_skip rfl rfl rfl ras ?_) | ((with_reducible refine at_move ?_); refine sx_move _ vf ?_) | ((with_reducible refine at_bin ?_); first | refine sx_gtr rfl rfl ?_ | refine sx_add rfl rfl bnd ?_) | ((with_reducible refine at_assign ?_); refine sx_assign _ vf ?_) | ((with_reducible refine at_pick ?_); refine sx_pickT (.bool _) rfl dec rfl ?_) | refine sx_sliceFrom rfl rfl bnd ?_ | refine sx_len rfl ?_) | refine sx_nil ?_ | ((with_reducible refine at_code ?_); first | refine cx_seq ?_ | refine cx_quiet rfl dk dk ?_ | refine cx_region ?_ | refine cx_skip ?_ | refine cx_exit ?_ | refine cx_block ?_ | refine cx_true rfl ?_) | ((with_reducible refine at_exit ?_); first | refine qx_then ?_ | refine qx_in_here ?_ | refine qx_then_exit ?_))
        all_goals try (exfalso; omega)
        refine qx_mem (L' := [cO]) ?_ (fun w hm => by exact hm.picks [0])
        exact hK (nx - 1 + (ny - 1)) _ _ _ (by omega) ⟨x', y', shift AX cx 1 11, shift AY cy 1 11, nx - 1, cx - 1, ny - 1, cy - 1, k + 1, Ao, mo, co, cO, es, ⟨rfl, rfl, rfl, iv (by omega), trivial⟩, rfl, hoo, hmo, ⟨hX', by rw [hnx]; rfl, fun r hr => hoxF r (List.mem_cons_of_mem _ hr)⟩, ⟨hY', by rw [hny]; rfl, fun r hr => hoyF r (List.mem_cons_of_mem _ hr)⟩, by omega, rfl, hes, hst⟩
      · rw [decide_eq_false hc] at hsame
        rw [if_neg hc] at hst
        by_cases he : lcs (x'.map Ru.con) (rb.con :: y'.map Ru.con) = lcs (ra.con :: x'.map Ru.con) (rb.con :: y'.map Ru.con)
        · rw [if_pos he] at hst
          generalize lcs (x'.map Ru.con) (rb.con :: y'.map Ru.con) = X1 at *
          generalize lcs (ra.con :: x'.map Ru.con) (rb.con :: y'.map Ru.con) = X2 at *
          have g4 : decide ((X1 : Int) = (X2 : Int)) = true := decide_eq_true (by omega)
          repeat' (first | ((with_reducible refine at_ixaddr ?_); first | refine sx_indexQ rfl (hA1 (by omega)).1 rfl (by omega) ?_ | refine sx_indexQ rfl (hA2 (by omega)).1 rfl (by omega) ?_) | ((with_reducible refine at_load ?_); first | refine sx_loadOldA (k := 0) (vs := ra.row) rfl (hA1 (by omega)).2.2 (hA1 (by omega)).2.1 (by simp) rfl hva ?_ | refine sx_loadOldA (k := 0) (vs := rb.row) rfl (hA2 (by omega)).2.2 (hA2 (by omega)).2.1 (by simp) rfl hvb ?_) | ((with_reducible refine at_call 35 ?_); refine sx_callv (fun w hm => hsame _ (hoa.1.mem hm.nil) (hob.1.mem hm.nil)) ?_ rfl) | ((with_reducible refine at_buildS ?_); (refine sx_buildS (Eu.row ⟨_, _, ra⟩) rfl rfl rfl rfl rfl ?_; intro bl)) | ((with_reducible refine at_build ?_); refine sx_build (Eu.row ⟨_, _, ra⟩) rfl ?_) | ((with_reducible refine at_call 17 ?_); refine sx_callv (fun w hm => hcoS _ (hX'.mem hm.nil) (hY.mem hm.nil) (q3 hm) (q2 hm)) ?_ rfl) | ((with_reducible refine at_call 17 ?_); refine sx_callv (fun w hm => hcom _ (hX.mem hm.nil) (hY.mem hm.nil) (q1 hm) (q2 hm)) ?_ rfl) | ((with_reducible refine at_op ?_); first | ((with_reducible refine at_guard ?_); first | refine sx_want rfl rfl rfl ras ?_ | refine sx_skip rfl rfl rfl ras ?_) | ((with_reducible refine at_move ?_); refine sx_move _ vf ?_) | ((with_reducible refine at_bin ?_); first | refine sx_gtr rfl rfl ?_ | refine sx_eql rfl rfl ?_) | ((with_reducible refine at_assign ?_); refine sx_assign _ vf ?_) | ((with_reducible refine at_pick ?_); refine sx_pickT (.bool _) rfl dec rfl ?_) | refine sx_sliceFrom rfl rfl bnd ?_ | ((with_reducible refine at_append ?_); (refine sx_append1 (v := .slice _ _ _) rfl rfl rot0 asm rfl bnd rfl bnd ?_; intro v c ho; obtain ⟨A, cp, rfl, hcp⟩ := ho.len)) | refine sx_len rfl ?_) | refine sx_nil ?_ | ((with_reducible refine at_code ?_); first | refine cx_seq ?_ | refine cx_quiet rfl dk dk ?_ | refine cx_region ?_ | refine cx_skip ?_ | refine cx_exit ?_ | refine cx_block ?_ | refine cx_true rfl ?_ | refine cx_false rfl ?_ | (refine cx_cond rfl (fun h => ?_) (fun h => ?_) <;> (try simp only [decide_eq_true_eq, decide_eq_false_iff_not, Bool.and_eq_true, Bool.or_eq_true, Bool.and_eq_false_iff, Bool.or_eq_false_iff, Bool.not_eq_true', Bool.not_eq_false', Bool.not_true, Bool.not_false, Bool.true_or, Bool.or_true, Bool.false_or, Bool.or_false, Bool.and_true, Bool.true_and, Bool.false_and, Bool.and_false, reduceCtorEq, Classical.not_not, beq_self_eq_true, bne_self_eq_false, not_true_eq_false, not_false_eq_true, or_false, false_or, or_true, true_or, and_true, true_and, and_false, false_and, or_self, and_self] at h) <;> (try (exfalso; omega)))) | ((with_reducible refine at_exit ?_); first | refine qx_then ?_ | refine qx_in_here ?_ | refine qx_then_exit ?_))
          all_goals try (exfalso; omega)
          refine qx_mem (L' := [c]) ?_ (fun w hm => by exact hm.picks [0])
          rw [eu_snoc] at ho
          exact hK (nx - 1 + (ny)) _ _ _ (by omega) ⟨x', (rb :: y'), shift AX cx 1 11, AY, nx - 1, cx - 1, ny, cy, k, _, mo + 1, _, c, es ++ [⟨(k : Int), false, ra⟩], ⟨rfl, rfl, rfl, iv (by omega), trivial⟩, rfl, ho, by rw [List.length_append, ← hmo]; rfl, ⟨hX', by rw [hnx]; rfl, fun r hr => hoxF r (List.mem_cons_of_mem _ hr)⟩, ⟨hY, hny, hoyF⟩, by omega, rfl, (fun e he => (List.mem_append.1 he).elim (hes e) fun h => by rw [List.mem_singleton.1 h]; exact .inl (hoxF _ (List.Mem.head _)).2), ed_snoc rfl hst⟩
        · rw [if_neg he] at hst
          generalize lcs (x'.map Ru.con) (rb.con :: y'.map Ru.con) = X1 at *
          generalize lcs (ra.con :: x'.map Ru.con) (rb.con :: y'.map Ru.con) = X2 at *
          have g4 : decide ((X1 : Int) = (X2 : Int)) = false := decide_eq_false (by omega)
          repeat' (first | ((with_reducible refine at_ixaddr ?_); first | refine sx_indexQ rfl (hA1 (by omega)).1 rfl (by omega) ?_ | refine sx_indexQ rfl (hA2 (by omega)).1 rfl (by omega) ?_) | ((with_reducible refine at_load ?_); first | refine sx_loadOldA (k := 0) (vs := ra.row) rfl (hA1 (by omega)).2.2 (hA1 (by omega)).2.1 (by simp) rfl hva ?_ | refine sx_loadOldA (k := 0) (vs := rb.row) rfl (hA2 (by omega)).2.2 (hA2 (by omega)).2.1 (by simp) rfl hvb ?_) | ((with_reducible refine at_call 35 ?_); refine sx_callv (fun w hm => hsame _ (hoa.1.mem hm.nil) (hob.1.mem hm.nil)) ?_ rfl) | ((with_reducible refine at_buildS ?_); (refine sx_buildS (Eu.row ⟨_, _, rb⟩) rfl rfl rfl rfl rfl ?_; intro bl)) | ((with_reducible refine at_build ?_); refine sx_build (Eu.row ⟨_, _, rb⟩) rfl ?_) | ((with_reducible refine at_call 17 ?_); refine sx_callv (fun w hm => hcoS _ (hX'.mem hm.nil) (hY.mem hm.nil) (q3 hm) (q2 hm)) ?_ rfl) | ((with_reducible refine at_call 17 ?_); refine sx_callv (fun w hm => hcom _ (hX.mem hm.nil) (hY.mem hm.nil) (q1 hm) (q2 hm)) ?_ rfl) | ((with_reducible refine at_op ?_); first | ((with_reducible refine at_guard ?_); first | refine sx_want rfl rfl rfl ras ?_ | refine sx_skip rfl rfl rfl ras ?_) | ((with_reducible refine at_move ?_); refine sx_move _ vf ?_) | ((with_reducible refine at_bin ?_); first | refine sx_gtr rfl rfl ?_ | refine sx_eql rfl rfl ?_ | refine sx_add rfl rfl bnd ?_) | ((with_reducible refine at_assign ?_); refine sx_assign _ vf ?_) | ((with_reducible refine at_pick ?_); refine sx_pickT (.bool _) rfl dec rfl ?_) | refine sx_sliceFrom rfl rfl bnd ?_ | ((with_reducible refine at_append ?_); (refine sx_append1 (v := .slice _ _ _) rfl rfl rot0 asm rfl bnd rfl bnd ?_; intro v c ho; obtain ⟨A, cp, rfl, hcp⟩ := ho.len)) | refine sx_len rfl ?_) | refine sx_nil ?_ | ((with_reducible refine at_code ?_); first | refine cx_seq ?_ | refine cx_quiet rfl dk dk ?_ | refine cx_region ?_ | refine cx_skip ?_ | refine cx_block ?_ | refine cx_true rfl ?_ | refine cx_false rfl ?_ | (refine cx_cond rfl (fun h => ?_) (fun h => ?_) <;> (try simp only [decide_eq_true_eq, decide_eq_false_iff_not, Bool.and_eq_true, Bool.or_eq_true, Bool.and_eq_false_iff, Bool.or_eq_false_iff, Bool.not_eq_true', Bool.not_eq_false', Bool.not_true, Bool.not_false, Bool.true_or, Bool.or_true, Bool.false_or, Bool.or_false, Bool.and_true, Bool.true_and, Bool.false_and, Bool.and_false, reduceCtorEq, Classical.not_not, beq_self_eq_true, bne_self_eq_false, not_true_eq_false, not_false_eq_true, or_false, false_or, or_true, true_or, and_true, true_and, and_false, false_and, or_self, and_self] at h) <;> (try (exfalso; omega)))) | ((with_reducible refine at_exit ?_); first | refine qx_then ?_ | refine qx_in_normal ?_))
          all_goals try (exfalso; omega)
          refine qx_mem (L' := [c]) ?_ (fun w hm => by exact hm.picks [0])
          rw [eu_snoc] at ho
          exact hK (nx + (ny - 1)) _ _ _ (by omega) ⟨(ra :: x'), y', AX, shift AY cy 1 11, nx, cx, ny - 1, cy - 1, k + 1, _, mo + 1, _, c, es ++ [⟨(k : Int), true, rb⟩], ⟨rfl, rfl, rfl, iv (by omega), trivial⟩, rfl, ho, by rw [List.length_append, ← hmo]; rfl, ⟨hX, hnx, hoxF⟩, ⟨hY', by rw [hny]; rfl, fun r hr => hoyF r (List.mem_cons_of_mem _ hr)⟩, by omega, rfl, (fun e he => (List.mem_append.1 he).elim (hes e) fun h => by rw [List.mem_singleton.1 h]; exact .inr (hoyF _ (List.Mem.head _)).2), ed_snoc rfl hst⟩
end Go.Proofs.YtoelbnhjamddgaaDoor
