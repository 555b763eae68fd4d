/- The document's table: put. -/
import Derived.Test.YtghnjmjdaggopaaGreatDoorTabM
set_option linter.unusedSimpArgs false
set_option linter.unusedVariables false
set_option maxRecDepth 100000
namespace Go.Proofs.YtghnjmjdaggopaaGreatDoor
open Go.RowKit Go.Port
attribute [local irreducible] Calls
theorem rowsF_snoc (l : List Fl) (x : Fl) : rowsG Fl.row (l ++ [x]) = rowsG Fl.row l ++ x.row := by
  unfold rowsG
  rw [List.flatMap_append]
  simp
set_option maxHeartbeats 8000000 in
theorem ref_put {max tn : Int} {lb m cap : Nat} {AL : Option Addr} {l : List Fl} (fz : Fl) {w : World} {D : List Nat} (hD : D = [lb]) (hM0 : Mem w w D [[(lb, .cells [.int .i64 max, .int .i64 tn, .slice AL m cap].toArray 33 (0, 0))]]) (hr : RowIn w lb AL m l) (hm0 : m = l.length) (hmb : m ≤ 100) :
    Calls Tryz.prog 29 #[.pointer (some ⟨lb, 0, none⟩), .agg fz.row.toArray] w (Ret w D (fun v L => v = .tuple #[] ∧ ∃ (A' : Option Addr) (cap' : Nat) (c' : Ch), L = [[(lb, .cells [.int .i64 max, .int .i64 tn, .slice A' (putL fz l).length cap'].toArray 33 (0, 0))], c'] ∧ OwnS 45 15 (.slice A' (putL fz l).length cap') (putL fz l).length (rowsG Fl.row (putL fz l)) c')) := by
  obtain ⟨b1, o1, hA1⟩ := hr
  refine cx_enter (args := [.pointer (some ⟨lb, 0, none⟩), .agg fz.row.toArray]) (F := [(0, .pointer (some ⟨lb, 0, none⟩)), (1, .agg fz.row.toArray)]) _ [[(lb, .cells [.int .i64 max, .int .i64 tn, .slice AL m cap].toArray 33 (0, 0))]] Tryz.func29 rfl Tryz.ntmps29 (by simp) rfl hM0 (fun g => ?_)
  clear hM0
  repeat' (first | ((with_reducible refine at_op ?_); first | ((with_reducible refine at_assign ?_); refine sx_assign _ vf ?_) | (refine sx_box rfl ?_; intro b)) | refine sx_nil ?_ | ((with_reducible refine at_code ?_); first | refine cx_seq ?_ | refine cx_region ?_ | refine cx_block ?_) | ((with_reducible refine at_exit ?_); refine qx_then ?_))
  revert b
  intro fb
  refine cx_mem (L' := [[(lb, .cells [.int .i64 max, .int .i64 tn, .slice AL m cap].toArray 33 (0, 0))], [(fb, .cells fz.row.toArray 45 (0, 0))], []]) ?_ (fun w hm => Mem.perm (L := [[(fb, .cells fz.row.toArray 45 (0, 0))], [(lb, .cells [.int .i64 max, .int .i64 tn, .slice AL m cap].toArray 33 (0, 0))]]) hm (by simp; exact .swap _ _ _))
  refine cx_loop (fun mm fr L => ∃ (i : Nat) (P : List Fl) (dn : Bool) (Ao : Option Addr) (co : Nat) (c1 : Ch), FF fr [(0, .pointer (some ⟨lb, 0, none⟩)), (3, .pointer (some ⟨fb, 0, none⟩)), (4, .slice Ao P.length co), (5, .bool dn), (6, .int .i64 i)] ∧ L = [[(lb, .cells [.int .i64 max, .int .i64 tn, .slice AL m cap].toArray 33 (0, 0))], [(fb, .cells fz.row.toArray 45 (0, 0))], c1] ∧ mm + i = m ∧ putN fz (l.take i) = (P, dn) ∧ OwnS 45 15 (.slice Ao P.length co) P.length (rowsG Fl.row P) c1) m ?_ ?_
  · exact ⟨0, [], false, none, 0, [], ffr, rfl, rfl, rfl, OwnS.nil _ _⟩
  rintro mm fr L ⟨i, P, dn, Ao, co, c1, hF, rfl, hmm, hP, hoo⟩ K hK
  refine cx_use hF fun g => ?_
  clear hF
  have hPl : P.length ≤ 200 := by
    have h1 := putN_len fz (l.take i)
    rw [hP, List.length_take] at h1
    dsimp only at h1
    omega
  obtain ⟨ff, hff⟩ : ∃ ff, fz.fk = ff := ⟨_, rfl⟩
  have hffc := fun (w' : World) => rx_first fz w'
  rw [hff] at hffc
  by_cases hin : i < m
  rotate_left
  · clear hK
    rw [List.take_of_length_le (by omega)] at hP
    have hput : putL fz l = if dn then P else P ++ [fz] := by unfold putL; rw [hP]
    cases dn with
    | true =>
      rw [if_pos rfl] at hput
      rw [hput]
      repeat' (first | ((with_reducible refine at_op ?_); first | ((with_reducible refine at_move ?_); refine sx_move _ vf ?_) | ((with_reducible refine at_bin ?_); refine sx_lss rfl rfl ?_) | ((with_reducible refine at_load ?_); refine sx_loadE rfl pc gv ?_) | ((with_reducible refine at_stores ?_); first | refine sx_stval _ vf ?_ | (apply sx_store rfl rfl rfl rfl; (repeat (first | exact set_z rfl | apply set_succ)))) | refine sx_nilCheck rfl ?_ | refine sx_fieldAddr rfl ?_ | refine sx_not rfl ?_ | refine sx_len rfl ?_) | refine sx_nil ?_ | ((with_reducible refine at_code ?_); first | refine cx_seq ?_ | refine cx_region ?_ | refine cx_skip ?_ | refine cx_exit ?_ | refine cx_false rfl ?_ | (refine cx_cond rfl (fun h => ?_) (fun h => ?_) <;> (try simp only [decide_eq_true_eq, decide_eq_false_iff_not, Bool.and_eq_true, Bool.or_eq_true, Bool.and_eq_false_iff, Bool.or_eq_false_iff, Bool.not_eq_true', Bool.not_eq_false', Bool.not_true, Bool.not_false, Bool.true_or, Bool.or_true, Bool.false_or, Bool.or_false, Bool.and_true, Bool.true_and, Bool.false_and, Bool.and_false, reduceCtorEq, Classical.not_not, beq_self_eq_true, bne_self_eq_false, not_true_eq_false, not_false_eq_true, or_false, false_or, or_true, true_or, and_true, true_and, and_false, false_and, or_self, and_self] at h) <;> (try (exfalso; omega)))) | ((with_reducible refine at_exit ?_); first | refine qx_then ?_ | refine qx_in_here ?_ | refine qx_then_exit ?_))
      all_goals try (exfalso; omega)
      exact qx_end0 [[(lb, .cells [.int .i64 max, .int .i64 tn, .slice Ao P.length co].toArray 33 (0, 0))], c1] rfl ⟨rfl, Ao, co, c1, rfl, hoo⟩ (fun w hm => by exact hm.picks [0, 1])
    | false =>
      rw [if_neg (by decide)] at hput
      rw [hput]
      repeat' (first | ((with_reducible refine at_op ?_); first | ((with_reducible refine at_move ?_); refine sx_move _ vf ?_) | ((with_reducible refine at_bin ?_); refine sx_lss rfl rfl ?_) | ((with_reducible refine at_assign ?_); refine sx_assign _ vf ?_) | ((with_reducible refine at_load ?_); first | refine sx_loadE rfl pc gv ?_ | refine sx_loadWE rfl pc gl ?_) | ((with_reducible refine at_stores ?_); first | refine sx_stval _ vf ?_ | (refine sx_rot rot1 ?_; (apply sx_store rfl rfl rfl rfl; (repeat (first | exact set_z rfl | apply set_succ))))) | refine sx_nilCheck rfl ?_ | refine sx_fieldAddr rfl ?_ | refine sx_not rfl ?_ | ((with_reducible refine at_buildS ?_); (refine sx_buildS _ rfl rfl rfl bcs rfl ?_; intro b)) | ((with_reducible refine at_append ?_); (refine sx_append1 (v := .slice _ _ _) rfl rfl rot2 asm rfl bnd rfl bnd ?_; intro v c ho; obtain ⟨A, cp, rfl, hcp⟩ := ho.len)) | refine sx_len rfl ?_) | refine sx_nil ?_ | ((with_reducible refine at_code ?_); first | refine cx_seq ?_ | refine cx_region ?_ | refine cx_exit ?_ | refine cx_true rfl ?_ | (refine cx_cond rfl (fun h => ?_) (fun h => ?_) <;> (try simp only [decide_eq_true_eq, decide_eq_false_iff_not, Bool.and_eq_true, Bool.or_eq_true, Bool.and_eq_false_iff, Bool.or_eq_false_iff, Bool.not_eq_true', Bool.not_eq_false', Bool.not_true, Bool.not_false, Bool.true_or, Bool.or_true, Bool.false_or, Bool.or_false, Bool.and_true, Bool.true_and, Bool.false_and, Bool.and_false, reduceCtorEq, Classical.not_not, beq_self_eq_true, bne_self_eq_false, not_true_eq_false, not_false_eq_true, or_false, false_or, or_true, true_or, and_true, true_and, and_false, false_and, or_self, and_self] at h) <;> (try (exfalso; omega)))) | ((with_reducible refine at_exit ?_); first | refine qx_then ?_ | refine qx_in_here ?_ | refine qx_then_exit ?_))
      all_goals try (exfalso; omega)
      have hoE' : OwnS 45 15 (.slice A (P.length + 1) cp) (P ++ [fz]).length (rowsG Fl.row (P ++ [fz])) c := by
        rw [rowsF_snoc, List.length_append]
        exact ho
      have e1 : P.length + 1 = (P ++ [fz]).length := by rw [List.length_append]; rfl
      rw [e1] at hoE' ⊢
      exact qx_end0 [[(lb, .cells [.int .i64 max, .int .i64 tn, .slice A (P ++ [fz]).length cp].toArray 33 (0, 0))], c] rfl ⟨rfl, A, cp, c, rfl, hoE'⟩ (fun w hm => by exact hm.picks [0, 0])
  obtain ⟨x, hx⟩ : ∃ x, l[i]? = some x := ⟨_, List.getElem?_eq_getElem (by omega)⟩
  obtain ⟨hAe, hlt, hne, hcs⟩ := hA1 (by omega)
  have hfk : ∀ j v, [Value.int .i64 fz.k, .int .i64 fz.s, .int .i64 fz.f, .int .i64 fz.d, .int .i64 fz.t][j]? = some v → fz.row[0 + j]? = some v := fun j v hj => by
    rw [Nat.zero_add]
    have h1 : fz.row = [Value.int .i64 fz.k, .int .i64 fz.s, .int .i64 fz.f, .int .i64 fz.d, .int .i64 fz.t] ++ fz.row.drop 5 := rfl
    rw [h1, List.getElem?_append_left (List.getElem?_eq_some_iff.1 hj).1]
    exact hj
  have hxc0 := fun {w' : World} {L : List Ch} (hm : Mem w w' D L) => row_cell hm hlt (by rw [hD]; simpa using hne) hcs hx
  have hxc := fun {w' : World} {L : List Ch} (hm : Mem w w' D L) => row_key (hxc0 hm)
  have hxf := fun (w' : World) => rx_first x w'
  obtain ⟨xf, hxe⟩ : ∃ xf, x.fk = xf := ⟨_, rfl⟩
  rw [hxe] at hxf
  have hstep : putN fz (l.take (i + 1)) = putS fz (P, dn) x := by
    rw [List.take_add_one, hx]
    show putN fz (l.take i ++ [x]) = _
    rw [putN_snoc, hP]
  unfold putS at hstep
  rw [hxe, hff] at hstep
  clear hA1
  by_cases heq : xf = ff
  · have he : decide (xf = ff) = true := decide_eq_true heq
    rw [if_pos heq] at hstep
    repeat' (first | ((with_reducible refine at_load ?_); first | refine sx_loadX 2 rfl rfl hfk rfl ?_ | refine sx_loadMA (vs := [.int .i64 x.k, .int .i64 x.s, .int .i64 x.f, .int .i64 x.d, .int .i64 x.t]) rfl rfl (fun w' hm => hxc hm) ?_) | ((with_reducible refine at_ixaddr ?_); refine sx_indexQ rfl hAe rfl (by omega) ?_) | ((with_reducible refine at_call 51 ?_); refine sx_callv (fun w hm => hxf _) ?_ rfl) | ((with_reducible refine at_call 51 ?_); refine sx_callv (fun w hm => hffc _) ?_ rfl) | ((with_reducible refine at_stores ?_); first | refine sx_storeW (vs := [.int .i64 xf.k, .int .i64 xf.s, .int .i64 xf.f, .int .i64 xf.d, .int .i64 xf.t]) rfl rfl rfl rfl ?_ | refine sx_storeW (vs := [.int .i64 ff.k, .int .i64 ff.s, .int .i64 ff.f, .int .i64 ff.d, .int .i64 ff.t]) rfl rfl rfl rfl ?_) | ((with_reducible refine at_bin ?_); refine sx_eqlK5 xf ff he rfl rfl ?_) | ((with_reducible refine at_op ?_); first | ((with_reducible refine at_move ?_); refine sx_move _ vf ?_) | ((with_reducible refine at_bin ?_); first | refine sx_lss rfl rfl ?_ | refine sx_add rfl rfl bnd ?_) | ((with_reducible refine at_assign ?_); refine sx_assign _ vf ?_) | ((with_reducible refine at_load ?_); first | refine sx_loadE rfl pc gv ?_ | refine sx_loadWE rfl pc gl ?_) | ((with_reducible refine at_stores ?_); refine sx_stval _ vf ?_) | refine sx_nilCheck rfl ?_ | refine sx_fieldAddr rfl ?_ | refine sx_len rfl ?_ | (refine sx_alloc ?_; intro b)) | refine sx_nil ?_ | ((with_reducible refine at_code ?_); first | refine cx_seq ?_ | refine cx_region ?_ | refine cx_skip ?_ | refine cx_exit ?_ | refine cx_block ?_ | refine cx_true rfl ?_ | (refine cx_cond rfl (fun h => ?_) (fun h => ?_) <;> (try simp only [decide_eq_true_eq, decide_eq_false_iff_not, Bool.and_eq_true, Bool.or_eq_true, Bool.and_eq_false_iff, Bool.or_eq_false_iff, Bool.not_eq_true', Bool.not_eq_false', Bool.not_true, Bool.not_false, Bool.true_or, Bool.or_true, Bool.false_or, Bool.or_false, Bool.and_true, Bool.true_and, Bool.false_and, Bool.and_false, reduceCtorEq, Classical.not_not, beq_self_eq_true, bne_self_eq_false, not_true_eq_false, not_false_eq_true, or_false, false_or, or_true, true_or, and_true, true_and, and_false, false_and, or_self, and_self] at h) <;> (try (exfalso; omega)))) | ((with_reducible refine at_exit ?_); first | refine qx_then ?_ | refine qx_in_here ?_ | refine qx_then_exit ?_))
    all_goals try (exfalso; omega)
    refine qx_mem (L' := [[(lb, .cells [.int .i64 max, .int .i64 tn, .slice AL m cap].toArray 33 (0, 0))], [(fb, .cells fz.row.toArray 45 (0, 0))], c1]) ?_ (fun w hm => by exact hm.picks [2, 2, 2])
    exact hK (mm - 1) _ _ _ (by omega) ⟨i + 1, P, dn, Ao, co, c1, ffr, rfl, by omega, hstep, hoo⟩
  rw [if_neg heq] at hstep
  have he : decide (xf = ff) = false := decide_eq_false heq
  have hah := fun (w' : World) => rk_ahead ff xf w'
  by_cases hc : dn = false ∧ K5.cmp ff xf < 0
  · rw [if_pos hc] at hstep
    obtain ⟨rfl, hlt2⟩ := hc
    rw [decide_eq_true hlt2] at hah
    repeat' (first | ((with_reducible refine at_load ?_); first | refine sx_loadX 2 rfl rfl hfk rfl ?_ | refine sx_loadMA (vs := [.int .i64 x.k, .int .i64 x.s, .int .i64 x.f, .int .i64 x.d, .int .i64 x.t]) rfl rfl (fun w' hm => hxc hm) ?_ | refine sx_loadMA (vs := x.row) rfl rfl (fun w' hm => hxc0 hm) ?_) | ((with_reducible refine at_ixaddr ?_); refine sx_indexQ rfl hAe rfl (by omega) ?_) | ((with_reducible refine at_call 51 ?_); refine sx_callv (fun w hm => hxf _) ?_ rfl) | ((with_reducible refine at_call 51 ?_); refine sx_callv (fun w hm => hffc _) ?_ rfl) | ((with_reducible refine at_stores ?_); first | refine sx_storeW (vs := [.int .i64 xf.k, .int .i64 xf.s, .int .i64 xf.f, .int .i64 xf.d, .int .i64 xf.t]) rfl rfl rfl rfl ?_ | refine sx_storeW (vs := [.int .i64 ff.k, .int .i64 ff.s, .int .i64 ff.f, .int .i64 ff.d, .int .i64 ff.t]) rfl rfl rfl rfl ?_) | ((with_reducible refine at_bin ?_); refine sx_eqlK5 xf ff he rfl rfl ?_) | ((with_reducible refine at_call 38 ?_); refine sx_callv (fun w hm => hah _) ?_ rfl) | ((with_reducible refine at_op ?_); first | ((with_reducible refine at_guard ?_); refine sx_want rfl rfl rfl ras ?_) | ((with_reducible refine at_move ?_); refine sx_move _ vf ?_) | ((with_reducible refine at_bin ?_); first | refine sx_lss rfl rfl ?_ | refine sx_add rfl rfl bnd ?_) | ((with_reducible refine at_assign ?_); refine sx_assign _ vf ?_) | ((with_reducible refine at_load ?_); first | refine sx_loadE rfl pc gv ?_ | refine sx_loadWE rfl pc gl ?_) | ((with_reducible refine at_stores ?_); refine sx_stval _ vf ?_) | refine sx_nilCheck rfl ?_ | refine sx_fieldAddr rfl ?_ | refine sx_not rfl ?_ | ((with_reducible refine at_pick ?_); refine sx_pickT (.bool _) rfl dec rfl ?_) | ((with_reducible refine at_buildS ?_); (refine sx_buildS _ rfl rfl rfl bcs rfl ?_; intro b)) | ((with_reducible refine at_append ?_); first | (refine sx_append1 (v := .slice _ _ _) rfl rfl rot0 asm rfl bnd rfl bnd ?_; intro v c ho; obtain ⟨A, cp, rfl, hcp⟩ := ho.len) | (refine sx_append1 (v := .slice _ _ _) rfl rfl rot4 asm rfl bnd rfl bnd ?_; intro v c ho; obtain ⟨A, cp, rfl, hcp⟩ := ho.len)) | refine sx_len rfl ?_ | (refine sx_alloc ?_; intro b)) | refine sx_nil ?_ | ((with_reducible refine at_code ?_); first | refine cx_seq ?_ | refine cx_region ?_ | refine cx_skip ?_ | refine cx_block ?_ | refine cx_true rfl ?_ | refine cx_false rfl ?_ | (refine cx_cond rfl (fun h => ?_) (fun h => ?_) <;> (try simp only [decide_eq_true_eq, decide_eq_false_iff_not, Bool.and_eq_true, Bool.or_eq_true, Bool.and_eq_false_iff, Bool.or_eq_false_iff, Bool.not_eq_true', Bool.not_eq_false', Bool.not_true, Bool.not_false, Bool.true_or, Bool.or_true, Bool.false_or, Bool.or_false, Bool.and_true, Bool.true_and, Bool.false_and, Bool.and_false, reduceCtorEq, Classical.not_not, beq_self_eq_true, bne_self_eq_false, not_true_eq_false, not_false_eq_true, or_false, false_or, or_true, true_or, and_true, true_and, and_false, false_and, or_self, and_self] at h) <;> (try (exfalso; omega)))) | ((with_reducible refine at_exit ?_); first | refine qx_then ?_ | refine qx_in_normal ?_))
    all_goals try (exfalso; omega)
    have hoE' : OwnS 45 15 (.slice A (P.length + 1 + 1) cp) (P ++ [fz, x]).length (rowsG Fl.row (P ++ [fz, x])) c := by
      rw [show P ++ [fz, x] = (P ++ [fz]) ++ [x] by simp, rowsF_snoc, rowsF_snoc, List.length_append, List.length_append]
      exact ho
    have e1 : P.length + 1 + 1 = (P ++ [fz, x]).length := by rw [List.length_append]; rfl
    rw [e1] at hoE' ⊢
    refine qx_mem (L' := [[(lb, .cells [.int .i64 max, .int .i64 tn, .slice AL m cap].toArray 33 (0, 0))], [(fb, .cells fz.row.toArray 45 (0, 0))], c]) ?_ (fun w hm => by exact hm.picks [3, 3, 0])
    exact hK (mm - 1) _ _ _ (by omega) ⟨i + 1, P ++ [fz, x], true, A, cp, c, ffr, rfl, by omega, hstep, hoE'⟩
  rw [if_neg hc] at hstep
  cases dn with
  | true =>
    repeat' (first | ((with_reducible refine at_load ?_); first | refine sx_loadX 2 rfl rfl hfk rfl ?_ | refine sx_loadMA (vs := [.int .i64 x.k, .int .i64 x.s, .int .i64 x.f, .int .i64 x.d, .int .i64 x.t]) rfl rfl (fun w' hm => hxc hm) ?_ | refine sx_loadMA (vs := x.row) rfl rfl (fun w' hm => hxc0 hm) ?_) | ((with_reducible refine at_ixaddr ?_); refine sx_indexQ rfl hAe rfl (by omega) ?_) | ((with_reducible refine at_call 51 ?_); refine sx_callv (fun w hm => hxf _) ?_ rfl) | ((with_reducible refine at_call 51 ?_); refine sx_callv (fun w hm => hffc _) ?_ rfl) | ((with_reducible refine at_stores ?_); first | refine sx_storeW (vs := [.int .i64 xf.k, .int .i64 xf.s, .int .i64 xf.f, .int .i64 xf.d, .int .i64 xf.t]) rfl rfl rfl rfl ?_ | refine sx_storeW (vs := [.int .i64 ff.k, .int .i64 ff.s, .int .i64 ff.f, .int .i64 ff.d, .int .i64 ff.t]) rfl rfl rfl rfl ?_) | ((with_reducible refine at_bin ?_); refine sx_eqlK5 xf ff he rfl rfl ?_) | ((with_reducible refine at_op ?_); first | ((with_reducible refine at_guard ?_); refine sx_skip rfl rfl rfl ras ?_) | ((with_reducible refine at_move ?_); refine sx_move _ vf ?_) | ((with_reducible refine at_bin ?_); first | refine sx_lss rfl rfl ?_ | refine sx_add rfl rfl bnd ?_) | ((with_reducible refine at_assign ?_); refine sx_assign _ vf ?_) | ((with_reducible refine at_load ?_); first | refine sx_loadE rfl pc gv ?_ | refine sx_loadWE rfl pc gl ?_) | ((with_reducible refine at_stores ?_); refine sx_stval _ vf ?_) | refine sx_nilCheck rfl ?_ | refine sx_fieldAddr rfl ?_ | refine sx_not rfl ?_ | ((with_reducible refine at_pick ?_); refine sx_pickF (.bool _) rfl dec rfl ?_) | ((with_reducible refine at_buildS ?_); (refine sx_buildS _ rfl rfl rfl bcs rfl ?_; intro b)) | ((with_reducible refine at_append ?_); (refine sx_append1 (v := .slice _ _ _) rfl rfl rot4 asm rfl bnd rfl bnd ?_; intro v c ho; obtain ⟨A, cp, rfl, hcp⟩ := ho.len)) | refine sx_len rfl ?_ | (refine sx_alloc ?_; intro b)) | refine sx_nil ?_ | ((with_reducible refine at_code ?_); first | refine cx_seq ?_ | refine cx_region ?_ | refine cx_skip ?_ | refine cx_block ?_ | refine cx_false rfl ?_ | (refine cx_cond rfl (fun h => ?_) (fun h => ?_) <;> (try simp only [decide_eq_true_eq, decide_eq_false_iff_not, Bool.and_eq_true, Bool.or_eq_true, Bool.and_eq_false_iff, Bool.or_eq_false_iff, Bool.not_eq_true', Bool.not_eq_false', Bool.not_true, Bool.not_false, Bool.true_or, Bool.or_true, Bool.false_or, Bool.or_false, Bool.and_true, Bool.true_and, Bool.false_and, Bool.and_false, reduceCtorEq, Classical.not_not, beq_self_eq_true, bne_self_eq_false, not_true_eq_false, not_false_eq_true, or_false, false_or, or_true, true_or, and_true, true_and, and_false, false_and, or_self, and_self] at h) <;> (try (exfalso; omega)))) | ((with_reducible refine at_exit ?_); first | refine qx_then ?_ | refine qx_in_normal ?_))
    all_goals try (exfalso; omega)
    have hoE' : OwnS 45 15 (.slice A (P.length + 1) cp) (P ++ [x]).length (rowsG Fl.row (P ++ [x])) c := by
      rw [rowsF_snoc, List.length_append]
      exact ho
    have e1 : P.length + 1 = (P ++ [x]).length := by rw [List.length_append]; rfl
    rw [e1] at hoE' ⊢
    refine qx_mem (L' := [[(lb, .cells [.int .i64 max, .int .i64 tn, .slice AL m cap].toArray 33 (0, 0))], [(fb, .cells fz.row.toArray 45 (0, 0))], c]) ?_ (fun w hm => by exact hm.picks [3, 3, 0])
    exact hK (mm - 1) _ _ _ (by omega) ⟨i + 1, P ++ [x], _, A, cp, c, ffr, rfl, by omega, hstep, hoE'⟩
  | false =>
    have hge : ¬ K5.cmp ff xf < 0 := fun h => hc ⟨rfl, h⟩
    rw [decide_eq_false hge] at hah
    repeat' (first | ((with_reducible refine at_load ?_); first | refine sx_loadX 2 rfl rfl hfk rfl ?_ | refine sx_loadMA (vs := [.int .i64 x.k, .int .i64 x.s, .int .i64 x.f, .int .i64 x.d, .int .i64 x.t]) rfl rfl (fun w' hm => hxc hm) ?_ | refine sx_loadMA (vs := x.row) rfl rfl (fun w' hm => hxc0 hm) ?_) | ((with_reducible refine at_ixaddr ?_); refine sx_indexQ rfl hAe rfl (by omega) ?_) | ((with_reducible refine at_call 51 ?_); refine sx_callv (fun w hm => hxf _) ?_ rfl) | ((with_reducible refine at_call 51 ?_); refine sx_callv (fun w hm => hffc _) ?_ rfl) | ((with_reducible refine at_stores ?_); first | refine sx_storeW (vs := [.int .i64 xf.k, .int .i64 xf.s, .int .i64 xf.f, .int .i64 xf.d, .int .i64 xf.t]) rfl rfl rfl rfl ?_ | refine sx_storeW (vs := [.int .i64 ff.k, .int .i64 ff.s, .int .i64 ff.f, .int .i64 ff.d, .int .i64 ff.t]) rfl rfl rfl rfl ?_) | ((with_reducible refine at_bin ?_); refine sx_eqlK5 xf ff he rfl rfl ?_) | ((with_reducible refine at_call 38 ?_); refine sx_callv (fun w hm => hah _) ?_ rfl) | ((with_reducible refine at_op ?_); first | ((with_reducible refine at_guard ?_); refine sx_want rfl rfl rfl ras ?_) | ((with_reducible refine at_move ?_); refine sx_move _ vf ?_) | ((with_reducible refine at_bin ?_); first | refine sx_lss rfl rfl ?_ | refine sx_add rfl rfl bnd ?_) | ((with_reducible refine at_assign ?_); refine sx_assign _ vf ?_) | ((with_reducible refine at_load ?_); first | refine sx_loadE rfl pc gv ?_ | refine sx_loadWE rfl pc gl ?_) | ((with_reducible refine at_stores ?_); refine sx_stval _ vf ?_) | refine sx_nilCheck rfl ?_ | refine sx_fieldAddr rfl ?_ | refine sx_not rfl ?_ | ((with_reducible refine at_pick ?_); refine sx_pickT (.bool _) rfl dec rfl ?_) | ((with_reducible refine at_buildS ?_); (refine sx_buildS _ rfl rfl rfl bcs rfl ?_; intro b)) | ((with_reducible refine at_append ?_); (refine sx_append1 (v := .slice _ _ _) rfl rfl rot4 asm rfl bnd rfl bnd ?_; intro v c ho; obtain ⟨A, cp, rfl, hcp⟩ := ho.len)) | refine sx_len rfl ?_ | (refine sx_alloc ?_; intro b)) | refine sx_nil ?_ | ((with_reducible refine at_code ?_); first | refine cx_seq ?_ | refine cx_region ?_ | refine cx_skip ?_ | refine cx_block ?_ | refine cx_false rfl ?_ | (refine cx_cond rfl (fun h => ?_) (fun h => ?_) <;> (try simp only [decide_eq_true_eq, decide_eq_false_iff_not, Bool.and_eq_true, Bool.or_eq_true, Bool.and_eq_false_iff, Bool.or_eq_false_iff, Bool.not_eq_true', Bool.not_eq_false', Bool.not_true, Bool.not_false, Bool.true_or, Bool.or_true, Bool.false_or, Bool.or_false, Bool.and_true, Bool.true_and, Bool.false_and, Bool.and_false, reduceCtorEq, Classical.not_not, beq_self_eq_true, bne_self_eq_false, not_true_eq_false, not_false_eq_true, or_false, false_or, or_true, true_or, and_true, true_and, and_false, false_and, or_self, and_self] at h) <;> (try (exfalso; omega)))) | ((with_reducible refine at_exit ?_); first | refine qx_then ?_ | refine qx_in_normal ?_))
    all_goals try (exfalso; omega)
    have hoE' : OwnS 45 15 (.slice A (P.length + 1) cp) (P ++ [x]).length (rowsG Fl.row (P ++ [x])) c := by
      rw [rowsF_snoc, List.length_append]
      exact ho
    have e1 : P.length + 1 = (P ++ [x]).length := by rw [List.length_append]; rfl
    rw [e1] at hoE' ⊢
    refine qx_mem (L' := [[(lb, .cells [.int .i64 max, .int .i64 tn, .slice AL m cap].toArray 33 (0, 0))], [(fb, .cells fz.row.toArray 45 (0, 0))], c]) ?_ (fun w hm => by exact hm.picks [3, 3, 0])
    exact hK (mm - 1) _ _ _ (by omega) ⟨i + 1, P ++ [x], _, A, cp, c, ffr, rfl, by omega, hstep, hoE'⟩
end Go.Proofs.YtghnjmjdaggopaaGreatDoor
