/- The document's table: Tick, later. -/
import Derived.Test.YtghnjmjdaggopaaGreatDoorTabT
import Derived.Test.YtghnjmjdaggopaaGreatDoorFuC
import Derived.Test.YtghnjmjdaggopaaGreatDoorFuB
set_option linter.unusedSimpArgs false
set_option linter.unusedVariables false
set_option maxRecDepth 100000
namespace Go.Port
open Go.RowKit
theorem stay_yes {now : Int} {l : List Fl} {i : Nat} {x : Fl} (hx : l[i]? = some x) (h : now < x.un) : stayL now (l.take (i + 1)) = stayL now (l.take i) ++ [x] ∧ goneL now (l.take (i + 1)) = goneL now (l.take i) := by
  rw [List.take_add_one, hx]
  unfold stayL goneL
  simp [h]
theorem stay_no {now : Int} {l : List Fl} {i : Nat} {x : Fl} (hx : l[i]? = some x) (h : ¬ now < x.un) : stayL now (l.take (i + 1)) = stayL now (l.take i) ∧ goneL now (l.take (i + 1)) = goneL now (l.take i) ++ [x.key] := by
  rw [List.take_add_one, hx]
  unfold stayL goneL
  simp [h]
theorem gone_len (now : Int) (l : List Fl) : (goneL now l).length ≤ l.length := by
  unfold goneL
  rw [List.length_map]
  exact List.length_filter_le _ _
section
variable {P : Program} {w0 : World} {D : List Nat} {n q : Nat} {ops : Array Oper} {Q : Exit → Act → World → Prop} {g : Nat → Value} {F : List (Nat × Value)} {L : List Ch}
variable {rest : List Oper} {ty : TypeId} {pos : String} {af : Array Edge} {d : Nat}
theorem sx_sliceToR {T E sz bytes : Nat} {z : Value} [SlT P T E sz bytes z] {x y : Operand} {A : Option Addr} {len cap : Nat} {k : Int} (hx : evn n (get g F) x = .slice A len cap) (hy : evn n (get g F) y = .int .i64 k) (hk : 0 ≤ k ∧ k ≤ cap)
    (h : SX P w0 D n q ops Q rest g ((d, .slice A k.toNat cap) :: F) L) :
    SX P w0 D n q ops Q ({ dst := some d, op := .slice T x none (some y) none, type := ty, pos := pos, after := af, guard := none } :: rest) g F L :=
  sx_sliceTo hx hy hk (by rw [shift_zero]; exact h)
end
end Go.Port
namespace Go.Proofs.YtghnjmjdaggopaaGreatDoor
open Go.RowKit Go.Port
attribute [local irreducible] Calls
set_option maxHeartbeats 4000000 in
theorem ref_LTickNo {max tn : Int} {lb m cap : Nat} {AL : Option Addr} (now : Int) {w : World} {D : List Nat} (hD : D = [lb]) (hM0 : Mem w w D [[(lb, .cells [.int .i64 max, .int .i64 tn, .slice AL m cap].toArray 33 (0, 0))]]) (ht : ¬ timE tn now = 0) :
    Calls Tryz.prog 16 #[.pointer (some ⟨lb, 0, none⟩), .int .i64 now] w (Ret w D (fun v L => v = .tuple #[.slice none 0 0, .int .i64 (timE tn now)] ∧ L = [[(lb, .cells [.int .i64 max, .int .i64 tn, .slice AL m cap].toArray 33 (0, 0))]])) := by
  refine cx_enter (args := [.pointer (some ⟨lb, 0, none⟩), .int .i64 now]) (F := [(0, .pointer (some ⟨lb, 0, none⟩)), (1, .int .i64 now)]) _ [[(lb, .cells [.int .i64 max, .int .i64 tn, .slice AL m cap].toArray 33 (0, 0))]] Tryz.func16 rfl Tryz.ntmps16 (by simp) rfl hM0 (fun g => ?_)
  clear hM0
  repeat' (first | ((with_reducible refine at_call 25 ?_); refine sx_callv (fun w hm => ref_ltime now (hm.blk 0 rfl)) ?_ rfl) | ((with_reducible refine at_op ?_); first | ((with_reducible refine at_move ?_); refine sx_move _ vf ?_) | ((with_reducible refine at_bin ?_); refine sx_neq rfl rfl ?_) | ((with_reducible refine at_assign ?_); refine sx_assign _ vf ?_)) | refine sx_nil ?_ | ((with_reducible refine at_code ?_); first | refine cx_seq ?_ | refine cx_region ?_ | refine cx_ret ?_ | (refine cx_cond rfl (fun h => ?_) (fun h => ?_) <;> (try simp only [decide_eq_true_eq, decide_eq_false_iff_not, Bool.and_eq_true, Bool.or_eq_true, Bool.and_eq_false_iff, Bool.or_eq_false_iff, Bool.not_eq_true', Bool.not_eq_false', Bool.not_true, Bool.not_false, Bool.true_or, Bool.or_true, Bool.false_or, Bool.or_false, Bool.and_true, Bool.true_and, Bool.false_and, Bool.and_false, reduceCtorEq, Classical.not_not, beq_self_eq_true, bne_self_eq_false, not_true_eq_false, not_false_eq_true, or_false, false_or, or_true, true_or, and_true, true_and, and_false, false_and, or_self, and_self] at h) <;> (try (exfalso; omega)))) | ((with_reducible refine at_exit ?_); first | refine qx_then ?_ | refine qx_then_ret ?_))
  all_goals try (exfalso; omega)
  exact qx_ret2 (v := .slice none 0 0) (x := .int _ _) [[(lb, .cells [.int .i64 max, .int .i64 tn, .slice AL m cap].toArray 33 (0, 0))]] rfl rfl rfl ⟨rfl, rfl⟩ (fun w hm => hm)
theorem enc5_one (d : List K5) : ∀ u ∈ rowsG enc5 d, u.oneCell' = true := fun u hu => by
  obtain ⟨x, _, hx⟩ := List.mem_flatMap.1 hu
  simp [enc5] at hx
  rcases hx with rfl | rfl | rfl | rfl | rfl <;> rfl
theorem rowsG_app {α : Type} {enc : α → List Value} (a b : List α) : rowsG enc (a ++ b) = rowsG enc a ++ rowsG enc b := by
  unfold rowsG
  rw [List.flatMap_append]
theorem rowsG_take {α : Type} {enc : α → List Value} {k : Nat} (hk : ∀ x, (enc x).length = k) {l : List α} {i : Nat} (hi : i ≤ l.length) : (rowsG enc l).take (i * k) = rowsG enc (l.take i) := by
  conv => lhs; rw [← List.take_append_drop i l, rowsG_app]
  exact List.take_left' (by rw [rowsG_len hk, List.length_take, Nat.min_eq_left hi])
theorem rowsG_drop {α : Type} {enc : α → List Value} {k : Nat} (hk : ∀ x, (enc x).length = k) {l : List α} {i : Nat} (hi : i ≤ l.length) : (rowsG enc l).drop (i * k) = rowsG enc (l.drop i) := by
  conv => lhs; rw [← List.take_append_drop i l, rowsG_app]
  exact List.drop_left' (by rw [rowsG_len hk, List.length_take, Nat.min_eq_left hi])
theorem enc5_len (x : K5) : (enc5 x).length = 5 := rfl
set_option maxHeartbeats 8000000 in
theorem ref_LTick {max tn : Int} {lb m cap : Nat} {AL : Option Addr} {l : List Fl} (now : Int) {w : World} {D : List Nat} (hD : D = [lb]) (hM0 : Mem w w D [[(lb, .cells [.int .i64 max, .int .i64 tn, .slice AL m cap].toArray 33 (0, 0))]]) (hr : RowIn w lb AL m l) (hm0 : m = l.length) (hmb : m ≤ 100) (ht : timE tn now = 0) :
    Calls Tryz.prog 16 #[.pointer (some ⟨lb, 0, none⟩), .int .i64 now] w (Ret w D (fun v L => ∃ (gs : List K5) (Ag : Option Addr) (cg : Nat) (cgs : Ch) (A' : Option Addr) (cap' : Nat) (c' : Ch), v = .tuple #[.slice Ag gs.length cg, .int .i64 0] ∧ L = [[(lb, .cells [.int .i64 max, .int .i64 now, .slice A' (stayL now l).length cap'].toArray 33 (0, 0))], c', cgs] ∧ OwnS 45 15 (.slice A' (stayL now l).length cap') (stayL now l).length (rowsG Fl.row (stayL now l)) c' ∧ OwnS 37 5 (.slice Ag gs.length cg) gs.length (rowsG enc5 gs) cgs ∧ SortK gs ∧ gs.Perm (goneL now l))) := by
  obtain ⟨b1, o1, hA1⟩ := hr
  have htm := fun (w' : World) (hh : w'.heap[lb]? = some (.cells [.int .i64 max, .int .i64 tn, .slice AL m cap].toArray 33 (0, 0))) => ref_ltime now hh
  rw [ht] at htm
  refine cx_enter (args := [.pointer (some ⟨lb, 0, none⟩), .int .i64 now]) (F := [(0, .pointer (some ⟨lb, 0, none⟩)), (1, .int .i64 now)]) _ [[(lb, .cells [.int .i64 max, .int .i64 tn, .slice AL m cap].toArray 33 (0, 0))]] Tryz.func16 rfl Tryz.ntmps16 (by simp) rfl hM0 (fun g => ?_)
  clear hM0
  repeat' (first | ((with_reducible refine at_call 25 ?_); refine sx_callv (fun w hm => htm _ (hm.blk 0 rfl)) ?_ rfl) | ((with_reducible refine at_op ?_); first | ((with_reducible refine at_move ?_); refine sx_move _ vf ?_) | ((with_reducible refine at_bin ?_); refine sx_neq rfl rfl ?_) | ((with_reducible refine at_assign ?_); refine sx_assign _ vf ?_) | ((with_reducible refine at_stores ?_); first | refine sx_stval _ vf ?_ | (apply sx_store rfl rfl rfl rfl; (repeat (first | exact set_z rfl | apply set_succ)))) | refine sx_nilCheck rfl ?_ | refine sx_fieldAddr rfl ?_) | refine sx_nil ?_ | ((with_reducible refine at_code ?_); first | refine cx_seq ?_ | refine cx_region ?_ | refine cx_skip ?_ | refine cx_block ?_ | refine cx_false rfl ?_) | ((with_reducible refine at_exit ?_); refine qx_then ?_))
  all_goals try (exfalso; omega)
  refine cx_mem (L' := [[(lb, .cells [.int .i64 max, .int .i64 now, .slice AL m cap].toArray 33 (0, 0))], [], []]) ?_ (fun w hm => hm.perm (by simp))
  refine cx_loop (fun mm fr L => ∃ (i : Nat) (gs : List K5) (st : List Fl) (Ag Ao : Option Addr) (cg co : Nat) (c0 c1 : Ch), FF fr [(0, .pointer (some ⟨lb, 0, none⟩)), (1, .int .i64 now), (7, .slice Ag gs.length cg), (8, .slice Ao st.length co), (9, .int .i64 i)] ∧ L = [[(lb, .cells [.int .i64 max, .int .i64 now, .slice AL m cap].toArray 33 (0, 0))], c0, c1] ∧ mm + i = m ∧ stayL now (l.take i) = st ∧ SortK gs ∧ gs.Perm (goneL now (l.take i)) ∧ OwnS 37 5 (.slice Ag gs.length cg) gs.length (rowsG enc5 gs) c0 ∧ OwnS 45 15 (.slice Ao st.length co) st.length (rowsG Fl.row st) c1) m ?_ ?_
  · exact ⟨0, [], [], none, none, 0, 0, [], [], ffr, rfl, rfl, rfl, List.Pairwise.nil, .refl _, OwnS.nil _ _, OwnS.nil _ _⟩
  rintro mm fr L ⟨i, gs, st, Ag, Ao, cg, co, c0, c1, hF, rfl, hmm, hst, hso, hgp, hog, hos⟩ K hK
  refine cx_use hF fun g => ?_
  clear hF
  have hstl : st.length ≤ 100 := by
    have h1 := stay_len now (l.take i)
    rw [hst, List.length_take] at h1
    omega
  have hgl : gs.length ≤ 100 := by
    have h1 := gone_len now (l.take i)
    rw [← hgp.length_eq, List.length_take] at h1
    omega
  by_cases hin : i < m
  rotate_left
  · clear hK
    rw [List.take_of_length_le (by omega)] at hst hgp
    subst hst
    repeat' (first | ((with_reducible refine at_op ?_); first | ((with_reducible refine at_move ?_); refine sx_move _ vf ?_) | ((with_reducible refine at_bin ?_); refine sx_lss rfl rfl ?_) | ((with_reducible refine at_assign ?_); refine sx_assign _ vf ?_) | ((with_reducible refine at_load ?_); refine sx_loadE rfl pc gv ?_) | ((with_reducible refine at_stores ?_); first | refine sx_stval _ vf ?_ | (apply sx_store rfl rfl rfl rfl; (repeat (first | exact set_z rfl | apply set_succ)))) | refine sx_nilCheck rfl ?_ | refine sx_fieldAddr rfl ?_ | refine sx_len rfl ?_) | refine sx_nil ?_ | ((with_reducible refine at_code ?_); first | refine cx_seq ?_ | refine cx_region ?_ | refine cx_ret ?_ | refine cx_exit ?_ | (refine cx_cond rfl (fun h => ?_) (fun h => ?_) <;> (try simp only [decide_eq_true_eq, decide_eq_false_iff_not, Bool.and_eq_true, Bool.or_eq_true, Bool.and_eq_false_iff, Bool.or_eq_false_iff, Bool.not_eq_true', Bool.not_eq_false', Bool.not_true, Bool.not_false, Bool.true_or, Bool.or_true, Bool.false_or, Bool.or_false, Bool.and_true, Bool.true_and, Bool.false_and, Bool.and_false, reduceCtorEq, Classical.not_not, beq_self_eq_true, bne_self_eq_false, not_true_eq_false, not_false_eq_true, or_false, false_or, or_true, true_or, and_true, true_and, and_false, false_and, or_self, and_self] at h) <;> (try (exfalso; omega)))) | ((with_reducible refine at_exit ?_); first | refine qx_then ?_ | refine qx_in_here ?_ | refine qx_then_exit ?_))
    all_goals try (exfalso; omega)
    exact qx_ret2 (v := .slice _ _ _) (x := .int _ _) [[(lb, .cells [.int .i64 max, .int .i64 now, .slice Ao (stayL now l).length co].toArray 33 (0, 0))], c1, c0] rfl rfl rfl ⟨gs, Ag, cg, c0, Ao, co, c1, rfl, rfl, hos, hog, hso, hgp⟩ (fun w hm => by exact hm.picks [0, 1, 0])
  obtain ⟨x, hx⟩ : ∃ x, l[i]? = some x := ⟨_, List.getElem?_eq_getElem (by omega)⟩
  obtain ⟨hAe, hlt, hne, hcs⟩ := hA1 (by omega)
  have hxc0 := fun {w' : World} {L : List Ch} (hm : Mem w w' D L) => row_cell hm hlt (by rw [hD]; simpa using hne) hcs hx
  clear hA1
  have hun : x.row[6]? = some (.int .i64 x.un) := rfl
  have hxk : ∀ j v, (enc5 x.key)[j]? = some v → x.row[0 + j]? = some v := fun j v hj => by
    rw [Nat.zero_add]
    have h1 : x.row = enc5 x.key ++ x.row.drop 5 := rfl
    rw [h1, List.getElem?_append_left (List.getElem?_eq_some_iff.1 hj).1]
    exact hj
  by_cases hu : now < x.un
  · obtain ⟨e1, e2⟩ := stay_yes hx hu
    repeat' (first | ((with_reducible refine at_load ?_); first | refine sx_loadX1 0 rfl rfl hun ?_ | refine sx_loadMA (vs := x.row) rfl rfl (fun w' hm => hxc0 hm) ?_) | ((with_reducible refine at_ixaddr ?_); refine sx_indexQ rfl hAe rfl (by omega) ?_) | ((with_reducible refine at_stores ?_); refine sx_storeW (vs := x.row) rfl rfl rfl rfl ?_) | ((with_reducible refine at_buildS ?_); (refine sx_buildS x.row rfl rfl rfl rfl rfl ?_; intro bl)) | ((with_reducible refine at_op ?_); first | ((with_reducible refine at_move ?_); refine sx_move _ vf ?_) | ((with_reducible refine at_bin ?_); first | refine sx_lss rfl rfl ?_ | refine sx_gtr rfl rfl ?_ | refine sx_add rfl rfl bnd ?_) | ((with_reducible refine at_assign ?_); refine sx_assign _ vf ?_) | ((with_reducible refine at_load ?_); first | refine sx_loadE rfl pc gv ?_ | refine sx_loadWE rfl pc gl ?_) | ((with_reducible refine at_stores ?_); refine sx_stval _ vf ?_) | refine sx_nilCheck rfl ?_ | refine sx_fieldAddr rfl ?_ | ((with_reducible refine at_append ?_); (refine sx_append1 (v := .slice _ _ _) rfl rfl rot3 asm rfl bnd rfl bnd ?_; intro v c ho; obtain ⟨A, cp, rfl, hcp⟩ := ho.len)) | refine sx_len rfl ?_ | (refine sx_alloc ?_; intro b)) | refine sx_nil ?_ | ((with_reducible refine at_code ?_); first | refine cx_seq ?_ | refine cx_region ?_ | refine cx_skip ?_ | refine cx_exit ?_ | refine cx_block ?_ | (refine cx_cond rfl (fun h => ?_) (fun h => ?_) <;> (try simp only [decide_eq_true_eq, decide_eq_false_iff_not, Bool.and_eq_true, Bool.or_eq_true, Bool.and_eq_false_iff, Bool.or_eq_false_iff, Bool.not_eq_true', Bool.not_eq_false', Bool.not_true, Bool.not_false, Bool.true_or, Bool.or_true, Bool.false_or, Bool.or_false, Bool.and_true, Bool.true_and, Bool.false_and, Bool.and_false, reduceCtorEq, Classical.not_not, beq_self_eq_true, bne_self_eq_false, not_true_eq_false, not_false_eq_true, or_false, false_or, or_true, true_or, and_true, true_and, and_false, false_and, or_self, and_self] at h) <;> (try (exfalso; omega)))) | ((with_reducible refine at_exit ?_); first | refine qx_then ?_ | refine qx_in_here ?_ | refine qx_then_exit ?_))
    all_goals try (exfalso; omega)
    have hoX : OwnS 45 15 (.slice A (st.length + 1) cp) (st ++ [x]).length (rowsG Fl.row (st ++ [x])) c := by
      rw [rowsF_snoc, List.length_append]
      exact ho
    have e3 : st.length + 1 = (st ++ [x]).length := by rw [List.length_append]; rfl
    rw [e3] at hoX ⊢
    refine qx_mem (L' := [[(lb, .cells [.int .i64 max, .int .i64 now, .slice AL m cap].toArray 33 (0, 0))], c0, c]) ?_ (fun w hm => by exact hm.picks [2, 2, 0])
    exact hK (mm - 1) _ _ _ (by omega) ⟨i + 1, gs, st ++ [x], Ag, A, cg, cp, c0, c, ffr, rfl, by omega, by rw [e1, hst], hso, by rw [e2]; exact hgp, hog, hoX⟩
  obtain ⟨e1, e2⟩ := stay_no hx hu
  rw [hst] at e1
  repeat' (first | ((with_reducible refine at_load ?_); first | refine sx_loadX1 0 rfl rfl hun ?_ | refine sx_loadMA (vs := x.row) rfl rfl (fun w' hm => hxc0 hm) ?_) | ((with_reducible refine at_ixaddr ?_); refine sx_indexQ rfl hAe rfl (by omega) ?_) | ((with_reducible refine at_stores ?_); refine sx_storeW (vs := x.row) rfl rfl rfl rfl ?_) | ((with_reducible refine at_op ?_); first | ((with_reducible refine at_move ?_); refine sx_move _ vf ?_) | ((with_reducible refine at_bin ?_); first | refine sx_lss rfl rfl ?_ | refine sx_gtr rfl rfl ?_) | ((with_reducible refine at_assign ?_); refine sx_assign _ vf ?_) | ((with_reducible refine at_load ?_); refine sx_loadE rfl pc gv ?_) | ((with_reducible refine at_stores ?_); refine sx_stval _ vf ?_) | refine sx_nilCheck rfl ?_ | refine sx_fieldAddr rfl ?_ | refine sx_len rfl ?_ | (refine sx_alloc ?_; intro b)) | refine sx_nil ?_ | ((with_reducible refine at_code ?_); first | refine cx_seq ?_ | refine cx_region ?_ | refine cx_skip ?_ | refine cx_block ?_ | (refine cx_cond rfl (fun h => ?_) (fun h => ?_) <;> (try simp only [decide_eq_true_eq, decide_eq_false_iff_not, Bool.and_eq_true, Bool.or_eq_true, Bool.and_eq_false_iff, Bool.or_eq_false_iff, Bool.not_eq_true', Bool.not_eq_false', Bool.not_true, Bool.not_false, Bool.true_or, Bool.or_true, Bool.false_or, Bool.or_false, Bool.and_true, Bool.true_and, Bool.false_and, Bool.and_false, reduceCtorEq, Classical.not_not, beq_self_eq_true, bne_self_eq_false, not_true_eq_false, not_false_eq_true, or_false, false_or, or_true, true_or, and_true, true_and, and_false, false_and, or_self, and_self] at h) <;> (try (exfalso; omega)))) | ((with_reducible refine at_exit ?_); refine qx_then ?_))
  all_goals try (exfalso; omega)
  revert b
  intro fb
  refine cx_mem (L' := [[(fb, .cells x.row.toArray 45 (0, 0))], c0, [(lb, .cells [.int .i64 max, .int .i64 now, .slice AL m cap].toArray 33 (0, 0))], c1]) ?_ (fun w hm => by exact hm.picks [0, 1, 0, 0])
  obtain ⟨bo, hAo⟩ := hog.base'
  refine cx_loop (fun mm fr L => ∃ j : Nat, FF fr [(0, .pointer (some ⟨lb, 0, none⟩)), (1, .int .i64 now), (7, .slice Ag gs.length cg), (8, .slice Ao st.length co), (9, .int .i64 i), (10, .pointer (some ⟨fb, 0, none⟩)), (11, .int .i64 j)] ∧ L = [[(fb, .cells x.row.toArray 45 (0, 0))], c0, [(lb, .cells [.int .i64 max, .int .i64 now, .slice AL m cap].toArray 33 (0, 0))], c1] ∧ mm + j = gs.length ∧ ∀ jj, jj < j → ∀ y, gs[jj]? = some y → K5.cmp y x.key < 0) gs.length ?_ ?_
  · exact ⟨0, ffr, rfl, rfl, fun _ h => by omega⟩
  rintro mj fr L ⟨j, hF, rfl, hmj, hbef⟩ K2 hK2
  refine cx_use hF fun g => ?_
  clear hF
  have hone := enc5_one gs
  have hjd : j ≤ gs.length := by omega
  have hcm : gs.length ≤ cg := by obtain ⟨_, _, h, h2⟩ := hog.len; simp only [Value.slice.injEq] at h; omega
  have hjt : (j : Int).toNat ≤ gs.length := by omega
  have fin : (j = gs.length ∨ ∃ y, gs[j]? = some y ∧ ¬ K5.cmp y x.key < 0) → SortK (gs.take j ++ x.key :: gs.drop j) := fun hh => hso.ins hjd hbef hh
  have hpn : (gs.take j ++ x.key :: gs.drop j).Perm (goneL now (l.take (i + 1))) := by
    rw [e2]
    exact ins_perm.trans (hgp.append_right [x.key])
  have hnl : (gs.take j ++ x.key :: gs.drop j).length = gs.length + 1 := by rw [List.length_append, List.length_take, List.length_cons, List.length_drop]; omega
  by_cases hj : j < gs.length
  rotate_left
  · clear hK2
    have hfin := fin (.inl (by omega))
    have hz1 : decide ((j : Int) < (gs.length : Int)) = false := by rw [decide_eq_false_iff_not]; omega
    repeat' (first | (with_reducible refine stop_rs 16 ?_) | ((with_reducible refine at_reg 14 ?_); refine cx_held2 dk ?_) | ((with_reducible refine at_held ?_); first | (refine ah_not 0 rfl ?_; refine ah_isp 0 rfl ?_; refine ah_at 0 dk (fun hT => ?_); (refine ah_pure 0 (o := ⟨_, _, _, _, _, _⟩) hT rfl rfl rfl rfl rfl ?_; apply Exists.intro; refine And.intro ?_ ?_)) | (refine ah_not 1 rfl ?_; refine ah_isp 1 rfl ?_; refine ah_at 1 dk (fun hT => ?_); (refine ah_pure 1 (o := ⟨_, _, _, _, _, _⟩) hT rfl rfl rfl rfl rfl ?_; apply Exists.intro; refine And.intro ?_ ?_)) | (refine ah_not 3 rfl ?_; refine ah_isp 3 rfl ?_; refine ah_at 3 dk (fun hT => ?_); (refine ah_pure 3 (o := ⟨_, _, _, _, _, _⟩) hT rfl rfl rfl rfl rfl ?_; apply Exists.intro; refine And.intro ?_ ?_)) | (refine ah_not 4 rfl ?_; refine ah_isp 4 rfl ?_; refine ah_at 4 dk (fun hT => ?_); (refine ah_pure 4 (o := ⟨_, _, _, _, _, _⟩) hT rfl rfl rfl rfl rfl ?_; apply Exists.intro; refine And.intro ?_ ?_)) | (refine ah_not 5 rfl ?_; refine ah_isp 5 rfl ?_; refine ah_at 5 dk (fun hT => ?_); refine ah_skip 5 (o := ⟨_, _, _, _, _, _⟩) hT rfl rfl rfl rfl rfl rfl ras ?_) | (refine ah_not 6 rfl ?_; refine ah_isp 6 rfl ?_; refine ah_at 6 dk (fun hT => ?_); refine ah_skip 6 (o := ⟨_, _, _, _, _, _⟩) hT rfl rfl rfl rfl rfl rfl ras ?_) | (refine ah_not 7 rfl ?_; refine ah_isp 7 rfl ?_; refine ah_at 7 dk (fun hT => ?_); refine ah_skip 7 (o := ⟨_, _, _, _, _, _⟩) hT rfl rfl rfl rfl rfl rfl ras ?_) | (refine ah_not 8 rfl ?_; refine ah_isp 8 rfl ?_; refine ah_at 8 dk (fun hT => ?_); refine ah_skip 8 (o := ⟨_, _, _, _, _, _⟩) hT rfl rfl rfl rfl rfl rfl ras ?_) | (refine ah_not 9 rfl ?_; refine ah_isp 9 rfl ?_; refine ah_at 9 dk (fun hT => ?_); refine ah_skip 9 (o := ⟨_, _, _, _, _, _⟩) hT rfl rfl rfl rfl rfl rfl ras ?_) | (refine ah_not 10 rfl ?_; refine ah_isp 10 rfl ?_; refine ah_at 10 dk (fun hT => ?_); refine ah_skip 10 (o := ⟨_, _, _, _, _, _⟩) hT rfl rfl rfl rfl rfl rfl ras ?_) | (refine ah_not 12 rfl ?_; refine ah_isp 12 rfl ?_; refine ah_at 12 dk (fun hT => ?_); (refine ah_pure 12 (o := ⟨_, _, _, _, _, _⟩) hT rfl rfl rfl rfl rfl ?_; apply Exists.intro; refine And.intro ?_ ?_)) | (refine ah_not 11 rfl ?_; refine ah_lone 11 (o := ⟨_, _, _, _, _, _⟩) dk rfl ?_) | refine ah_over2 dk ?_) | ((with_reducible refine at_held ?_); refine ah_lone _ (o := ⟨_, _, _, _, _, _⟩) lon rfl ?_) | ((with_reducible refine at_exit ?_); refine qx_held (fun w hm => hm) ?_) | ((with_reducible refine at_op ?_); first | ((with_reducible refine at_guard ?_); refine sx_skip rfl rfl rfl ras ?_) | ((with_reducible refine at_move ?_); refine sx_move _ vf ?_) | ((with_reducible refine at_bin ?_); refine sx_lss rfl rfl ?_) | ((with_reducible refine at_pick ?_); refine sx_pickF (.bool _) rfl dec rfl ?_) | refine sx_len rfl ?_) | refine sx_nil ?_ | ((with_reducible refine at_code ?_); first | refine cx_seq ?_ | refine cx_exit ?_ | refine cx_false rfl ?_) | ((with_reducible refine at_exit ?_); first | refine qx_then ?_ | exact qx_isF | refine qx_in_here ?_ | refine qx_then_exit ?_))
    all_goals try (exfalso; omega)
    refine halt_go ?_
    repeat' (first | (refine sx_sliceToR rfl rfl (by omega) ?_) | (refine sx_sliceFrom rfl rfl (by omega) ?_) | ((with_reducible refine at_append ?_); refine sx_append (v := .slice none 0 0) (A := Ag) (k := (j : Int).toNat) (ys := (rowsG enc5 gs).take ((j : Int).toNat * 5)) rfl rfl rotN (OwnS.nil _ _) (fun w hm => (hog.sees (hm.at 2 rfl)).1.to hjt (by omega)) (fun u hu => hone u (List.mem_of_mem_take hu)) (by omega) ?_; rintro _ cV hoV; obtain ⟨AV, kV, rfl, hkV⟩ := hoV.len) | ((with_reducible refine at_load ?_); refine sx_loadX 1 rfl rfl hxk rfl ?_) | ((with_reducible refine at_buildS ?_); (refine sx_buildS (enc5 x.key) rfl rfl rfl rfl rfl ?_; intro bl)) | ((with_reducible refine at_append ?_); first | (refine sx_append1 (v := .slice AV _ _) rfl rfl rot0 hoV rfl bnd rfl (by omega) ?_; rintro _ cW hoW; obtain ⟨AW, kW, rfl, hkW⟩ := hoW.len) | (refine sx_append (v := .slice AW _ _) (ys := (rowsG enc5 gs).drop ((j : Int).toNat * 5)) rfl rfl rot0 hoW (fun w hm => (hog.sees (hm.at 2 rfl)).1.from hjt hcm) (fun u hu => hone u (List.mem_of_mem_drop hu)) (by omega) ?_; rintro _ cY hoY; obtain ⟨AY, kY, rfl, hkY⟩ := hoY.len)) | ((with_reducible refine at_op ?_); first | ((with_reducible refine at_move ?_); refine sx_move _ vf ?_) | ((with_reducible refine at_bin ?_); refine sx_add rfl rfl bnd ?_) | ((with_reducible refine at_assign ?_); refine sx_assign _ vf ?_) | refine sx_fieldAddr rfl ?_) | refine sx_nil ?_ | ((with_reducible refine at_code ?_); first | refine cx_seq ?_ | refine cx_region ?_) | ((with_reducible refine at_exit ?_); first | refine qx_then ?_ | refine qx_in_normal ?_))
    all_goals try (exfalso; omega)
    have hoY' : OwnS 37 5 (.slice AY (0 + (j : Int).toNat + 1 + (gs.length - (j : Int).toNat)) kY) (gs.take j ++ x.key :: gs.drop j).length (rowsG enc5 (gs.take j ++ x.key :: gs.drop j)) cY := by
      have h := hoY
      rw [List.nil_append] at h
      rw [show (j : Int).toNat = j by omega] at h ⊢
      rw [hnl, rowsG_app]
      show OwnS 37 5 _ _ (_ ++ (enc5 x.key ++ rowsG enc5 (gs.drop j))) _
      rw [← List.append_assoc, ← rowsG_take enc5_len hjd, ← rowsG_drop enc5_len hjd, show gs.length + 1 = 0 + j + 1 + (gs.length - j) by omega]
      exact h
    rw [show 0 + (j : Int).toNat + 1 + (gs.length - (j : Int).toNat) = (gs.take j ++ x.key :: gs.drop j).length by omega] at hoY' ⊢
    refine qx_mem (L' := [[(lb, .cells [.int .i64 max, .int .i64 now, .slice AL m cap].toArray 33 (0, 0))], cY, c1]) ?_ (fun w hm => by exact hm.picks [3, 0, 2])
    exact hK (mm - 1) _ _ _ (by omega) ⟨i + 1, _, st, AY, Ao, kY, co, cY, c1, ffr, rfl, by omega, e1, hfin, hpn, hoY', hos⟩
  obtain ⟨y, hy⟩ : ∃ y, gs[j]? = some y := ⟨_, List.getElem?_eq_getElem hj⟩
  have h0d : 0 < gs.length := by omega
  have hz1 : decide ((j : Int) < (gs.length : Int)) = true := by rw [decide_eq_true_eq]; omega
  have hv : ∀ jj v', (enc5 y)[jj]? = some v' → (rowsG enc5 gs)[(j : Int).toNat * 5 + jj]? = some v' := fun jj v' hjj => by
    rw [Int.toNat_natCast, rowsG_at enc5_len gs j jj _ hy (List.getElem?_eq_some_iff.1 hjj).1]
    exact hjj
  have hah := fun (w' : World) => rk_ahead y x.key w'
  have hbefS : K5.cmp y x.key < 0 → ∀ jj, jj < j + 1 → ∀ y, gs[jj]? = some y → K5.cmp y x.key < 0 := fun hb jj hjj y' hy' => by
    by_cases hje : jj = j
    · subst hje
      rw [hy] at hy'
      rw [← Option.some.inj hy']
      exact hb
    · exact hbef jj (by omega) y' hy'
  by_cases hlt : K5.cmp y x.key < 0
  · rw [decide_eq_true hlt] at hah
    have hbt := hbefS hlt
    clear fin hK hpn hbefS
    repeat' (first | ((with_reducible refine at_reg 14 ?_); refine cx_held2 dk ?_) | ((with_reducible refine at_held ?_); first | (refine ah_not 0 rfl ?_; refine ah_isp 0 rfl ?_; refine ah_at 0 dk (fun hT => ?_); (refine ah_pure 0 (o := ⟨_, _, _, _, _, _⟩) hT rfl rfl rfl rfl rfl ?_; apply Exists.intro; refine And.intro ?_ ?_)) | (refine ah_not 1 rfl ?_; refine ah_isp 1 rfl ?_; refine ah_at 1 dk (fun hT => ?_); (refine ah_pure 1 (o := ⟨_, _, _, _, _, _⟩) hT rfl rfl rfl rfl rfl ?_; apply Exists.intro; refine And.intro ?_ ?_)) | (refine ah_not 3 rfl ?_; refine ah_isp 3 rfl ?_; refine ah_at 3 dk (fun hT => ?_); (refine ah_pure 3 (o := ⟨_, _, _, _, _, _⟩) hT rfl rfl rfl rfl rfl ?_; apply Exists.intro; refine And.intro ?_ ?_)) | (refine ah_not 4 rfl ?_; refine ah_isp 4 rfl ?_; refine ah_at 4 dk (fun hT => ?_); (refine ah_pure 4 (o := ⟨_, _, _, _, _, _⟩) hT rfl rfl rfl rfl rfl ?_; apply Exists.intro; refine And.intro ?_ ?_)) | (refine ah_not 5 rfl ?_; refine ah_isp 5 rfl ?_; refine ah_at 5 dk (fun hT => ?_); (refine ah_pureW 5 (o := ⟨_, _, _, _, _, _⟩) hT rfl rfl rfl rfl rfl rfl rfl rfl ras ?_; apply Exists.intro; refine And.intro ?_ ?_)) | (refine ah_not 6 rfl ?_; refine ah_isp 6 rfl ?_; refine ah_at 6 dk (fun hT => ?_); (refine ah_pureW 6 (o := ⟨_, _, _, _, _, _⟩) hT rfl rfl rfl rfl rfl rfl rfl rfl ras ?_; apply Exists.intro; refine And.intro ?_ ?_)) | (refine ah_not 7 rfl ?_; refine ah_isp 7 rfl ?_; refine ah_at 7 dk (fun hT => ?_); (refine ah_pureW 7 (o := ⟨_, _, _, _, _, _⟩) hT rfl rfl rfl rfl rfl rfl rfl rfl ras ?_; apply Exists.intro; refine And.intro ?_ ?_)) | (refine ah_not 8 rfl ?_; refine ah_isp 8 rfl ?_; refine ah_at 8 dk (fun hT => ?_); (refine ah_pureW 8 (o := ⟨_, _, _, _, _, _⟩) hT rfl rfl rfl rfl rfl rfl rfl rfl ras ?_; apply Exists.intro; refine And.intro ?_ ?_)) | (refine ah_not 9 rfl ?_; refine ah_isp 9 rfl ?_; refine ah_at 9 dk (fun hT => ?_); (refine ah_pureW 9 (o := ⟨_, _, _, _, _, _⟩) hT rfl rfl rfl rfl rfl rfl rfl rfl ras ?_; apply Exists.intro; refine And.intro ?_ ?_)) | (refine ah_not 10 rfl ?_; refine ah_isp 10 rfl ?_; refine ah_at 10 dk (fun hT => ?_); (refine ah_pureW 10 (o := ⟨_, _, _, _, _, _⟩) hT rfl rfl rfl rfl rfl rfl rfl rfl ras ?_; apply Exists.intro; refine And.intro ?_ ?_)) | (refine ah_not 12 rfl ?_; refine ah_isp 12 rfl ?_; refine ah_at 12 dk (fun hT => ?_); (refine ah_pure 12 (o := ⟨_, _, _, _, _, _⟩) hT rfl rfl rfl rfl rfl ?_; apply Exists.intro; refine And.intro ?_ ?_)) | (refine ah_not 11 rfl ?_; refine ah_lone 11 (o := ⟨_, _, _, _, _, _⟩) dk rfl ?_) | refine ah_over2 dk ?_) | ((with_reducible refine at_ixaddr ?_); refine sx_indexQ rfl (hAo h0d) rfl (by omega) ?_) | ((with_reducible refine at_load ?_); first | refine sx_loadX 0 rfl rfl hxk rfl ?_ | refine sx_loadSA 1 ((j : Int).toNat * 5) (enc5 y) rfl hog (hAo h0d) (by omega) h0d rfl rfl hv ?_) | ((with_reducible refine at_call 38 ?_); refine sx_callv (fun w hm => hah _) ?_ rfl) | ((with_reducible refine at_held ?_); refine ah_lone _ (o := ⟨_, _, _, _, _, _⟩) lon rfl ?_) | ((with_reducible refine at_exit ?_); refine qx_held (fun w hm => hm) ?_) | ((with_reducible refine at_op ?_); first | ((with_reducible refine at_guard ?_); refine sx_want rfl rfl rfl ras ?_) | ((with_reducible refine at_move ?_); refine sx_move _ vf ?_) | ((with_reducible refine at_bin ?_); first | refine sx_lss rfl rfl ?_ | refine sx_add rfl rfl bnd ?_) | ((with_reducible refine at_assign ?_); refine sx_assign _ vf ?_) | refine sx_fieldAddr rfl ?_ | ((with_reducible refine at_pick ?_); refine sx_pickT (.bool _) rfl dec rfl ?_) | refine sx_len rfl ?_) | refine sx_nil ?_ | ((with_reducible refine at_code ?_); first | refine cx_seq ?_ | refine cx_region ?_ | refine cx_skip ?_ | refine cx_block ?_ | refine cx_true rfl ?_) | ((with_reducible refine at_exit ?_); first | refine qx_then ?_ | exact qx_isF | refine qx_in_normal ?_))
    all_goals try (exfalso; omega)
    all_goals
      refine qx_mem (L' := [[(fb, .cells x.row.toArray 45 (0, 0))], c0, [(lb, .cells [.int .i64 max, .int .i64 now, .slice AL m cap].toArray 33 (0, 0))], c1]) ?_ (fun w hm => hm)
      exact hK2 (mj - 1) _ _ _ (by omega) ⟨j + 1, ffr, rfl, by omega, hbt⟩
  · rw [decide_eq_false hlt] at hah
    have hfin := fin (.inr ⟨_, hy, hlt⟩)
    clear hK2 hbefS
    repeat' (first | (with_reducible refine stop_rs 16 ?_) | ((with_reducible refine at_reg 14 ?_); refine cx_held2 dk ?_) | ((with_reducible refine at_held ?_); first | (refine ah_not 0 rfl ?_; refine ah_isp 0 rfl ?_; refine ah_at 0 dk (fun hT => ?_); (refine ah_pure 0 (o := ⟨_, _, _, _, _, _⟩) hT rfl rfl rfl rfl rfl ?_; apply Exists.intro; refine And.intro ?_ ?_)) | (refine ah_not 1 rfl ?_; refine ah_isp 1 rfl ?_; refine ah_at 1 dk (fun hT => ?_); (refine ah_pure 1 (o := ⟨_, _, _, _, _, _⟩) hT rfl rfl rfl rfl rfl ?_; apply Exists.intro; refine And.intro ?_ ?_)) | (refine ah_not 3 rfl ?_; refine ah_isp 3 rfl ?_; refine ah_at 3 dk (fun hT => ?_); (refine ah_pure 3 (o := ⟨_, _, _, _, _, _⟩) hT rfl rfl rfl rfl rfl ?_; apply Exists.intro; refine And.intro ?_ ?_)) | (refine ah_not 4 rfl ?_; refine ah_isp 4 rfl ?_; refine ah_at 4 dk (fun hT => ?_); (refine ah_pure 4 (o := ⟨_, _, _, _, _, _⟩) hT rfl rfl rfl rfl rfl ?_; apply Exists.intro; refine And.intro ?_ ?_)) | (refine ah_not 5 rfl ?_; refine ah_isp 5 rfl ?_; refine ah_at 5 dk (fun hT => ?_); (refine ah_pureW 5 (o := ⟨_, _, _, _, _, _⟩) hT rfl rfl rfl rfl rfl rfl rfl rfl ras ?_; apply Exists.intro; refine And.intro ?_ ?_)) | (refine ah_not 6 rfl ?_; refine ah_isp 6 rfl ?_; refine ah_at 6 dk (fun hT => ?_); (refine ah_pureW 6 (o := ⟨_, _, _, _, _, _⟩) hT rfl rfl rfl rfl rfl rfl rfl rfl ras ?_; apply Exists.intro; refine And.intro ?_ ?_)) | (refine ah_not 7 rfl ?_; refine ah_isp 7 rfl ?_; refine ah_at 7 dk (fun hT => ?_); (refine ah_pureW 7 (o := ⟨_, _, _, _, _, _⟩) hT rfl rfl rfl rfl rfl rfl rfl rfl ras ?_; apply Exists.intro; refine And.intro ?_ ?_)) | (refine ah_not 8 rfl ?_; refine ah_isp 8 rfl ?_; refine ah_at 8 dk (fun hT => ?_); (refine ah_pureW 8 (o := ⟨_, _, _, _, _, _⟩) hT rfl rfl rfl rfl rfl rfl rfl rfl ras ?_; apply Exists.intro; refine And.intro ?_ ?_)) | (refine ah_not 9 rfl ?_; refine ah_isp 9 rfl ?_; refine ah_at 9 dk (fun hT => ?_); (refine ah_pureW 9 (o := ⟨_, _, _, _, _, _⟩) hT rfl rfl rfl rfl rfl rfl rfl rfl ras ?_; apply Exists.intro; refine And.intro ?_ ?_)) | (refine ah_not 10 rfl ?_; refine ah_isp 10 rfl ?_; refine ah_at 10 dk (fun hT => ?_); (refine ah_pureW 10 (o := ⟨_, _, _, _, _, _⟩) hT rfl rfl rfl rfl rfl rfl rfl rfl ras ?_; apply Exists.intro; refine And.intro ?_ ?_)) | (refine ah_not 12 rfl ?_; refine ah_isp 12 rfl ?_; refine ah_at 12 dk (fun hT => ?_); (refine ah_pure 12 (o := ⟨_, _, _, _, _, _⟩) hT rfl rfl rfl rfl rfl ?_; apply Exists.intro; refine And.intro ?_ ?_)) | (refine ah_not 11 rfl ?_; refine ah_lone 11 (o := ⟨_, _, _, _, _, _⟩) dk rfl ?_) | refine ah_over2 dk ?_) | ((with_reducible refine at_ixaddr ?_); refine sx_indexQ rfl (hAo h0d) rfl (by omega) ?_) | ((with_reducible refine at_load ?_); first | refine sx_loadX 0 rfl rfl hxk rfl ?_ | refine sx_loadSA 1 ((j : Int).toNat * 5) (enc5 y) rfl hog (hAo h0d) (by omega) h0d rfl rfl hv ?_) | ((with_reducible refine at_call 38 ?_); refine sx_callv (fun w hm => hah _) ?_ rfl) | ((with_reducible refine at_held ?_); refine ah_lone _ (o := ⟨_, _, _, _, _, _⟩) lon rfl ?_) | ((with_reducible refine at_exit ?_); refine qx_held (fun w hm => hm) ?_) | ((with_reducible refine at_op ?_); first | ((with_reducible refine at_guard ?_); refine sx_want rfl rfl rfl ras ?_) | ((with_reducible refine at_move ?_); refine sx_move _ vf ?_) | ((with_reducible refine at_bin ?_); refine sx_lss rfl rfl ?_) | refine sx_fieldAddr rfl ?_ | ((with_reducible refine at_pick ?_); refine sx_pickT (.bool _) rfl dec rfl ?_) | refine sx_len rfl ?_) | refine sx_nil ?_ | ((with_reducible refine at_code ?_); first | refine cx_seq ?_ | refine cx_exit ?_ | refine cx_false rfl ?_) | ((with_reducible refine at_exit ?_); first | refine qx_then ?_ | exact qx_isF | refine qx_in_here ?_ | refine qx_then_exit ?_))
    all_goals try (exfalso; omega)
    refine halt_go ?_
    repeat' (first | (refine sx_sliceToR rfl rfl (by omega) ?_) | (refine sx_sliceFrom rfl rfl (by omega) ?_) | ((with_reducible refine at_append ?_); refine sx_append (v := .slice none 0 0) (A := Ag) (k := (j : Int).toNat) (ys := (rowsG enc5 gs).take ((j : Int).toNat * 5)) rfl rfl rotN (OwnS.nil _ _) (fun w hm => (hog.sees (hm.at 2 rfl)).1.to hjt (by omega)) (fun u hu => hone u (List.mem_of_mem_take hu)) (by omega) ?_; rintro _ cV hoV; obtain ⟨AV, kV, rfl, hkV⟩ := hoV.len) | ((with_reducible refine at_load ?_); refine sx_loadX 1 rfl rfl hxk rfl ?_) | ((with_reducible refine at_buildS ?_); (refine sx_buildS (enc5 x.key) rfl rfl rfl rfl rfl ?_; intro bl)) | ((with_reducible refine at_append ?_); first | (refine sx_append1 (v := .slice AV _ _) rfl rfl rot0 hoV rfl bnd rfl (by omega) ?_; rintro _ cW hoW; obtain ⟨AW, kW, rfl, hkW⟩ := hoW.len) | (refine sx_append (v := .slice AW _ _) (ys := (rowsG enc5 gs).drop ((j : Int).toNat * 5)) rfl rfl rot0 hoW (fun w hm => (hog.sees (hm.at 2 rfl)).1.from hjt hcm) (fun u hu => hone u (List.mem_of_mem_drop hu)) (by omega) ?_; rintro _ cY hoY; obtain ⟨AY, kY, rfl, hkY⟩ := hoY.len)) | ((with_reducible refine at_op ?_); first | ((with_reducible refine at_move ?_); refine sx_move _ vf ?_) | ((with_reducible refine at_bin ?_); refine sx_add rfl rfl bnd ?_) | ((with_reducible refine at_assign ?_); refine sx_assign _ vf ?_) | refine sx_fieldAddr rfl ?_) | refine sx_nil ?_ | ((with_reducible refine at_code ?_); first | refine cx_seq ?_ | refine cx_region ?_) | ((with_reducible refine at_exit ?_); first | refine qx_then ?_ | refine qx_in_normal ?_))
    all_goals try (exfalso; omega)
    have hoY' : OwnS 37 5 (.slice AY (0 + (j : Int).toNat + 1 + (gs.length - (j : Int).toNat)) kY) (gs.take j ++ x.key :: gs.drop j).length (rowsG enc5 (gs.take j ++ x.key :: gs.drop j)) cY := by
      have h := hoY
      rw [List.nil_append] at h
      rw [show (j : Int).toNat = j by omega] at h ⊢
      rw [hnl, rowsG_app]
      show OwnS 37 5 _ _ (_ ++ (enc5 x.key ++ rowsG enc5 (gs.drop j))) _
      rw [← List.append_assoc, ← rowsG_take enc5_len hjd, ← rowsG_drop enc5_len hjd, show gs.length + 1 = 0 + j + 1 + (gs.length - j) by omega]
      exact h
    rw [show 0 + (j : Int).toNat + 1 + (gs.length - (j : Int).toNat) = (gs.take j ++ x.key :: gs.drop j).length by omega] at hoY' ⊢
    refine qx_mem (L' := [[(lb, .cells [.int .i64 max, .int .i64 now, .slice AL m cap].toArray 33 (0, 0))], cY, c1]) ?_ (fun w hm => by exact hm.picks [3, 0, 2])
    exact hK (mm - 1) _ _ _ (by omega) ⟨i + 1, _, st, AY, Ao, kY, co, cY, c1, ffr, rfl, by omega, e1, hfin, hpn, hoY', hos⟩
end Go.Proofs.YtghnjmjdaggopaaGreatDoor
