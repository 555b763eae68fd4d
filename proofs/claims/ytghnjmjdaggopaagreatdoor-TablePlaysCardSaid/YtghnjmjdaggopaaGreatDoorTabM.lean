/- The document's table: time, at. -/
import Derived.Test.YtghnjmjdaggopaaGreatDoorFuC
import Derived.Test.YtghnjmjdaggopaaGreatDoorRefK5
import Derived.Test.YtghnjmjdaggopaaGreatDoorRefTrkA
set_option linter.unusedSimpArgs false
set_option linter.unusedVariables false
set_option maxRecDepth 100000
namespace Go.Proofs.YtghnjmjdaggopaaGreatDoor
open Go.RowKit Go.Port
attribute [local irreducible] Calls
section
variable {w0 : World} {D : List Nat} {n q : Nat} {ops : Array Oper} {Q : Exit → Act → World → Prop} {g : Nat → Value} {F : List (Nat × Value)} {L : List Ch}
variable {rest : List Oper} {ty : TypeId} {pos : String} {af : Array Edge} {d : Nat}
theorem sx_eqlK5 (a b : K5) {e : Bool} (he : decide (a = b) = e) {x y : Operand} {t2 : TypeId} (hx : evn n (get g F) x = kv5 a) (hy : evn n (get g F) y = kv5 b) (h : SX Tryz.prog w0 D n q ops Q rest g ((d, .bool e) :: F) L) :
    SX Tryz.prog w0 D n q ops Q ({ dst := some d, op := .binOp .eql 37 x y t2, type := ty, pos := pos, after := af, guard := none } :: rest) g F L := by
  obtain ⟨k, s, f, dd, t⟩ := a
  obtain ⟨k', s', f', d', t'⟩ := b
  refine sx_eqlK hx hy ?_
  have e1 : decide (k = k' ∧ s = s' ∧ f = f' ∧ dd = d' ∧ t = t') = e := by
    rw [← he]
    exact decide_eq_decide.2 (by simp)
  rw [e1]
  exact h
end
theorem rt_first (k s f d t : Int) (w : World) : Calls Tryz.prog 51 #[.agg #[.int .i64 k, .int .i64 s, .int .i64 f, .int .i64 d, .int .i64 t]] w (Ret w [] (isV (kv5 (K5.first ⟨k, s, f, d, t⟩)))) := ref_First k s f d t w
theorem rx_first (x : Fl) (w : World) : Calls Tryz.prog 51 #[.agg #[.int .i64 x.k, .int .i64 x.s, .int .i64 x.f, .int .i64 x.d, .int .i64 x.t]] w (Ret w [] (isV (kv5 x.fk))) := ref_First x.k x.s x.f x.d x.t w
theorem rk_ahead (a b : K5) (w : World) : Calls Tryz.prog 38 #[kv5 a, kv5 b] w (Ret w [] (isV (.bool (decide (K5.cmp a b < 0))))) := ref_Ahead a.k a.s a.f a.d a.t b.k b.s b.f b.d b.t w
/-- The cells of a flow of a row. -/
theorem row_cell {w w' : World} {D : List Nat} {L : List Ch} {b o i : Nat} {l : List Fl} {x : Fl} (hm : Mem w w' D L) (hlt : b < w.heap.size) (hD : b ∉ D) (hcs : CellsAt w b o (rowsG Fl.row l)) (hx : l[i]? = some x) : ∀ j v, x.row[j]? = some v → w'.cell? ⟨b, o + (i : Int).toNat * 15 + j, none⟩ = some v := fun j v hj => by
  rw [hm.cell (p := ⟨b, o + (i : Int).toNat * 15 + j, none⟩) hlt hD, show o + (i : Int).toNat * 15 + j = o + (i * 15 + j) by omega]
  exact hcs _ _ (by rw [rowsG_at row_len l i j x hx (List.getElem?_eq_some_iff.1 hj).1]; exact hj)
theorem row_key {w' : World} {b p : Nat} {x : Fl} (h : ∀ j v, x.row[j]? = some v → w'.cell? ⟨b, p + j, none⟩ = some v) : ∀ j v, [Value.int .i64 x.k, .int .i64 x.s, .int .i64 x.f, .int .i64 x.d, .int .i64 x.t][j]? = some v → w'.cell? ⟨b, p + j, none⟩ = some v := fun j v hj => h j v (by
  have h1 : x.row = [Value.int .i64 x.k, .int .i64 x.s, .int .i64 x.f, .int .i64 x.d, .int .i64 x.t] ++ x.row.drop 5 := rfl
  rw [h1, List.getElem?_append_left (List.getElem?_eq_some_iff.1 hj).1]
  exact hj)
set_option maxHeartbeats 4000000 in
theorem ref_ltime {max tn : Int} {lb m cap : Nat} {A : Option Addr} (now : Int) {w : World} (h0 : w.heap[lb]? = some (.cells [.int .i64 max, .int .i64 tn, .slice A m cap].toArray 33 (0, 0))) : Calls Tryz.prog 25 #[.pointer (some ⟨lb, 0, none⟩), .int .i64 now] w (Ret w [] (isV (.int .i64 (timE tn now)))) := by
  refine cx_enter (args := [.pointer (some ⟨lb, 0, none⟩), .int .i64 now]) (F := [(0, .pointer (some ⟨lb, 0, none⟩)), (1, .int .i64 now)]) _ [] Tryz.func25 rfl Tryz.ntmps25 (by simp) rfl (Mem.refl _) (fun g => ?_)
  by_cases ht : 0 ≤ now ∧ now ≤ 1000000
  rotate_left
  · have e : timE tn now = 1 := by unfold timE; rw [if_pos ht]
    have hb : (decide (0 ≤ now) && decide (now ≤ 1000000)) = false := by rw [← Bool.decide_and]; exact decide_eq_false ht
    have htm := fun (w' : World) => ref2_Time now w'
    simp only [hb] at htm
    repeat' (first | ((with_reducible refine at_call 45 ?_); refine sx_callv (fun w hm => htm _) ?_ rfl) | ((with_reducible refine at_op ?_); first | ((with_reducible refine at_move ?_); refine sx_move _ vf ?_) | ((with_reducible refine at_assign ?_); refine sx_assign _ vf ?_) | refine sx_not rfl ?_) | refine sx_nil ?_ | ((with_reducible refine at_code ?_); first | refine cx_seq ?_ | refine cx_region ?_ | refine cx_ret ?_ | refine cx_true rfl ?_) | ((with_reducible refine at_exit ?_); first | refine qx_then ?_ | refine qx_then_ret ?_))
    all_goals try (exfalso; omega)
    exact qx_ret1 (v := .int _ _) [] rfl rfl ⟨by rw [e], rfl⟩ (fun w hm => hm.nil)
  have hb : (decide (0 ≤ now) && decide (now ≤ 1000000)) = true := by rw [← Bool.decide_and]; exact decide_eq_true ht
  have htm := fun (w' : World) => ref2_Time now w'
  simp only [hb] at htm
  by_cases hl : now < tn
  · have e : timE tn now = 6 := by unfold timE; rw [if_neg (by omega), if_pos hl]
    repeat' (first | ((with_reducible refine at_call 45 ?_); refine sx_callv (fun w hm => htm _) ?_ rfl) | ((with_reducible refine at_load ?_); refine sx_loadB rfl h0 rfl ?_) | ((with_reducible refine at_op ?_); first | ((with_reducible refine at_move ?_); refine sx_move _ vf ?_) | ((with_reducible refine at_bin ?_); refine sx_lss rfl rfl ?_) | ((with_reducible refine at_assign ?_); refine sx_assign _ vf ?_) | refine sx_nilCheck rfl ?_ | refine sx_fieldAddr rfl ?_ | refine sx_not rfl ?_) | refine sx_nil ?_ | ((with_reducible refine at_code ?_); first | refine cx_seq ?_ | refine cx_region ?_ | refine cx_skip ?_ | refine cx_ret ?_ | refine cx_false rfl ?_ | (refine cx_cond rfl (fun h => ?_) (fun h => ?_) <;> (try simp only [decide_eq_true_eq, decide_eq_false_iff_not, Bool.and_eq_true, Bool.or_eq_true, Bool.and_eq_false_iff, Bool.or_eq_false_iff, Bool.not_eq_true', Bool.not_eq_false', Bool.not_true, Bool.not_false, Bool.true_or, Bool.or_true, Bool.false_or, Bool.or_false, Bool.and_true, Bool.true_and, Bool.false_and, Bool.and_false, reduceCtorEq, Classical.not_not, beq_self_eq_true, bne_self_eq_false, not_true_eq_false, not_false_eq_true, or_false, false_or, or_true, true_or, and_true, true_and, and_false, false_and, or_self, and_self] at h) <;> (try (exfalso; omega)))) | ((with_reducible refine at_exit ?_); first | refine qx_then ?_ | refine qx_then_ret ?_))
    all_goals try (exfalso; omega)
    exact qx_ret1 (v := .int _ _) [] rfl rfl ⟨by rw [e], rfl⟩ (fun w hm => hm.nil)
  · have e : timE tn now = 0 := by unfold timE; rw [if_neg (by omega), if_neg hl]
    repeat' (first | ((with_reducible refine at_call 45 ?_); refine sx_callv (fun w hm => htm _) ?_ rfl) | ((with_reducible refine at_load ?_); refine sx_loadB rfl h0 rfl ?_) | ((with_reducible refine at_op ?_); first | ((with_reducible refine at_move ?_); refine sx_move _ vf ?_) | ((with_reducible refine at_bin ?_); refine sx_lss rfl rfl ?_) | ((with_reducible refine at_assign ?_); refine sx_assign _ vf ?_) | refine sx_nilCheck rfl ?_ | refine sx_fieldAddr rfl ?_ | refine sx_not rfl ?_) | refine sx_nil ?_ | ((with_reducible refine at_code ?_); first | refine cx_seq ?_ | refine cx_region ?_ | refine cx_skip ?_ | refine cx_ret ?_ | refine cx_false rfl ?_ | (refine cx_cond rfl (fun h => ?_) (fun h => ?_) <;> (try simp only [decide_eq_true_eq, decide_eq_false_iff_not, Bool.and_eq_true, Bool.or_eq_true, Bool.and_eq_false_iff, Bool.or_eq_false_iff, Bool.not_eq_true', Bool.not_eq_false', Bool.not_true, Bool.not_false, Bool.true_or, Bool.or_true, Bool.false_or, Bool.or_false, Bool.and_true, Bool.true_and, Bool.false_and, Bool.and_false, reduceCtorEq, Classical.not_not, beq_self_eq_true, bne_self_eq_false, not_true_eq_false, not_false_eq_true, or_false, false_or, or_true, true_or, and_true, true_and, and_false, false_and, or_self, and_self] at h) <;> (try (exfalso; omega)))) | ((with_reducible refine at_exit ?_); refine qx_then ?_))
    all_goals try (exfalso; omega)
    exact qx_ret1 (v := .int _ _) [] rfl rfl ⟨by rw [e], rfl⟩ (fun w hm => hm.nil)
set_option maxHeartbeats 8000000 in
theorem ref_lat {max tn : Int} {lb m cap : Nat} {A : Option Addr} {l : List Fl} (k s f d t : Int) (N : Nat) (r : Int) {w : World} (h0 : w.heap[lb]? = some (.cells [.int .i64 max, .int .i64 tn, .slice A m cap].toArray 33 (0, 0))) (hr : RowIn w lb A m l) (hm0 : m = l.length) (hmb : m ≤ 100)
    (hN : (N = m ∧ r = -1) ∨ (r = N ∧ ∃ z, l[N]? = some z ∧ z.fk = K5.first ⟨k, s, f, d, t⟩)) (hb : ∀ j, j < N → ∀ y, l[j]? = some y → y.fk ≠ K5.first ⟨k, s, f, d, t⟩) :
    Calls Tryz.prog 28 #[.pointer (some ⟨lb, 0, none⟩), .agg #[.int .i64 k, .int .i64 s, .int .i64 f, .int .i64 d, .int .i64 t]] w (Ret w [] (isV (.int .i64 r))) := by
  obtain ⟨b1, o1, hA1⟩ := hr
  obtain ⟨kf, hkf⟩ : ∃ kf, K5.first ⟨k, s, f, d, t⟩ = kf := ⟨_, rfl⟩
  have hfirst := fun (w' : World) => rt_first k s f d t w'
  rw [hkf] at hfirst hN
  simp only [hkf] at hb
  have hNm : N ≤ m := by
    rcases hN with ⟨h, _⟩ | ⟨_, z, hz, _⟩
    · omega
    · have := (List.getElem?_eq_some_iff.1 hz).1
      omega
  refine cx_enter (args := [.pointer (some ⟨lb, 0, none⟩), .agg #[.int .i64 k, .int .i64 s, .int .i64 f, .int .i64 d, .int .i64 t]]) (F := [(0, .pointer (some ⟨lb, 0, none⟩)), (1, .agg #[.int .i64 k, .int .i64 s, .int .i64 f, .int .i64 d, .int .i64 t])]) _ [] Tryz.func28 rfl Tryz.ntmps28 (by simp) rfl (Mem.refl _) (fun g => ?_)
  repeat' (first | ((with_reducible refine at_op ?_); first | ((with_reducible refine at_assign ?_); refine sx_assign _ vf ?_) | (refine sx_box rfl ?_; intro b)) | refine sx_nil ?_ | ((with_reducible refine at_code ?_); first | refine cx_seq ?_ | refine cx_region ?_ | refine cx_block ?_) | ((with_reducible refine at_exit ?_); refine qx_then ?_))
  refine cx_loop (fun mm fr L => ∃ i : Nat, FF fr [(0, .pointer (some ⟨lb, 0, none⟩)), (3, .pointer (some ⟨b, 0, none⟩)), (5, .int .i64 i)] ∧ L = [[(b, .cells [.int .i64 k, .int .i64 s, .int .i64 f, .int .i64 d, .int .i64 t].toArray 37 (0, 0))]] ∧ mm + i = m ∧ i ≤ N) m ?_ ?_
  · exact ⟨0, ffr, rfl, rfl, Nat.zero_le _⟩
  rintro mm fr L ⟨i, hF, rfl, hmm, hiN⟩ K hK
  refine cx_use hF fun g => ?_
  clear hF
  by_cases hin : i < m
  rotate_left
  · clear hK
    have hr1 : r = -1 := by
      rcases hN with ⟨_, h⟩ | ⟨_, z, hz, _⟩
      · exact h
      · have := (List.getElem?_eq_some_iff.1 hz).1
        omega
    subst hr1
    repeat' (first | ((with_reducible refine at_load ?_); refine sx_loadB rfl h0 rfl ?_) | ((with_reducible refine at_op ?_); first | ((with_reducible refine at_move ?_); refine sx_move _ vf ?_) | ((with_reducible refine at_bin ?_); refine sx_lss rfl rfl ?_) | ((with_reducible refine at_assign ?_); refine sx_assign _ vf ?_) | refine sx_nilCheck rfl ?_ | refine sx_fieldAddr rfl ?_ | refine sx_len rfl ?_) | refine sx_nil ?_ | ((with_reducible refine at_code ?_); first | refine cx_seq ?_ | refine cx_region ?_ | refine cx_ret ?_ | refine cx_exit ?_ | (refine cx_cond rfl (fun h => ?_) (fun h => ?_) <;> (try simp only [decide_eq_true_eq, decide_eq_false_iff_not, Bool.and_eq_true, Bool.or_eq_true, Bool.and_eq_false_iff, Bool.or_eq_false_iff, Bool.not_eq_true', Bool.not_eq_false', Bool.not_true, Bool.not_false, Bool.true_or, Bool.or_true, Bool.false_or, Bool.or_false, Bool.and_true, Bool.true_and, Bool.false_and, Bool.and_false, reduceCtorEq, Classical.not_not, beq_self_eq_true, bne_self_eq_false, not_true_eq_false, not_false_eq_true, or_false, false_or, or_true, true_or, and_true, true_and, and_false, false_and, or_self, and_self] at h) <;> (try (exfalso; omega)))) | ((with_reducible refine at_exit ?_); first | refine qx_then ?_ | refine qx_in_here ?_ | refine qx_then_exit ?_))
    all_goals try (exfalso; omega)
    exact qx_ret1 (v := .int .i64 (-1)) [] rfl rfl ⟨rfl, rfl⟩ (fun w hm => hm.nil)
  obtain ⟨x, hx⟩ : ∃ x, l[i]? = some x := ⟨_, List.getElem?_eq_getElem (by omega)⟩
  obtain ⟨rfl, hlt, hne, hcs⟩ := hA1 (by omega)
  have hxc := fun {w' : World} {L : List Ch} (hm : Mem w w' [] L) => row_key (row_cell hm hlt (by simp) hcs hx)
  have hxf := fun (w' : World) => rx_first x w'
  obtain ⟨xf, hxe⟩ : ∃ xf, x.fk = xf := ⟨_, rfl⟩
  rw [hxe] at hxf
  have hcase : (i < N ∧ xf ≠ kf) ∨ (i = N ∧ xf = kf ∧ r = N) := by
    by_cases h : i < N
    · exact .inl ⟨h, by rw [← hxe]; exact hb i h x hx⟩
    · rcases hN with ⟨h1, _⟩ | ⟨h1, z, hz, hzf⟩
      · omega
      · have e : i = N := by omega
        subst e
        rw [hx] at hz
        rw [← Option.some.inj hz] at hzf
        exact .inr ⟨rfl, by rw [← hxe]; exact hzf, h1⟩
  clear hA1
  rcases hcase with ⟨hiN', hd⟩ | ⟨rfl, rfl, rfl⟩
  · have he : decide (xf = kf) = false := decide_eq_false hd
    repeat' (first | ((with_reducible refine at_reg 4 ?_); refine cx_heldA dk ?_) | ((with_reducible refine at_held ?_); first | (refine ah_not 0 rfl ?_; refine ah_isp 0 rfl ?_; refine ah_at 0 dk (fun hT => ?_); (refine ah_pure 0 (o := ⟨_, _, _, _, _, _⟩) hT rfl rfl rfl rfl rfl ?_; apply Exists.intro; refine And.intro ?_ ?_)) | (refine ah_not 1 rfl ?_; refine ah_isp 1 rfl ?_; refine ah_at 1 dk (fun hT => ?_); refine ah_nil 1 hT rfl rfl ?_) | (refine ah_not 2 rfl ?_; refine ah_isp 2 rfl ?_; refine ah_at 2 dk (fun hT => ?_); (refine ah_pure 2 (o := ⟨_, _, _, _, _, _⟩) hT rfl rfl rfl rfl rfl ?_; apply Exists.intro; refine And.intro ?_ ?_)) | (refine ah_not 4 rfl ?_; refine ah_isp 4 rfl ?_; refine ah_at 4 dk (fun hT => ?_); (refine ah_pure 4 (o := ⟨_, _, _, _, _, _⟩) hT rfl rfl rfl rfl rfl ?_; apply Exists.intro; refine And.intro ?_ ?_)) | (refine ah_not 5 rfl ?_; refine ah_isp 5 rfl ?_; refine ah_at 5 dk (fun hT => ?_); (refine ah_pure 5 (o := ⟨_, _, _, _, _, _⟩) hT rfl rfl rfl rfl rfl ?_; apply Exists.intro; refine And.intro ?_ ?_)) | (refine ah_not 6 rfl ?_; refine ah_isp 6 rfl ?_; refine ah_at 6 dk (fun hT => ?_); (refine ah_pure 6 (o := ⟨_, _, _, _, _, _⟩) hT rfl rfl rfl rfl rfl ?_; apply Exists.intro; refine And.intro ?_ ?_)) | (refine ah_not 9 rfl ?_; refine ah_isp 9 rfl ?_; refine ah_at 9 dk (fun hT => ?_); (refine ah_pure 9 (o := ⟨_, _, _, _, _, _⟩) hT rfl rfl rfl rfl rfl ?_; apply Exists.intro; refine And.intro ?_ ?_)) | (refine ah_not 11 rfl ?_; refine ah_isp 11 rfl ?_; refine ah_at 11 dk (fun hT => ?_); (refine ah_pure 11 (o := ⟨_, _, _, _, _, _⟩) hT rfl rfl rfl rfl rfl ?_; apply Exists.intro; refine And.intro ?_ ?_)) | (refine ah_not 3 rfl ?_; refine ah_lone 3 (o := ⟨_, _, _, _, _, _⟩) dk rfl ?_) | (refine ah_not 7 rfl ?_; refine ah_lone 7 (o := ⟨_, _, _, _, _, _⟩) dk rfl ?_) | (refine ah_not 8 rfl ?_; refine ah_lone 8 (o := ⟨_, _, _, _, _, _⟩) dk rfl ?_) | (refine ah_not 10 rfl ?_; refine ah_lone 10 (o := ⟨_, _, _, _, _, _⟩) dk rfl ?_) | refine ah_over1 dk ?_) | ((with_reducible refine at_load ?_); first | refine sx_loadB rfl h0 rfl ?_ | refine sx_loadMA (vs := [.int .i64 x.k, .int .i64 x.s, .int .i64 x.f, .int .i64 x.d, .int .i64 x.t]) rfl rfl (fun w' hm => hxc hm) ?_) | ((with_reducible refine at_ixaddr ?_); refine sx_indexQ rfl rfl rfl (by omega) ?_) | ((with_reducible refine at_call 51 ?_); refine sx_callv (fun w hm => hxf _) ?_ rfl) | ((with_reducible refine at_call 51 ?_); refine sx_callv (fun w hm => hfirst _) ?_ rfl) | ((with_reducible refine at_bin ?_); refine sx_eqlK5 xf kf he rfl rfl ?_) | ((with_reducible refine at_exit ?_); refine qx_held (fun w hm => hm) ?_) | ((with_reducible refine at_op ?_); first | ((with_reducible refine at_move ?_); refine sx_move _ vf ?_) | ((with_reducible refine at_bin ?_); first | refine sx_lss rfl rfl ?_ | refine sx_add rfl rfl bnd ?_) | ((with_reducible refine at_assign ?_); refine sx_assign _ vf ?_) | ((with_reducible refine at_load ?_); refine sx_loadWE rfl pc gl ?_) | refine sx_nilCheck rfl ?_ | refine sx_fieldAddr rfl ?_ | refine sx_len rfl ?_) | refine sx_nil ?_ | ((with_reducible refine at_code ?_); first | refine cx_seq ?_ | refine cx_region ?_ | refine cx_skip ?_ | refine cx_block ?_ | refine cx_false rfl ?_ | (refine cx_cond rfl (fun h => ?_) (fun h => ?_) <;> (try simp only [decide_eq_true_eq, decide_eq_false_iff_not, Bool.and_eq_true, Bool.or_eq_true, Bool.and_eq_false_iff, Bool.or_eq_false_iff, Bool.not_eq_true', Bool.not_eq_false', Bool.not_true, Bool.not_false, Bool.true_or, Bool.or_true, Bool.false_or, Bool.or_false, Bool.and_true, Bool.true_and, Bool.false_and, Bool.and_false, reduceCtorEq, Classical.not_not, beq_self_eq_true, bne_self_eq_false, not_true_eq_false, not_false_eq_true, or_false, false_or, or_true, true_or, and_true, true_and, and_false, false_and, or_self, and_self] at h) <;> (try (exfalso; omega)))) | ((with_reducible refine at_exit ?_); first | refine qx_then ?_ | exact qx_isF | refine qx_in_normal ?_))
    all_goals try (exfalso; omega)
    all_goals
      refine qx_mem (L' := [[(b, .cells [.int .i64 k, .int .i64 s, .int .i64 f, .int .i64 d, .int .i64 t].toArray 37 (0, 0))]]) ?_ (fun w hm => hm)
      exact hK (mm - 1) _ _ _ (by omega) ⟨i + 1, ffr, rfl, by omega, by omega⟩
  · have he : decide (xf = xf) = true := decide_eq_true rfl
    repeat' (first | ((with_reducible refine at_reg 4 ?_); refine cx_heldA dk ?_) | ((with_reducible refine at_held ?_); first | (refine ah_not 0 rfl ?_; refine ah_isp 0 rfl ?_; refine ah_at 0 dk (fun hT => ?_); (refine ah_pure 0 (o := ⟨_, _, _, _, _, _⟩) hT rfl rfl rfl rfl rfl ?_; apply Exists.intro; refine And.intro ?_ ?_)) | (refine ah_not 1 rfl ?_; refine ah_isp 1 rfl ?_; refine ah_at 1 dk (fun hT => ?_); refine ah_nil 1 hT rfl rfl ?_) | (refine ah_not 2 rfl ?_; refine ah_isp 2 rfl ?_; refine ah_at 2 dk (fun hT => ?_); (refine ah_pure 2 (o := ⟨_, _, _, _, _, _⟩) hT rfl rfl rfl rfl rfl ?_; apply Exists.intro; refine And.intro ?_ ?_)) | (refine ah_not 4 rfl ?_; refine ah_isp 4 rfl ?_; refine ah_at 4 dk (fun hT => ?_); (refine ah_pure 4 (o := ⟨_, _, _, _, _, _⟩) hT rfl rfl rfl rfl rfl ?_; apply Exists.intro; refine And.intro ?_ ?_)) | (refine ah_not 5 rfl ?_; refine ah_isp 5 rfl ?_; refine ah_at 5 dk (fun hT => ?_); (refine ah_pure 5 (o := ⟨_, _, _, _, _, _⟩) hT rfl rfl rfl rfl rfl ?_; apply Exists.intro; refine And.intro ?_ ?_)) | (refine ah_not 6 rfl ?_; refine ah_isp 6 rfl ?_; refine ah_at 6 dk (fun hT => ?_); (refine ah_pure 6 (o := ⟨_, _, _, _, _, _⟩) hT rfl rfl rfl rfl rfl ?_; apply Exists.intro; refine And.intro ?_ ?_)) | (refine ah_not 9 rfl ?_; refine ah_isp 9 rfl ?_; refine ah_at 9 dk (fun hT => ?_); (refine ah_pure 9 (o := ⟨_, _, _, _, _, _⟩) hT rfl rfl rfl rfl rfl ?_; apply Exists.intro; refine And.intro ?_ ?_)) | (refine ah_not 11 rfl ?_; refine ah_isp 11 rfl ?_; refine ah_at 11 dk (fun hT => ?_); (refine ah_pure 11 (o := ⟨_, _, _, _, _, _⟩) hT rfl rfl rfl rfl rfl ?_; apply Exists.intro; refine And.intro ?_ ?_)) | (refine ah_not 3 rfl ?_; refine ah_lone 3 (o := ⟨_, _, _, _, _, _⟩) dk rfl ?_) | (refine ah_not 7 rfl ?_; refine ah_lone 7 (o := ⟨_, _, _, _, _, _⟩) dk rfl ?_) | (refine ah_not 8 rfl ?_; refine ah_lone 8 (o := ⟨_, _, _, _, _, _⟩) dk rfl ?_) | (refine ah_not 10 rfl ?_; refine ah_lone 10 (o := ⟨_, _, _, _, _, _⟩) dk rfl ?_) | refine ah_over1 dk ?_) | ((with_reducible refine at_load ?_); first | refine sx_loadB rfl h0 rfl ?_ | refine sx_loadMA (vs := [.int .i64 x.k, .int .i64 x.s, .int .i64 x.f, .int .i64 x.d, .int .i64 x.t]) rfl rfl (fun w' hm => hxc hm) ?_) | ((with_reducible refine at_ixaddr ?_); refine sx_indexQ rfl rfl rfl (by omega) ?_) | ((with_reducible refine at_call 51 ?_); refine sx_callv (fun w hm => hxf _) ?_ rfl) | ((with_reducible refine at_call 51 ?_); refine sx_callv (fun w hm => hfirst _) ?_ rfl) | ((with_reducible refine at_bin ?_); refine sx_eqlK5 xf xf he rfl rfl ?_) | ((with_reducible refine at_exit ?_); refine qx_held (fun w hm => hm) ?_) | ((with_reducible refine at_op ?_); first | ((with_reducible refine at_move ?_); refine sx_move _ vf ?_) | ((with_reducible refine at_bin ?_); refine sx_lss rfl rfl ?_) | ((with_reducible refine at_assign ?_); refine sx_assign _ vf ?_) | ((with_reducible refine at_load ?_); refine sx_loadWE rfl pc gl ?_) | refine sx_nilCheck rfl ?_ | refine sx_fieldAddr rfl ?_ | refine sx_len rfl ?_) | refine sx_nil ?_ | ((with_reducible refine at_code ?_); first | refine cx_seq ?_ | refine cx_region ?_ | refine cx_skip ?_ | refine cx_ret ?_ | refine cx_block ?_ | refine cx_true rfl ?_ | (refine cx_cond rfl (fun h => ?_) (fun h => ?_) <;> (try simp only [decide_eq_true_eq, decide_eq_false_iff_not, Bool.and_eq_true, Bool.or_eq_true, Bool.and_eq_false_iff, Bool.or_eq_false_iff, Bool.not_eq_true', Bool.not_eq_false', Bool.not_true, Bool.not_false, Bool.true_or, Bool.or_true, Bool.false_or, Bool.or_false, Bool.and_true, Bool.true_and, Bool.false_and, Bool.and_false, reduceCtorEq, Classical.not_not, beq_self_eq_true, bne_self_eq_false, not_true_eq_false, not_false_eq_true, or_false, false_or, or_true, true_or, and_true, true_and, and_false, false_and, or_self, and_self] at h) <;> (try (exfalso; omega)))) | ((with_reducible refine at_exit ?_); first | refine qx_then ?_ | exact qx_isF | refine qx_in_ret ?_ | refine qx_then_ret ?_))
    all_goals try (exfalso; omega)
    all_goals exact qx_ret1 (v := .int .i64 i) [] rfl rfl ⟨rfl, rfl⟩ (fun w hm => hm.nil)
end Go.Proofs.YtghnjmjdaggopaaGreatDoor
