/- heavy: Top. -/
import Derived.Test.YtaofimndclgpdaaDoorHeavyM
import Derived.Test.YtaofimndclgpdaaDoorHeavyD
import Derived.Test.YtaofimndclgpdaaDoorHeavyH
set_option linter.unusedSimpArgs false
set_option linter.unusedVariables false
set_option maxRecDepth 100000
namespace Go.Port
open Go.RowKit
section
variable {P : Program} {w0 : World} {D : List Nat} {n q : Nat} {ops : Array Oper} {Q : Exit → Act → World → Prop} {g : Nat → Value} {F : List (Nat × Value)} {L : List Ch}
variable {rest : List Oper} {ty : TypeId} {pos : String} {af : Array Edge} {d : Nat}
theorem sx_sliceToP {T E sz bytes : Nat} {z : Value} [SlT P T E sz bytes z] {x y : Operand} {A : Option Addr} {len cap : Nat} {k : Int} (hx : evn n (get g F) x = .slice A len cap) (hy : evn n (get g F) y = .int .i64 k) (hk : 0 ≤ k ∧ k ≤ cap)
    (h : SX P w0 D n q ops Q rest g ((d, .slice A k.toNat cap) :: F) L) :
    SX P w0 D n q ops Q ({ dst := some d, op := .slice T x none (some y) none, type := ty, pos := pos, after := af, guard := none } :: rest) g F L :=
  sx_sliceTo hx hy hk (by rw [shift_zero]; exact h)
end
end Go.Port
namespace Go.Proofs.YtaofimndclgpdaaDoor
open Go.RowKit Go.Port Go.Proofs
attribute [local irreducible] Calls
/-- Counts, as Count tells them. -/
def cts (less : Int) (C : Cn) : List Ct := C.map fun e => (e.1, e.2.1, less)
/-- A top: all counts, sorted. -/
def TopOf (less : Int) (C : Cn) (d : List Ct) : Prop := d.Perm (cts less C) ∧ d.Pairwise (fun x y => ltOf cfC y x = false)
theorem cts_snoc (less : Int) (C : Cn) (x : Int × Int × Nat) : rowsG encC (cts less (C ++ [x])) = rowsG encC (cts less C) ++ [.int .i64 x.1, .int .i64 x.2.1, .int .i64 less] := by
  unfold cts rowsG
  rw [List.map_append, List.flatMap_append]
  rfl
set_option maxHeartbeats 8000000 in
theorem heavy_Top {n less all : Int} (q : Int) {hb r ck : Nat} {C : Cn} {w : World} (hC : CnOk C ck) (hok : OkH (hl C)) (hlen : C.length ≤ 20) (h : Has w (hvC n less all hb r ck C)) :
    Calls Tryd.prog 12 #[.pointer (some ⟨hb, 0, none⟩), .int .i64 q] w (Ret w [] (fun v L => (¬ (1 ≤ q ∧ q ≤ 20) ∧ v = .tuple #[.slice none 0 0, er 1] ∧ L = []) ∨ ((1 ≤ q ∧ q ≤ 20) ∧ ∃ (d : List Ct) (A : Option Addr) (cap : Nat) (c : Ch), TopOf less C d ∧ v = .tuple #[.slice A (min q d.length).toNat cap, .nilIface] ∧ L = [c] ∧ OwnS 37 3 (.slice A d.length cap) d.length (rowsG encC d) c))) := by
  have h0 : w.heap[hb]? = some (.cells [.int .i64 n, .int .i64 less, .int .i64 all, .map (some r)].toArray 50 (0, 0)) := h _ (List.Mem.head _)
  have h1 : w.heap[r]? = some (kObj kvI (hM C) ck) := h _ (List.Mem.tail _ (List.Mem.head _))
  have hH : ∀ {w' : World} {L : List Ch}, Mem w w' [] L → Has w' (hvC n less all hb r ck C) := fun hm e he => hm.old0 (h e he)
  refine cx_enter (args := [.pointer (some ⟨hb, 0, none⟩), .int .i64 q]) (F := [(0, .pointer (some ⟨hb, 0, none⟩)), (1, .int .i64 q)]) _ [] Tryd.func12 rfl Tryd.ntmps12 (by simp) rfl (Mem.refl _) (fun g => ?_)
  by_cases hq : 1 ≤ q ∧ q ≤ 20
  rotate_left
  · have hkd : (decide (1 ≤ q) && decide (q ≤ 20)) = false := by
      rw [Bool.and_eq_false_iff, decide_eq_false_iff_not, decide_eq_false_iff_not]
      omega
    repeat' (first | ((with_reducible refine at_call 15 ?_); refine sx_callv (fun w hm => hkd ▸ heavy_keys q _) ?_ rfl) | ((with_reducible refine at_op ?_); first | ((with_reducible refine at_move ?_); refine sx_move _ vf ?_) | ((with_reducible refine at_assign ?_); refine sx_assign _ vf ?_) | refine sx_not rfl ?_ | ((with_reducible refine at_iface ?_); refine sx_iface _ vf ?_)) | refine sx_nil ?_ | ((with_reducible refine at_code ?_); first | refine cx_seq ?_ | refine cx_region ?_ | refine cx_ret ?_ | refine cx_true rfl ?_) | ((with_reducible refine at_exit ?_); first | refine qx_then ?_ | refine qx_then_ret ?_))
    all_goals try (exfalso; omega)
    all_goals exact qx_ret2 (v := .slice _ _ _) (x := .iface _ _) [] rfl rfl rfl (.inl ⟨hq, by rw [er, errV_ne (by decide)], rfl⟩) (fun w hm => hm.nil)
  have hkd : (decide (1 ≤ q) && decide (q ≤ 20)) = true := by
    rw [Bool.and_eq_true, decide_eq_true_eq, decide_eq_true_eq]
    omega
  repeat' (first | ((with_reducible refine at_call 15 ?_); refine sx_callv (fun w hm => hkd ▸ heavy_keys q _) ?_ rfl) | ((with_reducible refine at_load ?_); refine sx_loadB rfl h0 rfl ?_) | (refine sx_rangeKM (kv := kvI) (M := hM C) (ck := ck) rfl (fun w hm => hm.old0 h1) ?_; intro it) | ((with_reducible refine at_op ?_); first | ((with_reducible refine at_move ?_); refine sx_move _ vf ?_) | ((with_reducible refine at_assign ?_); refine sx_assign _ vf ?_) | refine sx_nilCheck rfl ?_ | refine sx_fieldAddr rfl ?_ | refine sx_not rfl ?_) | refine sx_nil ?_ | ((with_reducible refine at_code ?_); first | refine cx_seq ?_ | refine cx_region ?_ | refine cx_skip ?_ | refine cx_block ?_ | refine cx_false rfl ?_) | ((with_reducible refine at_exit ?_); refine qx_then ?_))
  all_goals try (exfalso; omega)
  refine cx_mem (L' := [[(it, itObj r ck [] ck)], []]) ?_ (fun w hm => hm.perm (.refl _))
  refine cx_loop (fun mm fr L => ∃ (S : List Nat) (pre : Cn) (c0 : Nat) (Ao : Option Addr) (co : Nat) (c1 : Ch), FF fr [(0, .pointer (some ⟨hb, 0, none⟩)), (1, .int .i64 q), (6, .slice Ao pre.length co), (16, .pointer (some ⟨it, 0, none⟩))] ∧ L = [[(it, itObj r ck S c0)], c1] ∧ ck ≤ c0 ∧ mm = (C.filter (fun e => !S.contains e.2.2)).length ∧ (pre ++ C.filter (fun e => !S.contains e.2.2)).Perm C ∧ OwnS 37 3 (.slice Ao pre.length co) pre.length (rowsG encC (cts less pre)) c1) (C.filter (fun e => !([] : List Nat).contains e.2.2)).length ?_ ?_
  · exact ⟨[], [], ck, none, 0, [], ffr, rfl, Nat.le_refl _, rfl, .of_eq (List.filter_eq_self.2 fun _ _ => rfl), OwnS.nil _ _⟩
  rintro mm fr L ⟨S, pre, c0, Ao, co, c1, hF, rfl, hc0, rfl, hperm, hoo⟩ K hK
  refine cx_use hF fun g => ?_
  clear hF
  have hpl : pre.length + (C.filter (fun e => !S.contains e.2.2)).length = C.length := by
    have := hperm.length_eq
    rw [List.length_append] at this
    exact this
  repeat' (first | (with_reducible refine stop_rs 6 ?_) | (with_reducible refine stop_rs 8 ?_) | (refine sx_nextKM (kv := kvI) (M := hM C) (ck := ck) rfl (fun w hm => hm.old0 h1) (hM_low hC) hc0 (fun hleft => ?_) (fun e he hns => ?_); rotate_left; obtain ⟨x, hx, rfl⟩ := List.mem_map.1 he; rotate_right) | ((with_reducible refine at_op ?_); refine sx_extract rfl rfl ?_) | refine sx_nil ?_ | ((with_reducible refine at_code ?_); first | refine cx_seq ?_ | refine cx_region ?_ | refine cx_skip ?_ | refine cx_exit ?_ | refine cx_block ?_ | refine cx_true rfl ?_ | refine cx_false rfl ?_) | ((with_reducible refine at_exit ?_); first | refine qx_then ?_ | refine qx_in_here ?_ | refine qx_then_exit ?_))
  all_goals try (exfalso; omega)
  · clear hK
    refine halt_go ?_
    rw [left_hM] at hleft
    have hnil : C.filter (fun e => !S.contains e.2.2) = [] := List.map_eq_nil_iff.1 hleft
    rw [hnil, List.append_nil] at hperm
    refine cx_mem (L' := [c1]) ?_ (fun w hm => hm.picks [1])
    have hcl : (cts less pre).length = pre.length := List.length_map _
    repeat' (first | ((with_reducible refine at_call 25 ?_); (first | (refine sx_rot rot0 ?_; refine sx_call (fun w hm => sort_cts (l := cts less pre) hm.self hoo hcl.symm (by omega)) ?_) | (refine sx_rot rot1 ?_; refine sx_call (fun w hm => sort_cts (l := cts less pre) hm.self hoo hcl.symm (by omega)) ?_) | (refine sx_rot rot2 ?_; refine sx_call (fun w hm => sort_cts (l := cts less pre) hm.self hoo hcl.symm (by omega)) ?_) | (refine sx_rot rot3 ?_; refine sx_call (fun w hm => sort_cts (l := cts less pre) hm.self hoo hcl.symm (by omega)) ?_) | (refine sx_rot rot4 ?_; refine sx_call (fun w hm => sort_cts (l := cts less pre) hm.self hoo hcl.symm (by omega)) ?_) | (refine sx_rot rot5 ?_; refine sx_call (fun w hm => sort_cts (l := cts less pre) hm.self hoo hcl.symm (by omega)) ?_)); rintro _ _ ⟨rfl, d, c', rfl, hod, hdp, hds⟩; have hdl := hdp.length_eq.trans hcl; obtain ⟨_, cpx, hcx, hcl2⟩ := hod.len; simp only [Value.slice.injEq] at hcx; refine sx_app1 ?_) | (refine sx_sliceToP rfl rfl (by omega) ?_) | ((with_reducible refine at_op ?_); first | ((with_reducible refine at_move ?_); refine sx_move _ vf ?_) | ((with_reducible refine at_assign ?_); refine sx_assign _ vf ?_) | refine sx_len rfl ?_ | refine sx_min rfl rfl ?_) | refine sx_nil ?_ | ((with_reducible refine at_code ?_); first | refine cx_seq ?_ | refine cx_region ?_ | refine cx_ret ?_) | ((with_reducible refine at_exit ?_); refine qx_then ?_))
    all_goals try (exfalso; omega)
    refine qx_ret2 (v := .slice _ _ _) (x := .nilIface) [c'] rfl rfl rfl (.inr ⟨hq, d, Ao, co, c', ⟨hdp.trans (hperm.map _), hds⟩, by rw [hdl], rfl, by rw [hdl]; exact hod⟩) (fun w hm => hm)
  refine halt_go ?_
  have hstep := came_step hC.borns hx hns
  have hlk : lkH (hl C) x.1 = x.2.1 := lk_in (e := (x.1, x.2.1)) hok (List.mem_map_of_mem (f := fun e : Int × Int × Nat => (e.1, e.2.1)) hx)
  have hsl := hstep.length_eq
  rw [List.length_cons] at hsl
  repeat' (first | (refine sx_itEntryKM (kv := kvI) (M := hM C) (ck := ck) 0 rfl rfl (fun w hm => hm.old0 h1) he (hM_borns hC) ?_) | ((with_reducible refine at_call 8 ?_); refine sx_callv (fun w hm => hlk ▸ heavy_Count x.1 (hH hm)) ?_ rfl) | ((with_reducible refine at_buildS ?_); (refine sx_buildS [.int .i64 x.1, .int .i64 x.2.1, .int .i64 less] rfl rfl rfl rfl rfl ?_; intro bl)) | ((with_reducible refine at_op ?_); first | ((with_reducible refine at_move ?_); refine sx_move _ vf ?_) | ((with_reducible refine at_assign ?_); refine sx_assign _ vf ?_) | refine sx_extract rfl rfl ?_ | ((with_reducible refine at_append ?_); (refine sx_append1 (v := .slice _ _ _) rfl rfl rot1 asm rfl bnd rfl bnd ?_; intro v c ho; obtain ⟨A, cp, rfl, hcp⟩ := ho.len))) | refine sx_nil ?_ | ((with_reducible refine at_code ?_); first | refine cx_seq ?_ | refine cx_region ?_) | ((with_reducible refine at_exit ?_); first | refine qx_then ?_ | refine qx_in_normal ?_))
  all_goals try (exfalso; omega)
  rw [← cts_snoc] at ho
  have e1 : pre.length + 1 = (pre ++ [x]).length := by rw [List.length_append]; rfl
  refine qx_mem (L' := [[(it, itObj r ck (S ++ [x.2.2]) ck)], c]) ?_ (fun w hm => by first | exact hm | exact hm.picks [1, 0])
  rw [e1] at ho ⊢
  refine hK _ _ _ _ (by omega) ⟨S ++ [x.2.2], pre ++ [x], ck, A, cp, c, ffr, rfl, Nat.le_refl _, rfl, ?_, ho⟩
  rw [List.append_assoc]
  exact (List.Perm.append_left _ hstep.symm).trans hperm
end Go.Proofs.YtaofimndclgpdaaDoor
