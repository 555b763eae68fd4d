/- slices.Backward over edits: the function value, the iterator. -/
import Derived.Test.YtakogejljocegaaRngC
import Derived.Test.YtakogejljocegaaDiffG
set_option linter.unusedSimpArgs false
set_option linter.unusedVariables false
set_option maxRecDepth 100000
namespace Go.Proofs.Ytakogejljocegaa
open Go.RowKit Go.Port
attribute [local irreducible] Calls
theorem back_make (A : Option Addr) (len cap : Nat) {w : World} :
    Calls Try.prog 17 #[.slice A len cap] w (Ret w [] (fun v L => ∃ (b : Nat) (T : TypeId) (fr : Nat × Nat), v = .func (.func 24) #[] #[.pointer (some ⟨b, 0, none⟩)] ∧ L = [[(b, .cells [.slice A len cap].toArray T fr)]])) := by
  refine cx_enter (args := [.slice A len cap]) (F := [(0, .slice A len cap)]) _ [] Try.func17 rfl Try.ntmps17 (by simp) rfl (Mem.refl _) (fun g => ?_)
  repeat' (first | (refine sx_makeFunc [.pointer (some ⟨_, 0, none⟩)] rfl ?_) | ((with_reducible refine at_op ?_); first | ((with_reducible refine at_assign ?_); refine sx_assign _ vf ?_) | (refine sx_box1 rfl rfl ?_; intro b)) | refine sx_nil ?_ | ((with_reducible refine at_code ?_); first | refine cx_seq ?_ | refine cx_region ?_ | refine cx_ret ?_) | ((with_reducible refine at_exit ?_); refine qx_then ?_))
  exact qx_ret1 [_] rfl rfl ⟨_, _, _, rfl, rfl⟩ (fun w hm => hm)
/-- Edits from the last one on. -/
def encE (x : Nat × Eu) : Array Value := #[.int .i64 (x.1 : Int), .agg x.2.row.toArray]
def backK (A : Option Addr) (len b : Nat) (k : Nat) : Prop := k = b ∨ (0 < len ∧ ∃ x o, A = some ⟨x, o, none⟩ ∧ k = x)
set_option maxHeartbeats 4000000 in
theorem back_iter {A : Option Addr} {len cap b : Nat} {T : TypeId} {fr : Nat × Nat} {es : List Eu} {w : World} (hb : w.heap[b]? = some (.cells [.slice A len cap].toArray T fr)) (h : IsSl w 13 A len cap (es.flatMap Eu.row)) (hl : len = es.length) (hlen : len ≤ 100000) :
    Iter Try.prog 24 #[.pointer (some ⟨b, 0, none⟩)] (fun x : {x : Nat × Eu // x.2 ∈ es} => encE x.1) (backK A len b) (fun _ => False) (fun xs => xs.map (fun x => x.1.2) = es.reverse) (fun _ => True) len w := by
  intro l J Jx W ⟨hsz, hkp⟩ hJ hJx hY h0
  refine callsIn_wide.2 ?_
  have hbW : W.heap[b]? = some (.cells [.slice A len cap].toArray T fr) := (hkp b (.inl (.inl rfl))).trans hb
  have hsW : IsSl W 13 A len cap (es.flatMap Eu.row) := h.keep hsz fun h0 x o e => hkp x (.inl (.inr ⟨h0, x, o, e, rfl⟩))
  show Calls Try.prog 24 [.func (.yield l) #[] #[], .pointer (some ⟨b, 0, none⟩)].toArray W (iterPost _ _ J Jx)
  refine cx_enterR (args := [.func (.yield l) #[] #[], .pointer (some ⟨b, 0, none⟩)]) (F := [(0, .func (.yield l) #[] #[]), (1, .pointer (some ⟨b, 0, none⟩))]) _ Try.func24 rfl Try.ntmps24 (by simp) rfl (fun g => ?_)
  have hcell : ∀ {w' : World}, w'.heap[b]? = some (.cells [.slice A len cap].toArray T fr) → CellsAt w' b 0 [.slice A len cap] := fun e i u hu => cell_of_cells (cs := [.slice A len cap]) (k := 0 + i) e (by rw [Nat.zero_add]; exact hu)
  have hcW := hcell hbW
  have hltW := heap_lt hbW
  repeat' (first | ((with_reducible refine at_load ?_); refine sx_loadOld (b := b) (o := 0) (k := 0) rfl hcW hltW (by simp) rfl ?_) | ((with_reducible refine at_op ?_); first | ((with_reducible refine at_bin ?_); refine sx_sub rfl rfl bnd ?_) | ((with_reducible refine at_assign ?_); refine sx_assign _ vf ?_) | refine sx_len rfl ?_) | refine sx_nil ?_ | ((with_reducible refine at_code ?_); first | refine cx_seq ?_ | refine cx_region ?_ | refine cx_block ?_) | ((with_reducible refine at_exit ?_); refine qx_then ?_))
  all_goals try (exfalso; omega)
  refine cx_loopW (fun m f W => ∃ (i : Nat) (pre : List {x : Nat × Eu // x.2 ∈ es}), FF f [(0, .func (.yield l) #[] #[]), (1, .pointer (some ⟨b, 0, none⟩)), (3, .int .i64 ((i : Int) - 1))] ∧ i = m ∧ i ≤ len ∧ W.heap[b]? = some (.cells [.slice A len cap].toArray T fr) ∧ IsSl W 13 A len cap (es.flatMap Eu.row) ∧ pre.map (fun x => x.1.2) = (es.drop i).reverse ∧ pre.length = len - i ∧ J pre W) len
    (fun w hm => ⟨len, [], ffr, rfl, Nat.le_refl _, (hm.old b hltW (by simp)).trans hbW, hsW.mem hm.nil, by rw [hl, List.drop_length]; rfl, by simp, hJ _ _ _ h0 hm.nil.goes⟩) ?_
  rintro m f wr ⟨i, pre, hF, rfl, hi, hbr, hsr, hpre, hplen, hJr⟩ K hK
  refine cx_use hF fun g => ?_
  clear hF
  have hcW := hcell hbr
  have hltW := heap_lt hbr
  obtain ⟨x1, o1, hA1⟩ := hsr.base
  by_cases hin : 0 < i
  rotate_left
  · obtain rfl : i = 0 := by omega
    clear hK
    repeat' (first | ((with_reducible refine at_op ?_); first | ((with_reducible refine at_move ?_); refine sx_move _ vf ?_) | ((with_reducible refine at_bin ?_); refine sx_geq rfl rfl ?_)) | refine sx_nil ?_ | ((with_reducible refine at_code ?_); first | refine cx_seq ?_ | refine cx_region ?_ | refine cx_exit ?_ | refine cx_false rfl ?_) | ((with_reducible refine at_exit ?_); first | refine qx_then ?_ | refine qx_in_here ?_ | refine qx_then_exit ?_))
    all_goals try (exfalso; omega)
    exact qx_endF rfl (fun w hm => ⟨⟨_, rfl⟩, .inl ⟨pre, (by rw [hpre, List.drop_zero] : pre.map (fun x => x.1.2) = es.reverse), hJ _ _ _ hJr hm.nil.goes⟩⟩)
  obtain ⟨k, rfl⟩ : ∃ k, i = k + 1 := ⟨i - 1, by omega⟩
  obtain ⟨e, he⟩ : ∃ e, es[k]? = some e := ⟨_, List.getElem?_eq_getElem (by omega)⟩
  have hve : ∀ j v, e.row[j]? = some v → (es.flatMap Eu.row)[(((k + 1 : Nat) : Int) - 1).toNat * 13 + j]? = some v := fun j v hv => eu_at (i := (((k + 1 : Nat) : Int) - 1).toNat) (by rw [show (((k + 1 : Nat) : Int) - 1).toNat = k by omega]; exact he) j v hv
  repeat' (first | (with_reducible refine stop_rs 3 ?_) | ((with_reducible refine at_op ?_); first | ((with_reducible refine at_move ?_); refine sx_move _ vf ?_) | ((with_reducible refine at_bin ?_); refine sx_geq rfl rfl ?_)) | refine sx_nil ?_ | ((with_reducible refine at_code ?_); first | refine cx_seq ?_ | refine cx_region ?_ | refine cx_skip ?_ | refine cx_block ?_ | (refine cx_cond rfl (fun h => ?_) (fun h => ?_) <;> (try simp only [decide_eq_true_eq, decide_eq_false_iff_not, Bool.and_eq_true, Bool.or_eq_true, Bool.and_eq_false_iff, Bool.or_eq_false_iff, Bool.not_eq_true', Bool.not_eq_false', Bool.not_true, Bool.not_false, Bool.true_or, Bool.or_true, Bool.false_or, Bool.or_false, Bool.and_true, Bool.true_and, Bool.false_and, Bool.and_false, reduceCtorEq, Classical.not_not, beq_self_eq_true, bne_self_eq_false, not_true_eq_false, not_false_eq_true, or_false, false_or, or_true, true_or, and_true, true_and, and_false, false_and, or_self, and_self] at h) <;> (try (exfalso; omega)))) | ((with_reducible refine at_exit ?_); refine qx_then ?_))
  all_goals try (exfalso; omega)
  refine halt_go ?_
  refine cx_seq (cx_regionY 6 ?_ ?_)
  · rfl
  dsimp only [List.take, List.drop]
  repeat' (first | ((with_reducible refine at_load ?_); refine sx_loadOld (b := b) (o := 0) (k := 0) rfl hcW hltW (by simp) rfl ?_) | ((with_reducible refine at_ixaddr ?_); refine sx_indexQ rfl (hA1 (by omega)).1 rfl (by omega) ?_) | ((with_reducible refine at_load ?_); refine sx_loadOldA (vs := e.row) rfl (hA1 (by omega)).2.2 (hA1 (by omega)).2.1 (by simp) rfl hve ?_) | ((with_reducible refine at_op ?_); ((with_reducible refine at_move ?_); refine sx_move _ vf ?_)) | refine sx_nil ?_)
  refine qy_yield [.int .i64 (((k + 1 : Nat) : Int) - 1), .agg e.row.toArray] rfl rfl rfl (fun w hm => ?_)
  obtain ⟨fn, tmps, assign, body, hy, hR⟩ := hY pre ⟨(k, e), List.mem_of_getElem? he⟩ w (hJ _ _ _ hJr hm.nil.goes) (by omega)
  have hbw : w.heap[b]? = some (.cells [.slice A len cap].toArray T fr) := (hm.old b hltW (by simp)).trans hbr
  have hsw := hsr.mem hm.nil
  have hy' : (Instr.yield l [.int .i64 (((k + 1 : Nat) : Int) - 1), .agg e.row.toArray].toArray).run Try.prog w = .ok (.round l fn tmps assign body) w := by
    rw [show ((k + 1 : Nat) : Int) - 1 = (k : Int) by omega]
    exact hy
  refine ⟨fn, tmps, assign, body, hy', hR.mono ?_⟩
  have hpre' : (pre ++ [(⟨(k, e), List.mem_of_getElem? he⟩ : {x : Nat × Eu // x.2 ∈ es})]).map (fun x => x.1.2) = (es.drop k).reverse := by
    obtain ⟨hk, hke⟩ := List.getElem?_eq_some_iff.1 he
    rw [List.map_append, hpre, List.drop_eq_getElem_cons hk, List.reverse_cons, hke]
    rfl
  rintro _ W3 (⟨rfl, hJ3, hs3, hk3⟩ | ⟨rfl, hJ3⟩)
  · refine ⟨true, rfl, ?_⟩
    have hb3 := (hk3 b (.inl (.inl rfl))).trans hbw
    have hs3' := hsw.keep hs3 (fun h0 x o e => hk3 x (.inl (.inr ⟨h0, x, o, e, rfl⟩)))
    repeat' (first | ((with_reducible refine at_op ?_); first | ((with_reducible refine at_move ?_); refine sx_move _ vf ?_) | ((with_reducible refine at_bin ?_); refine sx_sub rfl rfl bnd ?_) | ((with_reducible refine at_assign ?_); refine sx_assign _ vf ?_) | refine sx_not rfl ?_) | refine sx_nil ?_ | ((with_reducible refine at_code ?_); first | refine cx_region ?_ | refine cx_skip ?_ | refine cx_false rfl ?_) | ((with_reducible refine at_exit ?_); first | refine qx_then ?_ | refine qx_in_normal ?_))
    all_goals try (exfalso; omega)
    rw [show ((k + 1 : Nat) : Int) - 1 - 1 = (k : Int) - 1 by omega]
    exact qx_K (fun w' hm' => hK k _ w' (by omega) ⟨k, pre ++ [⟨(k, e), List.mem_of_getElem? he⟩], ffr, rfl, by omega, (hm'.old b (heap_lt hb3) (by simp)).trans hb3, hs3'.mem hm'.nil, hpre', by rw [List.length_append, hplen]; simp; omega, hJ _ _ _ hJ3 hm'.nil.goes⟩)
  · refine ⟨false, rfl, ?_⟩
    repeat' (first | ((with_reducible refine at_op ?_); refine sx_not rfl ?_) | refine sx_nil ?_ | ((with_reducible refine at_code ?_); first | refine cx_ret ?_ | refine cx_true rfl ?_) | ((with_reducible refine at_exit ?_); first | refine qx_then ?_ | refine qx_in_ret ?_ | refine qx_then_ret ?_))
    all_goals try (exfalso; omega)
    exact qx_retR rfl (fun w hm => ⟨⟨_, rfl⟩, .inr ⟨_, trivial, hJx _ _ _ hJ3 hm.nil.goes⟩⟩)
def TurnI (es : List Eu) (bo : Nat) (T : TypeId) (fr : Nat × Nat) (pre : List {x : Nat × Eu // x.2 ∈ es}) (c : Ch) : Prop :=
  ∃ (A : Option Addr) (k cap : Nat) (c1 pool : Ch) (xs : List Eu), c = [(bo, .cells [.slice A k cap].toArray T fr)] ++ (c1 ++ pool) ∧ k = pre.length ∧ OwnS 34 13 (.slice A k cap) k (xs.flatMap Eu.row) c1 ∧ xs.map Eu.con = pre.map (fun x => turnC x.1.2.con) ∧ ∀ w', Has w' pool → ∀ e ∈ xs, e.r.ok w'
set_option maxHeartbeats 8000000 in
theorem diff_Turn {A : Option Addr} {len cap : Nat} {es : List Eu} {w : World} (h : IsSl w 13 A len cap (es.flatMap Eu.row)) (hl : len = es.length) (hlen : len ≤ 100000) (ho : ∀ e ∈ es, e.r.ok w) (hb : ∀ e ∈ es, e.r.lf.length ≤ 10 ∧ e.r.lt.length ≤ 10) :
    Calls Try.prog 6 #[.slice A len cap] w (Ret w [] (fun v L => ∃ (A' : Option Addr) (cap' : Nat) (c : Ch) (xs : List Eu), v = .slice A' len cap' ∧ L = [c] ∧ len = xs.length ∧ xs.map Eu.con = (es.map Eu.con).reverse.map turnC ∧ ∀ w', Has w' c → IsSl w' 13 A' len cap' (xs.flatMap Eu.row) ∧ ∀ e ∈ xs, e.r.ok w')) := by
  refine ci_enter (args := [.slice A len cap]) (F := [(0, .slice A len cap)]) _ [] Try.func6 rfl Try.ntmps6 (by simp) rfl (Mem.refl _) (fun g => ?_)
  repeat' (first | (refine ci_seq ?_) | (refine ci_block ?_) | (refine ci_region ?_ ?_; (· rfl)) | (refine qi_then ?_) | ((with_reducible refine at_call 17 ?_); refine sx_call0 (fun w hm => back_make A len cap) ?_; rintro _ _ ⟨b, T, fr, rfl, rfl⟩; refine sx_app1 ?_) | ((with_reducible refine at_op ?_); first | ((with_reducible refine at_move ?_); refine sx_move _ vf ?_) | ((with_reducible refine at_assign ?_); refine sx_assign _ vf ?_) | (refine sx_alloc1 rfl ?_; intro b)) | refine sx_nil ?_)
  rename_i bo
  refine ci_range (backK A len b) (fun _ => False) (TurnI es bo 23 (0, 0)) (fun _ _ _ => False) _ (by rw [Fr.evn]; rfl) (enters_of Try.func24 (by kernel_rfl) rfl) ?hks (fun _ h => h.elim) (fun w hm => back_iter (hm.blk 0 rfl) (h.mem hm.nil) hl hlen) (fun x => rfl) (fun x => fold2) ?h0 ?hround ?hdone (fun _ _ _ _ _ h => h.elim)
  case hks =>
    rintro k (rfl | ⟨h0, x, o, e, rfl⟩)
    · exact .inr (by simp)
    · obtain ⟨b', o', hB⟩ := h.base
      obtain ⟨e', hB2, _⟩ := hB h0
      rw [e] at e'
      cases e'
      exact .inl ⟨hB2, by simp⟩
  case h0 => exact ⟨none, 0, 0, [], [], [], rfl, rfl, OwnS.nil _ _, rfl, fun _ _ e he => by cases he⟩
  case hround =>
    rintro l rdy bsy pre ⟨⟨i, e⟩, hmem⟩ W c ⟨Ao, k, co, c1, pool, xs, rfl, rfl, hoo, hxs, hpool⟩ hlt hM hbeg
    refine ci_mem (L' := [[(bo, Obj.cells [Value.slice Ao pre.length co].toArray 23 (0, 0))], c1, pool, [(l, rdy)]]) ?_ (fun w hm => hm.perm (by simp))
    obtain ⟨B, hB⟩ : ∃ B, B = l :: ([(bo, Obj.cells [Value.slice Ao pre.length co].toArray 23 (0, 0))] ++ (c1 ++ pool)).map (fun x : Nat × Obj => x.1) := ⟨_, rfl⟩
    rw [← hB]
    have hup : ∀ {w' : World} {L : List Ch}, Mem W w' B L → Mem w w' [] [] := fun hm => (hM.call (by rw [hB] at hm; exact hm)).nil
    have hoe := ho e hmem
    have hbe := hb e hmem
    repeat' (first | (refine ci_region ?_ ?_; (· rfl)) | ((with_reducible refine at_op ?_); first | ((with_reducible refine at_stores ?_); first | refine sx_stval _ vf ?_ | refine sx_storeW rfl rfl rfl rfl ?_) | (refine sx_alloc ?_; intro b)) | refine sx_nil ?_)
    refine qi_begin [[(b, .cells e.row.toArray 34 (0, 0))], [(bo, Obj.cells [Value.slice Ao pre.length co].toArray 23 (0, 0))], c1, pool] (fun w hm => hm.permL (List.perm_append_singleton _ _).symm) hbeg ?_
    refine ci_mem (L' := [[(b, .cells e.row.toArray 34 (0, 0))], [(bo, Obj.cells [Value.slice Ao pre.length co].toArray 23 (0, 0))], c1, pool, [(l, bsy)]]) ?_ (fun w hm => hm.picks [1, 1, 1, 1, 0])
    refine ci_block (ci_heldA ?_ dk ?_)
    · rfl
    clear hbeg ho hb
    repeat' (first | ((with_reducible refine at_held ?_); first | (refine ah_not 1 rfl ?_; refine ah_isp 1 rfl ?_; refine ah_at 1 dk (fun hT => ?_); refine ah_pure 1 (o := ⟨_, _, _, _, _, _⟩) hT rfl rfl rfl rfl rfl ?_; apply Exists.intro; refine And.intro ?_ ?_) | (refine ah_not 3 rfl ?_; refine ah_isp 3 rfl ?_; refine ah_at 3 dk (fun hT => ?_); refine ah_pure 3 (o := ⟨_, _, _, _, _, _⟩) hT rfl rfl rfl rfl rfl ?_; apply Exists.intro; refine And.intro ?_ ?_) | (refine ah_not 6 rfl ?_; refine ah_isp 6 rfl ?_; refine ah_at 6 dk (fun hT => ?_); refine ah_pure 6 (o := ⟨_, _, _, _, _, _⟩) hT rfl rfl rfl rfl rfl ?_; apply Exists.intro; refine And.intro ?_ ?_) | (refine ah_not 2 rfl ?_; refine ah_isp 2 rfl ?_; refine ah_at 2 dk (fun hT => ?_); refine ah_pure 2 (o := ⟨_, _, _, _, _, _⟩) hT rfl rfl rfl rfl rfl ?_; apply Exists.intro; refine And.intro ?_ ?_) | (refine ah_not 4 rfl ?_; refine ah_isp 4 rfl ?_; refine ah_at 4 dk (fun hT => ?_); refine ah_pure 4 (o := ⟨_, _, _, _, _, _⟩) hT rfl rfl rfl rfl rfl ?_; apply Exists.intro; refine And.intro ?_ ?_) | (refine ah_not 5 rfl ?_; refine ah_isp 5 rfl ?_; refine ah_at 5 dk (fun hT => ?_); refine ah_pure 5 (o := ⟨_, _, _, _, _, _⟩) hT rfl rfl rfl rfl rfl ?_; apply Exists.intro; refine And.intro ?_ ?_) | (refine ah_not 7 rfl ?_; refine ah_isp 7 rfl ?_; refine ah_at 7 dk (fun hT => ?_); refine ah_pure 7 (o := ⟨_, _, _, _, _, _⟩) hT rfl rfl rfl rfl rfl ?_; apply Exists.intro; refine And.intro ?_ ?_) | (refine ah_not 9 rfl ?_; refine ah_isp 9 rfl ?_; refine ah_at 9 dk (fun hT => ?_); refine ah_pure 9 (o := ⟨_, _, _, _, _, _⟩) hT rfl rfl rfl rfl rfl ?_; apply Exists.intro; refine And.intro ?_ ?_) | refine ah_both 0 8 (o := ⟨_, _, _, _, _, _⟩) (o' := ⟨_, _, _, _, _, _⟩) dk rfl rfl ?_ ?_ | refine ah_both 0 10 (o := ⟨_, _, _, _, _, _⟩) (o' := ⟨_, _, _, _, _, _⟩) dk rfl rfl ?_ ?_ | (refine ah_not 0 rfl ?_; refine ah_lone 0 (o := ⟨_, _, _, _, _, _⟩) dk rfl ?_)) | ((with_reducible refine at_load ?_); refine sx_loadV 0 e.r.row rfl rfl rfl rfl ?_) | ((with_reducible refine at_build ?_); refine sx_build (Eu.row ⟨e.at1, !e.put, r'⟩) rfl ?_) | ((with_reducible refine at_buildS ?_); (refine sx_buildS (Eu.row ⟨e.at1, !e.put, r'⟩) rfl rfl rfl rfl rfl ?_; intro bl)) | ((with_reducible refine at_append ?_); refine sx_mem ?_ (fun w hm => rot1.mem hm); refine sx_append1 (v := .slice _ _ _) rfl rfl rot3 hoo rfl bnd rfl (by omega) ?_; rintro _ cE hoE; obtain ⟨AE, cpE, rfl, hcpE⟩ := hoE.len) | ((with_reducible refine at_call 12 ?_); refine sx_call0 (fun w hm => diff_cloneR e.r (hoe.mem (hup hm)) (by omega) (by omega)) ?_; rintro _ _ ⟨r', c', rfl, rfl, hcon, hok'⟩; refine sx_app1 ?_) | ((with_reducible refine at_held ?_); first | (refine ah_not 8 rfl ?_; refine ah_lone 8 (o := ⟨_, _, _, _, _, _⟩) dk rfl ?_) | (refine ah_not 10 rfl ?_; refine ah_lone 10 (o := ⟨_, _, _, _, _, _⟩) dk rfl ?_) | (refine ah_not 11 rfl ?_; refine ah_lone 11 (o := ⟨_, _, _, _, _, _⟩) dk rfl ?_) | (refine ah_not 12 rfl ?_; refine ah_lone 12 (o := ⟨_, _, _, _, _, _⟩) dk rfl ?_) | refine ah_over1 dk ?_) | ((with_reducible refine at_exit ?_); first | refine qx_held (fun w hm => hm) ?_ | refine qx_held (fun w hm => held_mid1 hm) ?_) | ((with_reducible refine at_op ?_); first | ((with_reducible refine at_load ?_); first | refine sx_load 0 rfl rfl rfl ?_ | refine sx_load 1 rfl rfl rfl ?_ | refine sx_load 2 rfl rfl rfl ?_ | refine sx_load 3 rfl rfl rfl ?_) | ((with_reducible refine at_stores ?_); first | refine sx_stval _ vf ?_ | (refine sx_rot rot3 ?_; (apply sx_store rfl rfl rfl rfl; (repeat (first | exact set_z rfl | apply set_succ))))) | refine sx_fieldAddr rfl ?_ | refine sx_not rfl ?_) | refine sx_nil ?_ | ((with_reducible refine at_exit ?_); first | exact qx_isF | refine qx_in_normal ?_))
    all_goals
      rw [eu_snoc] at hoE
      exact qx_end ([(bo, Obj.cells [Value.slice AE (pre.length + 1) cpE].toArray 23 (0, 0))] ++ (cE ++ (c' ++ pool))) ⟨AE, pre.length + 1, cpE, cE, c' ++ pool, xs ++ [⟨e.at1, !e.put, r'⟩], rfl, by rw [List.length_append]; rfl, hoE, by rw [List.map_append, List.map_append, hxs]; show _ ++ [(e.at1, !e.put, r'.con)] = _ ++ [(e.at1, !e.put, e.r.con)]; rw [hcon], pool_snoc hpool hok'⟩ (fun w hm => hm.tail.perm (by simp))
  case hdone =>
    rintro b1 xs c hS ⟨Ao, k, co, c1, pool, ys, rfl, rfl, hoo, hxs, hpool⟩
    refine qx_in_normal (qi_then (ci_mem (L' := [[(b1, .deferred (some []))], [(bo, Obj.cells [Value.slice Ao xs.length co].toArray 23 (0, 0))], c1, pool]) ?_ (fun w hm => hm.perm (by simp))))
    repeat' (first | (refine ci_seq ?_) | (refine ci_region ?_ ?_; (· rfl)) | (refine ci_ret ?_) | (refine qi_then ?_) | ((with_reducible refine at_op ?_); first | ((with_reducible refine at_assign ?_); refine sx_assign _ vf ?_) | ((with_reducible refine at_load ?_); refine sx_load 1 rfl rfl rfl ?_)) | refine sx_nil ?_)
    refine qi_ret (qi_ret0 ?_)
    have hlx : xs.length = len := by have := congrArg List.length hS; simp only [List.length_map, List.length_reverse] at this; omega
    have hly : ys.length = xs.length := by have := congrArg List.length hxs; simpa only [List.length_map] using this
    have hc2 : ys.map Eu.con = (es.map Eu.con).reverse.map turnC := by
      rw [hxs, ← List.map_reverse, ← hS, List.map_map, List.map_map]
      rfl
    rw [hlx] at hoo
    exact qx_ret1 (v := .slice _ _ _) [c1 ++ pool] rfl rfl ⟨Ao, co, _, ys, by rw [hlx], rfl, by omega, hc2, fun w' hw => ⟨(hoo.sees (fun e he => hw e (List.mem_append_left _ he))).1, hpool w' (fun e he => hw e (List.mem_append_right _ he))⟩⟩ (fun w hm => (hm.picks [2, 2]).perm (by simp [Port.picks]))
end Go.Proofs.Ytakogejljocegaa
