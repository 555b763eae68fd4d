/- Counts in a row: slices.Collect, slices.Sorted, slices.Min of maps.Values. -/
import Derived.Test.YtaofimndclgpdaaDoorHeavyD
import Derived.Test.YtaofimndclgpdaaDoorLayH
set_option linter.unusedSimpArgs false
set_option linter.unusedVariables false
set_option maxRecDepth 100000
namespace Go.Port
open Go.RowKit Go.Sort Go.Shelf
def iV (x : Int) : Go.Value := .int .i64 x
theorem own_noit {E sz : Nat} {v : Value} {n : Nat} {xs : List Value} {c : Ch} (h : OwnS E sz v n xs c) : ∀ e ∈ c, isIt e.2 = false := by
  rcases h.2 with ⟨_, _, rfl⟩ | ⟨b, cap, ext, _, _, _, _, rfl⟩
  · exact fun e he => by cases he
  · intro e he
    rw [List.mem_singleton] at he
    rw [he]
    rfl
theorem putCells_ints (zs ys : List Int) (ext : List Value) (h : zs.length = ys.length) : putCells (Value.int .i64) 0 zs.toArray (ys.map iV ++ ext).toArray = (zs.map iV ++ ext).toArray := by
  apply Array.ext_getElem?
  intro t
  unfold putCells
  simp only [Array.getElem?_mapIdx, List.getElem?_toArray]
  by_cases ht : t < zs.length
  · rw [List.getElem?_append_left (by rw [List.length_map]; omega), List.getElem?_append_left (by rw [List.length_map]; omega), List.getElem?_eq_getElem (by rw [List.length_map]; omega), List.getElem?_eq_getElem (by rw [List.length_map]; omega)]
    simp [ht, iV]
  · rw [List.getElem?_append_right (by rw [List.length_map]; omega), List.getElem?_append_right (by rw [List.length_map]; omega), List.length_map, List.length_map, h]
    have hn : ¬ (0 ≤ t ∧ t < 0 + zs.length) := by omega
    cases ext[t - ys.length]? with
    | none => rfl
    | some y => show some (if _ then _ else _) = _; rw [if_neg (by simpa using hn)]
/-- What the sort of ints leaves. -/
theorem sortedI_mem {w w' : World} {b n T : Nat} {zs ys : List Int} {ext : List Value} {os : Array Obj} (hb : w.heap[b]? = some (.cells (ys.map iV ++ ext).toArray T (0, 0))) (hw : w' = grow (putRow (Value.int .i64) (Sort.ahead w n) b 0 zs.toArray) os) (hs : zs.length = ys.length) :
    Mem w w' [b] [[(b, .cells (zs.map iV ++ ext).toArray T (0, 0))]] := by
  subst hw
  have hlt := heap_lt hb
  have hcell : (grow (putRow (Value.int .i64) (Sort.ahead w n) b 0 zs.toArray) os).heap[b]? = some (.cells (zs.map iV ++ ext).toArray T (0, 0)) := by
    unfold grow putRow mapBlock Sort.ahead
    dsimp only
    rw [Array.getElem?_append_left (by rw [Array.size_modify]; exact hlt), Array.getElem?_modify, if_pos rfl, hb]
    show some (Obj.cells (putCells _ 0 _ _) _ _) = _
    rw [putCells_ints _ _ _ hs]
  refine ⟨rfl, rfl, rfl, ?_, fun k hk hD => ?_, fun e he => ?_, fun e he => ?_, by simp⟩
  · unfold grow putRow mapBlock Sort.ahead
    simp
  · unfold grow putRow mapBlock Sort.ahead
    dsimp only
    rw [Array.getElem?_append_left (by rw [Array.size_modify]; exact hk), Array.getElem?_modify, if_neg (by simp at hD; omega)]
  · simp at he; subst he; exact hcell
  · simp at he; subst he; exact .inr (by simp)
theorem holds_ints {w : World} {b T : Nat} {l : List Int} {ext : List Value} (hb : w.heap[b]? = some (.cells (l.map iV ++ ext).toArray T (0, 0))) : Holds (Value.int .i64) w b 0 l.toArray := by
  intro j hj
  rw [List.size_toArray] at hj
  refine ⟨?_, by simp [World.frozen?, hb]⟩
  rw [Nat.zero_add]
  refine cell_of_cells hb ?_
  rw [List.getElem?_append_left (by rw [List.length_map]; exact hj), List.getElem?_map, List.getElem?_eq_getElem hj]
  simp [iV, hj]
theorem fold1 {n : Nat} {g : Nat → Value} {F : List (Nat × Value)} {p : Tmp} {v : Value} : (#[p].zip #[v]).foldl (fun t (p, v) => t.setIfInBounds p v) (Fr n (get g F)).tmps = (Fr n (get g ((p, v) :: F))).tmps := by
  have e : (#[p].zip #[v]).foldl (fun t (p, v) => t.setIfInBounds p v) (Fr n (get g F)).tmps = (Fr n (get g F)).tmps.setIfInBounds p v := by simp
  rw [e, Fr.set, get_put]
/-- Counts by themselves. -/
def cnV (C : Cn) : List Value := C.map fun e => .int .i64 e.2.1
end Go.Port
namespace Go.Proofs.YtaofimndclgpdaaDoor
open Go.RowKit Go.Port Go.Sort
attribute [local irreducible] Calls
theorem min_ints {A : Option Addr} {m cap : Nat} {zs : List Int} {w : World} (hs : IsSl w 1 A m cap (zs.map iV)) (hm : m = zs.length) (h0 : 0 < m) (hb : m ≤ 100000) : Calls Tryd.prog 17 #[.slice A m cap] w (Ret w [] (isV (.int .i64 (Lib.minOf zs)))) := by
  obtain ⟨b, o, hbase⟩ := hs.base
  obtain ⟨rfl, hlt, hc⟩ := hbase h0
  refine (Tryd.slices_Min_int_f17 b o m cap zs w h0 (by omega) (by omega) (fun j hj => ?_)).mono fun e w' h => ?_
  · refine hc j _ ?_
    rw [List.getElem?_map, List.getElem?_eq_getElem hj]
    simp [iV, hj, List.getD]
  · obtain ⟨rfl, rfl⟩ := h
    refine ⟨_, [], rfl, Mem.refl _, ?_, rfl⟩
    rw [hm, List.take_length]
theorem sort_ints {A : Option Addr} {m cap : Nat} {l : List Int} {c : Ch} {w : World} (hM : Mem w w (c.map (·.1)) [c]) (ho : OwnS 3 1 (.slice A m cap) m (l.map iV) c) (hml : m = l.length) (hm : m ≤ 100000) :
    Calls Tryd.prog 35 #[.slice A m cap] w (Ret w (c.map (·.1)) (fun v L => v = .tuple #[] ∧ ∃ c', L = [c'] ∧ OwnS 3 1 (.slice A m cap) m ((l.mergeSort fun x y => decide (x ≤ y)).map iV) c')) := by
  subst hml
  by_cases h0 : l.length = 0
  · have hl : l = [] := List.eq_nil_of_length_eq_zero h0
    subst hl
    refine (Tryd.slices_Sort_int_none_f35 A cap w).mono fun e w' h => ?_
    obtain ⟨rfl, rfl⟩ := h
    exact ⟨_, [c], rfl, hM, rfl, c, rfl, by simpa using ho⟩
  have hf : ∃ b ext, A = some ⟨b, 0, none⟩ ∧ c = [(b, .cells (l.map iV ++ ext).toArray 3 (0, 0))] ∧ l.length ≤ cap ∧ cap ≤ maxLen ∧ (l.map iV ++ ext).length = cap * 1 := by
    rcases ho.2 with ⟨_, h0', _⟩ | ⟨b, cap', ext, hv, h1, h2, h3, hc⟩
    · omega
    · simp only [Value.slice.injEq] at hv
      obtain ⟨rfl, _, rfl⟩ := hv
      exact ⟨b, ext, rfl, hc, h1, h2, h3⟩
  obtain ⟨b, ext, rfl, rfl, hcap, hmax, hcl⟩ := hf
  have hb : w.heap[b]? = some (.cells (l.map iV ++ ext).toArray 3 (0, 0)) := hM.head (b, _) (List.Mem.head _)
  refine (Tryd.slices_Sort_int_f35 b 0 cap l w (holds_ints hb) (heap_lt hb) (by omega)).mono fun e w' h => ?_
  obtain ⟨rfl, n, os, hw⟩ := h
  have hln : (l.mergeSort fun x y => decide (x ≤ y)).length = l.length := List.length_mergeSort _
  refine ⟨_, _, rfl, sortedI_mem hb hw hln, rfl, _, rfl, by rw [List.length_map, hln]; simp, .inr ⟨b, cap, ext, rfl, hcap, hmax, ?_, rfl⟩⟩
  rw [List.length_append, List.length_map] at hcl ⊢
  rw [hln]
  exact hcl
def AppI (C : Cn) (bo : Nat) (pre : List {x : Int × Int × Nat // x ∈ C}) (c : Ch) : Prop :=
  ∃ (A : Option Addr) (k cap : Nat) (c1 : Ch), c = [(bo, .cells [.slice A k cap].toArray 54 (0, 0))] ++ c1 ∧ k = pre.length ∧ OwnS 3 1 (.slice A k cap) k (cnV (pre.map (·.1))) c1
set_option maxHeartbeats 8000000 in
theorem app_seq {r ck bx : Nat} {C : Cn} {T : TypeId} {fr : Nat × Nat} {w : World} (hC : CnOk C ck) (hlen : C.length ≤ 100) (hb : w.heap[bx]? = some (.cells [.map (some r)].toArray T fr)) (hr : w.heap[r]? = some (kObj kvI (hM C) ck)) :
    Calls Tryd.prog 30 #[.slice none 0 0, .func (.func 31) #[] #[.pointer (some ⟨bx, 0, none⟩)]] w (Ret w [] (fun v L => ∃ (es : Cn) (A : Option Addr) (cap : Nat) (c : Ch), es.Perm C ∧ v = .slice A es.length cap ∧ L = [c] ∧ OwnS 3 1 v es.length (cnV es) c)) := by
  refine ci_enter (args := [.slice none 0 0, .func (.func 31) #[] #[.pointer (some ⟨bx, 0, none⟩)]]) (F := [(0, .slice none 0 0), (1, .func (.func 31) #[] #[.pointer (some ⟨bx, 0, none⟩)])]) _ [] Tryd.func30 rfl Tryd.ntmps30 (by simp) rfl (Mem.refl _) (fun g => ?_)
  repeat' (first | (refine ci_seq ?_) | (refine ci_block ?_) | (refine ci_region ?_ ?_; (· rfl)) | (refine qi_then ?_) | ((with_reducible refine at_op ?_); first | ((with_reducible refine at_move ?_); refine sx_move _ vf ?_) | ((with_reducible refine at_assign ?_); refine sx_assign _ vf ?_) | (refine sx_box1 rfl rfl ?_; intro b)) | refine sx_nil ?_)
  revert b
  intro bo
  refine ci_mem (L' := [[], [(bo, .cells [.slice none 0 0].toArray 54 (0, 0))]]) ?_ (fun w hm => hm.perm (.refl _))
  refine ci_rangeN (fun k => k = bx ∨ k = r) (fun _ => False) (AppI C bo) (fun _ _ _ => False) _ (by rw [Fr.evn]; rfl) (enters_of Tryd.func31 (by kernel_rfl) rfl) ?hks (fun _ h => h.elim) (fun w hm => vals_iter hC (hm.old0 hb) (hm.old0 hr)) (fun x => rfl) (fun x => fold1) ?h0 ?hnw (fun _ _ _ h => h.elim) ?hround ?hdone (fun _ _ _ _ _ h => h.elim)
  case hks =>
    rintro k (rfl | rfl)
    · exact .inl ⟨heap_lt hb, by simp⟩
    · exact .inl ⟨heap_lt hr, by simp⟩
  case h0 => exact ⟨none, 0, 0, [], rfl, rfl, OwnS.nil _ _⟩
  case hnw =>
    rintro pre c ⟨A, k, cap, c1, rfl, _, ho⟩ e he
    rcases List.mem_append.1 he with he | he
    · rw [List.mem_singleton] at he
      rw [he]
      rfl
    · exact own_noit ho e he
  case hround =>
    rintro l rdy bsy pre ⟨x, hx⟩ W c ⟨Ao, k, co, c1, rfl, rfl, hoo⟩ hlt hM hbeg
    refine ci_mem (L' := [[(bo, Obj.cells [Value.slice Ao pre.length co].toArray 54 (0, 0))], c1, [(l, rdy)]]) ?_ (fun w hm => hm.perm (by simp))
    obtain ⟨B, hB⟩ : ∃ B, B = l :: ([(bo, Obj.cells [Value.slice Ao pre.length co].toArray 54 (0, 0))] ++ c1).map (fun x : Nat × Obj => x.1) := ⟨_, rfl⟩
    rw [← hB]
    repeat' (first | (refine ci_region ?_ ?_; (· rfl)) | ((with_reducible refine at_op ?_); ((with_reducible refine at_assign ?_); refine sx_assign _ vf ?_)) | refine sx_nil ?_)
    refine qi_begin [[(bo, Obj.cells [Value.slice Ao pre.length co].toArray 54 (0, 0))], c1] (fun w hm => hm.permL (List.perm_append_singleton _ _).symm) hbeg ?_
    refine ci_mem (L' := [[(bo, Obj.cells [Value.slice Ao pre.length co].toArray 54 (0, 0))], c1, [(l, bsy)]]) ?_ (fun w hm => hm.picks [1, 1, 0])
    clear hbeg
    repeat' (first | (refine ci_block ?_) | (refine ci_region ?_ ?_; (· rfl)) | ((with_reducible refine at_op ?_); first | ((with_reducible refine at_move ?_); refine sx_move _ vf ?_) | ((with_reducible refine at_load ?_); refine sx_load 0 rfl rfl rfl ?_) | ((with_reducible refine at_stores ?_); first | refine sx_stval _ vf ?_ | (refine sx_rot rot1 ?_; (apply sx_store rfl rfl rfl rfl; (repeat (first | exact set_z rfl | apply set_succ))))) | ((with_reducible refine at_buildS ?_); (refine sx_buildS [_] rfl rfl rfl rfl rfl ?_; intro b)) | ((with_reducible refine at_append ?_); (refine sx_append1 (v := .slice _ _ _) rfl rfl rot1 asm rfl bnd rfl bnd ?_; intro v c ho; obtain ⟨A, cp, rfl, hcp⟩ := ho.len))) | refine sx_nil ?_ | ((with_reducible refine at_exit ?_); refine qx_in_normal ?_))
    refine qx_end ([(bo, Obj.cells [Value.slice A (pre.length + 1) cp].toArray 54 (0, 0))] ++ c) ⟨A, pre.length + 1, cp, c, rfl, by rw [List.length_append]; rfl, ?_⟩ (fun w hm => hm.perm (by simp))
    rw [List.map_append]
    show OwnS _ 1 _ _ (cnV (_ ++ [x])) c
    unfold cnV at ho ⊢
    rw [List.map_append]
    exact ho
  case hdone =>
    rintro b1 xs c hS ⟨Ao, k, co, c1, rfl, rfl, hoo⟩
    refine qx_in_normal (qi_then (ci_mem (L' := [[(b1, .deferred (some []))], [(bo, Obj.cells [Value.slice Ao xs.length co].toArray 54 (0, 0))], c1]) ?_ (fun w hm => hm.perm (by simp))))
    repeat' (first | (refine ci_seq ?_) | (refine ci_region ?_ ?_; (· rfl)) | (refine ci_ret ?_) | (refine qi_then ?_) | ((with_reducible refine at_op ?_); first | ((with_reducible refine at_assign ?_); refine sx_assign _ vf ?_) | ((with_reducible refine at_load ?_); refine sx_load 1 rfl rfl rfl ?_)) | refine sx_nil ?_)
    refine qi_ret (qi_ret0 ?_)
    have e1 : (xs.map (·.1)).length = xs.length := List.length_map _
    exact qx_ret1 (v := .slice _ _ _) [c1] rfl rfl ⟨xs.map (·.1), Ao, co, c1, hS, by rw [e1], rfl, by rw [e1]; exact hoo⟩ (fun w hm => hm.picks [2])
theorem vals_collect {r ck bx : Nat} {C : Cn} {T : TypeId} {fr : Nat × Nat} {w : World} (hC : CnOk C ck) (hlen : C.length ≤ 100) (hb : w.heap[bx]? = some (.cells [.map (some r)].toArray T fr)) (hr : w.heap[r]? = some (kObj kvI (hM C) ck)) :
    Calls Tryd.prog 18 #[.func (.func 31) #[] #[.pointer (some ⟨bx, 0, none⟩)]] w (Ret w [] (fun v L => ∃ (es : Cn) (A : Option Addr) (cap : Nat) (c : Ch), es.Perm C ∧ v = .slice A es.length cap ∧ L = [c] ∧ OwnS 3 1 v es.length (cnV es) c)) := by
  refine cx_enter (args := [.func (.func 31) #[] #[.pointer (some ⟨bx, 0, none⟩)]]) (F := [(0, .func (.func 31) #[] #[.pointer (some ⟨bx, 0, none⟩)])]) _ [] Tryd.func18 rfl Tryd.ntmps18 (by simp) rfl (Mem.refl _) (fun g => ?_)
  repeat' (first | ((with_reducible refine at_call 30 ?_); refine sx_call0 (fun w hm => app_seq hC hlen (hm.old0 hb) (hm.old0 hr)) ?_; rintro _ _ ⟨es, A, cap, c, hp, rfl, rfl, ho⟩; refine sx_app1 ?_) | ((with_reducible refine at_op ?_); first | ((with_reducible refine at_move ?_); refine sx_move _ vf ?_) | ((with_reducible refine at_assign ?_); refine sx_assign _ vf ?_)) | refine sx_nil ?_ | ((with_reducible refine at_code ?_); first | refine cx_seq ?_ | refine cx_region ?_ | refine cx_ret ?_) | ((with_reducible refine at_exit ?_); refine qx_then ?_))
  exact qx_ret1 (v := .slice _ _ _) [_] rfl rfl ⟨es, A, cap, c, hp, rfl, rfl, ho⟩ (fun w hm => hm)
theorem cnV_ints (C : Cn) : cnV C = (C.map (fun e => e.2.1)).map iV := by
  unfold cnV
  rw [List.map_map]
  rfl
set_option maxHeartbeats 4000000 in
theorem vals_sorted {r ck bx : Nat} {C : Cn} {T : TypeId} {fr : Nat × Nat} {w : World} (hC : CnOk C ck) (hlen : C.length ≤ 100) (hb : w.heap[bx]? = some (.cells [.map (some r)].toArray T fr)) (hr : w.heap[r]? = some (kObj kvI (hM C) ck)) :
    Calls Tryd.prog 24 #[.func (.func 31) #[] #[.pointer (some ⟨bx, 0, none⟩)]] w (Ret w [] (fun v L => ∃ (zs : List Int) (A : Option Addr) (cap : Nat) (c : Ch), zs.Perm (C.map (fun e => e.2.1)) ∧ zs.Pairwise (fun x y => x ≤ y) ∧ v = .slice A zs.length cap ∧ L = [c] ∧ OwnS 3 1 v zs.length (zs.map iV) c)) := by
  refine cx_enter (args := [.func (.func 31) #[] #[.pointer (some ⟨bx, 0, none⟩)]]) (F := [(0, .func (.func 31) #[] #[.pointer (some ⟨bx, 0, none⟩)])]) _ [] Tryd.func24 rfl Tryd.ntmps24 (by simp) rfl (Mem.refl _) (fun g => ?_)
  repeat' (first | ((with_reducible refine at_call 18 ?_); refine sx_call0 (fun w hm => vals_collect hC hlen (hm.old0 hb) (hm.old0 hr)) ?_; rintro _ _ ⟨es, A, cap, c, hp, rfl, rfl, ho⟩; have hl := hp.length_eq; rw [cnV_ints] at ho; refine sx_app1 ?_) | ((with_reducible refine at_call 35 ?_); (first | (refine sx_rot rot0 ?_; refine sx_call (fun w hm => sort_ints (l := es.map (fun e : Int × Int × Nat => e.2.1)) hm.self ho (List.length_map _).symm (by omega)) ?_) | (refine sx_rot rot1 ?_; refine sx_call (fun w hm => sort_ints (l := es.map (fun e : Int × Int × Nat => e.2.1)) hm.self ho (List.length_map _).symm (by omega)) ?_) | (refine sx_rot rot2 ?_; refine sx_call (fun w hm => sort_ints (l := es.map (fun e : Int × Int × Nat => e.2.1)) hm.self ho (List.length_map _).symm (by omega)) ?_) | (refine sx_rot rot3 ?_; refine sx_call (fun w hm => sort_ints (l := es.map (fun e : Int × Int × Nat => e.2.1)) hm.self ho (List.length_map _).symm (by omega)) ?_) | (refine sx_rot rot4 ?_; refine sx_call (fun w hm => sort_ints (l := es.map (fun e : Int × Int × Nat => e.2.1)) hm.self ho (List.length_map _).symm (by omega)) ?_) | (refine sx_rot rot5 ?_; refine sx_call (fun w hm => sort_ints (l := es.map (fun e : Int × Int × Nat => e.2.1)) hm.self ho (List.length_map _).symm (by omega)) ?_)); rintro _ _ ⟨rfl, c', rfl, ho'⟩; refine sx_app1 ?_) | ((with_reducible refine at_op ?_); first | ((with_reducible refine at_move ?_); refine sx_move _ vf ?_) | ((with_reducible refine at_assign ?_); refine sx_assign _ vf ?_)) | refine sx_nil ?_ | ((with_reducible refine at_code ?_); first | refine cx_seq ?_ | refine cx_region ?_ | refine cx_ret ?_) | ((with_reducible refine at_exit ?_); refine qx_then ?_))
  refine qx_ret1 (v := .slice _ _ _) [_] rfl rfl ⟨((es.map (fun e : Int × Int × Nat => e.2.1)).mergeSort fun x y => decide (x ≤ y)), A, cap, c', (List.mergeSort_perm _ _).trans (hp.map _), ?_, by rw [List.length_mergeSort, List.length_map], rfl, by rw [List.length_mergeSort, List.length_map]; exact ho'⟩ (fun w hm => hm)
  have h1 := List.pairwise_mergeSort (le := fun x y : Int => decide (x ≤ y)) (fun a b c h1 h2 => by simp only [decide_eq_true_eq] at *; omega) (fun a b => by simp only [Bool.or_eq_true, decide_eq_true_eq]; omega) (es.map (fun e : Int × Int × Nat => e.2.1))
  exact h1.imp (fun h => by simpa using h)
end Go.Proofs.YtaofimndclgpdaaDoor
