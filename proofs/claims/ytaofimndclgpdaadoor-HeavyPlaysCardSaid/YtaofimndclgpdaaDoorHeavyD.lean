/- Iterators over maps: maps.Values, as a function that hands on. -/
import Derived.Test.YtaofimndclgpdaaDoorRngN
import Derived.Test.YtaofimndclgpdaaDoorHeavyB
set_option linter.unusedSimpArgs false
set_option linter.unusedVariables false
set_option maxRecDepth 100000
namespace Go.Port
open Go.RowKit
section
variable {κ : Type} {kv : κ → Value}
variable {P : Program} {w0 : World} {D : List Nat} {n q : Nat} {ops : Array Oper} {Q : Exit → Act → World → Prop} {g : Nat → Value} {F : List (Nat × Value)} {L : List Ch}
variable {rest : List Oper} {ty : TypeId} {pos : String} {af : Array Edge} {d : Nat}
theorem sx_rangeKM {T K E : Nat} [MpK P T K E] {x : Operand} {r ck : Nat} {M : MK κ} (hx : evn n (get g F) x = .map (some r)) (hL : ∀ w, Mem w0 w D L → w.heap[r]? = some (kObj kv M ck)) (h : ∀ b, SX P w0 D n 0 ops Q rest g ((d, .pointer (some ⟨b, 0, none⟩)) :: F) ([(b, itObj r ck [] ck)] :: L)) :
    SX P w0 D n 0 ops Q ({ dst := some d, op := .range T x, type := ty, pos := pos, after := af, guard := none } :: rest) g F L :=
  .mk fun w hm => wpList_plain rfl fun KK hK => by
    have h1 := MpK.und (P := P) (T := T) (K := K) (E := E)
    have hb : w.heap[r]? = some (.map (M.map (kEnt kv)).toArray ck) := hL w hm
    have hr : (Instr.range T (.map (some r))).run P w = .ok (.pointer (some ⟨w.heap.size, 0, none⟩)) (w.alloc (itObj r ck [] ck)) := by
      unfold Instr.range
      rw [Sem.run_bind, run_underlying h1]
      simp only [Result.andThen_ok, Sem.run_bind, mget hb, Sem.run_pure]
      rfl
    unfold Oper.wp
    rw [Fr.evn]
    have hr' : (execOp (evn n (get g F)) { dst := some d, op := .range T x, type := ty, pos := pos, after := af, guard := none }).run P w = .ok (.value (.pointer (some ⟨w.heap.size, 0, none⟩))) (w.alloc (itObj r ck [] ck)) := by
      show ((do pure (Next.value (← Instr.range T (evn n (get g F) x)))) : Sem Next).run P w = _
      rw [hx]; exact run_v hr
    rw [hr', Oper.upon_value, Fr.put, get_put]
    exact hK _ _ ((h w.heap.size).out _ (hm.new _))
theorem sx_nextKM {x : Operand} {it r since c0 ck : Nat} {S : List Nat} {M : MK κ} (hx : evn n (get g F) x = .pointer (some ⟨it, 0, none⟩)) (hL : ∀ w, Mem w0 w D ([(it, itObj r since S c0)] :: L) → w.heap[r]? = some (kObj kv M ck)) (hold : ∀ e ∈ M, e.2.2 < since) (hsc : since ≤ c0)
    (hdone : leftK M S = [] → SX P w0 D n 0 ops Q rest g ((d, .tuple #[.bool false]) :: F) ([(it, itObj r since S c0)] :: L))
    (hmore : ∀ e ∈ M, e.2.2 ∉ S → SX P w0 D n 0 ops Q rest g ((d, .tuple #[.bool true, kv e.1, e.2.1]) :: F) ([(it, itObj r since (S ++ [e.2.2]) ck)] :: L)) :
    SX P w0 D n 0 ops Q ({ dst := some d, op := .next x false, type := ty, pos := pos, after := af, guard := none } :: rest) g F ([(it, itObj r since S c0)] :: L) :=
  .mk fun w hm => wpList_plain rfl fun KK hK => by
    have hb : w.heap[r]? = some (.map (M.map (kEnt kv)).toArray ck) := hL w hm
    have hr : w.heap[it]? = some (.mapIter (some r) since S.toArray c0) := hm.blk 0 rfl
    unfold Oper.wp
    rw [Fr.evn]
    have hx' : (execOp (evn n (get g F)) { dst := some d, op := .next x false, type := ty, pos := pos, after := af, guard := none }) = (do pure (Next.value (← Instr.next (.pointer (some ⟨it, 0, none⟩)) false ty))) := by
      show (do pure (Next.value (← Instr.next (evn n (get g F) x) false ty))) = _
      rw [hx]
    rw [hx']
    rcases run_next_at (P := P) w ty it r since c0 S.toArray _ ck hr hb (fun y hy => by
        rw [List.toList_toArray] at hy
        obtain ⟨e, he, rfl⟩ := List.mem_map.1 hy
        exact hold e he) hsc with ⟨h0, hrun⟩ | ⟨y, hy, w1, hw1, hrun⟩
    · rw [run_v hrun, Oper.upon_value, Fr.put, get_put]
      refine hK _ _ ((hdone ?_).out _ hm)
      rw [leftOf_K, List.size_toArray, List.length_map] at h0
      exact List.eq_nil_of_length_eq_zero h0
    · rw [leftOf_K, List.toList_toArray] at hy
      obtain ⟨e, he, rfl⟩ := List.mem_map.1 hy
      obtain ⟨heM, heS⟩ := leftK_mem.1 he
      rw [run_v hrun, Oper.upon_value, Fr.put, get_put]
      refine hK _ _ ((hmore e heM heS).out _ ?_)
      have hm1 : Mem w0 w1 D ([(it, itObj r since S c0)] :: L) := by
        rcases hw1 with rfl | rfl
        · exact hm
        · exact hm.drew
      have hr1 : w1.heap[it]? = some (itObj r since S c0) := hm1.blk 0 rfl
      have e1 : itObj r since (S ++ [e.2.2]) ck = .mapIter (some r) since (S.toArray.push (kEnt kv e).born) ck := by simp [itObj, kEnt]
      rw [e1]
      exact Mem.upd hm1 rfl rfl rfl (by simp [Go.ChangeMaps.setBlock]) (heap_set_self hr1) (fun j hj _ => heap_set_other hj)
theorem sx_itEntryKM (i : Nat) {x : Operand} {it r since ck : Nat} {S : List Nat} {M : MK κ} {e : κ × Value × Nat} (hx : evn n (get g F) x = .pointer (some ⟨it, 0, none⟩)) (hI : L[i]? = some [(it, itObj r since (S ++ [e.2.2]) ck)]) (hL : ∀ w, Mem w0 w D L → w.heap[r]? = some (kObj kv M ck)) (he : e ∈ M) (hn : (M.map (·.2.2)).Nodup)
    (h : SX P w0 D n q ops Q rest g ((d, .tuple #[kv e.1, e.2.1]) :: F) L) : SX P w0 D n q ops Q ({ dst := some d, op := .entry x, type := ty, pos := pos, after := af, guard := none } :: rest) g F L :=
  sx_run _ rfl rfl (fun w hm => by
    have hr : w.heap[it]? = some (.mapIter (some r) since (S.toArray.push (kEnt kv e).born) ck) := by
      have h1 := hm.blk i hI
      rw [h1]
      simp [itObj, kEnt]
    have h1 := run_entry_at (P := P) w it r since S.toArray _ ck (kEnt kv e) hr (hL w hm) (by rw [List.toList_toArray]; exact List.mem_map_of_mem he) (by rw [List.toList_toArray, List.map_map]; exact hn)
    show ((do pure (Next.value (← Instr.entry (evn n (get g F) x)))) : Sem Next).run P w = _
    rw [hx]; exact run_v h1) h
end
section
variable {P : Program} {w0 : World} {D : List Nat} {n : Nat} {Q : Exit → Act → World → Prop} {g : Nat → Value} {F : List (Nat × Value)} {L : List Ch}
/-- A loop: each round's world is told anew, with what it may turn. -/
theorem cx_loopI {c : Code} (I : Nat → (Nat → Value) → World → Prop) (m : Nat) (h0 : ∀ w, Mem w0 w D L → I m (get g F) w)
    (round : ∀ m f w, I m f w → ∀ K : Act → World → Prop, (∀ m' f' w', m' < m → I m' f' w' → K (Fr n f') w') → ∃ D' L', Mem w w D' L' ∧ CX P w D' n (Exit.then K Q) c f [] L') : CX P w0 D n Q (.loop c) g F L := by
  refine .mk fun w hm => ?_
  refine wp_loop_ghost (fun m a w => ∃ f, a = Fr n f ∧ I m f w) m ⟨get g F, rfl, h0 w hm⟩ ?_
  rintro m a w ⟨f, rfl, hI⟩
  obtain ⟨D', L', hM, hcx⟩ := round m f w hI (fun a w => ∃ m', m' < m ∧ ∃ f, a = Fr n f ∧ I m' f w) fun m' f' w' hlt hI' => ⟨m', hlt, f', rfl, hI'⟩
  exact hcx.out w hM
end
theorem Mem.goesI {Ws : Nat → Prop} {b it : Nat} {w w' : World} {L : List Ch} (h : Mem w w' [it] L) (hb : b ≤ it) (hi : ItAt w it) : MovedN Ws b w w' :=
  ⟨h.os, h.tape, h.output, h.size, fun k hk _ hn => h.old k hk (by
    intro hx
    have e : k = it := by simpa using hx
    exact hn (by rw [e]; exact ⟨hb, hi⟩))⟩
theorem Mem.one {w : World} {k : Nat} {o : Obj} (h : w.heap[k]? = some o) : Mem w w [k] [[(k, o)]] :=
  ⟨rfl, rfl, rfl, Nat.le_refl _, fun _ _ _ => rfl, fun e he => by
    have e1 : e = (k, o) := by simpa using he
    rw [e1]; exact h, fun e he => by
    have e1 : e = (k, o) := by simpa using he
    rw [e1]; exact .inr (by simp), by simp⟩
/-- One more came. -/
theorem came_step : ∀ {C : Cn} {S : List Nat} {x : Int × Int × Nat}, (C.map (·.2.2)).Nodup → x ∈ C → x.2.2 ∉ S → (C.filter (fun e => !S.contains e.2.2)).Perm (x :: C.filter (fun e => !(S ++ [x.2.2]).contains e.2.2))
  | [], _, _, _, h, _ => nomatch h
  | e :: C, S, x, hn, hx, hs => by
    rw [List.map_cons, List.nodup_cons] at hn
    rw [List.filter_cons, List.filter_cons]
    by_cases he : e = x
    · subst he
      rw [if_pos (by simp [hs]), if_neg (by simp)]
      refine .cons _ (.of_eq (List.filter_congr fun y hy => ?_))
      have h2 : y.2.2 ≠ e.2.2 := fun h => hn.1 (by rw [← h]; exact List.mem_map_of_mem (f := fun e : Int × Int × Nat => e.2.2) hy)
      simp [h2]
    · have hxC : x ∈ C := by
        rcases List.mem_cons.1 hx with h | h
        · exact absurd h.symm he
        · exact h
      have h2 : e.2.2 ≠ x.2.2 := fun h => hn.1 (by rw [h]; exact List.mem_map_of_mem (f := fun e : Int × Int × Nat => e.2.2) hxC)
      have ih := came_step hn.2 hxC hs
      by_cases hS : e.2.2 ∈ S
      · rw [if_neg (by simp [hS]), if_neg (by simp [hS])]
        exact ih
      · rw [if_pos (by simp [hS]), if_pos (by simp [hS, h2])]
        exact (ih.cons e).trans (.swap _ _ _)
theorem left_hM (C : Cn) (S : List Nat) : leftK (hM C) S = hM (C.filter (fun e => !S.contains e.2.2)) := by
  unfold leftK hM
  rw [List.filter_map]
  rfl
end Go.Port
namespace Go.Proofs.YtaofimndclgpdaaDoor
open Go.RowKit Go.Port
attribute [local irreducible] Calls
/-- maps.Values: the iterator, and its box. -/
theorem vals_make (r : Nat) (w : World) : Calls Tryd.prog 19 #[.map (some r)] w (Ret w [] (fun v L => ∃ b T fr, v = .func (.func 31) #[] #[.pointer (some ⟨b, 0, none⟩)] ∧ L = [[(b, .cells [.map (some r)].toArray T fr)]])) := by
  refine cx_enter (args := [.map (some r)]) (F := [(0, .map (some r))]) _ [] Tryd.func19 rfl Tryd.ntmps19 (by simp) rfl (Mem.refl _) (fun g => ?_)
  repeat' (first | (refine sx_makeFunc [.pointer (some ⟨_, 0, none⟩)] rfl ?_) | ((with_reducible refine at_op ?_); first | ((with_reducible refine at_assign ?_); refine sx_assign _ vf ?_) | (refine sx_box1 rfl rfl ?_; intro b)) | refine sx_nil ?_ | ((with_reducible refine at_code ?_); first | refine cx_seq ?_ | refine cx_region ?_ | refine cx_ret ?_) | ((with_reducible refine at_exit ?_); refine qx_then ?_))
  exact qx_ret1 [_] rfl rfl ⟨_, _, _, rfl, rfl⟩ (fun w hm => hm)
set_option maxHeartbeats 4000000 in
/-- .. it hands on each count, in whatever order. -/
theorem vals_iter {r ck b : Nat} {C : Cn} {T : TypeId} {fr : Nat × Nat} {w : World} (hC : CnOk C ck) (hb : w.heap[b]? = some (.cells [.map (some r)].toArray T fr)) (hr : w.heap[r]? = some (kObj kvI (hM C) ck)) :
    IterN Tryd.prog 31 #[.pointer (some ⟨b, 0, none⟩)] (fun x : {x : Int × Int × Nat // x ∈ C} => #[.int .i64 x.1.2.1]) (fun k => k = b ∨ k = r) (fun _ => False) (fun xs => (xs.map (·.1)).Perm C) (fun _ => True) C.length w := by
  intro l J Jx W ⟨hsz, hkp⟩ hJ hJx hY h0
  refine callsIn_wide.2 ?_
  have hbW : W.heap[b]? = some (.cells [.map (some r)].toArray T fr) := (hkp b (.inl (.inl rfl))).trans hb
  have hrW : W.heap[r]? = some (kObj kvI (hM C) ck) := (hkp r (.inl (.inr rfl))).trans hr
  show Calls Tryd.prog 31 [.func (.yield l) #[] #[], .pointer (some ⟨b, 0, none⟩)].toArray W (iterPost _ _ J Jx)
  refine cx_enterR (args := [.func (.yield l) #[] #[], .pointer (some ⟨b, 0, none⟩)]) (F := [(0, .func (.yield l) #[] #[]), (1, .pointer (some ⟨b, 0, none⟩))]) _ Tryd.func31 rfl Tryd.ntmps31 (by simp) rfl (fun g => ?_)
  have hcW : CellsAt W b 0 [.map (some r)] := fun i u hu => cell_of_cells (cs := [.map (some r)]) (k := 0 + i) hbW (by rw [Nat.zero_add]; exact hu)
  have hltW := heap_lt hbW
  have hltr := heap_lt hrW
  repeat' (first | ((with_reducible refine at_load ?_); refine sx_loadOld (b := b) (o := 0) (k := 0) rfl hcW hltW (by simp) rfl ?_) | (refine sx_rangeKM (kv := kvI) (M := hM C) (ck := ck) rfl (fun w hm => hm.old0 hrW) ?_; intro it) | refine sx_nil ?_ | ((with_reducible refine at_code ?_); first | refine cx_seq ?_ | refine cx_region ?_ | refine cx_block ?_) | ((with_reducible refine at_exit ?_); refine qx_then ?_))
  all_goals try (exfalso; omega)
  refine cx_loopI (fun m f W3 => ∃ (S : List Nat) (pre : List {x : Int × Int × Nat // x ∈ C}) (c0 : Nat), FF f [(0, .func (.yield l) #[] #[]), (1, .pointer (some ⟨b, 0, none⟩)), (6, .pointer (some ⟨it, 0, none⟩))] ∧ W.heap.size ≤ it ∧ W3.heap[b]? = some (.cells [.map (some r)].toArray T fr) ∧ W3.heap[r]? = some (kObj kvI (hM C) ck) ∧ W3.heap[it]? = some (itObj r ck S c0) ∧ ck ≤ c0 ∧ (pre.map (·.1) ++ C.filter (fun e => !S.contains e.2.2)).Perm C ∧ m = (C.filter (fun e => !S.contains e.2.2)).length ∧ J pre W3) _
    (fun w hm => ⟨[], [], ck, ffr, ?_, ?_, ?_, hm.blk 0 rfl, Nat.le_refl _, .of_eq (List.filter_eq_self.2 fun _ _ => rfl), rfl, hJ _ _ _ h0 hm.nil.goesN⟩) ?_
  · exact (hm.own (it, itObj r ck [] ck) (by simp)).elim id (fun h => by cases h)
  · exact (hm.old0 hbW)
  · exact (hm.old0 hrW)
  rintro m f wr ⟨S, pre, c0, hF, hit, hbr, hrr, hir, hc0, hpre, rfl, hJr⟩ K hK
  refine ⟨[it], [[(it, itObj r ck S c0)]], .one hir, ?_⟩
  refine cx_use hF fun g => ?_
  clear hF
  have hne : r ≠ it := fun e => by rw [e, hir] at hrr; cases hrr
  have hneb : b ≠ it := fun e => by rw [e, hir] at hbr; cases hbr
  have hltr := heap_lt hrr
  have hltb := heap_lt hbr
  have hia : ItAt wr it := ⟨_, hir, rfl⟩
  have hmv : ∀ {w' : World} {L : List Ch}, Mem wr w' [it] L → w'.heap[r]? = some (kObj kvI (hM C) ck) := fun hm => (hm.old r hltr (by simpa using hne)).trans hrr
  repeat' (first | (with_reducible refine stop_rs 3 ?_) | (refine sx_nextKM (kv := kvI) (M := hM C) (ck := ck) rfl (fun w hm => hmv hm) (hM_low hC) hc0 (fun hleft => ?_) (fun e he hns => ?_); rotate_left; obtain ⟨x, hx, rfl⟩ := List.mem_map.1 he; rotate_right) | (refine sx_itEntryKM (kv := kvI) (M := hM C) (ck := ck) 0 rfl rfl (fun w hm => hmv hm) he (hM_borns hC) ?_) | ((with_reducible refine at_op ?_); first | ((with_reducible refine at_assign ?_); refine sx_assign _ vf ?_) | refine sx_extract rfl rfl ?_) | refine sx_nil ?_ | ((with_reducible refine at_code ?_); first | refine cx_seq ?_ | refine cx_region ?_ | refine cx_skip ?_ | refine cx_exit ?_ | refine cx_block ?_ | refine cx_true rfl ?_ | refine cx_false rfl ?_) | ((with_reducible refine at_exit ?_); first | refine qx_then ?_ | refine qx_in_here ?_ | refine qx_then_exit ?_))
  all_goals try (exfalso; omega)
  · clear hK
    refine qx_endF rfl (fun w hm => ⟨⟨_, rfl⟩, .inl ⟨pre, ?_, hJ _ _ _ hJr (hm.goesI hit hia)⟩⟩)
    rw [left_hM] at hleft
    have h1 : C.filter (fun e => !S.contains e.2.2) = [] := List.map_eq_nil_iff.1 hleft
    rw [h1, List.append_nil] at hpre
    exact hpre
  refine halt_go ?_
  refine cx_seq (cx_regionY 2 ?_ ?_)
  · rfl
  dsimp only [List.take, List.drop]
  repeat' (first | ((with_reducible refine at_op ?_); ((with_reducible refine at_move ?_); refine sx_move _ vf ?_)) | refine sx_nil ?_)
  have hstep := came_step hC.borns hx hns
  have hlen : pre.length < C.length := by
    have h1 := hpre.length_eq
    have h2 := hstep.length_eq
    rw [List.length_append, List.length_map] at h1
    rw [List.length_cons] at h2
    omega
  refine qy_yield [.int .i64 x.2.1] rfl rfl rfl (fun w hm => ?_)
  have hrw := hmv hm
  have hbw : w.heap[b]? = some (.cells [.map (some r)].toArray T fr) := (hm.old b hltb (by simpa using hneb)).trans hbr
  have hiw : w.heap[it]? = some (itObj r ck (S ++ [x.2.2]) ck) := hm.blk 0 rfl
  obtain ⟨fn, tmps, assign, body, hy, hR⟩ := hY pre ⟨x, hx⟩ w (hJ _ _ _ hJr (hm.goesI hit hia)) hlen
  refine ⟨fn, tmps, assign, body, hy, hR.mono ?_⟩
  rintro _ W3 (⟨rfl, hJ3, hs3, hk3⟩ | ⟨rfl, hJ3⟩)
  · refine ⟨true, rfl, ?_⟩
    have hb3 := (hk3 b (.inl (.inl rfl))).trans hbw
    have hr3 := (hk3 r (.inl (.inr rfl))).trans hrw
    have hi3 := (hk3 it (.inr (.inr ⟨hit, _, hiw, rfl⟩))).trans hiw
    repeat' (first | ((with_reducible refine at_op ?_); refine sx_not rfl ?_) | refine sx_nil ?_ | ((with_reducible refine at_code ?_); first | refine cx_skip ?_ | refine cx_false rfl ?_) | ((with_reducible refine at_exit ?_); first | refine qx_then ?_ | refine qx_in_normal ?_))
    all_goals try (exfalso; omega)
    refine qx_K (fun w' hm' => hK _ _ w' ?_ ⟨S ++ [x.2.2], pre ++ [⟨x, hx⟩], ck, ffr, hit, hm'.old0 hb3, hm'.old0 hr3, hm'.old0 hi3, Nat.le_refl _, ?_, rfl, hJ _ _ _ hJ3 hm'.nil.goesN⟩)
    · rw [hstep.length_eq, List.length_cons]; omega
    · rw [List.map_append, List.append_assoc]
      exact (List.Perm.append_left _ hstep.symm).trans hpre
  · refine ⟨false, rfl, ?_⟩
    repeat' (first | ((with_reducible refine at_op ?_); refine sx_not rfl ?_) | refine sx_nil ?_ | ((with_reducible refine at_code ?_); first | refine cx_ret ?_ | refine cx_true rfl ?_) | ((with_reducible refine at_exit ?_); first | refine qx_then ?_ | refine qx_in_ret ?_ | refine qx_then_ret ?_))
    all_goals try (exfalso; omega)
    exact qx_retR rfl (fun w' hm' => ⟨⟨_, rfl⟩, .inr ⟨_, trivial, hJx _ _ _ hJ3 hm'.nil.goesN⟩⟩)
end Go.Proofs.YtaofimndclgpdaaDoor
