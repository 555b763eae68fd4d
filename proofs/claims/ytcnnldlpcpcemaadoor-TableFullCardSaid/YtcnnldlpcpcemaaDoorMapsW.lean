/- Maps of any keys, as the world tells of them. No program here. -/
import Derived.Test.YtcnnldlpcpcemaaDoorMapsK
import Derived.Test.YtcnnldlpcpcemaaDoorEngB
set_option linter.unusedSimpArgs false
set_option linter.unusedVariables false
namespace Go.Port
open Go.RowKit
section
variable {κ : Type} {kv : κ → Value}
variable {P : Program} {w0 : World} {D : List Nat} {n q : Nat} {ops : Array Oper} {Q : Exit → Act → World → Prop} {g : Nat → Value} {F : List (Nat × Value)} {L : List Ch}
variable {rest : List Oper} {ty : TypeId} {pos : String} {af : Array Edge} {d : Nat}
theorem sx_rangeKW {T K E : Nat} [MpK P T K E] {x : Operand} {r ck : Nat} {M : MK κ} (hx : evn n (get g F) x = .map (some r)) (hL : ∀ w, Mem w0 w D L → w.heap[r]? = some (kObj kv M ck)) (h : ∀ b, SX P w0 D n 0 ops Q rest g ((d, .pointer (some ⟨b, 0, none⟩)) :: F) ([(b, itObj r ck [] ck)] :: L)) :
    SX P w0 D n 0 ops Q ({ dst := some d, op := .range T x, type := ty, pos := pos, after := af, guard := none } :: rest) g F L :=
  .mk fun w hm => wpList_plain rfl fun KK hK => by
    have h1 := MpK.und (P := P) (T := T) (K := K) (E := E)
    have hb : w.heap[r]? = some (.map (M.map (kEnt kv)).toArray ck) := hL w hm
    have hr : (Instr.range T (.map (some r))).run P w = .ok (.pointer (some ⟨w.heap.size, 0, none⟩)) (w.alloc (itObj r ck [] ck)) := by
      unfold Instr.range
      rw [Sem.run_bind, run_underlying h1]
      simp only [Result.andThen_ok, Sem.run_bind, mget hb, Sem.run_pure]
      rfl
    unfold Oper.wp
    rw [Fr.evn]
    have hr' : (execOp (evn n (get g F)) { dst := some d, op := .range T x, type := ty, pos := pos, after := af, guard := none }).run P w = .ok (.value (.pointer (some ⟨w.heap.size, 0, none⟩))) (w.alloc (itObj r ck [] ck)) := by
      show ((do pure (Next.value (← Instr.range T (evn n (get g F) x)))) : Sem Next).run P w = _
      rw [hx]; exact run_v hr
    rw [hr', Oper.upon_value, Fr.put, get_put]
    exact hK _ _ ((h w.heap.size).out _ (hm.new _))
theorem sx_nextKW {x : Operand} {it r since c0 ck : Nat} {S : List Nat} {M : MK κ} (hx : evn n (get g F) x = .pointer (some ⟨it, 0, none⟩)) (hL : ∀ w, Mem w0 w D ([(it, itObj r since S c0)] :: L) → w.heap[r]? = some (kObj kv M ck)) (hold : ∀ e ∈ M, e.2.2 < since) (hsc : since ≤ c0)
    (hdone : leftK M S = [] → SX P w0 D n 0 ops Q rest g ((d, .tuple #[.bool false]) :: F) ([(it, itObj r since S c0)] :: L))
    (hmore : ∀ e ∈ M, e.2.2 ∉ S → SX P w0 D n 0 ops Q rest g ((d, .tuple #[.bool true, kv e.1, e.2.1]) :: F) ([(it, itObj r since (S ++ [e.2.2]) ck)] :: L)) :
    SX P w0 D n 0 ops Q ({ dst := some d, op := .next x false, type := ty, pos := pos, after := af, guard := none } :: rest) g F ([(it, itObj r since S c0)] :: L) :=
  .mk fun w hm => wpList_plain rfl fun KK hK => by
    have hb : w.heap[r]? = some (.map (M.map (kEnt kv)).toArray ck) := hL w hm
    have hr : w.heap[it]? = some (.mapIter (some r) since S.toArray c0) := hm.blk 0 rfl
    unfold Oper.wp
    rw [Fr.evn]
    have hx' : (execOp (evn n (get g F)) { dst := some d, op := .next x false, type := ty, pos := pos, after := af, guard := none }) = (do pure (Next.value (← Instr.next (.pointer (some ⟨it, 0, none⟩)) false ty))) := by
      show (do pure (Next.value (← Instr.next (evn n (get g F) x) false ty))) = _
      rw [hx]
    rw [hx']
    rcases run_next_at (P := P) w ty it r since c0 S.toArray _ ck hr hb (fun y hy => by
        rw [List.toList_toArray] at hy
        obtain ⟨e, he, rfl⟩ := List.mem_map.1 hy
        exact hold e he) hsc with ⟨h0, hrun⟩ | ⟨y, hy, w1, hw1, hrun⟩
    · rw [run_v hrun, Oper.upon_value, Fr.put, get_put]
      refine hK _ _ ((hdone ?_).out _ hm)
      rw [leftOf_K, List.size_toArray, List.length_map] at h0
      exact List.eq_nil_of_length_eq_zero h0
    · rw [leftOf_K, List.toList_toArray] at hy
      obtain ⟨e, he, rfl⟩ := List.mem_map.1 hy
      obtain ⟨heM, heS⟩ := leftK_mem.1 he
      rw [run_v hrun, Oper.upon_value, Fr.put, get_put]
      refine hK _ _ ((hmore e heM heS).out _ ?_)
      have hm1 : Mem w0 w1 D ([(it, itObj r since S c0)] :: L) := by
        rcases hw1 with rfl | rfl
        · exact hm
        · exact hm.drew
      have hr1 : w1.heap[it]? = some (itObj r since S c0) := hm1.blk 0 rfl
      have e1 : itObj r since (S ++ [e.2.2]) ck = .mapIter (some r) since (S.toArray.push (kEnt kv e).born) ck := by simp [itObj, kEnt]
      rw [e1]
      exact Mem.upd hm1 rfl rfl rfl (by simp [Go.ChangeMaps.setBlock]) (heap_set_self hr1) (fun j hj _ => heap_set_other hj)
theorem sx_itEntryKW (i : Nat) {x : Operand} {it r since ck : Nat} {S : List Nat} {M : MK κ} {e : κ × Value × Nat} (hx : evn n (get g F) x = .pointer (some ⟨it, 0, none⟩)) (hI : L[i]? = some [(it, itObj r since (S ++ [e.2.2]) ck)]) (hL : ∀ w, Mem w0 w D L → w.heap[r]? = some (kObj kv M ck)) (he : e ∈ M) (hn : (M.map (·.2.2)).Nodup)
    (h : SX P w0 D n q ops Q rest g ((d, .tuple #[kv e.1, e.2.1]) :: F) L) : SX P w0 D n q ops Q ({ dst := some d, op := .entry x, type := ty, pos := pos, after := af, guard := none } :: rest) g F L :=
  sx_run _ rfl rfl (fun w hm => by
    have hr : w.heap[it]? = some (.mapIter (some r) since (S.toArray.push (kEnt kv e).born) ck) := by
      have h1 := hm.blk i hI
      rw [h1]
      simp [itObj, kEnt]
    have h1 := run_entry_at (P := P) w it r since S.toArray _ ck (kEnt kv e) hr (hL w hm) (by rw [List.toList_toArray]; exact List.mem_map_of_mem he) (by rw [List.toList_toArray, List.map_map]; exact hn)
    show ((do pure (Next.value (← Instr.entry (evn n (get g F) x)))) : Sem Next).run P w = _
    rw [hx]; exact run_v h1) h
/-- What a map holds, as the world tells. -/
theorem sx_lookKW [DecidableEq κ] {T K E : Nat} [MpK P T K E] [KeyV P K κ kv] {z : Value} [ZvT P E z] {x y : Operand} {r ck : Nat} {k : κ} {M : MK κ} {v : Value} (hx : evn n (get g F) x = .map (some r)) (hy : evn n (get g F) y = kv k) (hL : ∀ w, Mem w0 w D L → w.heap[r]? = some (kObj kv M ck)) (hv : ((lkK M k).map (·.2)).getD z = v)
    (h : SX P w0 D n q ops Q rest g ((d, v) :: F) L) : SX P w0 D n q ops Q ({ dst := some d, op := .lookup T x y false, type := ty, pos := pos, after := af, guard := none } :: rest) g F L :=
  sx_run _ rfl rfl (fun w hm => by
    have h1 := lookup_runK (P := P) (T := T) (z := z) (k := k) false (hL w hm)
    rw [hv] at h1
    show ((do pure (Next.value (← Instr.lookup T (evn n (get g F) x) (evn n (get g F) y) false))) : Sem Next).run P w = _
    rw [hx, hy]; exact run_v h1) h
/-- A key that is there is put again. -/
theorem sx_putYW [DecidableEq κ] {T K E : Nat} [MpK P T K E] [KeyV P K κ kv] {m x y : Operand} {r ck j b : Nat} {k : κ} {M : MK κ} {v u : Value} (hm' : evn n (get g F) m = .map (some r)) (hx : evn n (get g F) x = kv k) (hy : evn n (get g F) y = v) (hk : lkK M k = some (j, u)) (hj : M[j]? = some (k, u, b))
    (h : SX P w0 D n 0 ops Q rest g F ([(r, kObj kv (M.set j (k, v, b)) ck)] :: L)) : SX P w0 D n 0 ops Q ({ dst := none, op := .mapUpdate T m x y, type := ty, pos := pos, after := af, guard := none } :: rest) g F ([(r, kObj kv M ck)] :: L) :=
  .mk fun w hm => wpList_plain rfl fun KK hK => by
    have h1 := MpK.und (P := P) (T := T) (K := _) (E := E)
    have hb : w.heap[r]? = some (.map (M.map (kEnt kv)).toArray ck) := hm.blk 0 rfl
    have hmod : (M.map (kEnt kv)).toArray.modify j (fun e => { e with key := kv k, val := v }) = ((M.set j (k, v, b)).map (kEnt kv)).toArray := by
      apply Array.ext
      · simp
      · intro i h1 h2
        rw [Array.getElem_modify]
        simp only [List.getElem_toArray, List.getElem_map, List.getElem_set]
        split
        · rename_i e
          subst e
          have h3 : M[j]'(by simpa using h2) = (k, u, b) := by
            have := List.getElem?_eq_getElem (l := M) (i := j) (by simpa using h2)
            rw [hj] at this
            exact (Option.some.inj this).symm
          rw [h3]
          rfl
        · rfl
    have hr : (Instr.mapUpdate T (.map (some r)) (kv k) v).run P w = .ok () { w with heap := w.heap.setIfInBounds r (kObj kv (M.set j (k, v, b)) ck) } := by
      unfold Instr.mapUpdate
      rw [Sem.run_bind, run_underlying h1]
      simp only [Result.andThen_ok, Sem.run_bind, mget hb, KeyV.check (P := P) (K := K) (kv := kv), KeyV.find (P := P) (K := K) (kv := kv), hk]
      have h2 : (Instr.keyThatStays (kv k) (kv k)).run P w = .ok (kv k) w := by
        unfold Instr.keyThatStays
        rw [if_pos (KeyV.same (P := P) (K := K) (kv := kv) k)]
        rfl
      have hj' : (M.map (kEnt kv))[j]? = some (kEnt kv (k, u, b)) := by rw [List.getElem?_map, hj]; rfl
      simp only [List.getElem?_toArray, hj', Option.map_some, Option.getD_some]
      rw [show (kEnt kv (k, u, b)).key = kv k from rfl, h2, Result.andThen_ok, hmod, mset _ hb]
      rfl
    unfold Oper.wp
    rw [Fr.evn]
    have hr' : (execOp (evn n (get g F)) { dst := none, op := .mapUpdate T m x y, type := ty, pos := pos, after := af, guard := none }).run P w = .ok .skip { w with heap := w.heap.setIfInBounds r (kObj kv (M.set j (k, v, b)) ck) } := by
      show ((do Instr.mapUpdate T (evn n (get g F) m) (evn n (get g F) x) (evn n (get g F) y); pure Next.skip) : Sem Next).run P w = _
      rw [hm', hx, hy]; exact run_u hr
    rw [hr', Oper.upon_skip]
    exact hK _ _ (h.out _ (hm.upd rfl rfl rfl (by simp) (heap_set_self hb) fun j hj _ => heap_set_other hj))
theorem sx_lenKW {T K E : Nat} [MpK P T K E] {x : Operand} {r ck : Nat} {M : MK κ} (hx : evn n (get g F) x = .map (some r)) (hv : ∀ w, Mem w0 w D L → w.heap[r]? = some (kObj kv M ck)) (h : SX P w0 D n q ops Q rest g ((d, .int .i64 M.length) :: F) L) :
    SX P w0 D n q ops Q ({ dst := some d, op := .call { callee := .builtin .len, args := #[x], argTypes := #[T] }, type := ty, pos := pos, after := af, guard := none } :: rest) g F L :=
  sx_run _ rfl rfl (fun w hm => by
    have h1 := MpK.und (P := P) (T := T) (K := K) (E := E)
    have hb : w.heap[r]? = some (.map (M.map (kEnt kv)).toArray ck) := hv w hm
    simp only [execOp, resolve]
    simp [hx, invoke, builtin, Builtin.len_, run_underlying h1, mget hb, goInt, go_sem]) h
/-- What a map holds of a key, and whether, as the world tells. -/
theorem sx_lookKCW [DecidableEq κ] {T K E : Nat} [MpK P T K E] [KeyV P K κ kv] {z : Value} [ZvT P E z] {x y : Operand} {r ck : Nat} {k : κ} {M : MK κ} {v : Value} {b : Bool} (hx : evn n (get g F) x = .map (some r)) (hy : evn n (get g F) y = kv k) (hL : ∀ w, Mem w0 w D L → w.heap[r]? = some (kObj kv M ck)) (hv : ((lkK M k).map (·.2)).getD z = v) (hb : (lkK M k).isSome = b)
    (h : SX P w0 D n q ops Q rest g ((d, .tuple #[v, .bool b]) :: F) L) : SX P w0 D n q ops Q ({ dst := some d, op := .lookup T x y true, type := ty, pos := pos, after := af, guard := none } :: rest) g F L :=
  sx_run _ rfl rfl (fun w hm => by
    have h1 := lookup_runK (P := P) (T := T) (z := z) (k := k) true (hL w hm)
    rw [hv, hb] at h1
    show ((do pure (Next.value (← Instr.lookup T (evn n (get g F) x) (evn n (get g F) y) true))) : Sem Next).run P w = _
    rw [hx, hy]; exact run_v h1) h
end
end Go.Port
