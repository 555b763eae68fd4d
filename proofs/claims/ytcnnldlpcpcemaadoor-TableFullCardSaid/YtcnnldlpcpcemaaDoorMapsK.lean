/- Maps of any keys; loops over maps. No program here. -/
import Derived.Test.YtcnnldlpcpcemaaDoorMaps
import Derived.Maps.RangeRun
set_option linter.unusedSimpArgs false
set_option linter.unusedVariables false
namespace Go.Port
open Go.RowKit
section
variable {κ : Type} [DecidableEq κ]
/-- A map's entries: the key, what it holds, when it was put. -/
abbrev MK (κ : Type) := List (κ × Value × Nat)
def kEnt (kv : κ → Value) (e : κ × Value × Nat) : MapEntry := { key := kv e.1, val := e.2.1, born := e.2.2 }
def kObj (kv : κ → Value) (M : MK κ) (ck : Nat) : Obj := .map (M.map (kEnt kv)).toArray ck
/-- Where a key is, and what it holds. -/
def lkK : MK κ → κ → Option (Nat × Value)
  | [], _ => none
  | e :: r, k => if e.1 = k then some (0, e.2.1) else (lkK r k).map fun p => (p.1 + 1, p.2)
/-- What a map holds of a key. -/
def vlK (M : MK κ) (k : κ) : Option Value := (lkK M k).map (·.2)
theorem lkK_get : ∀ {M : MK κ} {k : κ} {j : Nat} {v : Value}, lkK M k = some (j, v) → ∃ b, M[j]? = some (k, v, b)
  | [], _, _, _, h => by cases h
  | e :: M, k, j, v, h => by
    unfold lkK at h
    by_cases he : e.1 = k
    · rw [if_pos he] at h
      obtain ⟨rfl, rfl⟩ := Prod.mk.inj (Option.some.inj h)
      exact ⟨e.2.2, by rw [← he]; rfl⟩
    · rw [if_neg he] at h
      obtain ⟨⟨j', v'⟩, h1, h2⟩ := Option.map_eq_some_iff.1 h
      obtain ⟨rfl, rfl⟩ := Prod.mk.inj h2
      obtain ⟨b, hb⟩ := lkK_get h1
      exact ⟨b, hb⟩
end
/-- Keys of a type, told by κ. -/
class KeyV (P : Program) (K : Nat) (κ : Type) [DecidableEq κ] (kv : κ → Value) : Prop where
  check : ∀ e k w, (Instr.checkKey e 10000 K (kv k)).run P w = .ok () w
  find : ∀ (M : MK κ) k w, (Instr.findKey K (kv k) (M.map (kEnt kv))).run P w = .ok (lkK M k) w
  same : ∀ k, Instr.sameBits 10000 (kv k) (kv k) = true
/-- Keys that are asked one by one. -/
theorem find_asking {κ : Type} [DecidableEq κ] {P : Program} {K : Nat} {kv : κ → Value} (he : ∀ a b w, (Op.equal K (kv a) (kv b)).run P w = .ok (decide (a = b)) w) : ∀ (M : MK κ) (k : κ) (i : Nat) (w : World), (Instr.findAsking K (kv k) (M.map (kEnt kv)) i).run P w = .ok ((lkK M k).map fun p => (i + p.1, p.2)) w
  | [], k, i, w => rfl
  | e :: M, k, i, w => by
    rw [List.map_cons, Instr.findAsking, Sem.run_bind]
    rw [show (kEnt kv e).key = kv e.1 from rfl, he, Result.andThen_ok]
    by_cases h : e.1 = k
    · subst h
      simp [lkK, kEnt]
    · have h' : ¬ k = e.1 := fun x => h x.symm
      simp only [decide_eq_false h', Bool.false_eq_true, if_false]
      rw [find_asking he M k (i + 1) w, lkK, if_neg h]
      cases lkK M k with
      | none => rfl
      | some p => simp; omega
theorem find_key {κ : Type} [DecidableEq κ] {P : Program} {K : Nat} {kv : κ → Value} {d : TypeDesc} (hK : P.underlying K = some d) (hs : ∀ a b, Instr.sameNow d (kv a) (kv b) = none) (he : ∀ a b w, (Op.equal K (kv a) (kv b)).run P w = .ok (decide (a = b)) w) (M : MK κ) (k : κ) (w : World) :
    (Instr.findKey K (kv k) (M.map (kEnt kv))).run P w = .ok (lkK M k) w := by
  unfold Instr.findKey
  rw [Sem.run_bind, run_underlying hK, Result.andThen_ok]
  cases M with
  | nil => rfl
  | cons e M =>
    have h1 : Instr.findNow d (kv k) ((e :: M).map (kEnt kv)) 0 = none := by
      rw [List.map_cons, Instr.findNow, show (kEnt kv e).key = kv e.1 from rfl, hs]
    rw [h1]
    have h2 := find_asking he (e :: M) k 0 w
    rw [h2]
    cases lkK (e :: M) k with
    | none => rfl
    | some p => simp
class MpK (P : Program) (T : Nat) (K E : outParam Nat) : Prop where
  und : P.underlying T = some (.map K E)
section
variable {κ : Type} {kv : κ → Value}
variable {P : Program} {w0 : World} {D : List Nat} {n q : Nat} {ops : Array Oper} {Q : Exit → Act → World → Prop} {g : Nat → Value} {F : List (Nat × Value)} {L : List Ch}
variable {rest : List Oper} {ty : TypeId} {pos : String} {af : Array Edge} {d : Nat}
theorem lookup_runK [DecidableEq κ] {T K E : Nat} [MpK P T K E] [KeyV P K κ kv] {z : Value} [ZvT P E z] {r ck : Nat} {k : κ} {M : MK κ} {w : World} (c : Bool) (hb : w.heap[r]? = some (kObj kv M ck)) :
    (Instr.lookup T (.map (some r)) (kv k) c).run P w = .ok (if c then .tuple #[((lkK M k).map (·.2)).getD z, .bool (lkK M k).isSome] else ((lkK M k).map (·.2)).getD z) w := by
  have h1 := MpK.und (P := P) (T := T) (K := K) (E := E)
  unfold Instr.lookup
  rw [Sem.run_bind, run_underlying h1]
  simp only [Result.andThen_ok, Sem.run_bind, mget (show w.heap[r]? = some (.map (M.map (kEnt kv)).toArray ck) from hb), KeyV.check (P := P) (K := K) (kv := kv), KeyV.find (P := P) (K := K) (kv := kv), Sem.run_pure, ZvT.run]
  cases lkK M k with
  | none => cases c <;> simp [ZvT.run]
  | some p => cases c <;> simp
/-- What a map holds of a key (or nothing). -/
theorem sx_lookK [DecidableEq κ] {T K E : Nat} [MpK P T K E] [KeyV P K κ kv] {z : Value} [ZvT P E z] (i : Nat) {x y : Operand} {r ck : Nat} {k : κ} {M : MK κ} {v : Value} (hx : evn n (get g F) x = .map (some r)) (hy : evn n (get g F) y = kv k) (hL : L[i]? = some [(r, kObj kv M ck)]) (hv : ((lkK M k).map (·.2)).getD z = v)
    (h : SX P w0 D n q ops Q rest g ((d, v) :: F) L) : SX P w0 D n q ops Q ({ dst := some d, op := .lookup T x y false, type := ty, pos := pos, after := af, guard := none } :: rest) g F L :=
  sx_run _ rfl rfl (fun w hm => by
    have h1 := lookup_runK (P := P) (T := T) (z := z) (k := k) false (hm.blk i hL)
    rw [hv] at h1
    show ((do pure (Next.value (← Instr.lookup T (evn n (get g F) x) (evn n (get g F) y) false))) : Sem Next).run P w = _
    rw [hx, hy]; exact run_v h1) h
theorem sx_lookKC [DecidableEq κ] {T K E : Nat} [MpK P T K E] [KeyV P K κ kv] {z : Value} [ZvT P E z] (i : Nat) {x y : Operand} {r ck : Nat} {k : κ} {M : MK κ} {v : Value} {b : Bool} (hx : evn n (get g F) x = .map (some r)) (hy : evn n (get g F) y = kv k) (hL : L[i]? = some [(r, kObj kv M ck)]) (hv : ((lkK M k).map (·.2)).getD z = v) (hb : (lkK M k).isSome = b)
    (h : SX P w0 D n q ops Q rest g ((d, .tuple #[v, .bool b]) :: F) L) : SX P w0 D n q ops Q ({ dst := some d, op := .lookup T x y true, type := ty, pos := pos, after := af, guard := none } :: rest) g F L :=
  sx_run _ rfl rfl (fun w hm => by
    have h1 := lookup_runK (P := P) (T := T) (z := z) (k := k) true (hm.blk i hL)
    rw [hv, hb] at h1
    show ((do pure (Next.value (← Instr.lookup T (evn n (get g F) x) (evn n (get g F) y) true))) : Sem Next).run P w = _
    rw [hx, hy]; exact run_v h1) h
theorem sx_makeMapK {T : Nat} (kv : κ → Value) (h : ∀ b, SX P w0 D n 0 ops Q rest g ((d, .map (some b)) :: F) ([(b, kObj kv [] 0)] :: L)) : SX P w0 D n 0 ops Q ({ dst := some d, op := .makeMap T none, type := ty, pos := pos, after := af, guard := none } :: rest) g F L := sx_makeMap h
/-- A key is put. -/
theorem sx_putK [DecidableEq κ] {T K E : Nat} [MpK P T K E] [KeyV P K κ kv] {m x y : Operand} {r ck : Nat} {k : κ} {M : MK κ} {v : Value} (hm' : evn n (get g F) m = .map (some r)) (hx : evn n (get g F) x = kv k) (hy : evn n (get g F) y = v) (hk : lkK M k = none)
    (h : SX P w0 D n 0 ops Q rest g F ([(r, kObj kv (M ++ [(k, v, ck)]) (ck + 1))] :: L)) : SX P w0 D n 0 ops Q ({ dst := none, op := .mapUpdate T m x y, type := ty, pos := pos, after := af, guard := none } :: rest) g F ([(r, kObj kv M ck)] :: L) :=
  .mk fun w hm => wpList_plain rfl fun KK hK => by
    have h1 := MpK.und (P := P) (T := T) (K := _) (E := E)
    have hb : w.heap[r]? = some (.map (M.map (kEnt kv)).toArray ck) := hm.blk 0 rfl
    have hr : (Instr.mapUpdate T (.map (some r)) (kv k) v).run P w = .ok () { w with heap := w.heap.setIfInBounds r (kObj kv (M ++ [(k, v, ck)]) (ck + 1)) } := by
      unfold Instr.mapUpdate
      rw [Sem.run_bind, run_underlying h1]
      simp only [Result.andThen_ok, Sem.run_bind, mget hb, KeyV.check (P := P) (K := K) (kv := kv), KeyV.find (P := P) (K := K) (kv := kv), hk]
      rw [mset _ hb]
      simp [kObj, kEnt]
    unfold Oper.wp
    rw [Fr.evn]
    have hr' : (execOp (evn n (get g F)) { dst := none, op := .mapUpdate T m x y, type := ty, pos := pos, after := af, guard := none }).run P w = .ok .skip { w with heap := w.heap.setIfInBounds r (kObj kv (M ++ [(k, v, ck)]) (ck + 1)) } := by
      show ((do Instr.mapUpdate T (evn n (get g F) m) (evn n (get g F) x) (evn n (get g F) y); pure Next.skip) : Sem Next).run P w = _
      rw [hm', hx, hy]; exact run_u hr
    rw [hr', Oper.upon_skip]
    exact hK _ _ (h.out _ (hm.upd rfl rfl rfl (by simp) (heap_set_self hb) fun j hj _ => heap_set_other hj))
/-- A key that is there is taken out. -/
theorem sx_delK [DecidableEq κ] {T K E : Nat} [MpK P T K E] [KeyV P K κ kv] {m x : Operand} {T2 : TypeId} {r ck j : Nat} {k : κ} {M : MK κ} {v : Value} (hm' : evn n (get g F) m = .map (some r)) (hx : evn n (get g F) x = kv k) (hk : lkK M k = some (j, v))
    (h : SX P w0 D n 0 ops Q rest g F ([(r, kObj kv (M.eraseIdx j) ck)] :: L)) : SX P w0 D n 0 ops Q ({ dst := none, op := .call { callee := .builtin .delete, args := #[m, x], argTypes := #[T, T2] }, type := ty, pos := pos, after := af, guard := none } :: rest) g F ([(r, kObj kv M ck)] :: L) :=
  .mk fun w hm => wpList_plain rfl fun KK hK => by
    have h1 := MpK.und (P := P) (T := T) (K := _) (E := E)
    have hb : w.heap[r]? = some (.map (M.map (kEnt kv)).toArray ck) := hm.blk 0 rfl
    have hr : (Builtin.delete_ #[T, T2] ty #[.map (some r), kv k]).run P w = .ok (.tuple #[]) { w with heap := w.heap.setIfInBounds r (kObj kv (M.eraseIdx j) ck) } := by
      unfold Builtin.delete_
      simp only [List.getElem?_toArray, List.getElem?_cons_zero, List.getElem?_cons_succ]
      rw [Sem.run_bind, run_underlying h1]
      simp only [Result.andThen_ok, Sem.run_bind, mget hb, KeyV.check (P := P) (K := K) (kv := kv), KeyV.find (P := P) (K := K) (kv := kv), hk]
      rw [mset _ hb]
      simp only [Result.andThen_ok, erase_arr, kObj, map_erase]; rfl
    unfold Oper.wp
    rw [Fr.evn]
    have hr' : (execOp (evn n (get g F)) { dst := none, op := .call { callee := .builtin .delete, args := #[m, x], argTypes := #[T, T2] }, type := ty, pos := pos, after := af, guard := none }).run P w = .ok (.value (.tuple #[])) { w with heap := w.heap.setIfInBounds r (kObj kv (M.eraseIdx j) ck) } := by
      simp only [execOp, resolve, invoke, builtin, Sem.run_bind, Sem.run_pure, Result.andThen_ok, List.map_toArray, List.map_cons, List.map_nil, hm', hx, hr]
    rw [hr', Oper.upon_value]
    exact hK _ _ (h.out _ (hm.upd rfl rfl rfl (by simp) (heap_set_self hb) fun j hj _ => heap_set_other hj))
/-- How many keys a map has. -/
theorem sx_lenK {T K E : Nat} [MpK P T K E] (i : Nat) {x : Operand} {r ck : Nat} {M : MK κ} (hx : evn n (get g F) x = .map (some r)) (hL : L[i]? = some [(r, kObj kv M ck)]) (h : SX P w0 D n q ops Q rest g ((d, .int .i64 M.length) :: F) L) :
    SX P w0 D n q ops Q ({ dst := some d, op := .call { callee := .builtin .len, args := #[x], argTypes := #[T] }, type := ty, pos := pos, after := af, guard := none } :: rest) g F L :=
  sx_run _ rfl rfl (fun w hm => by
    have h1 := MpK.und (P := P) (T := T) (K := K) (E := E)
    have hb : w.heap[r]? = some (.map (M.map (kEnt kv)).toArray ck) := hm.blk i hL
    simp only [execOp, resolve]
    simp [hx, invoke, builtin, Builtin.len_, run_underlying h1, mget hb, goInt, go_sem]) h
/-- An iterator's block: it goes over map r; S: what came already. -/
def itObj (r since : Nat) (S : List Nat) (c0 : Nat) : Obj := .mapIter (some r) since S.toArray c0
/-- What is to come. -/
def leftK (M : MK κ) (S : List Nat) : MK κ := M.filter fun e => !S.contains e.2.2
theorem leftK_mem {M : MK κ} {S : List Nat} {e : κ × Value × Nat} : e ∈ leftK M S ↔ e ∈ M ∧ e.2.2 ∉ S := by
  unfold leftK
  rw [List.mem_filter]
  simp
theorem leftOf_K (M : MK κ) (S : List Nat) : leftOf (M.map (kEnt kv)).toArray S.toArray = ((leftK M S).map (kEnt kv)).toArray := by
  unfold leftOf leftK
  simp only [List.filter_toArray, List.contains_toArray]
  congr 1
  induction M with
  | nil => rfl
  | cons e M ih =>
    rw [List.map_cons, List.filter_cons, List.filter_cons]
    show (if (!S.contains e.2.2) = true then _ else _) = _
    split
    · rw [List.map_cons, ih]
    · exact ih
theorem sx_rangeK {T K E : Nat} [MpK P T K E] (i : Nat) {x : Operand} {r ck : Nat} {M : MK κ} (hx : evn n (get g F) x = .map (some r)) (hL : L[i]? = some [(r, kObj kv M ck)]) (h : ∀ b, SX P w0 D n 0 ops Q rest g ((d, .pointer (some ⟨b, 0, none⟩)) :: F) ([(b, itObj r ck [] ck)] :: L)) :
    SX P w0 D n 0 ops Q ({ dst := some d, op := .range T x, type := ty, pos := pos, after := af, guard := none } :: rest) g F L :=
  .mk fun w hm => wpList_plain rfl fun KK hK => by
    have h1 := MpK.und (P := P) (T := T) (K := K) (E := E)
    have hb : w.heap[r]? = some (.map (M.map (kEnt kv)).toArray ck) := hm.blk i hL
    have hr : (Instr.range T (.map (some r))).run P w = .ok (.pointer (some ⟨w.heap.size, 0, none⟩)) (w.alloc (itObj r ck [] ck)) := by
      unfold Instr.range
      rw [Sem.run_bind, run_underlying h1]
      simp only [Result.andThen_ok, Sem.run_bind, mget hb, Sem.run_pure]
      rfl
    unfold Oper.wp
    rw [Fr.evn]
    have hr' : (execOp (evn n (get g F)) { dst := some d, op := .range T x, type := ty, pos := pos, after := af, guard := none }).run P w = .ok (.value (.pointer (some ⟨w.heap.size, 0, none⟩))) (w.alloc (itObj r ck [] ck)) := by
      show ((do pure (Next.value (← Instr.range T (evn n (get g F) x)))) : Sem Next).run P w = _
      rw [hx]; exact run_v hr
    rw [hr', Oper.upon_value, Fr.put, get_put]
    exact hK _ _ ((h w.heap.size).out _ (hm.new _))
/-- The next one: none is left; or whichever. -/
theorem sx_nextK (i : Nat) {x : Operand} {it r since c0 ck : Nat} {S : List Nat} {M : MK κ} (hx : evn n (get g F) x = .pointer (some ⟨it, 0, none⟩)) (hL : L[i]? = some [(r, kObj kv M ck)]) (hold : ∀ e ∈ M, e.2.2 < since) (hsc : since ≤ c0)
    (hdone : leftK M S = [] → SX P w0 D n 0 ops Q rest g ((d, .tuple #[.bool false]) :: F) ([(it, itObj r since S c0)] :: L))
    (hmore : ∀ e ∈ M, e.2.2 ∉ S → SX P w0 D n 0 ops Q rest g ((d, .tuple #[.bool true, kv e.1, e.2.1]) :: F) ([(it, itObj r since (S ++ [e.2.2]) ck)] :: L)) :
    SX P w0 D n 0 ops Q ({ dst := some d, op := .next x false, type := ty, pos := pos, after := af, guard := none } :: rest) g F ([(it, itObj r since S c0)] :: L) :=
  .mk fun w hm => wpList_plain rfl fun KK hK => by
    have hb : w.heap[r]? = some (.map (M.map (kEnt kv)).toArray ck) := hm.tail.blk i hL
    have hr : w.heap[it]? = some (.mapIter (some r) since S.toArray c0) := hm.blk 0 rfl
    unfold Oper.wp
    rw [Fr.evn]
    have hx' : (execOp (evn n (get g F)) { dst := some d, op := .next x false, type := ty, pos := pos, after := af, guard := none }) = (do pure (Next.value (← Instr.next (.pointer (some ⟨it, 0, none⟩)) false ty))) := by
      show (do pure (Next.value (← Instr.next (evn n (get g F) x) false ty))) = _
      rw [hx]
    rw [hx']
    rcases run_next_at (P := P) w ty it r since c0 S.toArray _ ck hr hb (fun y hy => by
        rw [List.toList_toArray] at hy
        obtain ⟨e, he, rfl⟩ := List.mem_map.1 hy
        exact hold e he) hsc with ⟨h0, hrun⟩ | ⟨y, hy, w1, hw1, hrun⟩
    · rw [run_v hrun, Oper.upon_value, Fr.put, get_put]
      refine hK _ _ ((hdone ?_).out _ hm)
      rw [leftOf_K, List.size_toArray, List.length_map] at h0
      exact List.eq_nil_of_length_eq_zero h0
    · rw [leftOf_K, List.toList_toArray] at hy
      obtain ⟨e, he, rfl⟩ := List.mem_map.1 hy
      obtain ⟨heM, heS⟩ := leftK_mem.1 he
      rw [run_v hrun, Oper.upon_value, Fr.put, get_put]
      refine hK _ _ ((hmore e heM heS).out _ ?_)
      have hm1 : Mem w0 w1 D ([(it, itObj r since S c0)] :: L) := by
        rcases hw1 with rfl | rfl
        · exact hm
        · exact hm.drew
      have hr1 : w1.heap[it]? = some (itObj r since S c0) := hm1.blk 0 rfl
      have e1 : itObj r since (S ++ [e.2.2]) ck = .mapIter (some r) since (S.toArray.push (kEnt kv e).born) ck := by simp [itObj, kEnt]
      rw [e1]
      exact Mem.upd hm1 rfl rfl rfl (by simp [Go.ChangeMaps.setBlock]) (heap_set_self hr1) (fun j hj _ => heap_set_other hj)
/-- The key and what it holds, behind a step. -/
theorem sx_itEntryK (i j : Nat) {x : Operand} {it r since ck : Nat} {S : List Nat} {M : MK κ} {e : κ × Value × Nat} (hx : evn n (get g F) x = .pointer (some ⟨it, 0, none⟩)) (hI : L[i]? = some [(it, itObj r since (S ++ [e.2.2]) ck)]) (hL : L[j]? = some [(r, kObj kv M ck)]) (he : e ∈ M) (hn : (M.map (·.2.2)).Nodup)
    (h : SX P w0 D n q ops Q rest g ((d, .tuple #[kv e.1, e.2.1]) :: F) L) : SX P w0 D n q ops Q ({ dst := some d, op := .entry x, type := ty, pos := pos, after := af, guard := none } :: rest) g F L :=
  sx_run _ rfl rfl (fun w hm => by
    have hr : w.heap[it]? = some (.mapIter (some r) since (S.toArray.push (kEnt kv e).born) ck) := by
      have h1 := hm.blk i hI
      rw [h1]
      simp [itObj, kEnt]
    have h1 := run_entry_at (P := P) w it r since S.toArray _ ck (kEnt kv e) hr (hm.blk j hL) (by rw [List.toList_toArray]; exact List.mem_map_of_mem he) (by rw [List.toList_toArray, List.map_map]; exact hn)
    show ((do pure (Next.value (← Instr.entry (evn n (get g F) x)))) : Sem Next).run P w = _
    rw [hx]; exact run_v h1) h
/-- A key's entry is asked for (a map's element that is turned): it is there. -/
theorem sx_entryYK [DecidableEq κ] {T K E : Nat} [MpK P T K E] [KeyV P K κ kv] {m x : Operand} {r ck j b : Nat} {k : κ} {M : MK κ} {v : Value} (hm' : evn n (get g F) m = .map (some r)) (hx : evn n (get g F) x = kv k) (hk : lkK M k = some (j, v)) (hb : M[j]? = some (k, v, b))
    (h : SX P w0 D n 0 ops Q rest g ((d, .tuple #[v, .int .i64 b]) :: F) ([(r, kObj kv M ck)] :: L)) : SX P w0 D n 0 ops Q ({ dst := some d, op := .mapEntry T m x, type := ty, pos := pos, after := af, guard := none } :: rest) g F ([(r, kObj kv M ck)] :: L) :=
  .mk fun w hm => wpList_plain rfl fun KK hK => by
    have h1 := MpK.und (P := P) (T := T) (K := _) (E := E)
    have hw : w.heap[r]? = some (.map (M.map (kEnt kv)).toArray ck) := hm.blk 0 rfl
    have hj : (M.map (kEnt kv))[j]? = some (kEnt kv (k, v, b)) := by rw [List.getElem?_map, hb]; rfl
    have hmod : (M.map (kEnt kv)).toArray.modify j (fun e => { e with key := kv k }) = (M.map (kEnt kv)).toArray := by
      apply Array.ext
      · simp
      · intro i h1 h2
        rw [Array.getElem_modify]
        split
        · rename_i e
          subst e
          have h3 : (M.map (kEnt kv))[j]'(by simpa using h2) = kEnt kv (k, v, b) := by
            have := List.getElem?_eq_getElem (l := M.map (kEnt kv)) (i := j) (by simpa using h2)
            rw [hj] at this
            exact (Option.some.inj this).symm
          simp only [List.getElem_toArray, h3]
          rfl
        · rfl
    have hr : (Instr.mapEntry T (.map (some r)) (kv k)).run P w = .ok (.tuple #[v, .int .i64 b]) { w with heap := w.heap.setIfInBounds r (kObj kv M ck) } := by
      unfold Instr.mapEntry
      rw [Sem.run_bind, run_underlying h1]
      simp only [Result.andThen_ok, Sem.run_bind, mget hw, KeyV.check (P := P) (K := K) (kv := kv), KeyV.find (P := P) (K := K) (kv := kv), hk]
      have h2 : (Instr.keyThatStays (kv k) (kv k)).run P w = .ok (kv k) w := by
        unfold Instr.keyThatStays
        rw [if_pos (KeyV.same (P := P) (K := K) (kv := kv) k)]
        rfl
      simp only [List.getElem?_toArray, hj, Option.map_some, Option.getD_some]
      rw [show (kEnt kv (k, v, b)).key = kv k from rfl, h2, Result.andThen_ok, hmod, mset _ hw]
      rfl
    unfold Oper.wp
    rw [Fr.evn]
    have hr' : (execOp (evn n (get g F)) { dst := some d, op := .mapEntry T m x, type := ty, pos := pos, after := af, guard := none }).run P w = .ok (.value (.tuple #[v, .int .i64 b])) { w with heap := w.heap.setIfInBounds r (kObj kv M ck) } := by
      show ((do pure (Next.value (← Instr.mapEntry T (evn n (get g F) m) (evn n (get g F) x)))) : Sem Next).run P w = _
      rw [hm', hx]; exact run_v hr
    rw [hr', Oper.upon_value, Fr.put, get_put]
    exact hK _ _ (h.out _ (hm.upd rfl rfl rfl (by simp) (heap_set_self hw) fun j hj _ => heap_set_other hj))
/-- .. it is laid. -/
theorem sx_entryNK [DecidableEq κ] {T K E : Nat} [MpK P T K E] [KeyV P K κ kv] {z : Value} [ZvT P E z] {m x : Operand} {r ck : Nat} {k : κ} {M : MK κ} (hm' : evn n (get g F) m = .map (some r)) (hx : evn n (get g F) x = kv k) (hk : lkK M k = none)
    (h : SX P w0 D n 0 ops Q rest g ((d, .tuple #[z, .int .i64 ck]) :: F) ([(r, kObj kv (M ++ [(k, z, ck)]) (ck + 1))] :: L)) : SX P w0 D n 0 ops Q ({ dst := some d, op := .mapEntry T m x, type := ty, pos := pos, after := af, guard := none } :: rest) g F ([(r, kObj kv M ck)] :: L) :=
  .mk fun w hm => wpList_plain rfl fun KK hK => by
    have h1 := MpK.und (P := P) (T := T) (K := _) (E := E)
    have hw : w.heap[r]? = some (.map (M.map (kEnt kv)).toArray ck) := hm.blk 0 rfl
    have hr : (Instr.mapEntry T (.map (some r)) (kv k)).run P w = .ok (.tuple #[z, .int .i64 ck]) { w with heap := w.heap.setIfInBounds r (kObj kv (M ++ [(k, z, ck)]) (ck + 1)) } := by
      unfold Instr.mapEntry
      rw [Sem.run_bind, run_underlying h1]
      simp only [Result.andThen_ok, Sem.run_bind, mget hw, KeyV.check (P := P) (K := K) (kv := kv), KeyV.find (P := P) (K := K) (kv := kv), hk, ZvT.run]
      rw [mset _ hw]
      simp [kObj, kEnt, goInt]
    unfold Oper.wp
    rw [Fr.evn]
    have hr' : (execOp (evn n (get g F)) { dst := some d, op := .mapEntry T m x, type := ty, pos := pos, after := af, guard := none }).run P w = .ok (.value (.tuple #[z, .int .i64 ck])) { w with heap := w.heap.setIfInBounds r (kObj kv (M ++ [(k, z, ck)]) (ck + 1)) } := by
      show ((do pure (Next.value (← Instr.mapEntry T (evn n (get g F) m) (evn n (get g F) x)))) : Sem Next).run P w = _
      rw [hm', hx]; exact run_v hr
    rw [hr', Oper.upon_value, Fr.put, get_put]
    exact hK _ _ (h.out _ (hm.upd rfl rfl rfl (by simp) (heap_set_self hw) fun j hj _ => heap_set_other hj))
/-- What an entry holds is turned. -/
theorem sx_estoreK {T : TypeId} {m x y : Operand} {r ck j b : Nat} {k : κ} {M : MK κ} {v u : Value} (hm' : evn n (get g F) m = .map (some r)) (hx : evn n (get g F) x = .int .i64 b) (hy : evn n (get g F) y = u) (hb : M[j]? = some (k, v, b)) (hj : M.findIdx? (fun e => e.2.2 == b) = some j)
    (h : SX P w0 D n 0 ops Q rest g F ([(r, kObj kv (M.set j (k, u, b)) ck)] :: L)) : SX P w0 D n 0 ops Q ({ dst := none, op := .entryStore T m x y, type := ty, pos := pos, after := af, guard := none } :: rest) g F ([(r, kObj kv M ck)] :: L) :=
  .mk fun w hm => wpList_plain rfl fun KK hK => by
    have hw : w.heap[r]? = some (.map (M.map (kEnt kv)).toArray ck) := hm.blk 0 rfl
    have hf : (M.map (kEnt kv)).toArray.findIdx? (fun e => (e.born : Int) == (b : Int)) = some j := by
      rw [List.findIdx?_toArray, List.findIdx?_map, ← hj]
      congr 1
      funext e
      show ((e.2.2 : Int) == (b : Int)) = (e.2.2 == b)
      rw [Bool.eq_iff_iff]
      simp only [beq_iff_eq]
      omega
    have hmod : (M.map (kEnt kv)).toArray.modify j (fun e => { e with val := u }) = ((M.set j (k, u, b)).map (kEnt kv)).toArray := by
      apply Array.ext
      · simp
      · intro i h1 h2
        rw [Array.getElem_modify]
        simp only [List.getElem_toArray, List.getElem_map, List.getElem_set]
        split
        · rename_i e
          subst e
          have h3 : M[j]'(by simpa using h2) = (k, v, b) := by
            have := List.getElem?_eq_getElem (l := M) (i := j) (by simpa using h2)
            rw [hb] at this
            exact (Option.some.inj this).symm
          rw [h3]
          rfl
        · rfl
    have hr : (Instr.entryStore T (.map (some r)) (.int .i64 b) u).run P w = .ok () { w with heap := w.heap.setIfInBounds r (kObj kv (M.set j (k, u, b)) ck) } := by
      unfold Instr.entryStore
      simp only [Sem.run_bind, mget hw, Result.andThen_ok]
      rw [show (asInt (.int .i64 (b : Int))).run P w = .ok (b : Int) w from rfl, Result.andThen_ok, hf]
      dsimp only
      rw [hmod, mset _ hw]
      rfl
    unfold Oper.wp
    rw [Fr.evn]
    have hr' : (execOp (evn n (get g F)) { dst := none, op := .entryStore T m x y, type := ty, pos := pos, after := af, guard := none }).run P w = .ok .skip { w with heap := w.heap.setIfInBounds r (kObj kv (M.set j (k, u, b)) ck) } := by
      show ((do Instr.entryStore T (evn n (get g F) m) (evn n (get g F) x) (evn n (get g F) y); pure Next.skip) : Sem Next).run P w = _
      rw [hm', hx, hy]; exact run_u hr
    rw [hr', Oper.upon_skip]
    exact hK _ _ (h.out _ (hm.upd rfl rfl rfl (by simp) (heap_set_self hw) fun j hj _ => heap_set_other hj))
theorem at_delK {dst : Option Nat} {ts : Array TypeId} {m x : Operand} (h : SX P w0 D n q ops Q ({ dst := dst, op := .call { callee := .builtin .delete, args := #[m, x], argTypes := ts }, type := ty, pos := pos, after := af, guard := none } :: rest) g F L) : SX P w0 D n q ops Q ({ dst := dst, op := .call { callee := .builtin .delete, args := #[m, x], argTypes := ts }, type := ty, pos := pos, after := af, guard := none } :: rest) g F L := h
end
end Go.Port
