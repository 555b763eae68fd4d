/- Several texts in one: Maps MapsK FragP MapsG WireP SegL TrackP TblP TabL. -/
import Derived.Test.YtghnjmjdaggopaaGreatDoorEngB
import Derived.Maps.RangeRun
import Derived.Test.YtghnjmjdaggopaaGreatDoorEngA
set_option linter.unusedSimpArgs false
set_option linter.unusedVariables false
namespace Go.Port
open Go.RowKit
/-- A map's entries: the key, what it holds, when it was put. -/
abbrev MI := List (Int × Value × Nat)
def mEnt (e : Int × Value × Nat) : MapEntry := { key := .int .i64 e.1, val := e.2.1, born := e.2.2 }
def mObj (M : MI) (ck : Nat) : Obj := .map (M.map mEnt).toArray ck
/-- Where a key is, and what it holds. -/
def lkI : MI → Int → Option (Nat × Value)
  | [], _ => none
  | e :: r, k => if e.1 = k then some (0, e.2.1) else (lkI r k).map fun p => (p.1 + 1, p.2)
theorem mget {P : Program} {w : World} {r ck : Nat} {es : Array MapEntry} (hb : w.heap[r]? = some (.map es ck)) : (getObj r).run P w = .ok (.map es ck) w := by simp [getObj, Sem.run, hb]
theorem mset {P : Program} {w : World} {r ck : Nat} {es : Array MapEntry} (o : Obj) (hb : w.heap[r]? = some (.map es ck)) : (setObj r o).run P w = .ok () { w with heap := w.heap.setIfInBounds r o } := by simp [setObj, Sem.run, hb]
theorem map_erase {α β : Type} (f : α → β) : ∀ (l : List α) (j : Nat), (l.eraseIdx j).map f = (l.map f).eraseIdx j
  | [], _ => rfl
  | _ :: _, 0 => rfl
  | a :: l, j + 1 => by rw [List.eraseIdx_cons_succ, List.map_cons, map_erase f l j]; rfl
theorem erase_arr {α : Type} (l : List α) (j : Nat) : l.toArray.eraseIdxIfInBounds j = (l.eraseIdx j).toArray := by
  unfold Array.eraseIdxIfInBounds
  split
  · simp
  · rename_i h
    rw [List.eraseIdx_of_length_le (by simpa using h)]
class MpT (P : Program) (T : Nat) (K E : outParam Nat) : Prop where
  und : P.underlying T = some (.map K E)
  key : P.underlying K = some (.int .i64)
section
variable {P : Program} {w0 : World} {D : List Nat} {n q : Nat} {ops : Array Oper} {Q : Exit → Act → World → Prop} {g : Nat → Value} {F : List (Nat × Value)} {L : List Ch}
variable {rest : List Oper} {ty : TypeId} {pos : String} {af : Array Edge} {d : Nat}
theorem sx_makeMap {T : Nat} (h : ∀ b, SX P w0 D n 0 ops Q rest g ((d, .map (some b)) :: F) ([(b, mObj [] 0)] :: L)) : SX P w0 D n 0 ops Q ({ dst := some d, op := .makeMap T none, type := ty, pos := pos, after := af, guard := none } :: rest) g F L :=
  .mk fun w hm => wpList_plain rfl fun K hK => by
    unfold Oper.wp
    have hr : (execOp (Fr n (get g F)).eval { dst := some d, op := .makeMap T none, type := ty, pos := pos, after := af, guard := none }).run P w = .ok (.value (.map (some w.heap.size))) (w.alloc (mObj [] 0)) := by
      show ((do pure (Next.value (← Instr.makeMap T none))) : Sem Next).run P w = _
      exact run_v rfl
    rw [hr, Oper.upon_value, Fr.put, get_put]
    exact hK _ _ ((h w.heap.size).out _ (hm.new _))
theorem heap_set_other {w : World} {r k : Nat} {o : Obj} (h : k ≠ r) : (w.heap.setIfInBounds r o)[k]? = w.heap[k]? := by
  rw [Array.getElem?_setIfInBounds]; simp [Ne.symm h]
theorem heap_set_self {w : World} {r : Nat} {o o' : Obj} (h : w.heap[r]? = some o') : (w.heap.setIfInBounds r o)[r]? = some o := by
  rw [Array.getElem?_setIfInBounds]; simp [heap_lt h]
end
end Go.Port

set_option linter.unusedSimpArgs false
set_option linter.unusedVariables false
namespace Go.Port
open Go.RowKit
section
variable {κ : Type} [DecidableEq κ]
/-- A map's entries: the key, what it holds, when it was put. -/
abbrev MK (κ : Type) := List (κ × Value × Nat)
def kEnt (kv : κ → Value) (e : κ × Value × Nat) : MapEntry := { key := kv e.1, val := e.2.1, born := e.2.2 }
def kObj (kv : κ → Value) (M : MK κ) (ck : Nat) : Obj := .map (M.map (kEnt kv)).toArray ck
/-- Where a key is, and what it holds. -/
def lkK : MK κ → κ → Option (Nat × Value)
  | [], _ => none
  | e :: r, k => if e.1 = k then some (0, e.2.1) else (lkK r k).map fun p => (p.1 + 1, p.2)
/-- What a map holds of a key. -/
def vlK (M : MK κ) (k : κ) : Option Value := (lkK M k).map (·.2)
end
/-- Keys of a type, told by κ. -/
class KeyV (P : Program) (K : Nat) (κ : Type) [DecidableEq κ] (kv : κ → Value) : Prop where
  check : ∀ e k w, (Instr.checkKey e 10000 K (kv k)).run P w = .ok () w
  find : ∀ (M : MK κ) k w, (Instr.findKey K (kv k) (M.map (kEnt kv))).run P w = .ok (lkK M k) w
  same : ∀ k, Instr.sameBits 10000 (kv k) (kv k) = true
/-- Keys that are asked one by one. -/
theorem find_asking {κ : Type} [DecidableEq κ] {P : Program} {K : Nat} {kv : κ → Value} (he : ∀ a b w, (Op.equal K (kv a) (kv b)).run P w = .ok (decide (a = b)) w) : ∀ (M : MK κ) (k : κ) (i : Nat) (w : World), (Instr.findAsking K (kv k) (M.map (kEnt kv)) i).run P w = .ok ((lkK M k).map fun p => (i + p.1, p.2)) w
  | [], k, i, w => rfl
  | e :: M, k, i, w => by
    rw [List.map_cons, Instr.findAsking, Sem.run_bind]
    rw [show (kEnt kv e).key = kv e.1 from rfl, he, Result.andThen_ok]
    by_cases h : e.1 = k
    · subst h
      simp [lkK, kEnt]
    · have h' : ¬ k = e.1 := fun x => h x.symm
      simp only [decide_eq_false h', Bool.false_eq_true, if_false]
      rw [find_asking he M k (i + 1) w, lkK, if_neg h]
      cases lkK M k with
      | none => rfl
      | some p => simp; omega
theorem find_key {κ : Type} [DecidableEq κ] {P : Program} {K : Nat} {kv : κ → Value} {d : TypeDesc} (hK : P.underlying K = some d) (hs : ∀ a b, Instr.sameNow d (kv a) (kv b) = none) (he : ∀ a b w, (Op.equal K (kv a) (kv b)).run P w = .ok (decide (a = b)) w) (M : MK κ) (k : κ) (w : World) :
    (Instr.findKey K (kv k) (M.map (kEnt kv))).run P w = .ok (lkK M k) w := by
  unfold Instr.findKey
  rw [Sem.run_bind, run_underlying hK, Result.andThen_ok]
  cases M with
  | nil => rfl
  | cons e M =>
    have h1 : Instr.findNow d (kv k) ((e :: M).map (kEnt kv)) 0 = none := by
      rw [List.map_cons, Instr.findNow, show (kEnt kv e).key = kv e.1 from rfl, hs]
    rw [h1]
    have h2 := find_asking he (e :: M) k 0 w
    rw [h2]
    cases lkK (e :: M) k with
    | none => rfl
    | some p => simp
class MpK (P : Program) (T : Nat) (K E : outParam Nat) : Prop where
  und : P.underlying T = some (.map K E)
section
variable {κ : Type} {kv : κ → Value}
variable {P : Program} {w0 : World} {D : List Nat} {n q : Nat} {ops : Array Oper} {Q : Exit → Act → World → Prop} {g : Nat → Value} {F : List (Nat × Value)} {L : List Ch}
variable {rest : List Oper} {ty : TypeId} {pos : String} {af : Array Edge} {d : Nat}
theorem lookup_runK [DecidableEq κ] {T K E : Nat} [MpK P T K E] [KeyV P K κ kv] {z : Value} [ZvT P E z] {r ck : Nat} {k : κ} {M : MK κ} {w : World} (c : Bool) (hb : w.heap[r]? = some (kObj kv M ck)) :
    (Instr.lookup T (.map (some r)) (kv k) c).run P w = .ok (if c then .tuple #[((lkK M k).map (·.2)).getD z, .bool (lkK M k).isSome] else ((lkK M k).map (·.2)).getD z) w := by
  have h1 := MpK.und (P := P) (T := T) (K := K) (E := E)
  unfold Instr.lookup
  rw [Sem.run_bind, run_underlying h1]
  simp only [Result.andThen_ok, Sem.run_bind, mget (show w.heap[r]? = some (.map (M.map (kEnt kv)).toArray ck) from hb), KeyV.check (P := P) (K := K) (kv := kv), KeyV.find (P := P) (K := K) (kv := kv), Sem.run_pure, ZvT.run]
  cases lkK M k with
  | none => cases c <;> simp [ZvT.run]
  | some p => cases c <;> simp
theorem sx_makeMapK {T : Nat} (kv : κ → Value) (h : ∀ b, SX P w0 D n 0 ops Q rest g ((d, .map (some b)) :: F) ([(b, kObj kv [] 0)] :: L)) : SX P w0 D n 0 ops Q ({ dst := some d, op := .makeMap T none, type := ty, pos := pos, after := af, guard := none } :: rest) g F L := sx_makeMap h
/-- A key is put. -/
theorem sx_putK [DecidableEq κ] {T K E : Nat} [MpK P T K E] [KeyV P K κ kv] {m x y : Operand} {r ck : Nat} {k : κ} {M : MK κ} {v : Value} (hm' : evn n (get g F) m = .map (some r)) (hx : evn n (get g F) x = kv k) (hy : evn n (get g F) y = v) (hk : lkK M k = none)
    (h : SX P w0 D n 0 ops Q rest g F ([(r, kObj kv (M ++ [(k, v, ck)]) (ck + 1))] :: L)) : SX P w0 D n 0 ops Q ({ dst := none, op := .mapUpdate T m x y, type := ty, pos := pos, after := af, guard := none } :: rest) g F ([(r, kObj kv M ck)] :: L) :=
  .mk fun w hm => wpList_plain rfl fun KK hK => by
    have h1 := MpK.und (P := P) (T := T) (K := _) (E := E)
    have hb : w.heap[r]? = some (.map (M.map (kEnt kv)).toArray ck) := hm.blk 0 rfl
    have hr : (Instr.mapUpdate T (.map (some r)) (kv k) v).run P w = .ok () { w with heap := w.heap.setIfInBounds r (kObj kv (M ++ [(k, v, ck)]) (ck + 1)) } := by
      unfold Instr.mapUpdate
      rw [Sem.run_bind, run_underlying h1]
      simp only [Result.andThen_ok, Sem.run_bind, mget hb, KeyV.check (P := P) (K := K) (kv := kv), KeyV.find (P := P) (K := K) (kv := kv), hk]
      rw [mset _ hb]
      simp [kObj, kEnt]
    unfold Oper.wp
    rw [Fr.evn]
    have hr' : (execOp (evn n (get g F)) { dst := none, op := .mapUpdate T m x y, type := ty, pos := pos, after := af, guard := none }).run P w = .ok .skip { w with heap := w.heap.setIfInBounds r (kObj kv (M ++ [(k, v, ck)]) (ck + 1)) } := by
      show ((do Instr.mapUpdate T (evn n (get g F) m) (evn n (get g F) x) (evn n (get g F) y); pure Next.skip) : Sem Next).run P w = _
      rw [hm', hx, hy]; exact run_u hr
    rw [hr', Oper.upon_skip]
    exact hK _ _ (h.out _ (hm.upd rfl rfl rfl (by simp) (heap_set_self hb) fun j hj _ => heap_set_other hj))
/-- A key that is there is taken out. -/
theorem sx_delK [DecidableEq κ] {T K E : Nat} [MpK P T K E] [KeyV P K κ kv] {m x : Operand} {T2 : TypeId} {r ck j : Nat} {k : κ} {M : MK κ} {v : Value} (hm' : evn n (get g F) m = .map (some r)) (hx : evn n (get g F) x = kv k) (hk : lkK M k = some (j, v))
    (h : SX P w0 D n 0 ops Q rest g F ([(r, kObj kv (M.eraseIdx j) ck)] :: L)) : SX P w0 D n 0 ops Q ({ dst := none, op := .call { callee := .builtin .delete, args := #[m, x], argTypes := #[T, T2] }, type := ty, pos := pos, after := af, guard := none } :: rest) g F ([(r, kObj kv M ck)] :: L) :=
  .mk fun w hm => wpList_plain rfl fun KK hK => by
    have h1 := MpK.und (P := P) (T := T) (K := _) (E := E)
    have hb : w.heap[r]? = some (.map (M.map (kEnt kv)).toArray ck) := hm.blk 0 rfl
    have hr : (Builtin.delete_ #[T, T2] ty #[.map (some r), kv k]).run P w = .ok (.tuple #[]) { w with heap := w.heap.setIfInBounds r (kObj kv (M.eraseIdx j) ck) } := by
      unfold Builtin.delete_
      simp only [List.getElem?_toArray, List.getElem?_cons_zero, List.getElem?_cons_succ]
      rw [Sem.run_bind, run_underlying h1]
      simp only [Result.andThen_ok, Sem.run_bind, mget hb, KeyV.check (P := P) (K := K) (kv := kv), KeyV.find (P := P) (K := K) (kv := kv), hk]
      rw [mset _ hb]
      simp only [Result.andThen_ok, erase_arr, kObj, map_erase]; rfl
    unfold Oper.wp
    rw [Fr.evn]
    have hr' : (execOp (evn n (get g F)) { dst := none, op := .call { callee := .builtin .delete, args := #[m, x], argTypes := #[T, T2] }, type := ty, pos := pos, after := af, guard := none }).run P w = .ok (.value (.tuple #[])) { w with heap := w.heap.setIfInBounds r (kObj kv (M.eraseIdx j) ck) } := by
      simp only [execOp, resolve, invoke, builtin, Sem.run_bind, Sem.run_pure, Result.andThen_ok, List.map_toArray, List.map_cons, List.map_nil, hm', hx, hr]
    rw [hr', Oper.upon_value]
    exact hK _ _ (h.out _ (hm.upd rfl rfl rfl (by simp) (heap_set_self hb) fun j hj _ => heap_set_other hj))
/-- An iterator's block: it goes over map r; S: what came already. -/
def itObj (r since : Nat) (S : List Nat) (c0 : Nat) : Obj := .mapIter (some r) since S.toArray c0
/-- What is to come. -/
def leftK (M : MK κ) (S : List Nat) : MK κ := M.filter fun e => !S.contains e.2.2
theorem leftK_mem {M : MK κ} {S : List Nat} {e : κ × Value × Nat} : e ∈ leftK M S ↔ e ∈ M ∧ e.2.2 ∉ S := by
  unfold leftK
  rw [List.mem_filter]
  simp
theorem leftOf_K (M : MK κ) (S : List Nat) : leftOf (M.map (kEnt kv)).toArray S.toArray = ((leftK M S).map (kEnt kv)).toArray := by
  unfold leftOf leftK
  simp only [List.filter_toArray, List.contains_toArray]
  congr 1
  induction M with
  | nil => rfl
  | cons e M ih =>
    rw [List.map_cons, List.filter_cons, List.filter_cons]
    show (if (!S.contains e.2.2) = true then _ else _) = _
    split
    · rw [List.map_cons, ih]
    · exact ih
theorem sx_rangeK {T K E : Nat} [MpK P T K E] (i : Nat) {x : Operand} {r ck : Nat} {M : MK κ} (hx : evn n (get g F) x = .map (some r)) (hL : L[i]? = some [(r, kObj kv M ck)]) (h : ∀ b, SX P w0 D n 0 ops Q rest g ((d, .pointer (some ⟨b, 0, none⟩)) :: F) ([(b, itObj r ck [] ck)] :: L)) :
    SX P w0 D n 0 ops Q ({ dst := some d, op := .range T x, type := ty, pos := pos, after := af, guard := none } :: rest) g F L :=
  .mk fun w hm => wpList_plain rfl fun KK hK => by
    have h1 := MpK.und (P := P) (T := T) (K := K) (E := E)
    have hb : w.heap[r]? = some (.map (M.map (kEnt kv)).toArray ck) := hm.blk i hL
    have hr : (Instr.range T (.map (some r))).run P w = .ok (.pointer (some ⟨w.heap.size, 0, none⟩)) (w.alloc (itObj r ck [] ck)) := by
      unfold Instr.range
      rw [Sem.run_bind, run_underlying h1]
      simp only [Result.andThen_ok, Sem.run_bind, mget hb, Sem.run_pure]
      rfl
    unfold Oper.wp
    rw [Fr.evn]
    have hr' : (execOp (evn n (get g F)) { dst := some d, op := .range T x, type := ty, pos := pos, after := af, guard := none }).run P w = .ok (.value (.pointer (some ⟨w.heap.size, 0, none⟩))) (w.alloc (itObj r ck [] ck)) := by
      show ((do pure (Next.value (← Instr.range T (evn n (get g F) x)))) : Sem Next).run P w = _
      rw [hx]; exact run_v hr
    rw [hr', Oper.upon_value, Fr.put, get_put]
    exact hK _ _ ((h w.heap.size).out _ (hm.new _))
/-- The next one: none is left; or whichever. -/
theorem sx_nextK (i : Nat) {x : Operand} {it r since c0 ck : Nat} {S : List Nat} {M : MK κ} (hx : evn n (get g F) x = .pointer (some ⟨it, 0, none⟩)) (hL : L[i]? = some [(r, kObj kv M ck)]) (hold : ∀ e ∈ M, e.2.2 < since) (hsc : since ≤ c0)
    (hdone : leftK M S = [] → SX P w0 D n 0 ops Q rest g ((d, .tuple #[.bool false]) :: F) ([(it, itObj r since S c0)] :: L))
    (hmore : ∀ e ∈ M, e.2.2 ∉ S → SX P w0 D n 0 ops Q rest g ((d, .tuple #[.bool true, kv e.1, e.2.1]) :: F) ([(it, itObj r since (S ++ [e.2.2]) ck)] :: L)) :
    SX P w0 D n 0 ops Q ({ dst := some d, op := .next x false, type := ty, pos := pos, after := af, guard := none } :: rest) g F ([(it, itObj r since S c0)] :: L) :=
  .mk fun w hm => wpList_plain rfl fun KK hK => by
    have hb : w.heap[r]? = some (.map (M.map (kEnt kv)).toArray ck) := hm.tail.blk i hL
    have hr : w.heap[it]? = some (.mapIter (some r) since S.toArray c0) := hm.blk 0 rfl
    unfold Oper.wp
    rw [Fr.evn]
    have hx' : (execOp (evn n (get g F)) { dst := some d, op := .next x false, type := ty, pos := pos, after := af, guard := none }) = (do pure (Next.value (← Instr.next (.pointer (some ⟨it, 0, none⟩)) false ty))) := by
      show (do pure (Next.value (← Instr.next (evn n (get g F) x) false ty))) = _
      rw [hx]
    rw [hx']
    rcases run_next_at (P := P) w ty it r since c0 S.toArray _ ck hr hb (fun y hy => by
        rw [List.toList_toArray] at hy
        obtain ⟨e, he, rfl⟩ := List.mem_map.1 hy
        exact hold e he) hsc with ⟨h0, hrun⟩ | ⟨y, hy, w1, hw1, hrun⟩
    · rw [run_v hrun, Oper.upon_value, Fr.put, get_put]
      refine hK _ _ ((hdone ?_).out _ hm)
      rw [leftOf_K, List.size_toArray, List.length_map] at h0
      exact List.eq_nil_of_length_eq_zero h0
    · rw [leftOf_K, List.toList_toArray] at hy
      obtain ⟨e, he, rfl⟩ := List.mem_map.1 hy
      obtain ⟨heM, heS⟩ := leftK_mem.1 he
      rw [run_v hrun, Oper.upon_value, Fr.put, get_put]
      refine hK _ _ ((hmore e heM heS).out _ ?_)
      have hm1 : Mem w0 w1 D ([(it, itObj r since S c0)] :: L) := by
        rcases hw1 with rfl | rfl
        · exact hm
        · exact hm.drew
      have hr1 : w1.heap[it]? = some (itObj r since S c0) := hm1.blk 0 rfl
      have e1 : itObj r since (S ++ [e.2.2]) ck = .mapIter (some r) since (S.toArray.push (kEnt kv e).born) ck := by simp [itObj, kEnt]
      rw [e1]
      exact Mem.upd hm1 rfl rfl rfl (by simp [Go.ChangeMaps.setBlock]) (heap_set_self hr1) (fun j hj _ => heap_set_other hj)
/-- The key and what it holds, behind a step. -/
theorem sx_itEntryK (i j : Nat) {x : Operand} {it r since ck : Nat} {S : List Nat} {M : MK κ} {e : κ × Value × Nat} (hx : evn n (get g F) x = .pointer (some ⟨it, 0, none⟩)) (hI : L[i]? = some [(it, itObj r since (S ++ [e.2.2]) ck)]) (hL : L[j]? = some [(r, kObj kv M ck)]) (he : e ∈ M) (hn : (M.map (·.2.2)).Nodup)
    (h : SX P w0 D n q ops Q rest g ((d, .tuple #[kv e.1, e.2.1]) :: F) L) : SX P w0 D n q ops Q ({ dst := some d, op := .entry x, type := ty, pos := pos, after := af, guard := none } :: rest) g F L :=
  sx_run _ rfl rfl (fun w hm => by
    have hr : w.heap[it]? = some (.mapIter (some r) since (S.toArray.push (kEnt kv e).born) ck) := by
      have h1 := hm.blk i hI
      rw [h1]
      simp [itObj, kEnt]
    have h1 := run_entry_at (P := P) w it r since S.toArray _ ck (kEnt kv e) hr (hm.blk j hL) (by rw [List.toList_toArray]; exact List.mem_map_of_mem he) (by rw [List.toList_toArray, List.map_map]; exact hn)
    show ((do pure (Next.value (← Instr.entry (evn n (get g F) x)))) : Sem Next).run P w = _
    rw [hx]; exact run_v h1) h
theorem at_delK {dst : Option Nat} {ts : Array TypeId} {m x : Operand} (h : SX P w0 D n q ops Q ({ dst := dst, op := .call { callee := .builtin .delete, args := #[m, x], argTypes := ts }, type := ty, pos := pos, after := af, guard := none } :: rest) g F L) : SX P w0 D n q ops Q ({ dst := dst, op := .call { callee := .builtin .delete, args := #[m, x], argTypes := ts }, type := ty, pos := pos, after := af, guard := none } :: rest) g F L := h
end
end Go.Port

set_option linter.unusedSimpArgs false
set_option linter.unusedVariables false
namespace Go.Port
open Go.RowKit
/-- A heap of pieces. -/
structure Hp where
  (began ttl fin height : Int)
  (bad : Bool)
  (body : List Int)
  (has : List Bool)
/-- A heap in a pool: its name, its blocks, when it was put. -/
structure He (κ : Type) where
  (k : κ)
  (hb bb sb born : Nat)
  (h : Hp)
section
variable {κ : Type}
def He.ent (x : He κ) : κ × Value × Nat := (x.k, .pointer (some ⟨x.hb, 0, none⟩), x.born)
/-- A pool's heaps: names and births are told apart. -/
structure PoolOk (E : List (He κ)) (ck : Nat) : Prop where
  keys : (E.map (·.k)).Nodup
  borns : (E.map (·.born)).Nodup
  low : ∀ x ∈ E, x.born < ck
theorem PoolOk.filter {E : List (He κ)} {ck : Nat} (h : PoolOk E ck) (p : He κ → Bool) : PoolOk (E.filter p) ck :=
  ⟨h.keys.sublist (List.filter_sublist.map _), h.borns.sublist (List.filter_sublist.map _), fun x hx => h.low x (List.mem_filter.1 hx).1⟩
theorem lkK_some [DecidableEq κ] : ∀ {M : MK κ} {e : κ × Value × Nat}, (M.map (·.1)).Nodup → e ∈ M → ∃ j, lkK M e.1 = some (j, e.2.1) ∧ M.eraseIdx j = M.filter (fun y => decide (y.1 ≠ e.1)) ∧ M[j]? = some e
  | [], e, _, h => by cases h
  | y :: M, e, hn, h => by
    rw [List.map_cons, List.nodup_cons] at hn
    by_cases he : y.1 = e.1
    · have hye : y = e := by
        rcases List.mem_cons.1 h with rfl | h
        · rfl
        · exact absurd (he ▸ List.mem_map_of_mem (f := fun x : κ × Value × Nat => x.1) h) hn.1
      subst hye
      refine ⟨0, by rw [lkK, if_pos rfl], ?_, rfl⟩
      rw [List.eraseIdx_cons_zero, List.filter_cons, if_neg (by simp)]
      exact (List.filter_eq_self.2 fun z hz => by
        have : ¬ z.1 = y.1 := fun hx => hn.1 (hx ▸ List.mem_map_of_mem (f := fun x : κ × Value × Nat => x.1) hz)
        simpa using this).symm
    · have hm : e ∈ M := by
        rcases List.mem_cons.1 h with rfl | h
        · exact absurd rfl he
        · exact h
      obtain ⟨j, h1, h2, h3⟩ := lkK_some hn.2 hm
      refine ⟨j + 1, by rw [lkK, if_neg he, h1]; rfl, ?_, by simpa using h3⟩
      rw [List.eraseIdx_cons_succ, h2, List.filter_cons, if_pos (by simpa using he)]
/-- Forgotten so far: those that came, and are old. -/
def keepS (S : List Nat) (old : He κ → Bool) (x : He κ) : Bool := !(S.contains x.born && old x)
def entsS (E : List (He κ)) (S : List Nat) (old : He κ → Bool) : MK κ := (E.filter (keepS S old)).map He.ent
theorem inj_of_nodup {α β : Type} {f : α → β} : ∀ {l : List α}, (l.map f).Nodup → ∀ {x y : α}, x ∈ l → y ∈ l → f x = f y → x = y
  | [], _, _, _, h, _, _ => by cases h
  | a :: l, hn, x, y, hx, hy, he => by
    rw [List.map_cons, List.nodup_cons] at hn
    rcases List.mem_cons.1 hx with h1 | h1
    · rcases List.mem_cons.1 hy with h2 | h2
      · rw [h1, h2]
      · exact absurd (h1 ▸ he ▸ List.mem_map_of_mem (f := f) h2) hn.1
    · rcases List.mem_cons.1 hy with h2 | h2
      · exact absurd (h2 ▸ he ▸ List.mem_map_of_mem (f := f) h1) hn.1
      · exact inj_of_nodup hn.2 h1 h2 he
theorem left_less {M M' : MK κ} {S : List Nat} {e : κ × Value × Nat} (he : e ∈ M) (hs : e.2.2 ∉ S) (hsub : M'.Sublist M) : (leftK M' (S ++ [e.2.2])).length < (leftK M S).length := by
  have h1 : (leftK M' (S ++ [e.2.2])).Sublist (leftK M (S ++ [e.2.2])) := hsub.filter _
  have h2 : leftK M (S ++ [e.2.2]) = (leftK M S).filter (fun y => !decide (y.2.2 = e.2.2)) := by
    unfold leftK
    rw [List.filter_filter]
    refine List.filter_congr fun y _ => ?_
    by_cases h : y.2.2 = e.2.2 <;> simp [h]
  have h3 : (leftK M (S ++ [e.2.2])).length < (leftK M S).length := by
    rw [h2]
    refine Nat.lt_of_le_of_ne (List.length_filter_le _ _) fun h => ?_
    have h4 := List.length_filter_eq_length_iff.1 h e (leftK_mem.2 ⟨he, hs⟩)
    simp at h4
  exact Nat.lt_of_le_of_lt h1.length_le h3
end
end Go.Port

set_option linter.unusedSimpArgs false
set_option linter.unusedVariables false
namespace Go.Port
open Go.RowKit
/-- A map's content: the key, what it holds, when it was put. -/
abbrev Mg (κ α : Type) := List (κ × α × Nat)
section
variable {κ α : Type} {val : α → Value}
def gM (val : α → Value) (C : Mg κ α) : MK κ := C.map fun e => (e.1, val e.2.1, e.2.2)
structure MgOk (C : Mg κ α) (ck : Nat) : Prop where
  keys : (C.map (·.1)).Nodup
  borns : (C.map (·.2.2)).Nodup
  low : ∀ e ∈ C, e.2.2 < ck
theorem MgOk.nil : MgOk ([] : Mg κ α) 0 := ⟨List.nodup_nil, List.nodup_nil, fun _ h => nomatch h⟩
theorem gM_len (C : Mg κ α) : (gM val C).length = C.length := List.length_map _
theorem gM_keys {C : Mg κ α} {ck : Nat} (h : MgOk C ck) : ((gM val C).map (·.1)).Nodup := by
  unfold gM
  rw [List.map_map]
  exact h.keys
theorem gM_borns {C : Mg κ α} {ck : Nat} (h : MgOk C ck) : ((gM val C).map (·.2.2)).Nodup := by
  unfold gM
  rw [List.map_map]
  exact h.borns
theorem gM_low {C : Mg κ α} {ck : Nat} (h : MgOk C ck) : ∀ e ∈ gM val C, e.2.2 < ck := fun e he => by
  obtain ⟨x, hx, rfl⟩ := List.mem_map.1 he
  exact h.low x hx
theorem MgOk.filter {C : Mg κ α} {ck : Nat} (h : MgOk C ck) (p : κ × α × Nat → Bool) : MgOk (C.filter p) ck :=
  ⟨h.keys.sublist (List.filter_sublist.map _), h.borns.sublist (List.filter_sublist.map _), fun x hx => h.low x (List.mem_filter.1 hx).1⟩
/-- Gone so far: those that came, and are to go. -/
def keepG (S : List Nat) (old : κ × α × Nat → Bool) (e : κ × α × Nat) : Bool := !(S.contains e.2.2 && old e)
theorem cutG_del [DecidableEq κ] {C : Mg κ α} {ck : Nat} (h : MgOk C ck) {S : List Nat} {old : κ × α × Nat → Bool} {x : κ × α × Nat} (hx : x ∈ C) (ho : old x = true) : (C.filter (keepG S old)).filter (fun y => decide (y.1 ≠ x.1)) = C.filter (keepG (S ++ [x.2.2]) old) := by
  rw [List.filter_filter]
  refine List.filter_congr fun y hy => ?_
  unfold keepG
  by_cases he : y = x
  · subst he
    simp [ho]
  · have h1 : y.1 ≠ x.1 := fun e => he (inj_of_nodup h.keys hy hx e)
    have h2 : y.2.2 ≠ x.2.2 := fun e => he (inj_of_nodup h.borns hy hx e)
    simp [h1, h2]
theorem cutG_stay {C : Mg κ α} {ck : Nat} (h : MgOk C ck) {S : List Nat} {old : κ × α × Nat → Bool} {x : κ × α × Nat} (hx : x ∈ C) (ho : old x = false) : C.filter (keepG S old) = C.filter (keepG (S ++ [x.2.2]) old) := by
  refine List.filter_congr fun y hy => ?_
  unfold keepG
  by_cases he : y = x
  · subst he
    simp [ho]
  · have h2 : y.2.2 ≠ x.2.2 := fun e => he (inj_of_nodup h.borns hy hx e)
    simp [h2]
theorem cutG_all {C : Mg κ α} {S : List Nat} {old : κ × α × Nat → Bool} (h : leftK (gM val (C.filter (keepG S old))) S = []) : C.filter (keepG S old) = C.filter (fun x => !old x) := by
  refine List.filter_congr fun y hy => ?_
  unfold keepG
  by_cases hb : y.2.2 ∈ S
  · simp [hb]
  · have h1 : (y.1, val y.2.1, y.2.2) ∈ leftK (gM val (C.filter (keepG S old))) S := by
      rw [leftK_mem]
      refine ⟨List.mem_map_of_mem (f := fun e : κ × α × Nat => (e.1, val e.2.1, e.2.2)) (List.mem_filter.2 ⟨hy, ?_⟩), hb⟩
      unfold keepG
      simp [hb]
    rw [h] at h1
    cases h1
theorem cutG_none (C : Mg κ α) (old : κ × α × Nat → Bool) : C.filter (keepG [] old) = C := List.filter_eq_self.2 fun x _ => by simp [keepG]
theorem leftG_step {C C' : Mg κ α} {S : List Nat} {x : κ × α × Nat} (hx : x ∈ C) (hs : x.2.2 ∉ S) (hsub : (gM val C').Sublist (gM val C)) : (leftK (gM val C') (S ++ [x.2.2])).length < (leftK (gM val C) S).length :=
  left_less (e := (x.1, val x.2.1, x.2.2)) (List.mem_map_of_mem (f := fun e : κ × α × Nat => (e.1, val e.2.1, e.2.2)) hx) hs hsub
theorem left_gM (C : Mg κ α) (S : List Nat) : leftK (gM val C) S = gM val (C.filter (fun e => !S.contains e.2.2)) := by
  unfold leftK gM
  rw [List.filter_map]
  rfl
theorem came_stepG [DecidableEq κ] : ∀ {C : Mg κ α} {S : List Nat} {x : κ × α × Nat}, (C.map (·.2.2)).Nodup → x ∈ C → x.2.2 ∉ S → (C.filter (fun e => !S.contains e.2.2)).Perm (x :: C.filter (fun e => !(S ++ [x.2.2]).contains e.2.2))
  | [], _, _, _, h, _ => nomatch h
  | e :: C, S, x, hn, hx, hs => by
    rw [List.map_cons, List.nodup_cons] at hn
    rw [List.filter_cons, List.filter_cons]
    by_cases he : e.2.2 = x.2.2
    · have hex : e = x := by
        rcases List.mem_cons.1 hx with h | h
        · exact h.symm
        · exact absurd (by rw [he]; exact List.mem_map_of_mem (f := fun e : κ × α × Nat => e.2.2) h) hn.1
      subst hex
      rw [if_pos (by simp [hs]), if_neg (by simp)]
      refine .cons _ (.of_eq (List.filter_congr fun y hy => ?_))
      have h2 : y.2.2 ≠ e.2.2 := fun h => hn.1 (by rw [← h]; exact List.mem_map_of_mem (f := fun e : κ × α × Nat => e.2.2) hy)
      simp [h2]
    · have hxC : x ∈ C := by
        rcases List.mem_cons.1 hx with h | h
        · exact absurd (congrArg (fun y : κ × α × Nat => y.2.2) h).symm he
        · exact h
      have ih := came_stepG hn.2 hxC hs
      by_cases hb : e.2.2 ∈ S
      · rw [if_neg (by simp [hb]), if_neg (by simp [hb])]
        exact ih
      · rw [if_pos (by simp [hb]), if_pos (by simp [hb, he])]
        exact (ih.cons e).trans (.swap _ _ _)
/-- What is held of a key. -/
def lkG [DecidableEq κ] : Mg κ α → κ → Option α
  | [], _ => none
  | e :: C, k => if e.1 = k then some e.2.1 else lkG C k
theorem gM_none [DecidableEq κ] : ∀ {C : Mg κ α} {k : κ}, (∀ x ∈ C, x.1 ≠ k) → lkK (gM val C) k = none ∧ lkG C k = none
  | [], _, _ => ⟨rfl, rfl⟩
  | e :: C, k, h => by
    obtain ⟨h1, h2⟩ := gM_none fun x hx => h x (List.Mem.tail _ hx)
    have he := h e (List.Mem.head _)
    refine ⟨?_, by rw [lkG, if_neg he, h2]⟩
    show lkK ((e.1, val e.2.1, e.2.2) :: gM val C) k = none
    rw [lkK, if_neg he, h1]
    rfl
theorem gM_some [DecidableEq κ] : ∀ {C : Mg κ α} {x : κ × α × Nat}, (C.map (·.1)).Nodup → x ∈ C → ∃ j, C[j]? = some x ∧ lkK (gM val C) x.1 = some (j, val x.2.1) ∧ (gM val C)[j]? = some (x.1, val x.2.1, x.2.2) ∧ lkG C x.1 = some x.2.1
  | [], _, _, h => nomatch h
  | e :: C, x, hn, hx => by
    rw [List.map_cons, List.nodup_cons] at hn
    by_cases he : e.1 = x.1
    · have hex : e = x := by
        rcases List.mem_cons.1 hx with h | h
        · exact h.symm
        · exact absurd (by rw [he]; exact List.mem_map_of_mem (f := fun e : κ × α × Nat => e.1) h) hn.1
      subst hex
      refine ⟨0, rfl, ?_, rfl, by rw [lkG, if_pos rfl]⟩
      show lkK ((e.1, val e.2.1, e.2.2) :: gM val C) e.1 = _
      rw [lkK, if_pos rfl]
    · have hxC : x ∈ C := by
        rcases List.mem_cons.1 hx with h | h
        · exact absurd (by rw [h]) he
        · exact h
      obtain ⟨j, h1, h2, h3, h4⟩ := gM_some hn.2 hxC
      refine ⟨j + 1, by simpa using h1, ?_, ?_, by rw [lkG, if_neg he, h4]⟩
      · show lkK ((e.1, val e.2.1, e.2.2) :: gM val C) x.1 = _
        rw [lkK, if_neg he, h2]
        rfl
      · show (_ :: gM val C)[j + 1]? = _
        rw [List.getElem?_cons_succ]
        exact h3
theorem okG_set {C : Mg κ α} {ck j : Nat} {x : κ × α × Nat} (h : MgOk C ck) (hj : C[j]? = some x) (v : α) : MgOk (C.set j (x.1, v, x.2.2)) ck := by
  have hlt := (List.getElem?_eq_some_iff.1 hj).1
  have e1 : ∀ {β : Type} (f : κ × α × Nat → β), f (x.1, v, x.2.2) = f x → (C.set j (x.1, v, x.2.2)).map f = C.map f := fun f hf => by
    rw [List.map_set, hf]
    refine List.ext_getElem? fun i => ?_
    rw [List.getElem?_set, List.length_map]
    by_cases hi : j = i
    · subst hi
      rw [if_pos rfl, if_pos hlt, List.getElem?_map, hj]
      rfl
    · rw [if_neg hi]
  refine ⟨by rw [e1 _ rfl]; exact h.keys, by rw [e1 _ rfl]; exact h.borns, fun e he => ?_⟩
  rcases List.mem_or_eq_of_mem_set he with h1 | rfl
  · exact h.low e h1
  · exact h.low x (List.mem_of_getElem? hj)
theorem gM_set {C : Mg κ α} {j : Nat} {k : κ} {v : α} {b : Nat} : (gM val C).set j (k, val v, b) = gM val (C.set j (k, v, b)) := by
  unfold gM
  rw [List.map_set]
theorem okG_snoc {C : Mg κ α} {ck : Nat} {k : κ} (h : MgOk C ck) (hk : ∀ x ∈ C, x.1 ≠ k) (v : α) : MgOk (C ++ [(k, v, ck)]) (ck + 1) := by
  refine ⟨?_, ?_, fun e he => ?_⟩
  · rw [List.map_append]
    refine List.nodup_append.2 ⟨h.keys, by simp, fun a ha b hb => ?_⟩
    obtain ⟨x, hx, rfl⟩ := List.mem_map.1 ha
    have e : b = k := by simpa using hb
    rw [e]
    exact hk x hx
  · rw [List.map_append]
    refine List.nodup_append.2 ⟨h.borns, by simp, fun a ha b hb => ?_⟩
    obtain ⟨x, hx, rfl⟩ := List.mem_map.1 ha
    have e : b = ck := by simpa using hb
    have := h.low x hx
    omega
  · rcases List.mem_append.1 he with h1 | h1
    · have := h.low e h1; omega
    · have e1 : e = (k, v, ck) := by simpa using h1
      rw [e1]
      exact Nat.lt_succ_self _
theorem gM_snoc {C : Mg κ α} {k : κ} {v : α} {b : Nat} : gM val C ++ [(k, val v, b)] = gM val (C ++ [(k, v, b)]) := by
  unfold gM
  rw [List.map_append]
  rfl
theorem gM_del [DecidableEq κ] {C : Mg κ α} {ck : Nat} (h : MgOk C ck) {x : κ × α × Nat} (hx : x ∈ C) : ∃ j, lkK (gM val C) x.1 = some (j, val x.2.1) ∧ (gM val C).eraseIdx j = gM val (C.filter (fun y => decide (y.1 ≠ x.1))) := by
  obtain ⟨j, h1, h2, _⟩ := lkK_some (gM_keys h) (List.mem_map_of_mem (f := fun e : κ × α × Nat => (e.1, val e.2.1, e.2.2)) hx)
  refine ⟨j, h1, h2.trans ?_⟩
  unfold gM
  rw [List.filter_map]
  rfl
end
end Go.Port

set_option linter.unusedSimpArgs false
set_option linter.unusedVariables false
namespace Go.Port
/-- A number in so many bytes. -/
def beN (n : Int) : Nat → List Int
  | 0 => []
  | k + 1 => (n / 256 ^ k % 256) :: beN n k
/-- .. and back. -/
def ofB : List Int → Int
  | [] => 0
  | x :: l => x * 256 ^ l.length + ofB l
def getN (l : List Int) (at_ size : Nat) : Int := ofB ((l.drop at_).take size)
theorem beN_len (n : Int) : ∀ k, (beN n k).length = k
  | 0 => rfl
  | k + 1 => by rw [beN, List.length_cons, beN_len n k]
theorem ofB_be {n : Int} (hn : 0 ≤ n) : ∀ k, ofB (beN n k) = n % 256 ^ k
  | 0 => by simp [beN, ofB]
  | k + 1 => by
    rw [beN, ofB, beN_len, ofB_be hn k]
    have hp : (0 : Int) < 256 ^ k := Int.pow_pos (by decide)
    rw [Int.pow_succ]
    generalize (256 : Int) ^ k = p at *
    have h0 := Int.mul_ediv_add_emod n p
    have h1 := Int.mul_ediv_add_emod (n / p) 256
    have h2 := Int.emod_nonneg n (show p ≠ 0 by omega)
    have h3 := Int.emod_lt_of_pos n hp
    have h4 : 0 ≤ n / p % 256 ∧ n / p % 256 ≤ 255 := by omega
    have h5 : 0 ≤ n / p % 256 * p := Int.mul_nonneg h4.1 (by omega)
    have h6 : n / p % 256 * p ≤ 255 * p := Int.mul_le_mul_of_nonneg_right h4.2 (by omega)
    have h7 : n = (n / p % 256 * p + n % p) + p * 256 * (n / p / 256) := by
      have : p * (256 * (n / p / 256) + n / p % 256) + n % p = n := by rw [h1]; exact h0
      rw [Int.mul_add] at this
      rw [Int.mul_assoc, Int.mul_comm (n / p % 256) p]
      omega
    have h8 : n % (p * 256) = (n / p % 256 * p + n % p) % (p * 256) := by
      conv => lhs; rw [h7]
      exact Int.add_mul_emod_self_left _ _ _
    rw [h8]; exact (Int.emod_eq_of_lt (by omega) (by omega)).symm
/-- A number that lies there. -/
theorem getN_mid {pre post : List Int} {x : Int} {a q : Nat} (hx : 0 ≤ x) (ha : pre.length = a) : getN (pre ++ (beN x q ++ post)) a q = x % 256 ^ q := by
  unfold getN
  subst ha
  rw [List.drop_left, List.take_left' (beN_len x q), ofB_be hx]
/-- A packet's head but for its sum. -/
def wHead (k t i s d a : Int) (m : Bool) (n : Nat) : List Int := [80 + k, t] ++ beN (18 + n) 2 ++ beN i 2 ++ beN (if m then a + 32768 else a) 2
def wTail (s d : Int) : List Int := beN s 4 ++ beN d 4
def wSum (k t i s d a : Int) (m : Bool) (n : Nat) : Int := 65535 - total (wHead k t i s d a m n ++ [0, 0] ++ wTail s d)
/-- A packet as bytes. -/
def wire (k t i s d a : Int) (m : Bool) (l : List Int) : List Int := wHead k t i s d a m l.length ++ beN (wSum k t i s d a m l.length) 2 ++ wTail s d ++ l
/-- What is wrong with bytes that ought to begin with a packet. -/
def rdErr (b : List Int) : Int :=
  if b.length < 18 then 8 else if nth b 0 < 80 ∨ 95 < nth b 0 then 2 else if total (b.take 18) ≠ 65535 then 9 else if getN b 2 2 < 18 then 3 else if 4018 < getN b 2 2 then 4 else if (b.length : Int) < getN b 2 2 then 8 else 0
end Go.Port

set_option linter.unusedSimpArgs false
set_option linter.unusedVariables false
namespace Go.Port
/-- How long a segment's head is. -/
def sgSize (kind : Int) : Nat := if kind = 1 then 17 else if kind = 2 then 6 else 8
/-- What stands ahead of the sum. -/
def sgHead (kind f t q a x y : Int) : List Int :=
  if kind = 1 then beN f 2 ++ beN t 2 ++ (beN q 4 ++ beN a 4) ++ ([y % 256] ++ beN x 2) else if kind = 2 then beN f 2 ++ beN t 2 else [f % 256] ++ beN t 2 ++ beN q 2 ++ [0]
/-- A segment, with a sum. -/
def sgBytes (kind f t q a x y : Int) (l : List Int) (n : Int) : List Int := sgHead kind f t q a x y ++ beN n 2 ++ l
def sgTop (kind src dst : Int) : List Int := beN src 4 ++ beN dst 4 ++ [0, kind % 256]
def sgSum (kind f t q a x y src dst : Int) (l : List Int) : Int := 65535 - total (sgTop kind src dst ++ sgBytes kind f t q a x y l 0)
/-- Bytes with noughts where the sum stands. -/
def sgZero (kind : Int) (l : List Int) : List Int := (l.set (sgSize kind - 2) 0).set (sgSize kind - 1) 0
/-- What is wrong with bytes that ought to be a segment. -/
def sgRdErr (kind src dst : Int) (l : List Int) : Int :=
  if (kind < 1 ∨ 3 < kind) ∨ ¬ (0 ≤ src ∧ src ≤ 4294967295) ∨ ¬ (0 ≤ dst ∧ dst ≤ 4294967295) then 1 else if l.length < sgSize kind then 8 else if 4000 < l.length then 4 else
    if ¬ 65535 - total (sgTop kind src dst ++ sgZero kind l) = getN l (sgSize kind - 2) 2 then 9 else if (kind = 3 ∧ 1 < nth l 0) ∨ (kind = 1 ∧ 15 < nth l 12) then 1 else if kind = 3 ∧ ¬ nth l 5 = 0 then 3 else 0
def sgF (kind : Int) (l : List Int) : Int := if kind = 3 then nth l 0 else getN l 0 2
def sgT (kind : Int) (l : List Int) : Int := if kind = 3 then getN l 1 2 else getN l 2 2
def sgQ (kind : Int) (l : List Int) : Int := if kind = 1 then getN l 4 4 else if kind = 3 then getN l 3 2 else 0
def sgA (kind : Int) (l : List Int) : Int := if kind = 1 then getN l 8 4 else 0
def sgX (kind : Int) (l : List Int) : Int := if kind = 1 then getN l 13 2 else 0
def sgY (kind : Int) (l : List Int) : Int := if kind = 1 then nth l 12 else 0
end Go.Port
namespace Go.Port
theorem g2 {pre post : List Int} {x : Int} {a : Nat} (hx : 0 ≤ x ∧ x ≤ 65535) (ha : pre.length = a) : getN (pre ++ (beN x 2 ++ post)) a 2 = x :=
  (getN_mid hx.1 ha).trans (Int.emod_eq_of_lt (by omega) (by show _ < (65536 : Int); omega))
theorem g4 {pre post : List Int} {x : Int} {a : Nat} (hx : 0 ≤ x ∧ x ≤ 4294967295) (ha : pre.length = a) : getN (pre ++ (beN x 4 ++ post)) a 4 = x :=
  (getN_mid hx.1 ha).trans (Int.emod_eq_of_lt (by omega) (by show _ < (4294967296 : Int); omega))
def SgOk (kind f t q a x y src dst : Int) (n : Nat) : Prop := (1 ≤ kind ∧ kind ≤ 3) ∧ (0 ≤ src ∧ src ≤ 4294967295) ∧ (0 ≤ dst ∧ dst ≤ 4294967295) ∧ (0 ≤ f ∧ f ≤ 65535) ∧ (0 ≤ t ∧ t ≤ 65535) ∧ (0 ≤ x ∧ x ≤ 65535) ∧ (0 ≤ q ∧ q ≤ 4294967295) ∧ (0 ≤ a ∧ a ≤ 4294967295) ∧ (0 ≤ y ∧ y ≤ 15) ∧ n + sgSize kind ≤ 4000 ∧
    (kind = 3 → f ≤ 1 ∧ q ≤ 65535) ∧ (kind ≠ 1 → a = 0 ∧ x = 0 ∧ y = 0) ∧ (kind = 2 → q = 0)
/-- How two numbers compare. -/
def cmpI (a b : Int) : Int := if a < b then -1 else if b < a then 1 else 0
/-- The first that is not 0. -/
def orI5 : List Int → Int
  | [] => 0
  | x :: l => if x ≠ 0 then x else orI5 l
/-- A key: kind, source, from, destination, to. -/
structure K5 where
  k : Int
  s : Int
  f : Int
  d : Int
  t : Int
def K5.turn (x : K5) : K5 := ⟨x.k, x.d, x.t, x.s, x.f⟩
def K5.cmp (x y : K5) : Int := orI5 [cmpI x.k y.k, cmpI x.s y.s, cmpI x.f y.f, cmpI x.d y.d, cmpI x.t y.t]
noncomputable def K5.first (x : K5) : K5 := if x.turn.cmp x < 0 then x.turn else x
theorem cmpI_zero {a b : Int} : cmpI a b = 0 ↔ a = b := by unfold cmpI; split <;> (try split) <;> omega
end Go.Port

set_option linter.unusedSimpArgs false
set_option linter.unusedVariables false
namespace Go.Port
/-- How long a flow is kept. -/
def lifeI (k s : Int) : Int := if (k = 1 ∧ s = 1) ∨ (k = 2 ∧ s = 1) then 30 else if k = 1 ∧ s = 2 then 300 else if (k = 1 ∧ s = 3) ∨ (k = 2 ∧ s = 2) then 60 else if (k = 1 ∧ s = 4) ∨ (k = 3 ∧ s = 1) then 10 else if k = 3 ∧ s = 2 then 20 else 0
/-- Is a segment (from, to) of a flow, if a side says it? -/
def saidB (k : K5) (f t side : Int) : Bool := if k.k = 3 then decide (t = (if side = 1 then k.turn else k).f) && decide (t = (if side = 1 then k.turn else k).t) && decide (f = side) else decide (f = (if side = 1 then k.turn else k).f) && decide (t = (if side = 1 then k.turn else k).t)
def hasI (y b : Int) : Bool := decide (¬ andI y b = 0)
/-- The number behind a segment. -/
def endI (q y : Int) (n : Nat) : Int := (q + n + (if hasI y 2 then 1 else 0) + (if hasI y 1 then 1 else 0)) % 4294967296
def aheadB (a b : Int) : Bool := decide (¬ a = b) && decide ((a - b) % 4294967296 < 2147483648)
/-- A flow. -/
structure Fl where
  (k s f d t : Int)
  (st un sp h0 h1 w0 w1 : Int)
  (d0 d1 : Bool)
  (nm : Int)
def Fl.row (x : Fl) : List Value := [.int .i64 x.k, .int .i64 x.s, .int .i64 x.f, .int .i64 x.d, .int .i64 x.t, .int .i64 x.st, .int .i64 x.un, .int .i64 x.sp, .int .i64 x.h0, .int .i64 x.h1, .int .i64 x.w0, .int .i64 x.w1, .bool x.d0, .bool x.d1, .int .i64 x.nm]
def Fl.zero : Fl := ⟨0, 0, 0, 0, 0, 0, 0, 0, 0, 0, 0, 0, false, false, 0⟩
def keyOk (k s f d t : Int) : Prop := (1 ≤ k ∧ k ≤ 3) ∧ (0 ≤ s ∧ s ≤ 4294967295) ∧ (0 ≤ d ∧ d ≤ 4294967295) ∧ (0 ≤ f ∧ f ≤ 65535) ∧ (0 ≤ t ∧ t ≤ 65535)
instance {k s f d t : Int} : Decidable (keyOk k s f d t) := by unfold keyOk; infer_instance
def Fl.bad1 (x : Fl) : Prop := (¬ x.st = 1 ∧ ¬ x.st = 2 ∧ ¬ (x.k = 1 ∧ (x.st = 3 ∨ x.st = 4))) ∨ (x.un < 0 ∨ 2000000 < x.un ∨ x.sp < 1 ∨ 1000000 < x.sp ∨ ¬ (-1 ≤ x.nm ∧ x.nm ≤ 200)) ∨ (¬ (0 ≤ x.h0 ∧ x.h0 ≤ 4294967295) ∨ ¬ (0 ≤ x.h1 ∧ x.h1 ≤ 4294967295) ∨ ¬ (0 ≤ x.w0 ∧ x.w0 ≤ 65535) ∨ ¬ (0 ≤ x.w1 ∧ x.w1 ≤ 65535))
def Fl.bad3 (x : Fl) : Prop := (¬ x.k = 1 ∧ ((¬ (x.h0 = 0 ∧ x.h1 = 0) ∨ ¬ (x.w0 = 0 ∧ x.w1 = 0)) ∨ ¬ (x.d0 = false ∧ x.d1 = false))) ∨ (x.k = 3 ∧ ¬ x.f = x.t)
open Classical in
/-- What is wrong with a flow. -/
noncomputable def Fl.err (x : Fl) : Int := if ¬ keyOk x.k x.s x.f x.d x.t then 1 else if x.bad1 then 1 else if x.bad3 then 3 else 0
theorem key_of {k s f d t : Int} (h : (if ¬ keyOk k s f d t then (1 : Int) else 0) = 0) : keyOk k s f d t := by
  by_cases hk : keyOk k s f d t
  · exact hk
  · rw [if_pos hk] at h; cases h
theorem key_not {k s f d t : Int} (h : ¬ (if ¬ keyOk k s f d t then (1 : Int) else 0) = 0) : ¬ keyOk k s f d t := by
  intro hk; rw [if_neg (by rw [Classical.not_not]; exact hk)] at h; exact h rfl
section
variable {k s f d t st un sp h0 h1 w0 w1 nm : Int} {d0 d1 : Bool}
theorem fl_err0 (hk : ¬ keyOk k s f d t) : Fl.err ⟨k, s, f, d, t, st, un, sp, h0, h1, w0, w1, d0, d1, nm⟩ = 1 := by
  unfold Fl.err
  rw [if_pos hk]
theorem fl_err1 (hk : keyOk k s f d t) (hb : (¬ st = 1 ∧ ¬ st = 2 ∧ ¬ (k = 1 ∧ (st = 3 ∨ st = 4))) ∨ (un < 0 ∨ 2000000 < un ∨ sp < 1 ∨ 1000000 < sp ∨ ¬ (-1 ≤ nm ∧ nm ≤ 200)) ∨ (¬ (0 ≤ h0 ∧ h0 ≤ 4294967295) ∨ ¬ (0 ≤ h1 ∧ h1 ≤ 4294967295) ∨ ¬ (0 ≤ w0 ∧ w0 ≤ 65535) ∨ ¬ (0 ≤ w1 ∧ w1 ≤ 65535))) : Fl.err ⟨k, s, f, d, t, st, un, sp, h0, h1, w0, w1, d0, d1, nm⟩ = 1 := by
  unfold Fl.err
  rw [if_neg (by rw [Classical.not_not]; exact hk), if_pos (show Fl.bad1 ⟨k, s, f, d, t, st, un, sp, h0, h1, w0, w1, d0, d1, nm⟩ from hb)]
theorem fl_err3 (hk : keyOk k s f d t) (hb : ¬ ((¬ st = 1 ∧ ¬ st = 2 ∧ ¬ (k = 1 ∧ (st = 3 ∨ st = 4))) ∨ (un < 0 ∨ 2000000 < un ∨ sp < 1 ∨ 1000000 < sp ∨ ¬ (-1 ≤ nm ∧ nm ≤ 200)) ∨ (¬ (0 ≤ h0 ∧ h0 ≤ 4294967295) ∨ ¬ (0 ≤ h1 ∧ h1 ≤ 4294967295) ∨ ¬ (0 ≤ w0 ∧ w0 ≤ 65535) ∨ ¬ (0 ≤ w1 ∧ w1 ≤ 65535))))
    (hc : ¬ k = 1 ∧ ((¬ (h0 = 0 ∧ h1 = 0) ∨ ¬ (w0 = 0 ∧ w1 = 0)) ∨ ¬ (d0 = false ∧ d1 = false)) ∨ k = 3 ∧ ¬ f = t) : Fl.err ⟨k, s, f, d, t, st, un, sp, h0, h1, w0, w1, d0, d1, nm⟩ = 3 := by
  unfold Fl.err
  rw [if_neg (by rw [Classical.not_not]; exact hk), if_neg (show ¬ Fl.bad1 ⟨k, s, f, d, t, st, un, sp, h0, h1, w0, w1, d0, d1, nm⟩ from hb), if_pos (show Fl.bad3 ⟨k, s, f, d, t, st, un, sp, h0, h1, w0, w1, d0, d1, nm⟩ from hc)]
theorem fl_ok (hk : keyOk k s f d t) (hb : ¬ ((¬ st = 1 ∧ ¬ st = 2 ∧ ¬ (k = 1 ∧ (st = 3 ∨ st = 4))) ∨ (un < 0 ∨ 2000000 < un ∨ sp < 1 ∨ 1000000 < sp ∨ ¬ (-1 ≤ nm ∧ nm ≤ 200)) ∨ (¬ (0 ≤ h0 ∧ h0 ≤ 4294967295) ∨ ¬ (0 ≤ h1 ∧ h1 ≤ 4294967295) ∨ ¬ (0 ≤ w0 ∧ w0 ≤ 65535) ∨ ¬ (0 ≤ w1 ∧ w1 ≤ 65535))))
    (hc : (k = 1 ∨ ((h0 = 0 ∧ h1 = 0) ∧ w0 = 0 ∧ w1 = 0) ∧ d0 = false ∧ d1 = false) ∧ (¬ k = 3 ∨ f = t)) : Fl.err ⟨k, s, f, d, t, st, un, sp, h0, h1, w0, w1, d0, d1, nm⟩ = 0 := by
  have h3 : ¬ ((¬ k = 1 ∧ ((¬ (h0 = 0 ∧ h1 = 0) ∨ ¬ (w0 = 0 ∧ w1 = 0)) ∨ ¬ (d0 = false ∧ d1 = false))) ∨ (k = 3 ∧ ¬ f = t)) := by
    rintro (⟨a, (b | b) | b⟩ | ⟨a, b⟩)
    · rcases hc.1 with e | e
      · exact a e
      · exact b e.1.1
    · rcases hc.1 with e | e
      · exact a e
      · exact b e.1.2
    · rcases hc.1 with e | e
      · exact a e
      · exact b e.2
    · rcases hc.2 with e | e
      · exact e a
      · exact b e
  unfold Fl.err
  rw [if_neg (by rw [Classical.not_not]; exact hk), if_neg (show ¬ Fl.bad1 ⟨k, s, f, d, t, st, un, sp, h0, h1, w0, w1, d0, d1, nm⟩ from hb), if_neg (show ¬ Fl.bad3 ⟨k, s, f, d, t, st, un, sp, h0, h1, w0, w1, d0, d1, nm⟩ from h3)]
end
def aheadI (a b : Int) : Int := if ¬ a = b ∧ (a - b) % 4294967296 < 2147483648 then 1 else 0
def nearI (a b most : Int) : Int := if 0 ≤ most ∧ most ≤ 1073741824 ∧ ((a - b) % 4294967296 ≤ most ∨ (b - a) % 4294967296 ≤ most) then 1 else 0
/-- What becomes of the state behind a step. -/
def Fl.settle (x : Fl) : Fl := if x.st = 4 then x else if x.d0 = true ∧ x.d1 = true then { x with st := 4 } else if x.d0 = true ∨ x.d1 = true then { x with st := 3 } else x
/-- What a stream's flow becomes with a segment of side 0; none: it is refused. -/
def streamS0 (x : Fl) (q a wn y : Int) (n : Nat) : Option Fl :=
  if ¬ andI y 4 = 0 then (if ¬ q = x.h0 then none else some { x with st := 4 })
  else if x.st = 1 then (if ¬ y = 2 ∨ ¬ endI q y n = x.h0 then none else some { x with w0 := wn })
  else if ¬ andI y 2 = 0 ∨ ¬ nearI q x.h0 (max 1 x.w1) = 1 ∨ (¬ andI y 8 = 0 ∧ ¬ nearI a x.h1 (max 1 x.w0) = 1) then none
  else if x.d0 = true ∧ aheadI (endI q y n) x.h0 = 1 then none
  else some (Fl.settle { x with h0 := if aheadI (endI q y n) x.h0 = 1 then endI q y n else x.h0, w0 := wn, d0 := x.d0 || hasI y 1 })
/-- .. of side 1. -/
def streamS1 (x : Fl) (q a wn y : Int) (n : Nat) : Option Fl :=
  if ¬ andI y 4 = 0 then
    if x.st = 1 then (if andI y 8 = 0 ∨ ¬ a = x.h0 then none else some { x with st := 4 })
    else if ¬ q = x.h1 then none else some { x with st := 4 }
  else if x.st = 1 then (if ¬ y = 10 ∨ ¬ a = x.h0 then none else some { x with st := 2, h1 := endI q y n, w1 := wn })
  else if ¬ andI y 2 = 0 ∨ ¬ nearI q x.h1 (max 1 x.w0) = 1 ∨ (¬ andI y 8 = 0 ∧ ¬ nearI a x.h0 (max 1 x.w1) = 1) then none
  else if x.d1 = true ∧ aheadI (endI q y n) x.h1 = 1 then none
  else some (Fl.settle { x with h1 := if aheadI (endI q y n) x.h1 = 1 then endI q y n else x.h1, w1 := wn, d1 := x.d1 || hasI y 1 })
section
variable {k s f d t st un sp h0 h1 w0 w1 nm q a wn y S H : Int} {d0 d1 D0 : Bool} {n : Nat}
theorem settle_is {x : Fl} (hS : S = if x.st = 4 then x.st else if x.d0 = true ∧ x.d1 = true then 4 else if x.d0 = true ∨ x.d1 = true then 3 else x.st) : Fl.settle x = { x with st := S } := by
  unfold Fl.settle
  rw [hS]
  by_cases e1 : x.st = 4
  · rw [if_pos e1, if_pos e1]
  · rw [if_neg e1, if_neg e1]
    by_cases e2 : x.d0 = true ∧ x.d1 = true
    · rw [if_pos e2, if_pos e2]
    · rw [if_neg e2, if_neg e2]
      by_cases e3 : x.d0 = true ∨ x.d1 = true
      · rw [if_pos e3, if_pos e3]
      · rw [if_neg e3, if_neg e3]
theorem stream0_some (h4 : andI y 4 = 0) (hst : ¬ st = 1) (hpass : ¬ (¬ andI y 2 = 0 ∨ ¬ nearI q h0 (max 1 w1) = 1 ∨ (¬ andI y 8 = 0 ∧ ¬ nearI a h1 (max 1 w0) = 1))) (hm : ¬ (d0 = true ∧ aheadI (endI q y n) h0 = 1))
    (hH : H = if aheadI (endI q y n) h0 = 1 then endI q y n else h0) (hD : D0 = (d0 || hasI y 1)) (hS : S = if st = 4 then st else if D0 = true ∧ d1 = true then 4 else if D0 = true ∨ d1 = true then 3 else st) :
    streamS0 ⟨k, s, f, d, t, st, un, sp, h0, h1, w0, w1, d0, d1, nm⟩ q a wn y n = some ⟨k, s, f, d, t, S, un, sp, H, h1, wn, w1, D0, d1, nm⟩ := by
  subst hH hD
  dsimp only [streamS0]
  rw [if_neg (fun hh => hh h4), if_neg hst, if_neg hpass, if_neg hm, settle_is (S := S) hS]
theorem stream1_some (h4 : andI y 4 = 0) (hst : ¬ st = 1) (hpass : ¬ (¬ andI y 2 = 0 ∨ ¬ nearI q h1 (max 1 w0) = 1 ∨ (¬ andI y 8 = 0 ∧ ¬ nearI a h0 (max 1 w1) = 1))) (hm : ¬ (d1 = true ∧ aheadI (endI q y n) h1 = 1))
    (hH : H = if aheadI (endI q y n) h1 = 1 then endI q y n else h1) (hD : D0 = (d1 || hasI y 1)) (hS : S = if st = 4 then st else if d0 = true ∧ D0 = true then 4 else if d0 = true ∨ D0 = true then 3 else st) :
    streamS1 ⟨k, s, f, d, t, st, un, sp, h0, h1, w0, w1, d0, d1, nm⟩ q a wn y n = some ⟨k, s, f, d, t, S, un, sp, h0, H, w0, wn, d0, D0, nm⟩ := by
  subst hH hD
  dsimp only [streamS1]
  rw [if_neg (fun hh => hh h4), if_neg hst, if_neg hpass, if_neg hm, settle_is (S := S) hS]
end
end Go.Port

set_option linter.unusedSimpArgs false
set_option linter.unusedVariables false
namespace Go.Port
open Go.RowKit
instance : DecidableEq K5 := fun a b => decidable_of_iff (a.k = b.k ∧ a.s = b.s ∧ a.f = b.f ∧ a.d = b.d ∧ a.t = b.t) ⟨fun h => by
  obtain ⟨k, s, f, d, t⟩ := a
  obtain ⟨k', s', f', d', t'⟩ := b
  obtain ⟨h1, h2, h3, h4, h5⟩ := h
  dsimp only at h1 h2 h3 h4 h5
  subst h1 h2 h3 h4 h5
  rfl, fun h => by subst h; exact ⟨rfl, rfl, rfl, rfl, rfl⟩⟩
def kv5 (x : K5) : Value := .agg #[.int .i64 x.k, .int .i64 x.s, .int .i64 x.f, .int .i64 x.d, .int .i64 x.t]
def fval (x : Fl) : Value := .agg x.row.toArray
/-- A table's content: the flows by the first of their keys. -/
abbrev Tb := Mg K5 Fl
/-- Is it over? -/
def oldT (now : Int) (e : K5 × Fl × Nat) : Bool := decide (e.2.1.un ≤ now)
def stayT (now : Int) (C : Tb) : Tb := C.filter fun e => !oldT now e
/-- How many are not over. -/
def liveT (now : Int) (C : Tb) : Nat := (stayT now C).length
/-- The keys of those that are over. -/
def goneT (now : Int) (C : Tb) : List K5 := (C.filter (oldT now)).map fun e => ⟨e.2.1.k, e.2.1.s, e.2.1.f, e.2.1.d, e.2.1.t⟩
theorem lkG_mem {C : Tb} {ck : Nat} (h : MgOk C ck) {x : K5 × Fl × Nat} (hx : x ∈ C) : lkG C x.1 = some x.2.1 := by
  obtain ⟨_, _, _, _, h4⟩ := gM_some (val := fval) h.keys hx
  exact h4
/-- Who may begin has room: what was there by that key is over. -/
theorem stay_free {C : Tb} {ck : Nat} {now : Int} {k : K5} (h : MgOk C ck) (hk : ∀ z, lkG C k = some z → z.un ≤ now) : ∀ x ∈ stayT now C, x.1 ≠ k := fun x hx he => by
  obtain ⟨h1, h2⟩ := List.mem_filter.1 hx
  have h3 := hk x.2.1 (by rw [← he]; exact lkG_mem h h1)
  unfold oldT at h2
  simp at h2
  omega
theorem live_le (now : Int) (C : Tb) : liveT now C ≤ C.length := List.length_filter_le _ _
/-- Gone so far: those that came, and are over. -/
def goneS {κ α : Type} (S : List Nat) (old : κ × α × Nat → Bool) (C : Mg κ α) : Mg κ α := C.filter fun e => S.contains e.2.2 && old e
theorem gone_nil {κ α : Type} (old : κ × α × Nat → Bool) (C : Mg κ α) : goneS [] old C = [] := List.filter_eq_nil_iff.2 fun x _ => by simp
theorem gone_stay {κ α : Type} {old : κ × α × Nat → Bool} {C : Mg κ α} {S : List Nat} {x : κ × α × Nat} (hn : (C.map (·.2.2)).Nodup) (hx : x ∈ C) (ho : old x = false) : goneS (S ++ [x.2.2]) old C = goneS S old C := by
  refine List.filter_congr fun y hy => ?_
  by_cases he : y.2.2 = x.2.2
  · have e := inj_of_nodup hn hy hx he
    subst e
    simp [ho]
  · simp [he]
theorem gone_step {κ α : Type} {old : κ × α × Nat → Bool} : ∀ {C : Mg κ α} {S : List Nat} {x : κ × α × Nat}, (C.map (·.2.2)).Nodup → x ∈ C → x.2.2 ∉ S → old x = true → (goneS (S ++ [x.2.2]) old C).Perm (goneS S old C ++ [x])
  | [], _, _, _, h, _, _ => nomatch h
  | e :: C, S, x, hn, hx, hs, ho => by
    rw [List.map_cons, List.nodup_cons] at hn
    by_cases he : e.2.2 = x.2.2
    · have hex : e = x := by
        rcases List.mem_cons.1 hx with h | h
        · exact h.symm
        · exact absurd (by rw [he]; exact List.mem_map_of_mem (f := fun e : κ × α × Nat => e.2.2) h) hn.1
      subst hex
      unfold goneS
      rw [List.filter_cons, List.filter_cons, if_pos (by simp [ho]), if_neg (by simp [hs])]
      have h1 : C.filter (fun y => (S ++ [e.2.2]).contains y.2.2 && old y) = C.filter (fun y => S.contains y.2.2 && old y) := by
        refine List.filter_congr fun y hy => ?_
        have h2 : y.2.2 ≠ e.2.2 := fun h => hn.1 (by rw [← h]; exact List.mem_map_of_mem (f := fun e : κ × α × Nat => e.2.2) hy)
        simp [h2]
      rw [h1]
      exact (List.perm_append_singleton _ _).symm
    · have hxC : x ∈ C := by
        rcases List.mem_cons.1 hx with h | h
        · exact absurd (congrArg (fun y : κ × α × Nat => y.2.2) h).symm he
        · exact h
      have ih := gone_step hn.2 hxC hs ho
      unfold goneS at ih ⊢
      rw [List.filter_cons, List.filter_cons]
      have e1 : ((S ++ [x.2.2]).contains e.2.2 && old e) = (S.contains e.2.2 && old e) := by simp [he]
      rw [e1]
      split
      · exact ih.cons e
      · exact ih
theorem gone_all {κ α : Type} {val : α → Value} {C : Mg κ α} {S : List Nat} {old : κ × α × Nat → Bool} (h : leftK (gM val (C.filter (keepG S old))) S = []) : goneS S old C = C.filter old := by
  refine List.filter_congr fun y hy => ?_
  by_cases hb : y.2.2 ∈ S
  · simp [hb]
  · have h1 : (y.1, val y.2.1, y.2.2) ∈ leftK (gM val (C.filter (keepG S old))) S := by
      rw [leftK_mem]
      refine ⟨List.mem_map_of_mem (f := fun e : κ × α × Nat => (e.1, val e.2.1, e.2.2)) (List.mem_filter.2 ⟨hy, ?_⟩), hb⟩
      unfold keepG
      simp [hb]
    rw [h] at h1
    cases h1
/-- A flow's key. -/
def Fl.key (x : Fl) : K5 := ⟨x.k, x.s, x.f, x.d, x.t⟩
/-- Flows that begin one behind another one (TableFull). -/
def kF (j : Nat) : K5 := ⟨2, 1, j, 2, 9⟩
def fF (now : Int) (j : Nat) : Fl := ⟨2, 1, j, 2, 9, 1, now + 30, 1, 0, 0, 0, 0, false, false, 0⟩
def cF (now : Int) (i : Nat) : Tb := (List.range i).map fun j => (kF j, fF now j, j)
end Go.Port

set_option linter.unusedSimpArgs false
set_option linter.unusedVariables false
namespace Go.Port
open Go.RowKit
theorem or5_neg {x : Int} {l : List Int} : orI5 (x :: l) < 0 ↔ x < 0 ∨ (x = 0 ∧ orI5 l < 0) := by
  show (if x ≠ 0 then x else orI5 l) < 0 ↔ _
  by_cases h : x = 0
  · rw [if_neg (by omega)]; omega
  · rw [if_pos h]; omega
theorem cmpI_less {a b : Int} : cmpI a b < 0 ↔ a < b := by
  unfold cmpI
  split
  · omega
  · split <;> omega
theorem k5_lt (x y : K5) : K5.cmp x y < 0 ↔ x.k < y.k ∨ (x.k = y.k ∧ (x.s < y.s ∨ (x.s = y.s ∧ (x.f < y.f ∨ (x.f = y.f ∧ (x.d < y.d ∨ (x.d = y.d ∧ x.t < y.t))))))) := by
  unfold K5.cmp
  simp only [or5_neg, cmpI_less, cmpI_zero]
  rw [show orI5 [] = 0 from rfl]
  omega
theorem k5_irr (x : K5) : ¬ K5.cmp x x < 0 := by rw [k5_lt]; omega
theorem k5_trans {x y z : K5} (h1 : K5.cmp x y < 0) (h2 : K5.cmp y z < 0) : K5.cmp x z < 0 := by
  rw [k5_lt] at *
  omega
theorem k5_asym (x y : K5) (h1 : K5.cmp x y < 0) : ¬ K5.cmp y x < 0 := fun h2 => k5_irr x (k5_trans h1 h2)
theorem k5_tot {x y : K5} (h1 : ¬ K5.cmp x y < 0) (h2 : ¬ K5.cmp y x < 0) : x = y := by
  rw [k5_lt] at *
  obtain ⟨a1, a2, a3, a4, a5⟩ := x
  obtain ⟨b1, b2, b3, b4, b5⟩ := y
  dsimp only at h1 h2
  rw [show a1 = b1 by omega, show a2 = b2 by omega, show a3 = b3 by omega, show a4 = b4 by omega, show a5 = b5 by omega]
/-- The first of a flow's key. -/
noncomputable def Fl.fk (x : Fl) : K5 := x.key.first
def Asc (A : List Fl) : Prop := A.Pairwise (fun x y => K5.cmp x.fk y.fk < 0)
def stayL (now : Int) (A : List Fl) : List Fl := A.filter fun x => decide (now < x.un)
def goneL (now : Int) (A : List Fl) : List K5 := (A.filter fun x => !decide (now < x.un)).map Fl.key
/-- Keys in order. -/
def SortK (G : List K5) : Prop := G.Pairwise (fun x y => ¬ K5.cmp y x < 0)
theorem sortK_one {G G' : List K5} (h : SortK G) (h' : SortK G') (hp : G.Perm G') : G = G' :=
  List.Perm.eq_of_pairwise (le := fun x y => ¬ K5.cmp y x < 0) (fun _ _ _ _ h1 h2 => k5_tot h2 h1) h h' hp
theorem SortK.ins {G : List K5} {k : K5} {j : Nat} (h : SortK G) (hj : j ≤ G.length) (hb : ∀ jj, jj < j → ∀ y, G[jj]? = some y → K5.cmp y k < 0) (he : j = G.length ∨ ∃ y, G[j]? = some y ∧ ¬ K5.cmp y k < 0) : SortK (G.take j ++ k :: G.drop j) := by
  have h0 := h
  unfold SortK at h ⊢
  rw [← List.take_append_drop j G, List.pairwise_append] at h
  obtain ⟨h1, h2, h3⟩ := h
  have ht : ∀ x ∈ G.take j, K5.cmp x k < 0 := fun x hx => by
    obtain ⟨i, hi⟩ := List.getElem?_of_mem hx
    have hlt := (List.getElem?_eq_some_iff.1 hi).1
    rw [List.length_take] at hlt
    rw [List.getElem?_take, if_pos (by omega)] at hi
    exact hb i (by omega) x hi
  rw [List.pairwise_append, List.pairwise_cons]
  refine ⟨h1, ⟨fun y hy hlt => ?_, h2⟩, fun x hx y hy => ?_⟩
  · rcases he with he | ⟨z, hz, hzk⟩
    · rw [List.drop_of_length_le (by omega)] at hy
      cases hy
    · have hd : G.drop j = z :: G.drop (j + 1) := by
        obtain ⟨hl, hz'⟩ := List.getElem?_eq_some_iff.1 hz
        rw [List.drop_eq_getElem_cons hl, hz']
      rw [hd] at hy h2
      rw [List.pairwise_cons] at h2
      rcases List.mem_cons.1 hy with rfl | hy
      · exact hzk hlt
      · by_cases e : K5.cmp z k < 0
        · exact hzk e
        · by_cases e2 : K5.cmp z y < 0
          · exact hzk (k5_trans e2 hlt)
          · have e3 := k5_tot e2 (h2.1 y hy)
            subst e3
            exact hzk hlt
  · rcases List.mem_cons.1 hy with rfl | hy
    · intro hlt
      exact k5_irr _ (k5_trans (ht x hx) hlt)
    · exact h3 x hx y hy
theorem ins_perm {α : Type} {G : List α} {k : α} {j : Nat} : (G.take j ++ k :: G.drop j).Perm (G ++ [k]) := by
  have h1 : (G.take j ++ k :: G.drop j).Perm (k :: (G.take j ++ G.drop j)) := List.perm_middle
  rw [List.take_append_drop] at h1
  exact h1.trans (List.perm_append_singleton _ _).symm
theorem loose_one {α : Type} {R : α → α → Prop} {A B : List α} (ht : ∀ a b, a ∈ B → b ∈ B → R a b → R b a → a = b) (h : A.Pairwise R) (h' : B.Pairwise R) (hp : A.Perm B) : A = B :=
  List.Perm.eq_of_pairwise (le := R) (fun a b ha hb h1 h2 => ht a b (hp.mem_iff.1 ha) hb h1 h2) h h' hp
theorem asc_inj : ∀ {A : List Fl}, Asc A → ∀ {x y : Fl}, x ∈ A → y ∈ A → x.fk = y.fk → x = y
  | [], _, _, _, h, _, _ => nomatch h
  | a :: A, h, x, y, hx, hy, he => by
    unfold Asc at h
    rw [List.pairwise_cons] at h
    rcases List.mem_cons.1 hx with e1 | hx <;> rcases List.mem_cons.1 hy with e2 | hy
    · rw [e1, e2]
    · have h1 := h.1 y hy
      rw [← e1, he] at h1
      exact absurd h1 (k5_irr y.fk)
    · have h1 := h.1 x hx
      rw [← e2, ← he] at h1
      exact absurd h1 (k5_irr x.fk)
    · exact asc_inj h.2 hx hy he
theorem snoc_rec {α : Type} {p : List α → Prop} (h0 : p []) (h1 : ∀ P x, p P → p (P ++ [x])) (l : List α) : p l := by
  have h2 : ∀ m : List α, p m.reverse := fun m => by
    induction m with
    | nil => exact h0
    | cons x m ih =>
      rw [List.reverse_cons]
      exact h1 _ _ ih
  rw [← List.reverse_reverse l]
  exact h2 _
/-- What put makes of the flows so far. -/
noncomputable def putS (f : Fl) (r : List Fl × Bool) (x : Fl) : List Fl × Bool :=
  if x.fk = f.fk then r else if r.2 = false ∧ K5.cmp f.fk x.fk < 0 then (r.1 ++ [f, x], true) else (r.1 ++ [x], r.2)
noncomputable def putN (f : Fl) (P : List Fl) : List Fl × Bool := P.foldl (putS f) ([], false)
noncomputable def putL (f : Fl) (A : List Fl) : List Fl := if (putN f A).2 then (putN f A).1 else (putN f A).1 ++ [f]
theorem putN_snoc (f : Fl) (P : List Fl) (x : Fl) : putN f (P ++ [x]) = putS f (putN f P) x := by
  unfold putN
  rw [List.foldl_append]
  rfl
theorem putN_len (f : Fl) : ∀ (P : List Fl) , (putN f P).1.length ≤ 2 * P.length := fun P => by
  refine snoc_rec (p := fun P => (putN f P).1.length ≤ 2 * P.length) ?_ (fun P x ih => ?_) P
  · exact Nat.le_refl _
  · show (putN f (P ++ [x])).1.length ≤ 2 * (P ++ [x]).length
    rw [putN_snoc, List.length_append, List.length_singleton]
    unfold putS
    split
    · omega
    · split
      · show ((putN f P).1 ++ [f, x]).length ≤ _
        rw [List.length_append]
        show (putN f P).1.length + 2 ≤ _
        omega
      · show ((putN f P).1 ++ [x]).length ≤ _
        rw [List.length_append]
        show (putN f P).1.length + 1 ≤ _
        omega
/-- Without a key. -/
noncomputable def rest5 (k : K5) (A : List Fl) : List Fl := A.filter fun x => decide (x.fk ≠ k)
theorem rest_snoc (k : K5) (P : List Fl) (x : Fl) : rest5 k (P ++ [x]) = rest5 k P ++ (if x.fk = k then [] else [x]) := by
  unfold rest5
  rw [List.filter_append]
  by_cases h : x.fk = k
  · rw [if_pos h, List.filter_cons, if_neg (by simp [h])]
    rfl
  · rw [if_neg h, List.filter_cons, if_pos (by simp [h])]
    rfl
theorem asc_snoc {P : List Fl} {x : Fl} : Asc (P ++ [x]) ↔ Asc P ∧ ∀ y ∈ P, K5.cmp y.fk x.fk < 0 := by
  unfold Asc
  rw [List.pairwise_append]
  constructor
  · rintro ⟨h1, _, h2⟩
    exact ⟨h1, fun y hy => h2 y hy x (List.Mem.head _)⟩
  · rintro ⟨h1, h2⟩
    exact ⟨h1, List.pairwise_singleton _ _, fun y hy z hz => by rw [List.mem_singleton] at hz; subst hz; exact h2 y hy⟩
def PutI (f : Fl) (P : List Fl) : Prop := Asc P → (Asc (putN f P).1 ∧ (putN f P).1.Perm (if (putN f P).2 then f :: rest5 f.fk P else rest5 f.fk P) ∧ ((putN f P).2 = false → ∀ y ∈ rest5 f.fk P, K5.cmp y.fk f.fk < 0) ∧ ((putN f P).2 = true → ∃ y ∈ P, K5.cmp f.fk y.fk < 0))
theorem putN_inv (f : Fl) (P : List Fl) : PutI f P := by
  refine snoc_rec (p := PutI f) ?_ (fun P x ih => ?_) P
  · intro _
    refine ⟨List.Pairwise.nil, .refl _, fun _ y hy => ?_, fun h => ?_⟩
    · cases hy
    · cases h
  · intro hA
    rw [asc_snoc] at hA
    obtain ⟨h1, h2, h3, h4⟩ := ih hA.1
    rw [putN_snoc, rest_snoc]
    have hmem : ∀ y ∈ rest5 f.fk P, K5.cmp y.fk x.fk < 0 := fun y hy => hA.2 y (List.mem_filter.1 hy).1
    by_cases he : x.fk = f.fk
    · rw [if_pos he, List.append_nil]
      unfold putS
      rw [if_pos he]
      refine ⟨h1, h2, h3, fun hd => ?_⟩
      obtain ⟨y, hy, hyf⟩ := h4 hd
      exact ⟨y, List.mem_append_left _ hy, hyf⟩
    · rw [if_neg he]
      unfold putS
      rw [if_neg he]
      by_cases hc : (putN f P).2 = false ∧ K5.cmp f.fk x.fk < 0
      · rw [if_pos hc]
        rw [hc.1, if_neg (by decide)] at h2
        have e : (putN f P).1 ++ [f, x] = (putN f P).1 ++ [f] ++ [x] := by rw [List.append_assoc]; rfl
        refine ⟨?_, ?_, (fun h => nomatch h), fun _ => ⟨x, List.mem_append_right _ (List.Mem.head _), hc.2⟩⟩
        · show Asc ((putN f P).1 ++ [f, x])
          rw [e, asc_snoc, asc_snoc]
          refine ⟨⟨h1, fun y hy => h3 hc.1 y (h2.mem_iff.1 hy)⟩, fun y hy => ?_⟩
          rcases List.mem_append.1 hy with hy | hy
          · exact hmem y (h2.mem_iff.1 hy)
          · rw [List.mem_singleton] at hy
            subst hy
            exact hc.2
        · show ((putN f P).1 ++ [f, x]).Perm (f :: (rest5 f.fk P ++ [x]))
          refine (h2.append_right [f, x]).trans ?_
          exact List.perm_middle
      · rw [if_neg hc]
        have hall : ∀ y ∈ (putN f P).1, K5.cmp y.fk x.fk < 0 := fun y hy => by
          have hy' := h2.mem_iff.1 hy
          by_cases hd : (putN f P).2 = true
          · rw [if_pos hd] at hy'
            rcases List.mem_cons.1 hy' with rfl | hy'
            · obtain ⟨z, hz, hzf⟩ := h4 hd
              exact k5_trans hzf (hA.2 z hz)
            · exact hmem y hy'
          · rw [if_neg hd] at hy'
            exact hmem y hy'
        refine ⟨?_, ?_, fun hd y hy => ?_, fun hd => ?_⟩
        · show Asc ((putN f P).1 ++ [x])
          rw [asc_snoc]
          exact ⟨h1, hall⟩
        · show ((putN f P).1 ++ [x]).Perm (if (putN f P).2 = true then f :: (rest5 f.fk P ++ [x]) else rest5 f.fk P ++ [x])
          by_cases hd : (putN f P).2 = true
          · rw [if_pos hd] at h2 ⊢
            exact h2.append_right [x]
          · rw [if_neg hd] at h2 ⊢
            exact h2.append_right [x]
        · have hd' : (putN f P).2 = false := hd
          rcases List.mem_append.1 hy with hy | hy
          · exact h3 hd' y hy
          · rw [List.mem_singleton] at hy
            subst hy
            by_cases hl : K5.cmp y.fk f.fk < 0
            · exact hl
            · exact absurd (k5_tot hl fun h => hc ⟨hd', h⟩) he
        · obtain ⟨y, hy, hyf⟩ := h4 hd
          exact ⟨y, List.mem_append_left _ hy, hyf⟩
theorem putL_ok {f : Fl} {A : List Fl} (h : Asc A) : Asc (putL f A) ∧ (putL f A).Perm (f :: rest5 f.fk A) := by
  obtain ⟨h1, h2, h3, h4⟩ := putN_inv f A h
  unfold putL
  by_cases hd : (putN f A).2 = true
  · rw [if_pos hd] at h2 ⊢
    exact ⟨h1, h2⟩
  · rw [if_neg hd] at h2 ⊢
    refine ⟨?_, (h2.append_right [f]).trans (List.perm_append_singleton _ _)⟩
    rw [asc_snoc]
    exact ⟨h1, fun y hy => h3 (by simpa using hd) y (h2.mem_iff.1 hy)⟩
/-- The table's map and the document's row. -/
structure TRel (max : Int) (C : Tb) (ck : Nat) (A : List Fl) : Prop where
  ok : MgOk C ck
  key : ∀ x ∈ C, x.1 = x.2.1.fk
  perm : A.Perm (C.map (·.2.1))
  asc : Asc A
  len : (C.length : Int) ≤ max
theorem TRel.nil {max : Int} (h : 0 ≤ max) : TRel max [] 0 [] := ⟨MgOk.nil, fun _ h => (nomatch h), .refl _, List.Pairwise.nil, h⟩
theorem TRel.al {max : Int} {C : Tb} {ck : Nat} {A : List Fl} (h : TRel max C ck A) : A.length = C.length := by
  have := h.perm.length_eq
  rwa [List.length_map] at this
theorem TRel.all {max : Int} {C : Tb} {ck : Nat} {A d : List Fl} (h : TRel max C ck A) (hp : d.Perm (C.map (·.2.1))) (hs : d.Pairwise (fun x y => ¬ K5.cmp y.fk x.fk < 0)) : d = A := by
  have h3 := h.asc
  unfold Asc at h3
  exact loose_one (R := fun x y : Fl => ¬ K5.cmp y.fk x.fk < 0) (fun a b ha hb h1 h2 => asc_inj h.asc ha hb (k5_tot h2 h1)) hs (List.Pairwise.imp (R := fun x y : Fl => K5.cmp x.fk y.fk < 0) (fun {x y} h => k5_asym x.fk y.fk h) h3) (hp.trans h.perm.symm)
theorem TRel.look {max : Int} {C : Tb} {ck : Nat} {A : List Fl} (h : TRel max C ck A) {k : K5} {z : Fl} (hz : z ∈ A) (hk : z.fk = k) : ∃ x ∈ C, x.1 = k ∧ x.2.1 = z ∧ lkG C k = some z := by
  obtain ⟨x, hx, rfl⟩ := List.mem_map.1 (h.perm.mem_iff.1 hz)
  have h1 := h.key x hx
  refine ⟨x, hx, h1.trans hk, rfl, ?_⟩
  rw [← hk, ← h1]
  exact lkG_mem h.ok hx
theorem TRel.none {max : Int} {C : Tb} {ck : Nat} {A : List Fl} (h : TRel max C ck A) {k : K5} (hk : ∀ z ∈ A, z.fk ≠ k) : ∀ x ∈ C, x.1 ≠ k := fun x hx he =>
  hk x.2.1 (h.perm.mem_iff.2 (List.mem_map_of_mem (f := fun e : K5 × Fl × Nat => e.2.1) hx)) ((h.key x hx).symm.trans he)
theorem TRel.tick {max : Int} {C : Tb} {ck : Nat} {A : List Fl} (h : TRel max C ck A) (now : Int) : TRel max (stayT now C) ck (stayL now A) := by
  refine ⟨h.ok.filter _, fun x hx => h.key x (List.mem_filter.1 hx).1, ?_, h.asc.sublist List.filter_sublist, ?_⟩
  · have h1 := h.perm.filter (fun x => decide (now < x.un))
    rw [List.filter_map] at h1
    have e : C.filter ((fun x : Fl => decide (now < x.un)) ∘ fun x => x.2.1) = stayT now C := by
      unfold stayT
      refine List.filter_congr fun x _ => ?_
      unfold oldT
      show decide (now < x.2.1.un) = !decide (x.2.1.un ≤ now)
      by_cases hh : now < x.2.1.un
      · rw [decide_eq_true hh, decide_eq_false (by omega)]; rfl
      · rw [decide_eq_false hh, decide_eq_true (by omega)]; rfl
    rw [e] at h1
    exact h1
  · have := h.len
    have h2 := live_le now C
    unfold liveT at h2
    omega
theorem TRel.live {max : Int} {C : Tb} {ck : Nat} {A : List Fl} (h : TRel max C ck A) (now : Int) : liveT now C = (stayL now A).length := (h.tick now).al.symm
theorem TRel.gone {max : Int} {C : Tb} {ck : Nat} {A : List Fl} (h : TRel max C ck A) (now : Int) : ((C.filter (oldT now)).map fun e => e.2.1.key).Perm (goneL now A) := by
  have h1 := h.perm.filter (fun x => !decide (now < x.un))
  rw [List.filter_map] at h1
  have e : C.filter ((fun x : Fl => !decide (now < x.un)) ∘ fun x => x.2.1) = C.filter (oldT now) := by
    refine List.filter_congr fun x _ => ?_
    unfold oldT
    show (!decide (now < x.2.1.un)) = decide (x.2.1.un ≤ now)
    by_cases hh : now < x.2.1.un
    · rw [decide_eq_true hh, decide_eq_false (by omega)]; rfl
    · rw [decide_eq_false hh, decide_eq_true (by omega)]; rfl
  rw [e] at h1
  have h2 := h1.map Fl.key
  rw [List.map_map] at h2
  exact h2.symm
theorem rest_all {k : K5} {A : List Fl} (h : ∀ z ∈ A, z.fk ≠ k) : rest5 k A = A := List.filter_eq_self.2 fun x hx => by simp [h x hx]
/-- A new one. -/
theorem TRel.put {max : Int} {C : Tb} {ck : Nat} {A : List Fl} {f : Fl} (h : TRel max C ck A) (hk : ∀ z ∈ A, z.fk ≠ f.fk) (hl : (C.length : Int) < max) : TRel max (C ++ [(f.fk, f, ck)]) (ck + 1) (putL f A) := by
  obtain ⟨h1, h2⟩ := putL_ok (f := f) h.asc
  refine ⟨okG_snoc h.ok (h.none hk) f, fun x hx => ?_, ?_, h1, ?_⟩
  · rcases List.mem_append.1 hx with hx | hx
    · exact h.key x hx
    · rw [List.mem_singleton] at hx
      subst hx
      rfl
  · rw [rest_all hk] at h2
    rw [List.map_append]
    exact (h2.trans (h.perm.cons f)).trans (List.perm_append_singleton _ _).symm
  · rw [List.length_append, List.length_singleton]
    omega
theorem set_perm {α : Type} : ∀ {l : List α} {j : Nat} {x : α} (y : α), l[j]? = some x → (l.set j y).Perm (y :: l.eraseIdx j)
  | [], _, _, _, h => by simp at h
  | a :: l, 0, _, y, _ => .refl _
  | a :: l, j + 1, x, y, h => by
    rw [List.getElem?_cons_succ] at h
    exact ((set_perm y h).cons a).trans (.swap _ _ _)
theorem erase_ne {C : Tb} : ∀ {j : Nat} {x : K5 × Fl × Nat}, (C.map (·.1)).Nodup → C[j]? = some x → C.eraseIdx j = C.filter fun y => decide (y.1 ≠ x.1) := by
  induction C with
  | nil => intro j x _ h; simp at h
  | cons a C ih =>
    intro j x hn h
    rw [List.map_cons, List.nodup_cons] at hn
    cases j with
    | zero =>
      have e : a = x := by simpa using h
      subst e
      rw [List.filter_cons, if_neg (by simp)]
      refine (List.filter_eq_self.2 fun y hy => ?_).symm
      have : y.1 ≠ a.1 := fun e => hn.1 (by rw [← e]; exact List.mem_map_of_mem (f := fun e : K5 × Fl × Nat => e.1) hy)
      simp [this]
    | succ j =>
      rw [List.getElem?_cons_succ] at h
      have hx : a.1 ≠ x.1 := fun e => hn.1 (by rw [e]; exact List.mem_map_of_mem (f := fun e : K5 × Fl × Nat => e.1) (List.mem_of_getElem? h))
      rw [List.filter_cons, if_pos (by simp [hx]), List.eraseIdx_cons_succ, ih hn.2 h]
theorem TRel.rest {max : Int} {C : Tb} {ck : Nat} {A : List Fl} (h : TRel max C ck A) (k : K5) : (rest5 k A).Perm ((C.filter fun y => decide (y.1 ≠ k)).map (·.2.1)) := by
  have h1 := h.perm.filter (fun x => decide (x.fk ≠ k))
  rw [List.filter_map] at h1
  have e : C.filter ((fun x : Fl => decide (x.fk ≠ k)) ∘ fun x => x.2.1) = C.filter fun y => decide (y.1 ≠ k) := by
    refine List.filter_congr fun x hx => ?_
    show decide (x.2.1.fk ≠ k) = decide (x.1 ≠ k)
    rw [h.key x hx]
  rw [e] at h1
  exact h1
/-- One in the place of another one. -/
theorem TRel.set {max : Int} {C : Tb} {ck j : Nat} {A : List Fl} {f : Fl} {x : K5 × Fl × Nat} (h : TRel max C ck A) (hj : C[j]? = some x) (hk : x.1 = f.fk) : TRel max (C.set j (x.1, f, x.2.2)) ck (putL f A) := by
  obtain ⟨h1, h2⟩ := putL_ok (f := f) h.asc
  refine ⟨okG_set h.ok hj f, fun y hy => ?_, ?_, h1, by rw [List.length_set]; exact h.len⟩
  · rcases List.mem_or_eq_of_mem_set hy with hy | rfl
    · exact h.key y hy
    · exact hk
  · have h3 := (set_perm (x.1, f, x.2.2) hj).map (fun e : K5 × Fl × Nat => e.2.1)
    rw [List.map_cons, erase_ne h.ok.keys hj, hk] at h3
    rw [hk]
    exact (h2.trans ((h.rest f.fk).cons f)).trans h3.symm
/-- One that goes. -/
theorem TRel.drop {max : Int} {C : Tb} {ck i : Nat} {A : List Fl} {z : Fl} (h : TRel max C ck A) (hi : A[i]? = some z) : TRel max (C.filter fun y => decide (y.1 ≠ z.fk)) ck (A.take i ++ A.drop (i + 1)) := by
  have e : A.take i ++ A.drop (i + 1) = rest5 z.fk A := by
    have hlt := (List.getElem?_eq_some_iff.1 hi).1
    have hA := h.asc
    have hz : A.drop i = z :: A.drop (i + 1) := by
      rw [List.drop_eq_getElem_cons hlt, (List.getElem?_eq_some_iff.1 hi).2]
    have hsp : A = A.take i ++ z :: A.drop (i + 1) := by rw [← hz, List.take_append_drop]
    have hA2 : Asc (A.take i ++ z :: A.drop (i + 1)) := hsp ▸ hA
    unfold Asc at hA2
    rw [List.pairwise_append, List.pairwise_cons] at hA2
    obtain ⟨_, ⟨g1, _⟩, g2⟩ := hA2
    conv => rhs; rw [hsp]
    unfold rest5
    rw [List.filter_append, List.filter_cons, if_neg (by simp)]
    congr 1
    · refine (List.filter_eq_self.2 fun y hy => ?_).symm
      have h1 : y.fk ≠ z.fk := fun e => by
        have := g2 y hy z (List.Mem.head _)
        rw [e] at this
        exact k5_irr _ this
      simp [h1]
    · refine (List.filter_eq_self.2 fun y hy => ?_).symm
      have h1 : y.fk ≠ z.fk := fun e => by
        have := g1 y hy
        rw [e] at this
        exact k5_irr _ this
      simp [h1]
  refine ⟨h.ok.filter _, fun x hx => h.key x (List.mem_filter.1 hx).1, by rw [e]; exact h.rest z.fk, by rw [e]; exact h.asc.sublist List.filter_sublist, ?_⟩
  have h1 : (C.filter fun y => decide (y.1 ≠ z.fk)).length ≤ C.length := List.length_filter_le _ _
  have := h.len
  omega
end Go.Port
