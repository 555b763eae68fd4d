/- Maps whose keys are numbers. No program here. -/
import Derived.Test.YtcnnldlpcpcemaaDoorEngB
set_option linter.unusedSimpArgs false
set_option linter.unusedVariables false
namespace Go.Port
open Go.RowKit
/-- A map's entries: the key, what it holds, when it was put. -/
abbrev MI := List (Int × Value × Nat)
def mEnt (e : Int × Value × Nat) : MapEntry := { key := .int .i64 e.1, val := e.2.1, born := e.2.2 }
def mObj (M : MI) (ck : Nat) : Obj := .map (M.map mEnt).toArray ck
/-- Where a key is, and what it holds. -/
def lkI : MI → Int → Option (Nat × Value)
  | [], _ => none
  | e :: r, k => if e.1 = k then some (0, e.2.1) else (lkI r k).map fun p => (p.1 + 1, p.2)
theorem findNow_int (k : Int) : ∀ (M : MI) (i : Nat), Instr.findNow (.int .i64) (.int .i64 k) (M.map mEnt) i = some ((lkI M k).map fun p => (i + p.1, p.2))
  | [], i => rfl
  | e :: r, i => by
    rw [List.map_cons, Instr.findNow]
    simp only [mEnt, Instr.sameNow, if_true]
    by_cases h : e.1 = k
    · subst h; simp [lkI]
    · have h' : (k == e.1) = false := by simp; omega
      rw [h']
      simp only [lkI, if_neg h]
      rw [findNow_int k r (i + 1)]
      cases lkI r k with
      | none => rfl
      | some p => simp; omega
theorem mget {P : Program} {w : World} {r ck : Nat} {es : Array MapEntry} (hb : w.heap[r]? = some (.map es ck)) : (getObj r).run P w = .ok (.map es ck) w := by simp [getObj, Sem.run, hb]
theorem mset {P : Program} {w : World} {r ck : Nat} {es : Array MapEntry} (o : Obj) (hb : w.heap[r]? = some (.map es ck)) : (setObj r o).run P w = .ok () { w with heap := w.heap.setIfInBounds r o } := by simp [setObj, Sem.run, hb]
theorem map_erase {α β : Type} (f : α → β) : ∀ (l : List α) (j : Nat), (l.eraseIdx j).map f = (l.map f).eraseIdx j
  | [], _ => rfl
  | _ :: _, 0 => rfl
  | a :: l, j + 1 => by rw [List.eraseIdx_cons_succ, List.map_cons, map_erase f l j]; rfl
theorem erase_arr {α : Type} (l : List α) (j : Nat) : l.toArray.eraseIdxIfInBounds j = (l.eraseIdx j).toArray := by
  unfold Array.eraseIdxIfInBounds
  split
  · simp
  · rename_i h
    rw [List.eraseIdx_of_length_le (by simpa using h)]
class MpT (P : Program) (T : Nat) (K E : outParam Nat) : Prop where
  und : P.underlying T = some (.map K E)
  key : P.underlying K = some (.int .i64)
section
variable {P : Program} {w0 : World} {D : List Nat} {n q : Nat} {ops : Array Oper} {Q : Exit → Act → World → Prop} {g : Nat → Value} {F : List (Nat × Value)} {L : List Ch}
variable {rest : List Oper} {ty : TypeId} {pos : String} {af : Array Edge} {d : Nat}
theorem run_checkKey_int {K : Nat} (hK : P.underlying K = some (.int .i64)) (e : Bool) (v : Value) (w : World) : (Instr.checkKey e 10000 K v).run P w = .ok () w := by
  rw [show (10000 : Nat) = 9999 + 1 from rfl, Instr.checkKey, Sem.run_bind, run_underlying hK]
  rfl
theorem run_findKey_int {K : Nat} (hK : P.underlying K = some (.int .i64)) (k : Int) (M : MI) (w : World) : (Instr.findKey K (.int .i64 k) (M.map mEnt)).run P w = .ok (lkI M k) w := by
  unfold Instr.findKey
  rw [Sem.run_bind, run_underlying hK]
  show (match Instr.findNow (.int .i64) (.int .i64 k) (M.map mEnt) 0 with | some r => pure r | none => _ : Sem _).run P w = _
  rw [findNow_int]
  cases lkI M k with
  | none => rfl
  | some p => simp
/-- What a map holds of a key. -/
theorem lookup_run {T K E : Nat} [MpT P T K E] {z : Value} [ZvT P E z] {r ck : Nat} {k : Int} {M : MI} {w : World} (hb : w.heap[r]? = some (mObj M ck)) :
    (Instr.lookup T (.map (some r)) (.int .i64 k) true).run P w = .ok (.tuple #[((lkI M k).map (·.2)).getD z, .bool (lkI M k).isSome]) w := by
  have h1 := MpT.und (P := P) (T := T) (K := K) (E := E)
  have h2 := MpT.key (P := P) (T := T) (K := K) (E := E)
  unfold Instr.lookup
  rw [Sem.run_bind, run_underlying h1]
  simp only [Result.andThen_ok, Sem.run_bind, mget (show w.heap[r]? = some (.map (M.map mEnt).toArray ck) from hb), run_checkKey_int h2, run_findKey_int h2, Sem.run_pure, ZvT.run]
  cases lkI M k with
  | none => simp [ZvT.run]
  | some p => simp
theorem sx_lookupY {T K E : Nat} [MpT P T K E] {z : Value} [ZvT P E z] (i : Nat) {x y : Operand} {r ck j : Nat} {k : Int} {M : MI} {v : Value} (hx : evn n (get g F) x = .map (some r)) (hy : evn n (get g F) y = .int .i64 k) (hL : L[i]? = some [(r, mObj M ck)]) (hk : lkI M k = some (j, v))
    (h : SX P w0 D n q ops Q rest g ((d, .tuple #[v, .bool true]) :: F) L) : SX P w0 D n q ops Q ({ dst := some d, op := .lookup T x y true, type := ty, pos := pos, after := af, guard := none } :: rest) g F L :=
  sx_run _ rfl rfl (fun w hm => by
    have h1 := lookup_run (P := P) (T := T) (z := z) (k := k) (hm.blk i hL)
    rw [hk] at h1
    show ((do pure (Next.value (← Instr.lookup T (evn n (get g F) x) (evn n (get g F) y) true))) : Sem Next).run P w = _
    rw [hx, hy]; exact run_v h1) h
theorem sx_lookupN {T K E : Nat} [MpT P T K E] {z : Value} [ZvT P E z] (i : Nat) {x y : Operand} {r ck : Nat} {k : Int} {M : MI} (hx : evn n (get g F) x = .map (some r)) (hy : evn n (get g F) y = .int .i64 k) (hL : L[i]? = some [(r, mObj M ck)]) (hk : lkI M k = none)
    (h : SX P w0 D n q ops Q rest g ((d, .tuple #[z, .bool false]) :: F) L) : SX P w0 D n q ops Q ({ dst := some d, op := .lookup T x y true, type := ty, pos := pos, after := af, guard := none } :: rest) g F L :=
  sx_run _ rfl rfl (fun w hm => by
    have h1 := lookup_run (P := P) (T := T) (z := z) (k := k) (hm.blk i hL)
    rw [hk] at h1
    show ((do pure (Next.value (← Instr.lookup T (evn n (get g F) x) (evn n (get g F) y) true))) : Sem Next).run P w = _
    rw [hx, hy]; exact run_v h1) h
theorem sx_makeMap {T : Nat} (h : ∀ b, SX P w0 D n 0 ops Q rest g ((d, .map (some b)) :: F) ([(b, mObj [] 0)] :: L)) : SX P w0 D n 0 ops Q ({ dst := some d, op := .makeMap T none, type := ty, pos := pos, after := af, guard := none } :: rest) g F L :=
  .mk fun w hm => wpList_plain rfl fun K hK => by
    unfold Oper.wp
    have hr : (execOp (Fr n (get g F)).eval { dst := some d, op := .makeMap T none, type := ty, pos := pos, after := af, guard := none }).run P w = .ok (.value (.map (some w.heap.size))) (w.alloc (mObj [] 0)) := by
      show ((do pure (Next.value (← Instr.makeMap T none))) : Sem Next).run P w = _
      exact run_v rfl
    rw [hr, Oper.upon_value, Fr.put, get_put]
    exact hK _ _ ((h w.heap.size).out _ (hm.new _))
theorem heap_set_other {w : World} {r k : Nat} {o : Obj} (h : k ≠ r) : (w.heap.setIfInBounds r o)[k]? = w.heap[k]? := by
  rw [Array.getElem?_setIfInBounds]; simp [Ne.symm h]
theorem heap_set_self {w : World} {r : Nat} {o o' : Obj} (h : w.heap[r]? = some o') : (w.heap.setIfInBounds r o)[r]? = some o := by
  rw [Array.getElem?_setIfInBounds]; simp [heap_lt h]
/-- A key that is not there is put. -/
theorem sx_mapPut {T K E : Nat} [MpT P T K E] {m x y : Operand} {r ck : Nat} {k : Int} {M : MI} {v : Value} (hm' : evn n (get g F) m = .map (some r)) (hx : evn n (get g F) x = .int .i64 k) (hy : evn n (get g F) y = v) (hk : lkI M k = none)
    (h : SX P w0 D n 0 ops Q rest g F ([(r, mObj (M ++ [(k, v, ck)]) (ck + 1))] :: L)) : SX P w0 D n 0 ops Q ({ dst := none, op := .mapUpdate T m x y, type := ty, pos := pos, after := af, guard := none } :: rest) g F ([(r, mObj M ck)] :: L) :=
  .mk fun w hm => wpList_plain rfl fun K hK => by
    have h1 := MpT.und (P := P) (T := T) (K := _) (E := E)
    have h2 := MpT.key (P := P) (T := T) (K := _) (E := E)
    have hb : w.heap[r]? = some (.map (M.map mEnt).toArray ck) := hm.blk 0 rfl
    have hr : (Instr.mapUpdate T (.map (some r)) (.int .i64 k) v).run P w = .ok () { w with heap := w.heap.setIfInBounds r (mObj (M ++ [(k, v, ck)]) (ck + 1)) } := by
      unfold Instr.mapUpdate
      rw [Sem.run_bind, run_underlying h1]
      simp only [Result.andThen_ok, Sem.run_bind, mget hb, run_checkKey_int h2, run_findKey_int h2, hk]
      rw [mset _ hb]
      simp [mObj, mEnt]
    unfold Oper.wp
    rw [Fr.evn]
    have hr' : (execOp (evn n (get g F)) { dst := none, op := .mapUpdate T m x y, type := ty, pos := pos, after := af, guard := none }).run P w = .ok .skip { w with heap := w.heap.setIfInBounds r (mObj (M ++ [(k, v, ck)]) (ck + 1)) } := by
      show ((do Instr.mapUpdate T (evn n (get g F) m) (evn n (get g F) x) (evn n (get g F) y); pure Next.skip) : Sem Next).run P w = _
      rw [hm', hx, hy]; exact run_u hr
    rw [hr', Oper.upon_skip]
    exact hK _ _ (h.out _ (hm.upd rfl rfl rfl (by simp) (heap_set_self hb) fun j hj _ => heap_set_other hj))
/-- A key that is there is taken out. -/
theorem sx_mapDel {T K E : Nat} [MpT P T K E] {m x : Operand} {T2 : TypeId} {r ck j : Nat} {k : Int} {M : MI} {v : Value} (hm' : evn n (get g F) m = .map (some r)) (hx : evn n (get g F) x = .int .i64 k) (hk : lkI M k = some (j, v))
    (h : SX P w0 D n 0 ops Q rest g F ([(r, mObj (M.eraseIdx j) ck)] :: L)) : SX P w0 D n 0 ops Q ({ dst := none, op := .call { callee := .builtin .delete, args := #[m, x], argTypes := #[T, T2] }, type := ty, pos := pos, after := af, guard := none } :: rest) g F ([(r, mObj M ck)] :: L) :=
  .mk fun w hm => wpList_plain rfl fun K hK => by
    have h1 := MpT.und (P := P) (T := T) (K := _) (E := E)
    have h2 := MpT.key (P := P) (T := T) (K := _) (E := E)
    have hb : w.heap[r]? = some (.map (M.map mEnt).toArray ck) := hm.blk 0 rfl
    have hr : (Builtin.delete_ #[T, T2] ty #[.map (some r), .int .i64 k]).run P w = .ok (.tuple #[]) { w with heap := w.heap.setIfInBounds r (mObj (M.eraseIdx j) ck) } := by
      unfold Builtin.delete_
      simp only [List.getElem?_toArray, List.getElem?_cons_zero, List.getElem?_cons_succ]
      rw [Sem.run_bind, run_underlying h1]
      simp only [Result.andThen_ok, Sem.run_bind, mget hb, run_checkKey_int h2, run_findKey_int h2, hk]
      rw [mset _ hb]
      simp only [Result.andThen_ok, erase_arr, mObj, map_erase]; rfl
    unfold Oper.wp
    rw [Fr.evn]
    have hr' : (execOp (evn n (get g F)) { dst := none, op := .call { callee := .builtin .delete, args := #[m, x], argTypes := #[T, T2] }, type := ty, pos := pos, after := af, guard := none }).run P w = .ok (.value (.tuple #[])) { w with heap := w.heap.setIfInBounds r (mObj (M.eraseIdx j) ck) } := by
      simp only [execOp, resolve, invoke, builtin, Sem.run_bind, Sem.run_pure, Result.andThen_ok, List.map_toArray, List.map_cons, List.map_nil, hm', hx, hr]
    rw [hr', Oper.upon_value]
    exact hK _ _ (h.out _ (hm.upd rfl rfl rfl (by simp) (heap_set_self hb) fun j hj _ => heap_set_other hj))
end
end Go.Port
