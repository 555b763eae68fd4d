/- Maps of numbers to numbers: as maps of any keys; loops over them that take away and delete. -/
import Derived.Test.YtaofimndclgpdaaDoorMapsK
import Derived.Test.YtaofimndclgpdaaDoorTypes
import Derived.Test.YtaofimndclgpdaaDoorProg
import Derived.Test.YtaofimndclgpdaaDoorEr
import Derived.Laws.StructEq
import Derived.WalkKit
import Derived.KernelRfl
set_option linter.unusedSimpArgs false
set_option linter.unusedVariables false
namespace Go.Port
open Go.RowKit
section
variable {κ : Type} {kv : κ → Value}
variable {P : Program} {w0 : World} {D : List Nat} {n q : Nat} {ops : Array Oper} {Q : Exit → Act → World → Prop} {g : Nat → Value} {F : List (Nat × Value)} {L : List Ch}
variable {rest : List Oper} {ty : TypeId} {pos : String} {af : Array Edge} {d : Nat}
/-- What a map holds, as the world tells. -/
theorem sx_lookKM [DecidableEq κ] {T K E : Nat} [MpK P T K E] [KeyV P K κ kv] {z : Value} [ZvT P E z] {x y : Operand} {r ck : Nat} {k : κ} {M : MK κ} {v : Value} (hx : evn n (get g F) x = .map (some r)) (hy : evn n (get g F) y = kv k) (hL : ∀ w, Mem w0 w D L → w.heap[r]? = some (kObj kv M ck)) (hv : ((lkK M k).map (·.2)).getD z = v)
    (h : SX P w0 D n q ops Q rest g ((d, v) :: F) L) : SX P w0 D n q ops Q ({ dst := some d, op := .lookup T x y false, type := ty, pos := pos, after := af, guard := none } :: rest) g F L :=
  sx_run _ rfl rfl (fun w hm => by
    have h1 := lookup_runK (P := P) (T := T) (z := z) (k := k) false (hL w hm)
    rw [hv] at h1
    show ((do pure (Next.value (← Instr.lookup T (evn n (get g F) x) (evn n (get g F) y) false))) : Sem Next).run P w = _
    rw [hx, hy]; exact run_v h1) h
/-- A key that is there is put again. -/
theorem sx_putYK [DecidableEq κ] {T K E : Nat} [MpK P T K E] [KeyV P K κ kv] {m x y : Operand} {r ck j b : Nat} {k : κ} {M : MK κ} {v u : Value} (hm' : evn n (get g F) m = .map (some r)) (hx : evn n (get g F) x = kv k) (hy : evn n (get g F) y = v) (hk : lkK M k = some (j, u)) (hj : M[j]? = some (k, u, b))
    (h : SX P w0 D n 0 ops Q rest g F ([(r, kObj kv (M.set j (k, v, b)) ck)] :: L)) : SX P w0 D n 0 ops Q ({ dst := none, op := .mapUpdate T m x y, type := ty, pos := pos, after := af, guard := none } :: rest) g F ([(r, kObj kv M ck)] :: L) :=
  .mk fun w hm => wpList_plain rfl fun KK hK => by
    have h1 := MpK.und (P := P) (T := T) (K := _) (E := E)
    have hb : w.heap[r]? = some (.map (M.map (kEnt kv)).toArray ck) := hm.blk 0 rfl
    have hmod : (M.map (kEnt kv)).toArray.modify j (fun e => { e with key := kv k, val := v }) = ((M.set j (k, v, b)).map (kEnt kv)).toArray := by
      apply Array.ext
      · simp
      · intro i h1 h2
        rw [Array.getElem_modify]
        simp only [List.getElem_toArray, List.getElem_map, List.getElem_set]
        split
        · rename_i e
          subst e
          have h3 : M[j]'(by simpa using h2) = (k, u, b) := by
            have := List.getElem?_eq_getElem (l := M) (i := j) (by simpa using h2)
            rw [hj] at this
            exact (Option.some.inj this).symm
          rw [h3]
          rfl
        · rfl
    have hr : (Instr.mapUpdate T (.map (some r)) (kv k) v).run P w = .ok () { w with heap := w.heap.setIfInBounds r (kObj kv (M.set j (k, v, b)) ck) } := by
      unfold Instr.mapUpdate
      rw [Sem.run_bind, run_underlying h1]
      simp only [Result.andThen_ok, Sem.run_bind, mget hb, KeyV.check (P := P) (K := K) (kv := kv), KeyV.find (P := P) (K := K) (kv := kv), hk]
      have h2 : (Instr.keyThatStays (kv k) (kv k)).run P w = .ok (kv k) w := by
        unfold Instr.keyThatStays
        rw [if_pos (KeyV.same (P := P) (K := K) (kv := kv) k)]
        rfl
      have hj' : (M.map (kEnt kv))[j]? = some (kEnt kv (k, u, b)) := by rw [List.getElem?_map, hj]; rfl
      simp only [List.getElem?_toArray, hj', Option.map_some, Option.getD_some]
      rw [show (kEnt kv (k, u, b)).key = kv k from rfl, h2, Result.andThen_ok, hmod, mset _ hb]
      rfl
    unfold Oper.wp
    rw [Fr.evn]
    have hr' : (execOp (evn n (get g F)) { dst := none, op := .mapUpdate T m x y, type := ty, pos := pos, after := af, guard := none }).run P w = .ok .skip { w with heap := w.heap.setIfInBounds r (kObj kv (M.set j (k, v, b)) ck) } := by
      show ((do Instr.mapUpdate T (evn n (get g F) m) (evn n (get g F) x) (evn n (get g F) y); pure Next.skip) : Sem Next).run P w = _
      rw [hm', hx, hy]; exact run_u hr
    rw [hr', Oper.upon_skip]
    exact hK _ _ (h.out _ (hm.upd rfl rfl rfl (by simp) (heap_set_self hb) fun j hj _ => heap_set_other hj))
end
end Go.Port
namespace Go.Proofs.YtaofimndclgpdaaDoor
open Go.RowKit Go.Port
attribute [local irreducible] Calls
def kvI (a : Int) : Value := .int .i64 a
theorem find_numI (k : Int) : ∀ (M : MK Int) (i : Nat), Instr.findNow (.int .i64) (kvI k) (M.map (kEnt kvI)) i = some ((lkK M k).map fun p => (p.1 + i, p.2))
  | [], i => rfl
  | e :: M, i => by
    rw [List.map_cons, Instr.findNow]
    have h1 : Instr.sameNow (.int .i64) (kvI k) (kEnt kvI e).key = some (k == e.1) := rfl
    rw [h1]
    by_cases h : e.1 = k
    · rw [show (k == e.1) = true from beq_iff_eq.2 h.symm]
      show some (some (i, e.2.1)) = _
      rw [lkK, if_pos h]
      simp
    · rw [show (k == e.1) = false from beq_eq_false_iff_ne.2 (Ne.symm h)]
      show Instr.findNow (.int .i64) (kvI k) (M.map (kEnt kvI)) (i + 1) = _
      rw [find_numI k M (i + 1), lkK, if_neg h, Option.map_map]
      congr 2
      funext p
      simp [Nat.add_comm, Nat.add_left_comm]
instance : KeyV Tryd.prog 3 Int kvI where
  check := fun e a w => by
    rw [show (10000 : Nat) = 9999 + 1 from rfl, Instr.checkKey, Sem.run_bind, run_underlying Tryd.underlying3]
    rfl
  find := fun M k w => by
    unfold Instr.findKey
    rw [Sem.run_bind, run_underlying Tryd.underlying3, Result.andThen_ok, find_numI]
    simp
  same := fun k => by
    rw [show (10000 : Nat) = 9999 + 1 from rfl]
    unfold kvI
    simp [Instr.sameBits]
instance : MpK Tryd.prog 48 3 3 := ⟨Tryd.underlying48⟩
end Go.Proofs.YtaofimndclgpdaaDoor
