/- Steps of a call: append of a make onto nil. No program here. -/
import Derived.Test.YtoelbnhjamddgaaDoorEngB
import Derived.Lib.AppendZeros
set_option linter.unusedSimpArgs false
set_option linter.unusedVariables false
namespace Go.Port
open Go.RowKit Go.Lib
section
variable {P : Program} {w0 : World} {D : List Nat} {n q : Nat} {ops : Array Oper} {Q : Exit → Act → World → Prop} {g : Nat → Value} {F : List (Nat × Value)} {L : List Ch}
variable {rest : List Oper} {ty : TypeId} {pos : String} {af : Array Edge} {d : Nat}
theorem sx_cap {x : Operand} {T E sz bytes : Nat} {z : Value} [SlT P T E sz bytes z] {a : Option Addr} {len cap : Nat} (hx : evn n (get g F) x = .slice a len cap) (h : SX P w0 D n q ops Q rest g ((d, .int .i64 cap) :: F) L) :
    SX P w0 D n q ops Q ({ dst := some d, op := .call { callee := .builtin .cap, args := #[x], argTypes := #[T] }, type := ty, pos := pos, after := af, guard := none } :: rest) g F L :=
  sx_run _ rfl rfl (fun w _ => by
    have h1 := SlT.und (P := P) (T := T) (E := E) (sz := sz) (bytes := bytes) (z := z)
    simp only [execOp, resolve]
    simp [hx, invoke, builtin, Builtin.cap_, run_underlying h1, goInt, go_sem]) h
/-- append(nil, make([]T, k)...): a new row of k zeros. -/
theorem sx_appendZ {T Tn E sz bytes : Nat} {z : Value} [SlT P T E sz bytes z] {s x : Operand} {k : Nat} {a : Int} {kn : IntKind} (htn : P.underlying Tn = some (.int kn)) (hs : evn n (get g F) s = .slice none 0 0) (hx : evn n (get g F) x = .int .i64 a) (ha : a = k) (h0 : 0 < k) (hsz : 0 < sz) (hk : k ≤ 1000000) (hb : k * bytes ≤ 281474976710656)
    (h : ∀ b cap (zs : List Value), k ≤ cap → cap ≤ maxLen → zs.length = cap * sz → SX P w0 D n 0 ops Q rest g ((d, .slice (some ⟨b, 0, none⟩) k cap) :: F) ([(b, .cells zs.toArray E (0, 0))] :: L)) :
    SX P w0 D n 0 ops Q ({ dst := some d, op := .call { callee := .builtin .append, args := #[s, x], argTypes := #[T, Tn] }, type := ty, pos := pos, after := af, guard := none } :: rest) g F L :=
  .mk fun w hm => wpList_plain rfl fun K hK => by
    subst ha
    have ht := SlT.und (P := P) (T := T) (E := E) (sz := sz) (bytes := bytes) (z := z)
    obtain ⟨i, hi, hz, hsize, hbytes⟩ := info_parts (SlT.info (P := P) (T := T) (E := E) (sz := sz) (bytes := bytes) (z := z))
    have hzs : z.cells.size = sz := SlT.zs (P := P) (T := T) (E := E) (bytes := bytes)
    subst hsize hbytes
    have hr := run_append_nil_zeros (P := P) w T Tn ty E i z .i64 kn ht htn hi hz k h0 hsz (by omega) hb
    have ge := grownCap_ge w k 0 E
    have gl := grownCap_le_maxLen w k 0 E (by unfold maxLen; omega)
    unfold Oper.wp
    rw [Fr.evn]
    have he : (execOp (evn n (get g F)) { dst := some d, op := .call { callee := .builtin .append, args := #[s, x], argTypes := #[T, Tn] }, type := ty, pos := pos, after := af, guard := none }).run P w = ((Builtin.append_ #[T, Tn] ty #[evn n (get g F) s, evn n (get g F) x]).run P w).andThen fun v w => .ok (.value v) w := by
      simp only [execOp, resolve, invoke, builtin, Sem.run_bind, Sem.run_pure, Result.andThen_ok, List.map_toArray, List.map_cons, List.map_nil]
    rw [he, hs, hx, hr]
    show K ((Fr n (get g F)).put (some d) _) _
    rw [Fr.put, get_put]
    have hl : ((Builtin.zeroCells z.cells k ++ Builtin.zeroCells z.cells (grownCap w k 0 E - k)) : Array Value).toList.length = grownCap w k 0 E * i.size := by
      rw [Array.length_toList, Array.size_append, size_zeroCells, size_zeroCells, hzs, ← Nat.add_mul]
      congr 1
      omega
    have := h w.heap.size (grownCap w k 0 E) (Builtin.zeroCells z.cells k ++ Builtin.zeroCells z.cells (grownCap w k 0 E - k)).toList ge gl hl
    rw [Array.toArray_toList] at this
    exact hK _ _ (this.out _ (hm.drew.new _))
end
end Go.Port
