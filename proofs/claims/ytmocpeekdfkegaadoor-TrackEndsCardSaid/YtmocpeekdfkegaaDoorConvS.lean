/- Steps of a call: a slice of bytes made one of its own type. No program here. -/
import Derived.Test.YtmocpeekdfkegaaDoorStep
set_option linter.unusedSimpArgs false
set_option linter.unusedVariables false
namespace Go.Port
open Go.RowKit
section
variable {P : Program} {w0 : World} {D : List Nat} {n q : Nat} {ops : Array Oper} {Q : Exit → Act → World → Prop} {g : Nat → Value} {F : List (Nat × Value)} {L : List Ch}
variable {rest : List Oper} {ty : TypeId} {pos : String} {af : Array Edge} {d : Nat}
theorem sx_convS {T E sz bytes : Nat} {z : Value} [SlT P T E sz bytes z] (hE : P.underlying E = some (.int .u8)) {x : Operand} {b len cap : Nat} {cs : List Value} (hx : evn n (get g F) x = .slice (some ⟨b, 0, none⟩) len cap)
    (h : SX P w0 D n 0 ops Q rest g ((d, .slice (some ⟨b, 0, none⟩) len cap) :: F) ([(b, .cells cs.toArray E (cs.length, cs.length + 1))] :: L)) :
    SX P w0 D n 0 ops Q ({ dst := some d, op := .convert T T x, type := ty, pos := pos, after := af, guard := none } :: rest) g F ([(b, .cells cs.toArray E (0, 0))] :: L) :=
  .mk fun w hm => wpList_plain rfl fun K hK => by
    have ht := SlT.und (P := P) (T := T) (E := E) (sz := sz) (bytes := bytes) (z := z)
    have hb : w.heap[b]? = some (.cells cs.toArray E (0, 0)) := hm.head (b, .cells cs.toArray E (0, 0)) (by simp)
    have hsh : w.shape? b = some (E, cs.length) := by simp [World.shape?, hb]
    have hr : (execOp (evn n (get g F)) { dst := some d, op := .convert T T x, type := ty, pos := pos, after := af, guard := none }).run P w = .ok (.value (.slice (some ⟨b, 0, none⟩) len cap)) (w.freeze ⟨b, cs.length, none⟩ 1) := by
      show ((do pure (Next.value (← convert T T (evn n (get g F) x)))) : Sem Next).run P w = _
      rw [hx]
      simp [convert, markStringish, shape, Sem.run_bind, Sem.run, run_underlying ht, run_underlying hE, hsh, go_sem]
    unfold Oper.wp
    rw [Fr.evn, hr, Oper.upon_value]
    rw [Fr.put, get_put]
    have hlt := heap_lt hb
    refine hK _ _ (h.out _ (hm.upd (w' := w.freeze ⟨b, cs.length, none⟩ 1) rfl rfl rfl (by simp [World.freeze]) ?_ fun k hk _ => ?_))
    · simp [World.freeze, Array.getElem?_modify, hb]
    · simp [World.freeze, Array.getElem?_modify, Ne.symm hk]
end
end Go.Port
