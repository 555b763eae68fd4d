/- Steps of a call: functions as values. No program here. -/
import Derived.Test.YtchkpkeljcdccaaAnyC
set_option linter.unusedSimpArgs false
set_option linter.unusedVariables false
namespace Go.Port
open Go.RowKit
section
variable {P : Program} {w0 : World} {D : List Nat} {n q : Nat} {ops : Array Oper} {Q : Exit → Act → World → Prop} {g : Nat → Value} {F : List (Nat × Value)} {L : List Ch}
variable {rest : List Oper} {ty : TypeId} {pos : String} {af : Array Edge} {d : Nat}
theorem sx_makeFunc {fn : Fn} {la : List Operand} (vs : List Value) (hv : evs n (get g F) la = vs) (h : SX P w0 D n q ops Q rest g ((d, .func fn #[] vs.toArray) :: F) L) :
    SX P w0 D n q ops Q ({ dst := some d, op := .makeFunc fn #[] la.toArray, type := ty, pos := pos, after := af, guard := none } :: rest) g F L :=
  sx_run (.func fn #[] vs.toArray) rfl rfl (fun w _ => by
    show ((do pure (Next.value (← Instr.makeFunc fn (#[].map (evn n (get g F))) (la.toArray.map (evn n (get g F)))))) : Sem Next).run P w = _
    simp only [List.map_toArray, evs_map, hv]; rfl) h
theorem run_callF {k : Nat} [CalT P k] {t : Nat} {la : List Operand} {ats : Array TypeId} {dst : Option Nat} {caps : List Value} (hx : evn n (get g F) (.tmp t) = .func (.func k) #[] caps.toArray) {w : World} : (execOp (evn n (get g F)) { dst := dst, op := .call { callee := .value (.tmp t), args := la.toArray, argTypes := ats }, type := ty, pos := pos, after := af, guard := none }).run P w = .ok (.enter k (evs n (get g F) la ++ caps).toArray) w := by
  have h1 := CalT.run (P := P) (k := k) (evs n (get g F) la ++ caps).toArray w
  simp only [execOp, resolve, hx]
  simp [Deferred.ofValue, evs_map, invoke, go_sem] at h1 ⊢
  exact h1
theorem sx_callF {k t : Nat} [CalT P k] {la : List Operand} {ats : Array TypeId} {caps : List Value} {v : Value} (hx : evn n (get g F) (.tmp t) = .func (.func k) #[] caps.toArray) (hc : ∀ w, Mem w0 w D L → Calls P k (evs n (get g F) la ++ caps).toArray w (Ret w [] (isV v))) (h : SX P w0 D n q ops Q rest g ((d, v) :: F) L) (hq : Nat.blt q 2 = true) :
    SX P w0 D n q ops Q ({ dst := some d, op := .call { callee := .value (.tmp t), args := la.toArray, argTypes := ats }, type := ty, pos := pos, after := af, guard := none } :: rest) g F L := by
  match q with
  | 0 =>
    exact .mk fun w hm => wpList_plain rfl fun K hK => by
      unfold Oper.wp
      rw [Fr.evn, run_callF hx, Oper.upon_enter]
      refine (hc w hm).mono ?_
      rintro e w' ⟨v', L', rfl, hm', rfl, rfl⟩
      show K ((Fr n (get g F)).put (some d) v') w'
      rw [Fr.put, get_put]
      exact hK _ _ (h.out _ (hm.call0 hm'))
  | 1 =>
    refine .mk1 ?_
    have h1 := h.out1
    unfold wpQuiet
    rw [if_pos (by simp [Region.wanted])]
    refine ⟨v, fun w hm => ?_, by rw [show (Fr n (get g F)).put (some d) v = Fr n (get g ((d, v) :: F)) by rw [Fr.put, get_put]]; exact h1⟩
    unfold Oper.quietAt
    rw [Fr.evn, run_callF hx]
    refine ⟨rfl, (hc w hm).mono ?_⟩
    rintro e w' ⟨v', L', rfl, hm', rfl, rfl⟩
    exact ⟨rfl, hm.call0 hm'⟩
  | q + 2 => simp [Nat.blt] at hq
theorem at_callT (t : Nat) {dst : Option Nat} {la : Array Operand} {ats : Array TypeId} {gd : Option (Nat × Bool)} (h : SX P w0 D n q ops Q ({ dst := dst, op := .call { callee := .value (.tmp t), args := la, argTypes := ats }, type := ty, pos := pos, after := af, guard := gd } :: rest) g F L) :
    SX P w0 D n q ops Q ({ dst := dst, op := .call { callee := .value (.tmp t), args := la, argTypes := ats }, type := ty, pos := pos, after := af, guard := gd } :: rest) g F L := h
end
end Go.Port
