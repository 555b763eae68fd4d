/- Steps of a call: functions as values that change what they hold. No program here. -/
import Derived.Test.YtchkpkeljcdccaaFun
set_option linter.unusedSimpArgs false
set_option linter.unusedVariables false
namespace Go.Port
open Go.RowKit
theorem Mem.self {w0 w : World} {D : List Nat} {c : Ch} {L : List Ch} (h : Mem w0 w D (c :: L)) : Mem w w (c.map (·.1)) [c] := by
  have hn := h.nodup
  simp only [List.flatten_cons, List.map_append] at hn
  have := Mem.start (w := w) (L := [c]) (fun e he => h.head e (by simpa using he)) (by simpa using (List.nodup_append.1 hn).1)
  simpa using this
/-- What was there first is not what a call made. -/
theorem Mem.apart {w0 w : World} {c : Ch} {L : List Ch} (h : Mem w0 w [] (c :: L)) {sz : Nat} {A : Option Addr} {len cap : Nat} {xs : List Value} (hs : IsSl w0 sz A len cap xs) : len = 0 ∨ ∀ b o, A = some ⟨b, o, none⟩ → b ∉ c.map (·.1) := by
  rcases hs.2 with h0 | ⟨b, o, rfl, hb, _, _⟩
  · exact .inl (by omega)
  · refine .inr fun b' o' e hm => ?_
    simp only [Option.some.injEq, Addr.mk.injEq] at e
    obtain ⟨rfl, _⟩ := e
    obtain ⟨e, he, rfl⟩ := List.mem_map.1 hm
    rcases h.own e (by simp [he]) with h1 | h1
    · omega
    · cases h1
section
variable {P : Program} {w0 : World} {D : List Nat} {n q : Nat} {ops : Array Oper} {Q : Exit → Act → World → Prop} {g : Nat → Value} {F : List (Nat × Value)} {L : List Ch}
variable {rest : List Oper} {ty : TypeId} {pos : String} {af : Array Edge} {d : Nat}
theorem sx_callFM {k t : Nat} [CalT P k] {la : List Operand} {ats : Array TypeId} {caps : List Value} {c : Ch} {R : Value → List Ch → Prop} (hx : evn n (get g F) (.tmp t) = .func (.func k) #[] caps.toArray) (hc : ∀ w, Mem w0 w D (c :: L) → Calls P k (evs n (get g F) la ++ caps).toArray w (Ret w (c.map (·.1)) R)) (h : ∀ v L', R v L' → SX P w0 D n 0 ops Q rest g ((d, v) :: F) (L' ++ L)) :
    SX P w0 D n 0 ops Q ({ dst := some d, op := .call { callee := .value (.tmp t), args := la.toArray, argTypes := ats }, type := ty, pos := pos, after := af, guard := none } :: rest) g F (c :: L) :=
  .mk fun w hm => wpList_plain rfl fun K hK => by
    unfold Oper.wp
    rw [Fr.evn, run_callF hx, Oper.upon_enter]
    refine (hc w hm).mono ?_
    rintro e w' ⟨v, L', rfl, hm', hR⟩
    show K ((Fr n (get g F)).put (some d) v) w'
    rw [Fr.put, get_put]
    exact hK _ _ ((h v L' hR).out _ (hm.call hm'))
end
end Go.Port
