/- Steps of a call: rows of the call's own, read. No program here. -/
import Derived.Test.YtchkpkeljcdccaaStep
set_option linter.unusedSimpArgs false
set_option linter.unusedVariables false
namespace Go.Port
open Go.RowKit
theorem OwnS.base' {E sz : Nat} {A : Option Addr} {n cap : Nat} {xs : List Value} {c : Ch} (h : OwnS E sz (.slice A n cap) n xs c) : ∃ b, 0 < n → A = some ⟨b, 0, none⟩ := by
  rcases h.2 with ⟨_, h0, _⟩ | ⟨b, _, _, hv, _⟩
  · exact ⟨0, fun hh => by omega⟩
  · simp only [Value.slice.injEq] at hv
    exact ⟨b, fun _ => hv.1⟩
theorem OwnS.cell' {E sz : Nat} {b n cap k : Nat} {A : Option Addr} {xs : List Value} {c : Ch} {w : World} {v : Value} (h : OwnS E sz (.slice A n cap) n xs c) (hA : A = some ⟨b, 0, none⟩) (hn : 0 < n) (hc : Has w c) (hv : xs[k]? = some v) : w.cell? ⟨b, 0 + k, none⟩ = some v := by
  subst hA
  rcases (h.sees hc).1.2 with h0 | ⟨b', o, e, _, _, hcs⟩
  · omega
  · simp only [Option.some.injEq, Addr.mk.injEq] at e
    obtain ⟨rfl, rfl, _⟩ := e
    exact hcs k v hv
section
variable {P : Program} {w0 : World} {D : List Nat} {n q : Nat} {ops : Array Oper} {Q : Exit → Act → World → Prop} {g : Nat → Value} {F : List (Nat × Value)} {L : List Ch}
variable {rest : List Oper} {ty : TypeId} {pos : String} {af : Array Edge} {d : Nat}
theorem sx_loadSA {T sz E z : Nat} [TyT P T sz true] (j k : Nat) (vs : List Value) {x : Operand} {b p m cap : Nat} {A : Option Addr} {xs : List Value} {c : Ch} (hx : evn n (get g F) x = .pointer (some ⟨b, p, none⟩)) (ho : OwnS E z (.slice A m cap) m xs c) (hA : A = some ⟨b, 0, none⟩) (hp : p = k) (hm0 : 0 < m) (hL : L[j]? = some c) (hl : vs.length = sz) (hv : ∀ i v, vs[i]? = some v → xs[k + i]? = some v)
    (h : SX P w0 D n q ops Q rest g ((d, .agg vs.toArray) :: F) L) : SX P w0 D n q ops Q ({ dst := some d, op := .load T x, type := ty, pos := pos, after := af, guard := none } :: rest) g F L := by
  subst hp
  exact sx_loadMA hx hl (fun w hm i v hi => by have := ho.cell' hA hm0 (hm.at j hL) (hv i v hi); rwa [Nat.zero_add] at this) h
theorem sx_loadS1 {T sz E z : Nat} [TyT P T sz false] (j k : Nat) {v : Value} {x : Operand} {b p m cap : Nat} {A : Option Addr} {xs : List Value} {c : Ch} (hx : evn n (get g F) x = .pointer (some ⟨b, p, none⟩)) (ho : OwnS E z (.slice A m cap) m xs c) (hA : A = some ⟨b, 0, none⟩) (hp : p = k) (hm0 : 0 < m) (hL : L[j]? = some c) (hv : xs[k]? = some v)
    (h : SX P w0 D n q ops Q rest g ((d, v) :: F) L) : SX P w0 D n q ops Q ({ dst := some d, op := .load T x, type := ty, pos := pos, after := af, guard := none } :: rest) g F L := by
  subst hp
  exact sx_loadM hx (fun w hm => by have := ho.cell' hA hm0 (hm.at j hL) hv; rwa [Nat.zero_add] at this) h
end
end Go.Port
