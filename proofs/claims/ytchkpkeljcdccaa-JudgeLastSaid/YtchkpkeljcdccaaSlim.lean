/- Arms in short: what is looked for is found by a default. No program here. -/
import Derived.Test.YtchkpkeljcdccaaStep
import Derived.Test.YtchkpkeljcdccaaAnyC
set_option linter.unusedSimpArgs false
set_option linter.unusedVariables false
namespace Go.Port
open Go.RowKit
theorem blds {a : Option (List Value)} {cs : List Value} (h : a = some cs := by first | exact (rfl : _ = some [_]) | exact (rfl : _ = some [_, _]) | exact (rfl : _ = some [_, _, _]) | exact (rfl : _ = some [_, _, _, _]) | exact (rfl : _ = some [_, _, _, _, _]) | exact (rfl : _ = some [_, _, _, _, _, _]) | exact (rfl : _ = some [_, _, _, _, _, _, _]) | exact (rfl : _ = some [_, _, _, _, _, _, _, _]) | exact (rfl : _ = some [_, _, _, _, _, _, _, _, _]) | exact (rfl : _ = some [_, _, _, _, _, _, _, _, _, _]) | exact (rfl : _ = some [_, _, _, _, _, _, _, _, _, _, _, _, _, _, _]) | exact (rfl : _ = some [_, _, _, _, _, _, _, _, _, _, _, _, _, _, _, _, _])) : a = some cs := h
theorem bcs {a cs : List Value} (h : a = cs := by first | exact (rfl : _ = []) | exact (rfl : _ = [_]) | exact (rfl : _ = [_, _]) | exact (rfl : _ = [_, _, _]) | exact (rfl : _ = [_, _, _, _]) | exact (rfl : _ = [_, _, _, _, _]) | exact (rfl : _ = [_, _, _, _, _, _]) | exact (rfl : _ = [_, _, _, _, _, _, _]) | exact (rfl : _ = [_, _, _, _, _, _, _, _]) | exact (rfl : _ = [_, _, _, _, _, _, _, _, _]) | exact (rfl : _ = [_, _, _, _, _, _, _, _, _, _]) | exact (rfl : _ = [_, _, _, _, _, _, _, _, _, _, _]) | exact (rfl : _ = [_, _, _, _, _, _, _, _, _, _, _, _]) | exact (rfl : _ = [_, _, _, _, _, _, _, _, _, _, _, _, _]) | exact (rfl : _ = [_, _, _, _, _, _, _, _, _, _, _, _, _, _]) | exact (rfl : _ = [_, _, _, _, _, _, _, _, _, _, _, _, _, _, _]) | exact (rfl : _ = [_, _, _, _, _, _, _, _, _, _, _, _, _, _, _, _])) : a = cs := h
/-- The piece that holds a block. -/
theorem pc {L : List Ch} {b : Nat} {cs : List Value} {T' : TypeId} {fr : Nat × Nat} (h : ∃ i : Nat, L[i]? = some [(b, Obj.cells cs.toArray T' fr)] := by first | exact ⟨0, rfl⟩ | exact ⟨1, rfl⟩ | exact ⟨2, rfl⟩ | exact ⟨3, rfl⟩ | exact ⟨4, rfl⟩ | exact ⟨5, rfl⟩ | exact ⟨6, rfl⟩ | exact ⟨7, rfl⟩ | exact ⟨8, rfl⟩ | exact ⟨9, rfl⟩) : ∃ i : Nat, L[i]? = some [(b, Obj.cells cs.toArray T' fr)] := h
theorem gv {a : Option Value} {v : Value} (h : a = some v := by exact rfl) : a = some v := h
theorem gl {a b : Nat} (h : a = b := by exact rfl) : a = b := h
theorem gb {a b : Bool} (h : a = b := by exact rfl) : a = b := h
theorem plc {a b : Nat} (h : a = b := by first | exact (rfl : _ = 0) | exact (rfl : _ = 1) | exact (rfl : _ = 2) | exact (rfl : _ = 3) | exact (rfl : _ = 4) | exact (rfl : _ = 5) | exact (rfl : _ = 6) | exact (rfl : _ = 7) | exact (rfl : _ = 8) | exact (rfl : _ = 9) | exact (rfl : _ = 10) | exact (rfl : _ = 11) | exact (rfl : _ = 12) | exact (rfl : _ = 13) | exact (rfl : _ = 14) | exact (rfl : _ = 15) | exact (rfl : _ = 16)) : a = b := h
/-- A piece brought ahead. -/
theorem pr {L L1 : List Ch} {b : Nat} {cs : List Value} {T' : TypeId} (h : Rot L ([(b, Obj.cells cs.toArray T' (0, 0))] :: L1) := by first | exact rot0 | exact rot1 | exact rot2 | exact rot3 | exact rot4 | exact rot5 | exact rot6 | exact rot7 | exact rot8 | exact rot9) : Rot L ([(b, Obj.cells cs.toArray T' (0, 0))] :: L1) := h
section
variable {P : Program} {w0 : World} {D : List Nat} {n q : Nat} {ops : Array Oper} {Q : Exit → Act → World → Prop} {g : Nat → Value} {F : List (Nat × Value)} {L : List Ch}
variable {rest : List Oper} {ty : TypeId} {pos : String} {af : Array Edge} {d : Nat}
theorem sx_loadE {T sz : Nat} [TyT P T sz false] {x : Operand} {b off : Nat} {cs : List Value} {T' : TypeId} {fr : Nat × Nat} {v : Value} (hx : evn n (get g F) x = .pointer (some ⟨b, off, none⟩)) (hL : ∃ i : Nat, L[i]? = some [(b, Obj.cells cs.toArray T' fr)]) (hv : cs[off]? = some v)
    (h : SX P w0 D n q ops Q rest g ((d, v) :: F) L) : SX P w0 D n q ops Q ({ dst := some d, op := .load T x, type := ty, pos := pos, after := af, guard := none } :: rest) g F L := by
  obtain ⟨i, hi⟩ := hL
  exact sx_load i hx hi hv h
theorem sx_loadWE {T sz : Nat} [TyT P T sz true] {x : Operand} {b : Nat} {cs : List Value} {T' : TypeId} {fr : Nat × Nat} (hx : evn n (get g F) x = .pointer (some ⟨b, 0, none⟩)) (hL : ∃ i : Nat, L[i]? = some [(b, Obj.cells cs.toArray T' fr)]) (hl : cs.length = sz)
    (h : SX P w0 D n q ops Q rest g ((d, .agg cs.toArray) :: F) L) : SX P w0 D n q ops Q ({ dst := some d, op := .load T x, type := ty, pos := pos, after := af, guard := none } :: rest) g F L := by
  obtain ⟨i, hi⟩ := hL
  exact sx_loadW i hx hi hl h
theorem sx_storeE {T sz : Nat} [TyT P T sz false] {p : Operand} {b off : Nat} {cs cs' : List Value} {T' : TypeId} {v : Value} {L1 : List Ch} (hp : evn n (get g F) p = .pointer (some ⟨b, off, none⟩)) (hr : Rot L ([(b, Obj.cells cs.toArray T' (0, 0))] :: L1)) (h1 : oneB v = true) (hsz : Nat.beq sz 1 = true) (hle : Nat.blt off cs.length = true) (hs : cs.set off v = cs')
    (h : SX P w0 D n 0 ops Q rest g F ([(b, .cells cs'.toArray T' (0, 0))] :: L1)) : SX P w0 D n 0 ops Q ({ dst := none, op := .store T p (.const v), type := ty, pos := pos, after := af, guard := none } :: rest) g F L :=
  sx_rot hr (sx_store hp h1 hsz hle hs h)
theorem sx_storeWE {T sz : Nat} [TyT P T sz true] {p : Operand} {b : Nat} {cs vs : List Value} {T' : TypeId} {L1 : List Ch} (hp : evn n (get g F) p = .pointer (some ⟨b, 0, none⟩)) (hr : Rot L ([(b, Obj.cells cs.toArray T' (0, 0))] :: L1)) (hl : vs.length = sz) (hle : cs.length = sz) (h1 : vs.all oneB = true)
    (h : SX P w0 D n 0 ops Q rest g F ([(b, .cells vs.toArray T' (0, 0))] :: L1)) : SX P w0 D n 0 ops Q ({ dst := none, op := .store T p (.const (.agg vs.toArray)), type := ty, pos := pos, after := af, guard := none } :: rest) g F L :=
  sx_rot hr (sx_storeW hp hl hle h1 h)
variable {Ls : List Ch} {done : List Nat}
theorem tkk {ops : Array Oper} {done : List Nat} (k : Nat) (h1 : notIn k done = true) (h2 : pureAt ops k = true) (h3 : takeH ops done k = true) : (notIn k done && pureAt ops k && takeH ops done k) = true := by rw [h1, h2, h3]; rfl
/-- The next one that may be taken. -/
theorem tk {ops : Array Oper} {done : List Nat} {k : Nat} (h : (notIn k done && pureAt ops k && takeH ops done k) = true := by first | exact tkk 0 rfl rfl dk | exact tkk 1 rfl rfl dk | exact tkk 2 rfl rfl dk | exact tkk 3 rfl rfl dk | exact tkk 4 rfl rfl dk | exact tkk 5 rfl rfl dk | exact tkk 6 rfl rfl dk | exact tkk 7 rfl rfl dk | exact tkk 8 rfl rfl dk | exact tkk 9 rfl rfl dk | exact tkk 10 rfl rfl dk | exact tkk 11 rfl rfl dk | exact tkk 12 rfl rfl dk | exact tkk 13 rfl rfl dk | exact tkk 14 rfl rfl dk | exact tkk 15 rfl rfl dk | exact tkk 16 rfl rfl dk | exact tkk 17 rfl rfl dk | exact tkk 18 rfl rfl dk | exact tkk 19 rfl rfl dk | exact tkk 20 rfl rfl dk | exact tkk 21 rfl rfl dk | exact tkk 22 rfl rfl dk | exact tkk 23 rfl rfl dk | exact tkk 24 rfl rfl dk | exact tkk 25 rfl rfl dk | exact tkk 26 rfl rfl dk | exact tkk 27 rfl rfl dk | exact tkk 28 rfl rfl dk | exact tkk 29 rfl rfl dk | exact tkk 30 rfl rfl dk | exact tkk 31 rfl rfl dk) : (notIn k done && pureAt ops k && takeH ops done k) = true := h
theorem ah_pk {k : Nat} (ht : (notIn k done && pureAt ops k && takeH ops done k) = true) (h : takeH ops done k = true → AH P w0 D n ops Q Ls done g F L) : AH P w0 D n ops Q Ls done g F L := by
  simp only [Bool.and_eq_true] at ht
  exact h ht.2
theorem lkk {ops : Array Oper} {done : List Nat} (k : Nat) (_ : notIn k done = true) (h3 : loneH ops done k = true) : loneH ops done k = true := h3
/-- The only one that may come. -/
theorem lon {ops : Array Oper} {done : List Nat} {k : Nat} (h : loneH ops done k = true := by first | exact lkk 0 rfl dk | exact lkk 1 rfl dk | exact lkk 2 rfl dk | exact lkk 3 rfl dk | exact lkk 4 rfl dk | exact lkk 5 rfl dk | exact lkk 6 rfl dk | exact lkk 7 rfl dk | exact lkk 8 rfl dk | exact lkk 9 rfl dk | exact lkk 10 rfl dk | exact lkk 11 rfl dk | exact lkk 12 rfl dk | exact lkk 13 rfl dk | exact lkk 14 rfl dk | exact lkk 15 rfl dk | exact lkk 16 rfl dk | exact lkk 17 rfl dk | exact lkk 18 rfl dk | exact lkk 19 rfl dk | exact lkk 20 rfl dk | exact lkk 21 rfl dk | exact lkk 22 rfl dk | exact lkk 23 rfl dk | exact lkk 24 rfl dk | exact lkk 25 rfl dk | exact lkk 26 rfl dk | exact lkk 27 rfl dk | exact lkk 28 rfl dk | exact lkk 29 rfl dk | exact lkk 30 rfl dk | exact lkk 31 rfl dk) : loneH ops done k = true := h
end
end Go.Port
