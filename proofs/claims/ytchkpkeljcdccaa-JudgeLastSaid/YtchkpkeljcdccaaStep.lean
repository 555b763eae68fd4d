/- One step of a walk, found by what stands next. No program here. The tactics of the side facts lie in the facts' own arguments. -/
import Derived.Test.YtchkpkeljcdccaaSxBits
set_option linter.unusedSimpArgs false
set_option linter.unusedVariables false
namespace Go.Port
open Go.RowKit
/-- A test's answer. -/
theorem dec {p : Prop} (h : p := by first | assumption | (simp only [decide_eq_true_eq, decide_eq_false_iff_not, Bool.and_eq_true, Bool.or_eq_true, Bool.and_eq_false_iff, Bool.or_eq_false_iff, Bool.not_eq_true', Bool.not_eq_false', Bool.not_true, Bool.not_false, Bool.true_or, Bool.or_true, Bool.false_or, Bool.or_false, Bool.and_true, Bool.true_and, Bool.false_and, Bool.and_false, reduceCtorEq, Classical.not_not, beq_self_eq_true, bne_self_eq_false, not_true_eq_false, not_false_eq_true, or_false, false_or, or_true, true_or, and_true, true_and, and_false, false_and, or_self, and_self]; done) | (simp only [decide_eq_true_eq, decide_eq_false_iff_not, Bool.and_eq_true, Bool.or_eq_true, Bool.and_eq_false_iff, Bool.or_eq_false_iff, Bool.not_eq_true', Bool.not_eq_false', Bool.not_true, Bool.not_false, Bool.true_or, Bool.or_true, Bool.false_or, Bool.or_false, Bool.and_true, Bool.true_and, Bool.false_and, Bool.and_false, reduceCtorEq, Classical.not_not, beq_self_eq_true, bne_self_eq_false, not_true_eq_false, not_false_eq_true, or_false, false_or, or_true, true_or, and_true, true_and, and_false, false_and, or_self, and_self]; omega)) : p := h
/-- A bound. -/
theorem bnd {p : Prop} (h : p := by first | omega | (simp only [decide_eq_true_eq, decide_eq_false_iff_not, Bool.and_eq_true, Bool.or_eq_true, Bool.and_eq_false_iff, Bool.or_eq_false_iff, Bool.not_eq_true', Bool.not_eq_false', Bool.not_true, Bool.not_false, Bool.true_or, Bool.or_true, Bool.false_or, Bool.or_false, Bool.and_true, Bool.true_and, Bool.false_and, Bool.and_false, reduceCtorEq, Classical.not_not, beq_self_eq_true, bne_self_eq_false, not_true_eq_false, not_false_eq_true, or_false, false_or, or_true, true_or, and_true, true_and, and_false, false_and, or_self, and_self] at hb; omega)) : p := h
theorem ras {p : Prop} (h : p := by first | rfl | assumption) : p := h
theorem asm {p : Prop} (h : p := by assumption) : p := h
theorem dk {p : Prop} (h : p := by decide +kernel) : p := h
/-- A value's form. -/
theorem vf {a v : Value} (h : a = v := by first | exact (rfl : _ = Value.int _ _) | exact (rfl : _ = Value.bool _) | exact (rfl : _ = Value.pointer (some ⟨_, _, none⟩)) | exact (rfl : _ = Value.slice _ _ _) | exact (rfl : _ = Value.string _) | exact (rfl : _ = Value.nilIface) | exact (rfl : _ = errV _ _) | exact (rfl : _ = Value.iface _ _) | exact (rfl : _ = Value.agg _) | exact (rfl : _ = Value.tuple _) | exact (rfl : _ = Value.pointer none) | exact (rfl : _ = Value.map _) | exact (rfl : _ = Value.func _ _ _) | exact (rfl : _ = Value.nilFunc)) : a = v := h
theorem vfs {a : Option Next} {v : Value} (h : a = some (.value v) := by first | exact (rfl : _ = some (Next.value (Value.int _ _))) | exact (rfl : _ = some (Next.value (Value.bool _))) | exact (rfl : _ = some (Next.value (Value.pointer (some ⟨_, _, none⟩)))) | exact (rfl : _ = some (Next.value (Value.slice _ _ _))) | exact (rfl : _ = some (Next.value (Value.string _))) | exact (rfl : _ = some (Next.value (Value.nilIface))) | exact (rfl : _ = some (Next.value (Value.iface _ _))) | exact (rfl : _ = some (Next.value (Value.agg _))) | exact (rfl : _ = some (Next.value (Value.tuple _))) | exact (rfl : _ = some (Next.value (Value.pointer none))) | exact (rfl : _ = some (Next.value (Value.map _))) | exact (rfl : _ = some (Next.value (Value.func _ _ _))) | exact (rfl : _ = some (Next.value (Value.nilFunc)))) : a = some (.value v) := h
theorem sets {cs cs' : List Value} {off : Nat} {v : Value} (h : cs.set off v = cs' := by repeat (first | exact set_zero | apply set_succ)) : cs.set off v = cs' := h
/-- For every new block. -/
structure AllB (R : Nat → Prop) : Prop where
  out : ∀ b, R b
/-- For every row that grew. -/
structure AllS (E sz m : Nat) (xs : List Value) (R : Value → Ch → Prop) : Prop where
  out : ∀ (A : Option Addr) (cp : Nat) (c : Ch), m ≤ cp → OwnS E sz (.slice A m cp) m xs c → R (.slice A m cp) c
theorem AllS.get {E sz m : Nat} {xs : List Value} {R : Value → Ch → Prop} (h : AllS E sz m xs R) (v : Value) (c : Ch) (ho : OwnS E sz v m xs c) : R v c := by
  obtain ⟨A, cp, rfl, hcp⟩ := ho.len
  exact h.out A cp c hcp ho
/- Groups of operations at a guard. -/
def isP (t : Nat) (o : Oper) : Bool := match o.op with
  | .pick (.tmp u) (.const (.bool true)) (.tmp _) => Nat.beq u t
  | .pick (.tmp u) (.tmp _) (.const (.bool false)) => Nat.beq u t
  | _ => false
def grpOf (t : Nat) : List Oper → List Oper
  | [] => []
  | o :: r => bif isP t o then [] else o :: grpOf t r
def aftOf (t : Nat) : List Oper → List Oper
  | [] => []
  | o :: r => bif isP t o then r else aftOf t r
def pickOf (t : Nat) : List Oper → Option Oper
  | [] => none
  | o :: r => bif isP t o then some o else pickOf t r
theorem pickOf_eq {t : Nat} {p : Oper} : ∀ {l : List Oper}, pickOf t l = some p → l = grpOf t l ++ p :: aftOf t l
  | [], h => by cases h
  | o :: r, h => by
    unfold pickOf at h
    unfold grpOf aftOf
    cases e : isP t o with
    | true => rw [e] at h; cases h; rfl
    | false =>
      rw [e] at h
      show o :: r = o :: (grpOf t r ++ p :: aftOf t r)
      rw [← pickOf_eq h]
section
variable {P : Program} {w0 : World} {D : List Nat} {n q : Nat} {ops : Array Oper} {Q : Exit → Act → World → Prop} {g : Nat → Value} {F : List (Nat × Value)} {L : List Ch} {ty d : Nat} {pos : String} {af : Array Edge} {rest : List Oper}
theorem sx_grpC {t : Nat} {o : Oper} (he : isP t o = false) (h : SX P w0 D n q ops Q (o :: grpOf t rest) g F L) : SX P w0 D n q ops Q (grpOf t (o :: rest)) g F L := by unfold grpOf; rw [he]; exact h
theorem sx_grpN {t : Nat} {o : Oper} (he : isP t o = true) (h : SX P w0 D n q ops Q [] g F L) : SX P w0 D n q ops Q (grpOf t (o :: rest)) g F L := by unfold grpOf; rw [he]; exact h
theorem sx_aftC {t : Nat} {o : Oper} (he : isP t o = false) (h : SX P w0 D n q ops Q (aftOf t rest) g F L) : SX P w0 D n q ops Q (aftOf t (o :: rest)) g F L := by unfold aftOf; rw [he]; exact h
theorem sx_aftN {t : Nat} {o : Oper} (he : isP t o = true) (h : SX P w0 D n q ops Q rest g F L) : SX P w0 D n q ops Q (aftOf t (o :: rest)) g F L := by unfold aftOf; rw [he]; exact h
theorem sx_orG {o : Oper} {j t x : Nat} {b : Bool} {gd : Option (Nat × Bool)} (hg : o.guard = some (j, false)) (hd : (ops[j]?).bind (·.dst) = some t) (hv : get g F t = .bool b)
    (hp : pickOf t (o :: rest) = some { dst := some d, op := .pick (.tmp t) (.const (.bool true)) (.tmp x), type := ty, pos := pos, after := af, guard := gd }) (htn : Nat.blt t n = true) (hxn : Nat.blt x n = true)
    (h : ∃ c : Bool, (b = false → ∀ K : Act → World → Prop, (∀ g F' L', get g F' t = .bool b → get g F' x = .bool c → Beside F' F → L'.drop (L'.length - L.length) = L → QX w0 D n (Exit.then K Q) .normal g F' L') → SX P w0 D n 0 ops (Exit.then K Q) (grpOf t (o :: rest)) g F L) ∧
      (∀ g, SX P w0 D n 0 ops Q ({ dst := some d, op := .move (.const (.bool (b || c))), type := ty, pos := pos, after := af, guard := gd } :: aftOf t (o :: rest)) g F L))
    (hno : b = true → ∀ K : Act → World → Prop, (∀ g F' L', get g F' t = .bool b → Beside F' F → L'.drop (L'.length - L.length) = L → QX w0 D n (Exit.then K Q) .normal g F' L') → SX P w0 D n 0 ops (Exit.then K Q) (grpOf t (o :: rest)) g F L) : SX P w0 D n 0 ops Q (o :: rest) g F L :=
  sx_or (grpOf t (o :: rest)) hg hd hv (pickOf_eq hp) htn hxn h hno
theorem sx_andG {o : Oper} {j t x : Nat} {b : Bool} {gd : Option (Nat × Bool)} (hg : o.guard = some (j, true)) (hd : (ops[j]?).bind (·.dst) = some t) (hv : get g F t = .bool b)
    (hp : pickOf t (o :: rest) = some { dst := some d, op := .pick (.tmp t) (.tmp x) (.const (.bool false)), type := ty, pos := pos, after := af, guard := gd }) (htn : Nat.blt t n = true) (hxn : Nat.blt x n = true)
    (h : ∃ c : Bool, (b = true → ∀ K : Act → World → Prop, (∀ g F' L', get g F' t = .bool b → get g F' x = .bool c → Beside F' F → L'.drop (L'.length - L.length) = L → QX w0 D n (Exit.then K Q) .normal g F' L') → SX P w0 D n 0 ops (Exit.then K Q) (grpOf t (o :: rest)) g F L) ∧
      (∀ g, SX P w0 D n 0 ops Q ({ dst := some d, op := .move (.const (.bool (b && c))), type := ty, pos := pos, after := af, guard := gd } :: aftOf t (o :: rest)) g F L))
    (hno : b = false → ∀ K : Act → World → Prop, (∀ g F' L', get g F' t = .bool b → Beside F' F → L'.drop (L'.length - L.length) = L → QX w0 D n (Exit.then K Q) .normal g F' L') → SX P w0 D n 0 ops (Exit.then K Q) (grpOf t (o :: rest)) g F L) : SX P w0 D n 0 ops Q (o :: rest) g F L :=
  sx_and (grpOf t (o :: rest)) hg hd hv (pickOf_eq hp) htn hxn h hno
theorem at_grp {t : Nat} {l : List Oper} (h : SX P w0 D n q ops Q (grpOf t l) g F L) : SX P w0 D n q ops Q (grpOf t l) g F L := h
theorem at_aft {t : Nat} {l : List Oper} (h : SX P w0 D n q ops Q (aftOf t l) g F L) : SX P w0 D n q ops Q (aftOf t l) g F L := h
end
end Go.Port
