/- frag: what a pool answers to a piece: the plain part. No program here. -/
import Derived.Test.YtlpdapfihgpheaaDoorFragP
set_option linter.unusedSimpArgs false
set_option linter.unusedVariables false
namespace Go.Port
/-- A row with a part of it put in. -/
def putAt {α : Type} (l : List α) (o : Nat) (p : List α) : List α := l.take o ++ p ++ l.drop (o + p.length)
/-- A heap with a piece put in. -/
def putH (h : Hp) (a : Int) (m : Bool) (t : Int) (l : List Int) : Hp :=
  { h with body := putAt h.body (8 * a).toNat l, has := putAt h.has (8 * a).toNat (List.replicate l.length true), ttl := min h.ttl t, height := max h.height (8 * a + l.length), fin := if m = true then h.fin else 8 * a + l.length }
/-- Whether all of it came. -/
def wholeH (h : Hp) : Bool := !decide (h.fin < 0) && !decide (false ∈ h.has.take h.fin.toNat)
/-- An empty heap. -/
def newH (t ttl : Int) : Hp := ⟨t, ttl, -1, 0, false, List.replicate 4000 0, List.replicate 4000 false⟩
theorem putAt_len {α : Type} {l p : List α} {o : Nat} (h : o + p.length ≤ l.length) : (putAt l o p).length = l.length := by
  unfold putAt
  simp only [List.length_append, List.length_take, List.length_drop]
  omega
/-- One more of a part is put. -/
theorem putAt_snoc {α : Type} {l p : List α} {o : Nat} {x : α} (h : o + p.length < l.length) : (putAt l o p).set (o + p.length) x = putAt l o (p ++ [x]) := by
  unfold putAt
  have h1 : (l.take o ++ p).length = o + p.length := by
    simp only [List.length_append, List.length_take]
    omega
  rw [List.set_append_right _ _ (by omega), h1, Nat.sub_self, List.drop_eq_getElem_cons h, List.set_cons_zero, List.length_append, List.length_singleton]
  simp only [List.append_assoc, List.singleton_append, Nat.add_assoc]
theorem putAt_nil {α : Type} (l : List α) (o : Nat) : putAt l o [] = l := by
  unfold putAt
  simp
end Go.Port
