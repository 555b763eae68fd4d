/- An address as a text: the plain law. No program here. -/
import Derived.Test.YtoelbnhjamddgaaDoorStrL
set_option linter.unusedSimpArgs false
set_option linter.unusedVariables false
namespace Go.Port
open Go.Lib
/-- One of an address' four numbers. -/
def quad (a j : Nat) : Nat := a / 2 ^ (24 - 8 * j) % 256
def quads (a : Nat) : List (List UInt8) := [decDigits (quad a 0), decDigits (quad a 1), decDigits (quad a 2), decDigits (quad a 3)]
/-- An address' text. -/
def addrT (a : Nat) : List UInt8 := join (quads a) [46]
theorem quad_lt (a j : Nat) : quad a j < 256 := Nat.mod_lt _ (by decide)
theorem quad_int {a j : Nat} {i : Int} (h : i = 24 - 8 * (j : Int)) (hj : j ≤ 3) : (a : Int) / 2 ^ i.toNat % 256 = (quad a j : Int) := by
  have e : i.toNat = 24 - 8 * j := by omega
  rw [e, quad, Int.natCast_emod, Int.natCast_ediv, Int.natCast_pow]
  rfl
theorem quads_at {a j : Nat} (hj : j < 4) : (quads a)[j]? = some (decDigits (quad a j)) := by
  have h : j = 0 ∨ j = 1 ∨ j = 2 ∨ j = 3 := by omega
  rcases h with rfl | rfl | rfl | rfl <;> rfl
theorem quads_take {a j : Nat} (hj : j < 4) : (quads a).take (j + 1) = (quads a).take j ++ [decDigits (quad a j)] := by
  have h : j = 0 ∨ j = 1 ∨ j = 2 ∨ j = 3 := by omega
  rcases h with rfl | rfl | rfl | rfl <;> rfl
theorem quads_not {a : Nat} {c : UInt8} (h : c.toNat < 48 ∨ 57 < c.toNat) : ∀ p ∈ quads a, c ∉ p := fun p hp => by
  simp only [quads, List.mem_cons, List.not_mem_nil, or_false] at hp
  rcases hp with rfl | rfl | rfl | rfl <;> exact dec_not h
theorem addrT_count (a : Nat) : count (addrT a) [46] = 3 := count_parts _ _ (quads_not (.inl (by decide)))
theorem addrT_split (a : Nat) : splitK [46] 0 3 (addrT a) = quads a := split_parts _ _ (quads_not (.inl (by decide)))
theorem addrT_not {a : Nat} {c : UInt8} (h : c.toNat < 48 ∨ 57 < c.toNat) (h2 : c ≠ 46) : c ∉ addrT a := mem_join _ _ h2 (quads_not h)
theorem addrT_any (a : Nat) : ¬ addrT a = [97, 110, 121] := fun h => addrT_not (a := a) (c := 97) (.inr (by decide)) (by decide) (by rw [h]; exact List.Mem.head _)
theorem addrT_len (a : Nat) : (addrT a).length ≤ 15 := by
  have h := fun j => dec_len (u := quad a j) (Nat.lt_of_lt_of_le (quad_lt a j) (by decide))
  have h0 := h 0
  have h1 := h 1
  have h2 := h 2
  have h3 := h 3
  unfold addrT quads
  rw [join_step, join_step, join_step, join_one]
  simp only [List.length_append, List.length_cons]
  omega
theorem addrT_cut (a : Nat) : cut (addrT a) [47] = (addrT a, [], false) := cut_none (addrT_not (.inl (by decide)) (by decide))
/-- What the first numbers come to. -/
def accA (a j : Nat) : Nat := a / 2 ^ (32 - 8 * j)
theorem accA_0 {a : Nat} (h : a ≤ 4294967295) : accA a 0 = 0 := Nat.div_eq_of_lt (by show a < 2 ^ 32; omega)
theorem accA_4 (a : Nat) : accA a 4 = a := Nat.div_one a
theorem accA_step {a j : Nat} (hj : j < 4) : accA a j * 256 + quad a j = accA a (j + 1) := by
  have e : accA a j = accA a (j + 1) / 256 := by
    unfold accA
    rw [Nat.div_div_eq_div_mul, show 32 - 8 * j = (32 - 8 * (j + 1)) + 8 by omega, Nat.pow_add]
  have e2 : quad a j = accA a (j + 1) % 256 := by
    unfold quad accA
    rw [show 24 - 8 * j = 32 - 8 * (j + 1) by omega]
  rw [e, e2]
  omega
theorem accA_le (a j : Nat) : accA a j ≤ a := Nat.div_le_self _ _
end Go.Port
