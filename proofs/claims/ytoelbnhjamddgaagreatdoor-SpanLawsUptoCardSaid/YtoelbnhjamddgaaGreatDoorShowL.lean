/- An address' text, step by step: the plain law. No program here. -/
import Derived.Test.YtoelbnhjamddgaaGreatDoorAddrT
import Derived.Test.YtoelbnhjamddgaaGreatDoorTextL
set_option linter.unusedSimpArgs false
set_option linter.unusedVariables false
namespace Go.Port
open Go.Lib
/-- The ten digits. -/
def ten : List UInt8 := [48, 49, 50, 51, 52, 53, 54, 55, 56, 57]
theorem ten_at {n : Nat} (h : n < 10) : (ten.drop n).take 1 = decDigits n := by
  rw [decDigits, dif_pos h]
  have hh : n = 0 ∨ n = 1 ∨ n = 2 ∨ n = 3 ∨ n = 4 ∨ n = 5 ∨ n = 6 ∨ n = 7 ∨ n = 8 ∨ n = 9 := by omega
  rcases hh with rfl | rfl | rfl | rfl | rfl | rfl | rfl | rfl | rfl | rfl <;> decide
theorem dec_step {n : Nat} (h : 10 ≤ n) : decDigits n = decDigits (n / 10) ++ decDigits (n % 10) := by
  rw [decDigits.eq_def n, dif_neg (by omega), decDigits.eq_def (n % 10), dif_pos (by omega)]
/-- What is shown of an address when so many of its numbers are. -/
def showP (a : Nat) : Nat → List UInt8
  | 0 => []
  | j + 1 => showP a j ++ decDigits (quad a j) ++ (if j < 3 then [46] else [])
theorem showP_4 (a : Nat) : showP a 4 = addrT a := by
  unfold addrT quads
  rw [join_step, join_step, join_step, join_one]
  simp [showP]
theorem decLen_le {u : Nat} (k : Nat) : u < 10 ^ (k + 1) → (decDigits u).length ≤ k + 1 := by
  induction k generalizing u with
  | zero => intro h; rw [decDigits, dif_pos (by simpa using h)]; simp
  | succ k ih =>
    intro h
    rw [decDigits]
    split
    · simp
    · have h2 : u / 10 < 10 ^ (k + 1) := by
        rw [Nat.pow_succ] at h
        omega
      have := ih h2
      simp
      omega
theorem showP_len (a : Nat) : ∀ j, (showP a j).length ≤ 4 * j
  | 0 => Nat.le_refl _
  | j + 1 => by
    have h1 := showP_len a j
    have h2 := dec_len (u := quad a j) (Nat.lt_of_lt_of_le (quad_lt a j) (by decide))
    rw [showP, List.length_append, List.length_append]
    split <;> simp <;> omega
/-- A prefix's text. -/
def pxT (a n : Nat) : List UInt8 := if n = 0 then [97, 110, 121] else addrT a ++ [47] ++ decDigits n
theorem cutGo_next {c b : UInt8} {l cur : List UInt8} : cutGo c cur (b :: l) = if b = c then cur :: cutGo c [] l else cutGo c (cur ++ [b]) l := rfl
theorem take_more {s : List UInt8} {i j : Nat} {b : UInt8} (h : s[j]? = some b) (hij : i ≤ j) : (s.drop i).take (j + 1 - i) = (s.drop i).take (j - i) ++ [b] := by
  have h1 : j + 1 - i = (j - i) + 1 := by omega
  rw [h1, List.take_add_one, List.getElem?_drop, show i + (j - i) = j by omega, h]
  rfl
theorem drop_more {s : List UInt8} {j : Nat} {b : UInt8} (h : s[j]? = some b) : s.drop j = b :: s.drop (j + 1) := by
  obtain ⟨hj, rfl⟩ := List.getElem?_eq_some_iff.1 h
  exact List.drop_eq_getElem_cons hj
end Go.Port
