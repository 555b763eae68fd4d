/- An address read from any text: the plain law. No program here. -/
import Derived.Test.YtoelbnhjamddgaaGreatDoorShowL
set_option linter.unusedSimpArgs false
set_option linter.unusedVariables false
namespace Go.Port
open Go.Lib
/-- A word is one of an address' four. -/
def byteW (x : List UInt8) : Prop := 0 ≤ wholeT 3 x ∧ wholeT 3 x ≤ 255
instance {x : List UInt8} : Decidable (byteW x) := by unfold byteW; infer_instance
/-- What words come to, behind what those before them came to; -1: nothing. -/
def readA : List (List UInt8) → Int → Int
  | [], a => a
  | x :: r, a => if byteW x then readA r (a * 256 + wholeT 3 x) else -1
/-- The address of a text; -1: there is none. -/
def addrR (s : List UInt8) : Int := if (cutT 46 s).length = 4 then readA (cutT 46 s) 0 else -1
theorem byteW_is {x : List UInt8} (h : byteW x) : ∃ n : Nat, n ≤ 255 ∧ wholeT 3 x = n ∧ x = decDigits n := by
  obtain ⟨h0, h1⟩ := h
  obtain ⟨n, hn⟩ : ∃ n : Nat, wholeT 3 x = n := ⟨(wholeT 3 x).toNat, by omega⟩
  exact ⟨n, by omega, hn, (whole_is hn).1⟩
theorem byteW_dec {n : Nat} (h : n ≤ 255) : byteW (decDigits n) := by
  have := whole_dec (n := n) (most := 3) (dec_len (by omega))
  exact ⟨by omega, by omega⟩
theorem byteW_no {x : List UInt8} (h : ¬ byteW x) {v : Int} (h0 : 0 ≤ v) (h1 : v ≤ 255) : ¬ decDigits v.toNat = x := fun e => h (e ▸ byteW_dec (by omega))
theorem readA_step {l : List (List UInt8)} {i : Nat} {x : List UInt8} {a : Int} (h : l[i]? = some x) : readA (l.drop i) a = if byteW x then readA (l.drop (i + 1)) (a * 256 + wholeT 3 x) else -1 := by
  obtain ⟨hi, rfl⟩ := List.getElem?_eq_some_iff.1 h
  rw [List.drop_eq_getElem_cons hi, readA]
theorem cutT_pos (c : UInt8) (s : List UInt8) : 0 < (cutT c s).length := by
  rw [cutT_count c _ s (Nat.le_refl _)]
  omega
theorem cutT_le (c : UInt8) (s : List UInt8) : (cutT c s).length ≤ s.length + 1 := by
  unfold cutT
  have : ∀ (l cur : List UInt8), (cutGo c cur l).length ≤ l.length + 1 := by
    intro l
    induction l with
    | nil => intro cur; simp [cutGo]
    | cons b r ih =>
      intro cur
      rw [cutGo_next]
      split
      · have := ih []; simp; omega
      · have := ih (cur ++ [b]); simp; omega
  exact this s []
/-- Each part is no longer than the text. -/
theorem cutT_part (c : UInt8) (s : List UInt8) : ∀ x ∈ cutT c s, x.length ≤ s.length := by
  unfold cutT
  have : ∀ (l cur : List UInt8), ∀ x ∈ cutGo c cur l, x.length ≤ cur.length + l.length := by
    intro l
    induction l with
    | nil => intro cur x hx; rw [cutGo] at hx; rw [List.mem_singleton.1 hx]; simp
    | cons b r ih =>
      intro cur x hx
      rw [cutGo_next] at hx
      split at hx
      · rcases List.mem_cons.1 hx with rfl | hx
        · simp
        · have := ih [] x hx; simp at this ⊢; omega
      · have := ih _ x hx; simp at this ⊢; omega
  intro x hx
  have := this s [] x hx
  simpa using this
theorem pow256 {j : Nat} (h : j < 4) {p : Int} (hp : p < 256 ^ j) : p < 16777216 := by
  have hh : j = 0 ∨ j = 1 ∨ j = 2 ∨ j = 3 := by omega
  rcases hh with rfl | rfl | rfl | rfl <;> omega
theorem pow256_step {j : Nat} (h : j < 4) {p q : Int} (hp : p < 256 ^ j) (hq : q ≤ 255) : p * 256 + q < 256 ^ (j + 1) := by
  have hh : j = 0 ∨ j = 1 ∨ j = 2 ∨ j = 3 := by omega
  rcases hh with rfl | rfl | rfl | rfl <;> omega
end Go.Port
