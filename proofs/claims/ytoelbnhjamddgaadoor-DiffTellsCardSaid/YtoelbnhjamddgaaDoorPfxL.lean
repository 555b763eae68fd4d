/- A prefix read from any text: the plain law. -/
import Derived.Test.YtoelbnhjamddgaaDoorTxtP
import Derived.Test.YtoelbnhjamddgaaDoorAddrA
set_option linter.unusedSimpArgs false
set_option linter.unusedVariables false
namespace Go.Port
open Go.Lib
/-- The prefix of a text. -/
def pxR (s : List UInt8) : Option (Int × Int) :=
  if s = [97, 110, 121] then some (0, 0) else
    if 2 < (cutT 47 s).length ∨ (if (cutT 47 s).length = 2 then wholeT 2 ((cutT 47 s).getD 1 []) else 32) < 1 ∨ ¬ pxE (addrR ((cutT 47 s).getD 0 [])) (if (cutT 47 s).length = 2 then wholeT 2 ((cutT 47 s).getD 1 []) else 32) = 0 then none
    else some (addrR ((cutT 47 s).getD 0 []), if (cutT 47 s).length = 2 then wholeT 2 ((cutT 47 s).getD 1 []) else 32)
theorem pxR_any : pxR [97, 110, 121] = some (0, 0) := by unfold pxR; rw [if_pos rfl]
/-- A text without a stroke. -/
theorem pxR_one {s : List UInt8} (ha : ¬ s = [97, 110, 121]) (h : (47 : UInt8) ∉ s) : pxR s = if pxE (addrR s) 32 = 0 then some (addrR s, 32) else none := by
  have e : cutT 47 s = [s] := by rw [cutT, cutGo_none h]; rfl
  unfold pxR
  rw [if_neg ha, e]
  simp only [List.length_cons, List.length_nil, List.getD_cons_zero, if_neg (show ¬ (0 + 1 = 2) by decide)]
  by_cases h2 : pxE (addrR s) 32 = 0
  · rw [if_pos h2, if_neg]
    rintro (h | h | h)
    · omega
    · omega
    · exact h h2
  · rw [if_neg h2, if_pos (.inr (.inr h2))]
/-- The number behind a stroke. -/
def lenW (y : List UInt8) : Prop := ∃ n : Nat, y = decDigits n ∧ 1 ≤ n ∧ n ≤ 32
theorem lenW_whole {y : List UInt8} {n : Nat} (h : y = decDigits n) (hn : n ≤ 32) : wholeT 2 y = n ∧ (47 : UInt8) ∉ y := by
  subst h
  refine ⟨whole_dec ?_, dec_not (.inl (by decide))⟩
  rw [decDigits]
  split
  · simp
  · rw [List.length_append, decDigits, dif_pos (by omega)]
    simp
/-- A text with one stroke, behind which is a number. -/
theorem pxR_two {x y : List UInt8} {n : Nat} (hx : (47 : UInt8) ∉ x) (hy : y = decDigits n) (hn : 1 ≤ n ∧ n ≤ 32) : pxR (x ++ 47 :: y) = if pxE (addrR x) n = 0 then some (addrR x, (n : Int)) else none := by
  obtain ⟨h1, h2⟩ := lenW_whole hy hn.2
  have e : cutT 47 (x ++ 47 :: y) = [x, y] := by
    rw [cutT, cutGo_at hx, cutGo_none h2]; rfl
  have hne : ¬ x ++ 47 :: y = [97, 110, 121] := fun h => by
    have hm : (47 : UInt8) ∈ x ++ 47 :: y := List.mem_append_right _ (List.Mem.head _)
    rw [h] at hm
    revert hm
    decide
  unfold pxR
  rw [if_neg hne, e, if_pos (show ([x, y] : List (List UInt8)).length = 2 from rfl), show ([x, y] : List (List UInt8)).getD 1 [] = y from rfl, show ([x, y] : List (List UInt8)).getD 0 [] = x from rfl, h1]
  by_cases h3 : pxE (addrR x) n = 0
  · rw [if_pos h3, if_neg]
    rintro (h | h | h)
    · exact absurd h (Nat.lt_irrefl 2)
    · omega
    · exact h h3
  · rw [if_neg h3, if_pos (.inr (.inr h3))]
theorem pxR_no {x y : List UInt8} (hx : (47 : UInt8) ∉ x) (hy : ¬ lenW y) : pxR (x ++ 47 :: y) = none := by
  have hpos := cutT_pos 47 y
  have e : cutT 47 (x ++ 47 :: y) = x :: cutT 47 y := by
    rw [cutT, cutGo_at hx]; rfl
  unfold pxR
  rw [if_neg, e, if_pos]
  · rw [List.length_cons]
    by_cases h2 : (cutT 47 y).length = 1
    · right
      rcases first_at 47 y with h47 | ⟨u, r, rfl, hu⟩
      · have ey : cutT 47 y = [y] := by rw [cutT, cutGo_none h47]; rfl
        rw [ey, if_pos (show ([y] : List (List UInt8)).length + 1 = 2 from rfl), show ([x, y] : List (List UInt8)).getD 1 [] = y from rfl, show ([x, y] : List (List UInt8)).getD 0 [] = x from rfl]
        by_cases h1 : wholeT 2 y < 1
        · exact .inl h1
        · right
          obtain ⟨n, hn⟩ : ∃ n : Nat, wholeT 2 y = n := ⟨(wholeT 2 y).toNat, by omega⟩
          have hyd := (whole_is hn).1
          intro h0
          have hB := pxE_0 h0
          unfold pxB at hB
          rw [hn] at hB h1
          exact hy ⟨n, hyd, by omega, by omega⟩
      · rw [cutT, cutGo_at hu, List.length_cons] at h2
        have := cutT_pos 47 r
        unfold cutT at this
        omega
    · exact .inl (by omega)
  · intro h
    have hm : (47 : UInt8) ∈ x ++ 47 :: y := List.mem_append_right _ (List.Mem.head _)
    rw [h] at hm
    revert hm
    decide
theorem pxR_addr {x y : List UInt8} (hx : (47 : UInt8) ∉ x) (ha : addrR x < 0) : pxR (x ++ 47 :: y) = none := by
  by_cases hy : lenW y
  · obtain ⟨n, h1, h2⟩ := hy
    rw [pxR_two hx h1 h2, if_neg]
    intro h
    have := pxE_0 h
    unfold pxB at this
    omega
  · exact pxR_no hx hy
/-- A number that is printed so. -/
theorem lenW_itoa {v : Int} {y : List UInt8} (h : itoa v = y) (hy : ¬ lenW y) : v < 1 ∨ 32 < v := by
  by_cases h1 : 1 ≤ v ∧ v ≤ 32
  · exact absurd ⟨v.toNat, itoa_is h (by omega), by omega, by omega⟩ hy
  · omega
theorem pxE_len {a v : Int} (h : v < 1 ∨ 32 < v) (h0 : ¬ v = 0) : pxE a v = 1 := by
  unfold pxE
  rw [if_pos]
  unfold pxB
  omega
theorem addrR_top {s : List UInt8} : addrR s ≤ 4294967295 := by
  unfold addrR
  split
  · rename_i h4
    have : ∀ (l : List (List UInt8)) (j : Nat) (p : Int), l.length + j = 4 → 0 ≤ p → p < 256 ^ j → readA l p < 256 ^ 4 := by
      intro l
      induction l with
      | nil => intro j p h _ hp; rw [readA]; simp at h; rw [← h]; exact hp
      | cons x r ih =>
        intro j p h h0 hp
        rw [readA]
        split
        · rename_i hb
          have hj : j < 4 := by simp at h; omega
          exact ih (j + 1) _ (by simp at h ⊢; omega) (by have := hb.1; omega) (pow256_step hj hp hb.2)
        · decide
    have := this (cutT 46 s) 0 0 (by omega) (by decide) (by decide)
    omega
  · decide
theorem pxE_32 {a : Int} (h : 0 ≤ a ∧ a ≤ 4294967295) : pxE a 32 = 0 := by
  unfold pxE
  rw [if_neg (fun hh => hh ⟨h, by decide⟩), show szP 32 = 1 from rfl, if_neg (fun hh => hh (Int.emod_one _))]
end Go.Port
