/- A packet's bytes a step further. No program here. -/
import Derived.Test.YtpinlpkaflckfaaDoorWireP
set_option linter.unusedSimpArgs false
set_option linter.unusedVariables false
namespace Go.Port
/-- The sum brought up to date. -/
def stepS (l : List Int) : Int := 65535 - addW (addW (65535 - getN l 8 2) (65535 - getN l 0 2)) (getN (l.set 1 (nth l 1 - 1)) 0 2)
def stepB (l : List Int) : List Int := ((l.set 1 (nth l 1 - 1)).set 8 (stepS l / 256 % 256)).set 9 (stepS l % 256)
def stepE (l : List Int) : Int := if rdErr l ≠ 0 then rdErr l else if getN l 2 2 ≠ l.length then 3 else if nth l 1 = 0 then 6 else 0
theorem getN_set {l : List Int} {a k j : Nat} {x : Int} (h : j < a ∨ a + k ≤ j) : getN (l.set j x) a k = getN l a k := by
  unfold getN
  congr 1
  apply List.ext_getElem?
  intro i
  rw [List.getElem?_take, List.getElem?_take, List.getElem?_drop, List.getElem?_drop]
  split
  · rw [List.getElem?_set_ne (by omega)]
  · rfl
theorem oct_set {l : List Int} (h : Octets l) {p : Nat} {x : Int} (h0 : 0 ≤ x ∧ x ≤ 255) : Octets (l.set p x) := h.set h0.1 h0.2
theorem stepB_len (l : List Int) : (stepB l).length = l.length := by unfold stepB; rw [List.length_set, List.length_set, List.length_set]
theorem stepS_mod {l : List Int} (h8 : 0 ≤ getN l 8 2 ∧ getN l 8 2 ≤ 65535) (h0 : 0 ≤ getN l 0 2 ∧ getN l 0 2 ≤ 65535) (h1 : 0 ≤ getN (l.set 1 (nth l 1 - 1)) 0 2 ∧ getN (l.set 1 (nth l 1 - 1)) 0 2 ≤ 65535) : 0 ≤ stepS l ∧ stepS l ≤ 65535 := by
  have a1 := addW_bd (a := 65535 - getN l 8 2) (b := 65535 - getN l 0 2) (by omega) (by omega) (by omega) (by omega)
  have a2 := addW_bd a1.1 a1.2 h1.1 h1.2
  unfold stepS; omega
theorem stepB_oct {l : List Int} (h : Octets l) (h1 : 1 ≤ nth l 1) : Octets (stepB l) := by
  have b1 := h.nth 1
  unfold stepB
  exact oct_set (oct_set (oct_set h (by omega)) (by omega)) (by omega)
theorem uncons {l : List Int} {n : Nat} (h : n + 1 ≤ l.length) : ∃ x r, l = x :: r ∧ n ≤ r.length := by
  cases l with
  | nil => simp at h
  | cons x r => exact ⟨x, r, rfl, by simpa using h⟩
theorem eighteen {b : List Int} (h : 18 ≤ b.length) : ∃ x0 x1 x2 x3 x4 x5 x6 x7 x8 x9 x10 x11 x12 x13 x14 x15 x16 x17 r, b = x0 :: x1 :: x2 :: x3 :: x4 :: x5 :: x6 :: x7 :: x8 :: x9 :: x10 :: x11 :: x12 :: x13 :: x14 :: x15 :: x16 :: x17 :: r := by
  obtain ⟨x0, r0, rfl, h0⟩ := uncons h
  obtain ⟨x1, r1, rfl, h1⟩ := uncons h0
  obtain ⟨x2, r2, rfl, h2⟩ := uncons h1
  obtain ⟨x3, r3, rfl, h3⟩ := uncons h2
  obtain ⟨x4, r4, rfl, h4⟩ := uncons h3
  obtain ⟨x5, r5, rfl, h5⟩ := uncons h4
  obtain ⟨x6, r6, rfl, h6⟩ := uncons h5
  obtain ⟨x7, r7, rfl, h7⟩ := uncons h6
  obtain ⟨x8, r8, rfl, h8⟩ := uncons h7
  obtain ⟨x9, r9, rfl, h9⟩ := uncons h8
  obtain ⟨x10, r10, rfl, h10⟩ := uncons h9
  obtain ⟨x11, r11, rfl, h11⟩ := uncons h10
  obtain ⟨x12, r12, rfl, h12⟩ := uncons h11
  obtain ⟨x13, r13, rfl, h13⟩ := uncons h12
  obtain ⟨x14, r14, rfl, h14⟩ := uncons h13
  obtain ⟨x15, r15, rfl, h15⟩ := uncons h14
  obtain ⟨x16, r16, rfl, h16⟩ := uncons h15
  obtain ⟨x17, r17, rfl, h17⟩ := uncons h16
  exact ⟨_, _, _, _, _, _, _, _, _, _, _, _, _, _, _, _, _, _, _, rfl⟩
theorem sum_step {s o M S : Int} (hM : 0 ≤ M) (ho : 2 ≤ o ∧ o ≤ 65535) (hs : 0 ≤ s ∧ s ≤ 65535) (ht : tot (o + s + M) = 65535) (hS : S = 65535 - addW (addW (65535 - s) (65535 - o)) (o - 1)) : tot (o - 1 + S + M) = 65535 := by
  have key : ∀ a b : Int, (addW a b = a + b - 65535 ∧ 65535 < a + b) ∨ (addW a b = a + b ∧ a + b ≤ 65535) := fun a b => by unfold addW; split <;> omega
  have k1 := key (65535 - s) (65535 - o)
  generalize addW (65535 - s) (65535 - o) = u at *
  have k2 := key u (o - 1)
  generalize addW u (o - 1) = v at *
  have t1 : ∀ X : Int, 0 < X → tot X = (X - 1) % 65535 + 1 := fun X hX => by unfold tot; rw [if_neg (by omega)]
  rw [t1 _ (by omega)] at ht
  by_cases h0 : o - 1 + S + M = 0
  · exfalso; omega
  · rw [t1 _ (by omega)]; omega
set_option maxRecDepth 10000 in
/-- The sum of the bytes a step further is right. -/
theorem step_total {b : List Int} (h18 : 18 ≤ b.length) (ho : Octets b) (ht : total (b.take 18) = 65535) (h0 : 1 ≤ nth b 0) (h1 : 1 ≤ nth b 1) : total ((stepB b).take 18) = 65535 := by
  obtain ⟨x0, x1, x2, x3, x4, x5, x6, x7, x8, x9, x10, x11, x12, x13, x14, x15, x16, x17, r, rfl⟩ := eighteen h18
  have hx : ∀ y ∈ [x0, x1, x2, x3, x4, x5, x6, x7, x8, x9, x10, x11, x12, x13, x14, x15, x16, x17], 0 ≤ y ∧ y ≤ 255 := fun y hy => ho y (by simp at hy ⊢; rcases hy with h | h | h | h | h | h | h | h | h | h | h | h | h | h | h | h | h | h <;> simp [h])
  simp only [List.mem_cons, List.not_mem_nil, or_false, forall_eq_or_imp, forall_eq] at hx
  have e8 : getN (x0 :: x1 :: x2 :: x3 :: x4 :: x5 :: x6 :: x7 :: x8 :: x9 :: x10 :: x11 :: x12 :: x13 :: x14 :: x15 :: x16 :: x17 :: r) 8 2 = x8 * 256 + x9 := by simp [getN, ofB]
  have e0 : getN (x0 :: x1 :: x2 :: x3 :: x4 :: x5 :: x6 :: x7 :: x8 :: x9 :: x10 :: x11 :: x12 :: x13 :: x14 :: x15 :: x16 :: x17 :: r) 0 2 = x0 * 256 + x1 := by simp [getN, ofB]
  have n1 : nth (x0 :: x1 :: x2 :: x3 :: x4 :: x5 :: x6 :: x7 :: x8 :: x9 :: x10 :: x11 :: x12 :: x13 :: x14 :: x15 :: x16 :: x17 :: r) 1 = x1 := rfl
  have n0 : nth (x0 :: x1 :: x2 :: x3 :: x4 :: x5 :: x6 :: x7 :: x8 :: x9 :: x10 :: x11 :: x12 :: x13 :: x14 :: x15 :: x16 :: x17 :: r) 0 = x0 := rfl
  have e1 : getN ((x0 :: x1 :: x2 :: x3 :: x4 :: x5 :: x6 :: x7 :: x8 :: x9 :: x10 :: x11 :: x12 :: x13 :: x14 :: x15 :: x16 :: x17 :: r).set 1 (x1 - 1)) 0 2 = x0 * 256 + (x1 - 1) := by simp [getN, ofB]
  obtain ⟨S, hS⟩ : ∃ S, S = stepS (x0 :: x1 :: x2 :: x3 :: x4 :: x5 :: x6 :: x7 :: x8 :: x9 :: x10 :: x11 :: x12 :: x13 :: x14 :: x15 :: x16 :: x17 :: r) := ⟨_, rfl⟩
  have hb : (stepB (x0 :: x1 :: x2 :: x3 :: x4 :: x5 :: x6 :: x7 :: x8 :: x9 :: x10 :: x11 :: x12 :: x13 :: x14 :: x15 :: x16 :: x17 :: r)).take 18 = [x0, x1 - 1, x2, x3, x4, x5, x6, x7, S / 256 % 256, S % 256, x10, x11, x12, x13, x14, x15, x16, x17] := by
    unfold stepB
    rw [← hS, n1]; rfl
  have hb0 : (x0 :: x1 :: x2 :: x3 :: x4 :: x5 :: x6 :: x7 :: x8 :: x9 :: x10 :: x11 :: x12 :: x13 :: x14 :: x15 :: x16 :: x17 :: r).take 18 = [x0, x1, x2, x3, x4, x5, x6, x7, x8, x9, x10, x11, x12, x13, x14, x15, x16, x17] := rfl
  rw [hb]
  rw [hb0] at ht
  rw [n1] at h1
  rw [n0] at h0
  have hS0 := hS
  unfold stepS at hS
  rw [e8, e0, n1, e1] at hS
  have z : wsum [] = 0 := rfl
  have hS2 := stepS_mod (l := x0 :: x1 :: x2 :: x3 :: x4 :: x5 :: x6 :: x7 :: x8 :: x9 :: x10 :: x11 :: x12 :: x13 :: x14 :: x15 :: x16 :: x17 :: r) (by rw [e8]; omega) (by rw [e0]; omega) (by rw [n1, e1]; omega)
  rw [← hS0] at hS2
  have eS : 256 * (S / 256 % 256) + S % 256 = S := by omega
  have eq : S = 65535 - addW (addW (65535 - (x8 * 256 + x9)) (65535 - (x0 * 256 + x1))) (x0 * 256 + x1 - 1) := by rw [hS]; congr 2; omega
  obtain ⟨M, hM⟩ : ∃ M, M = 256 * x2 + x3 + (256 * x4 + x5) + (256 * x6 + x7) + (256 * x10 + x11) + (256 * x12 + x13) + (256 * x14 + x15) + (256 * x16 + x17) := ⟨_, rfl⟩
  unfold total at ht ⊢
  simp only [wsum_cons2, z] at ht ⊢
  have h3 := sum_step (M := M) (by omega) (s := x8 * 256 + x9) (o := x0 * 256 + x1) (by omega) (by omega) (by rw [← ht]; congr 1; omega) eq
  rw [← h3]; congr 1; omega
end Go.Port
