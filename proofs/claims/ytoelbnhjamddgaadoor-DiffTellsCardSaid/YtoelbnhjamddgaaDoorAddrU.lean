/- Addresses and prefixes as texts, and back: the plain law. No program here. -/
import Derived.Test.YtoelbnhjamddgaaDoorPfxL
import Derived.Test.YtoelbnhjamddgaaDoorTxtP
set_option linter.unusedSimpArgs false
set_option linter.unusedVariables false
namespace Go.Port
open Go.Lib
theorem readA_4 {x0 x1 x2 x3 : List UInt8} {a : Int} (h : readA [x0, x1, x2, x3] 0 = a) (h0 : 0 ≤ a) : ∃ b0 b1 b2 b3 : Nat, (b0 ≤ 255 ∧ b1 ≤ 255 ∧ b2 ≤ 255 ∧ b3 ≤ 255) ∧ x0 = decDigits b0 ∧ x1 = decDigits b1 ∧ x2 = decDigits b2 ∧ x3 = decDigits b3 ∧ a = ((b0 * 256 + b1) * 256 + b2) * 256 + b3 := by
  have no : ∀ {p q : Prop} [Decidable p] {v : Int}, (if p then v else -1) = a → p := fun {p q} _ {v} hh => by
    by_cases hp : p
    · exact hp
    · rw [if_neg hp] at hh; omega
  rw [readA] at h
  have c0 := no (q := True) h
  rw [if_pos c0, readA] at h
  have c1 := no (q := True) h
  rw [if_pos c1, readA] at h
  have c2 := no (q := True) h
  rw [if_pos c2, readA] at h
  have c3 := no (q := True) h
  rw [if_pos c3, readA] at h
  obtain ⟨b0, l0, w0, e0⟩ := byteW_is c0
  obtain ⟨b1, l1, w1, e1⟩ := byteW_is c1
  obtain ⟨b2, l2, w2, e2⟩ := byteW_is c2
  obtain ⟨b3, l3, w3, e3⟩ := byteW_is c3
  exact ⟨b0, b1, b2, b3, ⟨l0, l1, l2, l3⟩, e0, e1, e2, e3, by rw [w0, w1, w2, w3] at h; omega⟩
theorem quad_of {b0 b1 b2 b3 : Nat} (h : b0 ≤ 255 ∧ b1 ≤ 255 ∧ b2 ≤ 255 ∧ b3 ≤ 255) : quads (((b0 * 256 + b1) * 256 + b2) * 256 + b3) = [decDigits b0, decDigits b1, decDigits b2, decDigits b3] := by
  unfold quads quad
  rw [show (((b0 * 256 + b1) * 256 + b2) * 256 + b3) / 2 ^ (24 - 8 * 0) % 256 = b0 by show _ / 16777216 % 256 = _; omega, show (((b0 * 256 + b1) * 256 + b2) * 256 + b3) / 2 ^ (24 - 8 * 1) % 256 = b1 by show _ / 65536 % 256 = _; omega, show (((b0 * 256 + b1) * 256 + b2) * 256 + b3) / 2 ^ (24 - 8 * 2) % 256 = b2 by show _ / 256 % 256 = _; omega, show (((b0 * 256 + b1) * 256 + b2) * 256 + b3) / 2 ^ (24 - 8 * 3) % 256 = b3 by show _ / 1 % 256 = _; omega]
/-- An address that a text is read as is printed as that text. -/
theorem addrR_is {s : List UInt8} (h : 0 ≤ addrR s) : s = addrT (addrR s).toNat := by
  obtain ⟨a, ha⟩ : ∃ a, addrR s = a := ⟨_, rfl⟩
  rw [ha] at h ⊢
  unfold addrR at ha
  split at ha
  · rename_i h4
    match hW : cutT 46 s, h4 with
    | [x0, x1, x2, x3], _ =>
      rw [hW] at ha
      obtain ⟨b0, b1, b2, b3, hb, rfl, rfl, rfl, rfl, e⟩ := readA_4 ha h
      have e2 : a.toNat = ((b0 * 256 + b1) * 256 + b2) * 256 + b3 := by omega
      rw [e2, addrT, quad_of hb, ← hW, join_cut 46 _ s (Nat.le_refl _)]
  · omega
theorem addrR_T {a : Nat} (h : a ≤ 4294967295) : addrR (addrT a) = a := by
  have e : cutT 46 (addrT a) = quads a := cut_join (quads_not (.inl (by decide)))
  unfold addrR
  rw [e, if_pos (show (quads a).length = 4 from rfl), quads]
  have hq := fun j => quad_lt a j
  have h0 := hq 0
  have h1 := hq 1
  have h2 := hq 2
  have h3 := hq 3
  have w : ∀ {n : Nat}, n < 256 → wholeT 3 (decDigits n) = n := fun {n} hn => whole_dec (dec_len (by omega))
  rw [readA, if_pos (byteW_dec (by omega)), readA, if_pos (byteW_dec (by omega)), readA, if_pos (byteW_dec (by omega)), readA, if_pos (byteW_dec (by omega)), readA, w h0, w h1, w h2, w h3]
  have e0 : quad a 0 = a / 16777216 % 256 := rfl
  have e1 : quad a 1 = a / 65536 % 256 := rfl
  have e2 : quad a 2 = a / 256 % 256 := rfl
  have e3 : quad a 3 = a / 1 % 256 := rfl
  omega
theorem pxR_ok {s : List UInt8} {a n : Int} (h : pxR s = some (a, n)) : pxE a n = 0 := by
  unfold pxR at h
  by_cases hany : s = [97, 110, 121]
  · rw [if_pos hany] at h
    simp only [Option.some.injEq, Prod.mk.injEq] at h
    obtain ⟨rfl, rfl⟩ := h
    decide
  · rw [if_neg hany] at h
    generalize (if (cutT 47 s).length = 2 then wholeT 2 ((cutT 47 s).getD 1 []) else 32) = m at h
    split at h
    · cases h
    · rename_i h2
      simp only [Option.some.injEq, Prod.mk.injEq] at h
      obtain ⟨rfl, rfl⟩ := h
      exact Classical.not_not.1 fun hh => h2 (.inr (.inr hh))
/-- A prefix' text is read as it. -/
theorem pxR_T {a n : Nat} (h : pxE a n = 0) : pxR (pxT a n) = some ((a : Int), (n : Int)) := by
  have hB := pxE_0 h
  unfold pxB at hB
  unfold pxT
  by_cases h0 : n = 0
  · rw [if_pos h0, pxR_any]
    subst h0
    have h1 : (a : Int) % szP 0 = 0 := by
      unfold pxE at h
      rw [if_neg (fun hh => hh (pxE_0 (by unfold pxE; exact h)))] at h
      split at h
      · cases h
      · rename_i h2; exact Classical.not_not.1 h2
    have h2 : szP 0 = 4294967296 := by decide
    rw [h2] at h1
    obtain rfl : a = 0 := by omega
    rfl
  · rw [if_neg h0, List.append_assoc]
    show pxR (addrT a ++ 47 :: decDigits n) = _
    rw [pxR_two (addrT_not (.inl (by decide)) (by decide)) rfl (by omega), addrR_T (by omega), if_pos h]
/-- A text that a prefix is read from is its text, or that without its end. -/
theorem pxR_is {s : List UInt8} {a n : Int} (h : pxR s = some (a, n)) : pxT a.toNat n.toNat = s ∨ pxT a.toNat n.toNat = s ++ [47, 51, 50] := by
  by_cases hany : s = [97, 110, 121]
  · rw [hany, pxR_any] at h
    simp only [Option.some.injEq, Prod.mk.injEq] at h
    obtain ⟨rfl, rfl⟩ := h
    exact .inl hany.symm
  rcases first_at 47 s with h47 | ⟨x, y, rfl, hx⟩
  · rw [pxR_one hany h47] at h
    split at h
    · rename_i h1
      simp only [Option.some.injEq, Prod.mk.injEq] at h
      obtain ⟨rfl, rfl⟩ := h
      have hB := pxE_0 h1
      unfold pxB at hB
      right
      have e := addrR_is hB.1.1
      unfold pxT
      have e32 : decDigits 32 = [51, 50] := by
        rw [dec_step (by decide), decDigits.eq_def (32 / 10), dif_pos (by decide), decDigits.eq_def (32 % 10), dif_pos (by decide)]
        rfl
      rw [if_neg (by decide), ← e, List.append_assoc, show Int.toNat 32 = 32 from rfl, e32]
      rfl
    · cases h
  · by_cases hy : lenW y
    · obtain ⟨k, hk, hk1, hk2⟩ := hy
      rw [pxR_two hx hk ⟨hk1, hk2⟩] at h
      split at h
      · rename_i h1
        simp only [Option.some.injEq, Prod.mk.injEq] at h
        obtain ⟨rfl, rfl⟩ := h
        have hB := pxE_0 h1
        unfold pxB at hB
        left
        have e := addrR_is hB.1.1
        unfold pxT
        rw [if_neg (by omega), ← e, Int.toNat_natCast, ← hk, List.append_assoc]
        rfl
      · cases h
    · rw [pxR_no hx hy] at h
      cases h
end Go.Port
