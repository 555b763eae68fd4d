/- AddrWithin: the plain law of prefixes within one another. -/
import Derived.Test.YtgcflhgbojmbjaaDoorAddrI
set_option linter.unusedSimpArgs false
set_option linter.unusedVariables false
namespace Go.Port
theorem szP_dvd {n m : Int} (h : m ≤ n) (hn : n ≤ 32) (hm : 0 ≤ m) : ∃ t : Int, szP m = szP n * t ∧ 1 ≤ t := by
  refine ⟨2 ^ (n - m).toNat, ?_, ?_⟩
  · unfold szP
    rw [← Int.pow_add, show (32 - n).toNat + (n - m).toNat = (32 - m).toNat by omega]
  · have : (0 : Int) < 2 ^ (n - m).toNat := Int.pow_pos (by decide)
    omega
theorem pxE_mul {a n : Int} (h : pxE a n = 0) : ∃ k, a = szP n * k := by
  have hB := pxE_0 h
  unfold pxE at h
  rw [if_neg (fun hh => hh hB)] at h
  split at h
  · cases h
  · rename_i h1
    obtain ⟨k, hk⟩ := Int.dvd_of_emod_eq_zero (Classical.not_not.1 h1)
    exact ⟨k, hk⟩
theorem mul_next {z a b : Int} (hz : 0 < z) (h : z * a < z * b) : z * a + z ≤ z * b := by
  have h1 : a < b := Int.lt_of_mul_lt_mul_left h (by omega)
  have h2 : z * (a + 1) ≤ z * b := Int.mul_le_mul_of_nonneg_left (by omega) (by omega)
  rw [Int.mul_add, Int.mul_one] at h2
  exact h2
/-- Of two that have an address together the greater one has the other one's ends. -/
theorem px_nest {a n d m x : Int} (hp : pxE a n = 0) (hq : pxE d m = 0) (hmn : m ≤ n) (h1 : a ≤ x ∧ x ≤ a + szP n - 1) (h2 : d ≤ x ∧ x ≤ d + szP m - 1) : d ≤ a ∧ a + szP n ≤ d + szP m := by
  have hB := pxE_0 hp
  have hC := pxE_0 hq
  unfold pxB at hB hC
  have hz := szP_bd hB.2
  obtain ⟨t, ht, _⟩ := szP_dvd hmn hB.2.2 hC.2.1
  obtain ⟨i, hi⟩ := pxE_mul hp
  obtain ⟨j, hj⟩ := pxE_mul hq
  have hj2 : d = szP n * (t * j) := by rw [hj, ht, Int.mul_assoc]
  have he : d + szP m = szP n * (t * j + t) := by rw [Int.mul_add, ← hj2, ht]
  constructor
  · by_cases h : d ≤ a
    · exact h
    · have h3 : szP n * i < szP n * (t * j) := by rw [← hi, ← hj2]; omega
      have := mul_next (by omega) h3
      rw [← hi, ← hj2] at this
      omega
  · have h3 : szP n * i < szP n * (t * j + t) := by rw [← hi, ← he]; omega
    have := mul_next (by omega) h3
    rw [← hi, ← he] at this
    exact this
theorem px_topW {a n : Int} (h : pxE a n = 0) : a + szP n - 1 ≤ 4294967295 := by
  have hB := pxE_0 h
  unfold pxB at hB
  have hp := szP_bd hB.2
  obtain ⟨t, ht, _⟩ := szP_dvd (n := n) (m := 0) hB.2.1 hB.2.2 (by decide)
  have h0 : szP 0 = 4294967296 := by decide
  obtain ⟨q, hq⟩ := pxE_mul h
  have h1 : szP n * q < szP n * t := by rw [← hq, ← ht, h0]; omega
  have := mul_next (by omega) h1
  rw [← hq, ← ht, h0] at this
  omega
theorem szP_half {m : Int} (h : 0 ≤ m ∧ m ≤ 32) : szP (m - 1) = 2 * szP m := by
  unfold szP
  rw [show (32 - (m - 1)).toNat = (32 - m).toNat + 1 by omega, Int.pow_succ, Int.mul_comm]
theorem px_within {a n d m : Int} (hp : pxE a n = 0) (hq : pxE d m = 0) : pxIn a n d m ↔ pxHas d m a ∧ pxHas d m (a + szP n - 1) := by
  have hB := pxE_0 hp
  have hC := pxE_0 hq
  unfold pxB at hB hC
  have hz := szP_bd hB.2
  have hz2 := szP_bd hC.2
  have ht := px_topW hp
  unfold pxIn pxHas
  constructor
  · rintro ⟨_, _, hmn, _, ha, h1, h2⟩
    have := px_nest hp hq hmn (x := a) (by omega) ⟨h1, h2⟩
    exact ⟨⟨hq, ha, h1, h2⟩, hq, by omega, by omega, by omega⟩
  · rintro ⟨⟨_, ha, h1, h2⟩, _, hb, h3, h4⟩
    refine ⟨hp, hq, ?_, hq, ha, h1, h2⟩
    by_cases h : m ≤ n
    · exact h
    · obtain ⟨t, ht, ht1⟩ := szP_dvd (n := m - 1) (m := n) (by omega) (by omega) hB.2.1
      have hh : szP (m - 1) = 2 * szP m := szP_half hC.2
      have h5 : szP (m - 1) * 1 ≤ szP (m - 1) * t := Int.mul_le_mul_of_nonneg_left ht1 (by omega)
      rw [Int.mul_one, ← ht] at h5
      omega
theorem px_meet {a n d m x : Int} (hp : pxE a n = 0) (hq : pxE d m = 0) (h1 : pxHas a n x) (h2 : pxHas d m x) : pxIn a n d m ∨ pxIn d m a n := by
  unfold pxHas at h1 h2
  have hB := pxE_0 hp
  have hC := pxE_0 hq
  unfold pxB at hB hC
  have hz := szP_bd hB.2
  have hz2 := szP_bd hC.2
  by_cases h : m ≤ n
  · have := px_nest hp hq h h1.2.2 h2.2.2
    exact .inl ⟨hp, hq, h, hq, hB.1, by omega, by omega⟩
  · have := px_nest hq hp (by omega) h2.2.2 h1.2.2
    exact .inr ⟨hq, hp, by omega, hp, hC.1, by omega, by omega⟩
end Go.Port
