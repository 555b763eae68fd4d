/- A flow stays what it is. No program here. -/
import Derived.Test.YtpinlpkaflckfaaTrackP
set_option linter.unusedSimpArgs false
set_option linter.unusedVariables false
namespace Go.Port
/-- What a step keeps. -/
structure Keeps (x z : Fl) : Prop where
  k : z.k = x.k
  s : z.s = x.s
  f : z.f = x.f
  d : z.d = x.d
  t : z.t = x.t
  nm : z.nm = x.nm
  sp : z.sp = x.sp
  d0 : x.d0 = true → z.d0 = true
  d1 : x.d1 = true → z.d1 = true
  hi : x.st = 1 ∨ ((z.h0 - x.h0) % 4294967296 < 2147483648 ∧ (z.h1 - x.h1) % 4294967296 < 2147483648)
  ended : x.st = 4 → z.st = 4
  h0 : (0 ≤ x.h0 ∧ x.h0 ≤ 4294967295) → 0 ≤ z.h0 ∧ z.h0 ≤ 4294967295
  h1 : (0 ≤ x.h1 ∧ x.h1 ≤ 4294967295) → 0 ≤ z.h1 ∧ z.h1 ≤ 4294967295
  w0 : (0 ≤ x.w0 ∧ x.w0 ≤ 65535) → 0 ≤ z.w0 ∧ z.w0 ≤ 65535
  w1 : (0 ≤ x.w1 ∧ x.w1 ≤ 65535) → 0 ≤ z.w1 ∧ z.w1 ≤ 65535
  st : z.st = x.st ∨ z.st = 2 ∨ z.st = 3 ∨ z.st = 4
theorem endI_bd (q y : Int) (n : Nat) : 0 ≤ endI q y n ∧ endI q y n ≤ 4294967295 := by unfold endI; omega
theorem ahead_near {a b : Int} (h : aheadI a b = 1) : (a - b) % 4294967296 < 2147483648 := by
  unfold aheadI at h
  split at h
  · rename_i e; exact e.2
  · cases h
theorem hi_near {e h : Int} : ((if aheadI e h = 1 then e else h) - h) % 4294967296 < 2147483648 := by
  split
  · rename_i a; exact ahead_near a
  · rw [Int.sub_self]; decide
theorem settle_keeps {x z : Fl} (h : Keeps x z) (hst : z.st = x.st) : Keeps x z.settle := by
  have hs := settle_is (x := z) (S := if z.st = 4 then z.st else if z.d0 = true ∧ z.d1 = true then 4 else if z.d0 = true ∨ z.d1 = true then 3 else z.st) rfl
  rw [hs]
  refine ⟨h.k, h.s, h.f, h.d, h.t, h.nm, h.sp, h.d0, h.d1, h.hi, fun e => ?_, h.h0, h.h1, h.w0, h.w1, ?_⟩
  · show (if z.st = 4 then z.st else _) = 4
    rw [if_pos (by rw [hst]; exact e), hst, e]
  · show (if z.st = 4 then z.st else _) = x.st ∨ (if z.st = 4 then z.st else _) = 2 ∨ (if z.st = 4 then z.st else _) = 3 ∨ (if z.st = 4 then z.st else _) = 4
    split
    · exact .inl hst
    split
    · exact .inr (.inr (.inr rfl))
    split
    · exact .inr (.inr (.inl rfl))
    · exact .inl hst
theorem same_near (a : Int) : (a - a) % 4294967296 < 2147483648 := by rw [Int.sub_self]; decide
theorem stream0_keep {x z : Fl} {q a wn y : Int} {n : Nat} (hw : 0 ≤ wn ∧ wn ≤ 65535) (h : streamS0 x q a wn y n = some z) : Keeps x z := by
  have hb := endI_bd q y n
  unfold streamS0 at h
  split at h
  · split at h
    · cases h
    · injection h with h; subst h
      exact ⟨rfl, rfl, rfl, rfl, rfl, rfl, rfl, id, id, .inr ⟨same_near _, same_near _⟩, fun _ => rfl, id, id, id, id, .inr (.inr (.inr rfl))⟩
  split at h
  · rename_i hst
    split at h
    · cases h
    · injection h with h; subst h
      exact ⟨rfl, rfl, rfl, rfl, rfl, rfl, rfl, id, id, .inl hst, id, id, id, fun _ => hw, id, .inl rfl⟩
  split at h
  · cases h
  split at h
  · cases h
  · injection h with h; subst h
    refine settle_keeps ⟨rfl, rfl, rfl, rfl, rfl, rfl, rfl, fun e => ?_, id, .inr ⟨hi_near, same_near _⟩, id, fun e => ?_, id, fun _ => hw, id, .inl rfl⟩ rfl
    · show (x.d0 || hasI y 1) = true
      rw [e]; rfl
    · show 0 ≤ (if aheadI (endI q y n) x.h0 = 1 then endI q y n else x.h0) ∧ (if aheadI (endI q y n) x.h0 = 1 then endI q y n else x.h0) ≤ 4294967295
      split
      · exact hb
      · exact e
theorem stream1_keep {x z : Fl} {q a wn y : Int} {n : Nat} (hw : 0 ≤ wn ∧ wn ≤ 65535) (h : streamS1 x q a wn y n = some z) : Keeps x z := by
  have hb := endI_bd q y n
  unfold streamS1 at h
  split at h
  · split at h
    · split at h
      · cases h
      · injection h with h; subst h
        exact ⟨rfl, rfl, rfl, rfl, rfl, rfl, rfl, id, id, .inr ⟨same_near _, same_near _⟩, fun _ => rfl, id, id, id, id, .inr (.inr (.inr rfl))⟩
    · split at h
      · cases h
      · injection h with h; subst h
        exact ⟨rfl, rfl, rfl, rfl, rfl, rfl, rfl, id, id, .inr ⟨same_near _, same_near _⟩, fun _ => rfl, id, id, id, id, .inr (.inr (.inr rfl))⟩
  split at h
  · rename_i hst
    split at h
    · cases h
    · injection h with h; subst h
      exact ⟨rfl, rfl, rfl, rfl, rfl, rfl, rfl, id, id, .inl hst, fun e => absurd (e.symm.trans hst) (by decide), id, fun _ => hb, id, fun _ => hw, .inr (.inl rfl)⟩
  split at h
  · cases h
  split at h
  · cases h
  · injection h with h; subst h
    refine settle_keeps ⟨rfl, rfl, rfl, rfl, rfl, rfl, rfl, id, fun e => ?_, .inr ⟨same_near _, hi_near⟩, id, id, fun e => ?_, id, fun _ => hw, .inl rfl⟩ rfl
    · show (x.d1 || hasI y 1) = true
      rw [e]; rfl
    · show 0 ≤ (if aheadI (endI q y n) x.h1 = 1 then endI q y n else x.h1) ∧ (if aheadI (endI q y n) x.h1 = 1 then endI q y n else x.h1) ≤ 4294967295
      split
      · exact hb
      · exact e
end Go.Port
