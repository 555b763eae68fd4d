/- What Step answers is right. -/
import Derived.Test.YtpinlpkaflckfaaTrackG
import Derived.Test.YtpinlpkaflckfaaTrackQ
set_option linter.unusedSimpArgs false
set_option linter.unusedVariables false
namespace Go.Proofs.Ytpinlpkaflckfaa
open Go.RowKit Go.Port
attribute [local irreducible] Calls
section
variable {x z : Fl} {sf sto q a wn y side now : Int} {n : Nat}
theorem step_zero (h : ¬ (stepR x sf sto q a wn y n side now).1 = 0) : (stepR x sf sto q a wn y n side now).2 = .zero := by
  unfold stepR at h ⊢
  split
  · rfl
  split
  · rfl
  split
  · rfl
  split
  · rfl
  split
  · rfl
  split
  · rfl
  rename_i h1 h2 h3 h4 h5 h6
  rw [if_neg h1, if_neg h2, if_neg h3, if_neg h4, if_neg h5, if_neg h6] at h
  cases e : goOn x q a wn y n side with
  | none => rfl
  | some z => rw [e] at h; exact absurd rfl h
theorem step_good (h : (stepR x sf sto q a wn y n side now).1 = 0) : ∃ z, goOn x q a wn y n side = some z ∧ (stepR x sf sto q a wn y n side now).2 = fdone z now ∧ x.err = 0 ∧ (0 ≤ now ∧ now ≤ 1000000) ∧ segOf x sf sto q a wn y n side = 0 ∧ ¬ (x.un ≤ now ∨ x.sp = 1000000) := by
  unfold stepR at h ⊢
  split at h
  · cases h
  split at h
  · rename_i h1 h2; exact absurd h h2
  split at h
  · cases h
  split at h
  · rename_i h1 h2 h3 h4; exact absurd h h4
  split at h
  · cases h
  split at h
  · cases h
  rename_i h1 h2 h3 h4 h5 h6
  rw [if_neg h1, if_neg h2, if_neg h3, if_neg h4, if_neg h5, if_neg h6]
  cases e : goOn x q a wn y n side with
  | none => rw [e] at h; cases h
  | some z => exact ⟨z, rfl, rfl, Classical.not_not.1 h2, Classical.not_not.1 h3, Classical.not_not.1 h4, h6⟩
theorem fl_of (h : x.err = 0) : keyOk x.k x.s x.f x.d x.t ∧ ¬ x.bad1 ∧ ¬ x.bad3 := by
  unfold Fl.err at h
  split at h
  · cases h
  split at h
  · cases h
  split at h
  · cases h
  rename_i h1 h2 h3
  exact ⟨Classical.not_not.1 h1, h2, h3⟩
theorem goOn_keep (hx : x.err = 0) (hw : 0 ≤ wn ∧ wn ≤ 65535) (h : goOn x q a wn y n side = some z) : Keeps x z ∧ (¬ x.k = 1 → (z.st = 1 ∨ z.st = 2) ∧ z.h0 = x.h0 ∧ z.h1 = x.h1 ∧ z.w0 = x.w0 ∧ z.w1 = x.w1 ∧ z.d0 = x.d0 ∧ z.d1 = x.d1) := by
  obtain ⟨_, hb, _⟩ := fl_of hx
  unfold Fl.bad1 at hb
  unfold goOn at h
  split at h
  · rename_i hk
    refine ⟨?_, fun e => absurd hk e⟩
    split at h
    · exact stream0_keep hw h
    · exact stream1_keep hw h
  · rename_i hk
    injection h with h
    split at h
    · subst h
      exact ⟨⟨rfl, rfl, rfl, rfl, rfl, rfl, rfl, id, id, .inr ⟨same_near _, same_near _⟩, fun e => by omega, id, id, id, id, .inr (.inl rfl)⟩, fun _ => ⟨.inr rfl, rfl, rfl, rfl, rfl, rfl, rfl⟩⟩
    · subst h
      exact ⟨⟨rfl, rfl, rfl, rfl, rfl, rfl, rfl, id, id, .inr ⟨same_near _, same_near _⟩, id, id, id, id, id, .inl rfl⟩, fun _ => ⟨by omega, rfl, rfl, rfl, rfl, rfl, rfl⟩⟩
theorem life_pos (hk : 1 ≤ x.k ∧ x.k ≤ 3) (h : (x.k = 1 ∧ 1 ≤ x.st ∧ x.st ≤ 4) ∨ (¬ x.k = 1 ∧ (x.st = 1 ∨ x.st = 2))) : 1 ≤ lifeI x.k x.st := by
  unfold lifeI
  repeat' split
  all_goals omega
theorem done_ok (hx : x.err = 0) (hK : Keeps x z) (h3 : ¬ x.k = 1 → (z.st = 1 ∨ z.st = 2) ∧ z.h0 = x.h0 ∧ z.h1 = x.h1 ∧ z.w0 = x.w0 ∧ z.w1 = x.w1 ∧ z.d0 = x.d0 ∧ z.d1 = x.d1) (hnow : 0 ≤ now ∧ now ≤ 1000000) (hu : ¬ (x.un ≤ now ∨ x.sp = 1000000)) : (fdone z now).err = 0 ∧ 1 ≤ lifeI z.k z.st := by
  obtain ⟨hk, hb, hc⟩ := fl_of hx
  unfold keyOk at hk
  unfold Fl.bad1 at hb
  have hst := hK.st
  have hl := lifeI_bd z.k z.st
  have ek := hK.k
  have e1 := hK.sp
  have e2 := hK.nm
  have f0 := hK.h0
  have f1 := hK.h1
  have f2 := hK.w0
  have f3 := hK.w1
  have hstz : (z.k = 1 ∧ 1 ≤ z.st ∧ z.st ≤ 4) ∨ (¬ z.k = 1 ∧ (z.st = 1 ∨ z.st = 2)) := by
    by_cases e : x.k = 1
    · left; omega
    · right; have := h3 e; omega
  refine ⟨?_, life_pos (by omega) hstz⟩
  show Fl.err ⟨z.k, z.s, z.f, z.d, z.t, z.st, now + lifeI z.k z.st, z.sp + 1, z.h0, z.h1, z.w0, z.w1, z.d0, z.d1, z.nm⟩ = 0
  refine fl_ok ?_ ?_ ?_
  · rw [hK.k, hK.s, hK.f, hK.d, hK.t]; exact hk
  · omega
  · unfold Fl.bad3 at hc
    rw [hK.k, hK.f, hK.t]
    by_cases e : x.k = 1
    · exact ⟨.inl e, .inl (by omega)⟩
    · obtain ⟨_, g1, g2, g3, g4, g5, g6⟩ := h3 e
      rw [g1, g2, g3, g4, g5, g6]
      refine ⟨.inr ?_, ?_⟩
      · refine Classical.byContradiction fun hh => hc (.inl ⟨e, ?_⟩)
        by_cases t1 : x.h0 = 0 ∧ x.h1 = 0
        · by_cases t2 : x.w0 = 0 ∧ x.w1 = 0
          · exact .inr fun t3 => hh ⟨⟨t1, t2⟩, t3⟩
          · exact .inl (.inr t2)
        · exact .inl (.inl t1)
      · by_cases t4 : x.k = 3
        · exact .inr (Classical.byContradiction fun hh => hc (.inr ⟨t4, hh⟩))
        · exact .inl t4
end
end Go.Proofs.Ytpinlpkaflckfaa
