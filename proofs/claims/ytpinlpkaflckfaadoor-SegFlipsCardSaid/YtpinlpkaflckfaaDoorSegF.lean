/- A segment's bytes, changed. No program here. -/
import Derived.Test.YtpinlpkaflckfaaDoorSegL
import Derived.Test.YtpinlpkaflckfaaDoorStepP
set_option linter.unusedSimpArgs false
set_option linter.unusedVariables false
namespace Go.Port
theorem sgRdErr_of {kind src dst : Int} {l : List Int} (h : sgRdErr kind src dst l = 0) : (1 ≤ kind ∧ kind ≤ 3) ∧ (0 ≤ src ∧ src ≤ 4294967295) ∧ (0 ≤ dst ∧ dst ≤ 4294967295) ∧ sgSize kind ≤ l.length ∧ l.length ≤ 4000 ∧ 65535 - total (sgTop kind src dst ++ sgZero kind l) = getN l (sgSize kind - 2) 2 := by
  unfold sgRdErr at h
  split at h
  · cases h
  split at h
  · cases h
  split at h
  · cases h
  split at h
  · cases h
  rename_i h1 h2 h3 h4
  exact ⟨by omega, by omega, by omega, by omega, by omega, Classical.not_not.1 h4⟩
theorem sgRdErr_9 {kind src dst : Int} {l : List Int} (hk : 1 ≤ kind ∧ kind ≤ 3) (hs : 0 ≤ src ∧ src ≤ 4294967295) (hd : 0 ≤ dst ∧ dst ≤ 4294967295) (h1 : sgSize kind ≤ l.length) (h2 : l.length ≤ 4000) (hne : ¬ 65535 - total (sgTop kind src dst ++ sgZero kind l) = getN l (sgSize kind - 2) 2) : sgRdErr kind src dst l = 9 := by
  unfold sgRdErr
  rw [if_neg (by omega), if_neg (by omega), if_neg (by omega), if_pos hne]
theorem tot_ne {s s' : Int} (h : 1 ≤ s) (h' : 1 ≤ s') (hne : s ≠ s') (hd : s - s' < 65535 ∧ s' - s < 65535) : tot s ≠ tot s' := by
  unfold tot
  rw [if_neg (by omega), if_neg (by omega)]
  omega
theorem total_set_ne {l : List Int} (ho : Octets l) {j : Nat} {x : Int} (hj : j < l.length) (hx : 0 ≤ x ∧ x ≤ 255) (hne : nth l j ≠ x) (h1 : 1 ≤ wsum l) (h2 : 1 ≤ wsum (l.set j x)) : total l ≠ total (l.set j x) := by
  have e := wsum_set l j x hj
  have hb := ho.nth j
  unfold total
  refine tot_ne h1 h2 ?_ ?_
  · intro he; rw [he] at e; split at e <;> omega
  · rw [e]; split <;> omega
theorem getN_two {l : List Int} {a : Nat} (h : a + 2 ≤ l.length) : getN l a 2 = nth l a * 256 + nth l (a + 1) := by
  have h1 : a < l.length := by omega
  have h2 : a + 1 < l.length := by omega
  unfold getN
  rw [List.drop_eq_getElem_cons h1, List.drop_eq_getElem_cons h2, nth_of h1, nth_of h2, List.take_succ_cons, List.take_succ_cons, List.take_zero]
  show l[a] * 256 + (l[a + 1] * 1 + 0) = _
  omega
theorem top_nine {kind src dst : Int} {l : List Int} (hk : 1 ≤ kind ∧ kind ≤ 3) : 1 ≤ wordAt (sgTop kind src dst ++ l) 9 := by
  have e8 : nth (sgTop kind src dst ++ l) 8 = 0 := rfl
  have e9 : nth (sgTop kind src dst ++ l) 9 = kind % 256 := rfl
  unfold wordAt
  rw [show 9 - 9 % 2 = 8 from rfl, e8, show 8 + 1 = 9 from rfl, e9]; omega
theorem top_pos {kind src dst : Int} {l : List Int} (hk : 1 ≤ kind ∧ kind ≤ 3) (ho : Octets l) : 1 ≤ wsum (sgTop kind src dst ++ l) := by
  have h1 := wordAt_le (l := sgTop kind src dst ++ l) (sgTop_oct.app ho) (j := 9) (by rw [List.length_append, sgTop_len]; omega)
  have h2 := top_nine (kind := kind) (src := src) (dst := dst) (l := l) hk
  omega
theorem zero_oct {kind : Int} {l : List Int} (ho : Octets l) : Octets (sgZero kind l) := by
  unfold sgZero
  exact (ho.set (by omega) (by omega)).set (by omega) (by omega)
theorem zero_len {kind : Int} {l : List Int} : (sgZero kind l).length = l.length := by unfold sgZero; rw [List.length_set, List.length_set]
/-- A byte that is changed. -/
theorem sg_flip {kind src dst : Int} {b : List Int} (ho : Octets b) (h : sgRdErr kind src dst b = 0) {j : Nat} {x : Int} (hj : j < b.length) (hx : 0 ≤ x ∧ x ≤ 255) (hne : nth b j ≠ x) : sgRdErr kind src dst (b.set j x) = 9 := by
  obtain ⟨hk, hs, hd, h1, h2, h3⟩ := sgRdErr_of h
  have hsz : 2 ≤ sgSize kind := by unfold sgSize; split <;> (try split) <;> omega
  refine sgRdErr_9 hk hs hd (by rw [List.length_set]; exact h1) (by rw [List.length_set]; exact h2) ?_
  by_cases hjs : j = sgSize kind - 2 ∨ j = sgSize kind - 1
  · have e : sgZero kind (b.set j x) = sgZero kind b := by
      unfold sgZero
      rcases hjs with rfl | rfl
      · rw [List.set_set]
      · rw [List.set_comm _ _ (by omega), List.set_set]
        exact List.set_comm _ _ (by omega)
    rw [e, h3, getN_two (by omega), getN_two (by rw [List.length_set]; omega), nth_set hj, nth_set hj]
    rcases hjs with rfl | rfl
    · rw [if_pos rfl, if_neg (by omega)]; omega
    · rw [if_neg (by omega), if_pos (by omega)]
      rw [show sgSize kind - 1 = sgSize kind - 2 + 1 by omega] at hne
      omega
  · have e : sgZero kind (b.set j x) = (sgZero kind b).set j x := by
      unfold sgZero
      rw [List.set_comm (l := b) _ _ (show j ≠ sgSize kind - 2 by omega), List.set_comm _ _ (show j ≠ sgSize kind - 1 by omega)]
    have e2 : sgTop kind src dst ++ (sgZero kind b).set j x = (sgTop kind src dst ++ sgZero kind b).set (10 + j) x := by
      rw [List.set_append_right _ _ (by rw [sgTop_len]; omega), sgTop_len, show 10 + j - 10 = j by omega]
    have hzo := zero_oct (kind := kind) ho
    have e3 : nth (sgTop kind src dst ++ sgZero kind b) (10 + j) = nth b j := by
      rw [nth_append, sgTop_len, if_neg (by omega), show 10 + j - 10 = j by omega]
      unfold sgZero
      rw [nth_set (by rw [List.length_set]; omega), if_neg (by omega), nth_set (by omega), if_neg (by omega)]
    have key := total_set_ne (l := sgTop kind src dst ++ sgZero kind b) (sgTop_oct.app hzo) (j := 10 + j) (x := x) (by rw [List.length_append, sgTop_len, zero_len]; omega) hx (by rw [e3]; exact hne) (top_pos hk hzo) (by rw [← e2]; exact top_pos hk (hzo.set hx.1 hx.2))
    rw [e, e2, getN_set (by omega), ← h3]
    omega
/-- Another source. -/
theorem sg_srcs {kind src dst : Int} {b : List Int} (ho : Octets b) (h : sgRdErr kind src dst b = 0) (h4 : src < 4294967295) (h5 : src % 65536 ≠ 65535) : sgRdErr kind (src + 1) dst b = 9 := by
  obtain ⟨hk, hs, hd, h1, h2, h3⟩ := sgRdErr_of h
  have hzo := zero_oct (kind := kind) ho
  refine sgRdErr_9 hk (by omega) hd h1 h2 ?_
  have e : ∀ s : Int, wsum (sgTop kind s dst ++ sgZero kind b) = 256 * (s / 16777216 % 256) + s / 65536 % 256 + (256 * (s / 256 % 256) + s % 256 + wsum (beN dst 4 ++ [0, kind % 256] ++ sgZero kind b)) := fun s => by
    have : sgTop kind s dst ++ sgZero kind b = s / 16777216 % 256 :: s / 65536 % 256 :: s / 256 % 256 :: s / 1 % 256 :: (beN dst 4 ++ [0, kind % 256] ++ sgZero kind b) := by
      unfold sgTop
      simp only [List.append_assoc]
      rfl
    rw [this, wsum_cons2, wsum_cons2, Int.ediv_one]
  have key : tot (wsum (sgTop kind src dst ++ sgZero kind b)) ≠ tot (wsum (sgTop kind (src + 1) dst ++ sgZero kind b)) := by
    refine tot_ne (top_pos hk hzo) (top_pos hk hzo) ?_ ?_
    · rw [e, e]; omega
    · rw [e, e]; omega
  rw [← h3]
  unfold total
  omega
end Go.Port
