/- A packet's bytes: cut off, changed, a step further. No program here. -/
import Derived.Test.YtpinlpkaflckfaaDoorStepP
set_option linter.unusedSimpArgs false
set_option linter.unusedVariables false
namespace Go.Port
theorem getN_take {l : List Int} {j a k : Nat} (h : a + k ≤ j) : getN (l.take j) a k = getN l a k := by
  unfold getN
  congr 1
  apply List.ext_getElem?
  intro i
  rw [List.getElem?_take, List.getElem?_take, List.getElem?_drop, List.getElem?_drop]
  split
  · rw [List.getElem?_take, if_pos (by omega)]
  · rfl
theorem rdErr_ok {b : List Int} (h1 : 18 ≤ b.length) (h2 : 80 ≤ nth b 0 ∧ nth b 0 ≤ 95) (h3 : total (b.take 18) = 65535) (h4 : 18 ≤ getN b 2 2 ∧ getN b 2 2 ≤ 4018) (h5 : getN b 2 2 ≤ b.length) : rdErr b = 0 := by
  unfold rdErr
  rw [if_neg (by omega), if_neg (by omega), if_neg (by omega), if_neg (by omega), if_neg (by omega), if_neg (by omega)]
theorem rdErr_of {b : List Int} (h : rdErr b = 0) : 18 ≤ b.length ∧ (80 ≤ nth b 0 ∧ nth b 0 ≤ 95) ∧ total (b.take 18) = 65535 ∧ (18 ≤ getN b 2 2 ∧ getN b 2 2 ≤ 4018) ∧ getN b 2 2 ≤ b.length := by
  unfold rdErr at h
  split at h
  · cases h
  split at h
  · cases h
  split at h
  · cases h
  split at h
  · cases h
  split at h
  · cases h
  split at h
  · cases h
  rename_i a1 a2 a3 a4 a5 a6
  exact ⟨by omega, by omega, Classical.not_not.1 a3, by omega, by omega⟩
/-- Cut off it is not whole. -/
theorem wire_cut {b : List Int} (h : rdErr b = 0) (hn : getN b 2 2 = b.length) {j : Nat} (hj : j < b.length) : rdErr (b.take j) = 8 := by
  obtain ⟨h1, h2, h3, h4, h5⟩ := rdErr_of h
  by_cases hj18 : j < 18
  · unfold rdErr
    rw [if_pos (by rw [List.length_take]; omega)]
  · have e0 : nth (b.take j) 0 = nth b 0 := by rw [nth_take, if_pos (by omega)]
    have et : (b.take j).take 18 = b.take 18 := by rw [List.take_take, Nat.min_eq_left (by omega)]
    have eg := getN_take (l := b) (j := j) (a := 2) (k := 2) (by omega)
    have el : (b.take j).length = j := by rw [List.length_take]; omega
    unfold rdErr
    rw [e0, et, eg, el, if_neg (by omega), if_neg (by omega), if_neg (by omega), if_neg (by omega), if_neg (by omega), if_pos (by omega)]
/-- A byte of the head, changed. -/
theorem wire_change {b : List Int} (ho : Octets b) (h : rdErr b = 0) {j : Nat} {x : Int} (hj : j < 18) (hx : 0 ≤ x ∧ x ≤ 255) (hne : nth b j ≠ x) (h' : rdErr (b.set j x) = 0) :
    (nth b (j - j % 2) = 0 ∧ nth b (j - j % 2 + 1) = 0 ∧ nth (b.set j x) (j - j % 2) = 255 ∧ nth (b.set j x) (j - j % 2 + 1) = 255) ∨ (nth b (j - j % 2) = 255 ∧ nth b (j - j % 2 + 1) = 255 ∧ nth (b.set j x) (j - j % 2) = 0 ∧ nth (b.set j x) (j - j % 2 + 1) = 0) := by
  obtain ⟨h1, _, h3, _⟩ := rdErr_of h
  obtain ⟨_, _, h3', _⟩ := rdErr_of h'
  have hl : (b.take 18).length = 18 := by rw [List.length_take]; omega
  have e : (b.set j x).take 18 = (b.take 18).set j x := by rw [List.take_set]
  rw [e] at h3'
  have ho' : Octets (b.take 18) := fun y hy => ho y (List.mem_of_mem_take hy)
  have hn : ∀ i, i < 18 → nth (b.take 18) i = nth b i := fun i hi => by rw [nth_take, if_pos hi]
  have hs : ∀ i, i < 18 → nth ((b.take 18).set j x) i = nth (b.set j x) i := fun i hi => by rw [nth_set (by omega), nth_set (by omega), hn i hi]
  have key := total_seen ho' (by omega) hx.1 hx.2 (by rw [hn j hj]; exact hne) h3 h3'
  unfold wordAt at key
  rw [hn _ (by omega), hn _ (by omega), hs _ (by omega), hs _ (by omega)] at key
  have o1 := ho.nth (j - j % 2)
  have o2 := ho.nth (j - j % 2 + 1)
  have o3 := (ho.set (p := j) hx.1 hx.2).nth (j - j % 2)
  have o4 := (ho.set (p := j) hx.1 hx.2).nth (j - j % 2 + 1)
  omega
theorem getN_step {b : List Int} {a k : Nat} (h : 2 ≤ a ∧ (a + k ≤ 8 ∨ 10 ≤ a)) : getN (stepB b) a k = getN b a k := by
  unfold stepB
  rw [getN_set (by omega), getN_set (by omega), getN_set (by omega)]
/-- A step further. -/
theorem wire_step {b : List Int} (ho : Octets b) (h : rdErr b = 0) (hn : getN b 2 2 = b.length) (ht : 1 ≤ nth b 1) :
    stepE b = 0 ∧ rdErr (stepB b) = 0 ∧ nth (stepB b) 0 = nth b 0 ∧ nth (stepB b) 1 = nth b 1 - 1 ∧ (stepB b).drop 18 = b.drop 18 := by
  obtain ⟨h1, h2, h3, h4, h5⟩ := rdErr_of h
  have e0 : nth (stepB b) 0 = nth b 0 := by
    unfold stepB
    rw [nth_set (by rw [List.length_set, List.length_set]; omega), if_neg (by omega), nth_set (by rw [List.length_set]; omega), if_neg (by omega), nth_set (by omega), if_neg (by omega)]
  have e1 : nth (stepB b) 1 = nth b 1 - 1 := by
    unfold stepB
    rw [nth_set (by rw [List.length_set, List.length_set]; omega), if_neg (by omega), nth_set (by rw [List.length_set]; omega), if_neg (by omega), nth_set (by omega), if_pos rfl]
  have ed : (stepB b).drop 18 = b.drop 18 := by
    unfold stepB
    rw [List.drop_set_of_lt (by omega), List.drop_set_of_lt (by omega), List.drop_set_of_lt (by omega)]
  have hg := getN_step (b := b) (a := 2) (k := 2) (by omega)
  refine ⟨?_, ?_, e0, e1, ed⟩
  · unfold stepE
    rw [if_neg (by omega), if_neg (by omega), if_neg (by omega)]
  · exact rdErr_ok (by rw [stepB_len]; omega) (by rw [e0]; exact h2) (step_total h1 ho h3 (by omega) ht) (by rw [hg]; exact h4) (by rw [hg, stepB_len]; exact h5)
end Go.Port
