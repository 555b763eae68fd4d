/- What is known of a segment that is right. -/
import Derived.Test.YtcnnldlpcpcemaaDoorSegA
set_option linter.unusedSimpArgs false
set_option linter.unusedVariables false
namespace Go.Proofs.YtcnnldlpcpcemaaDoor
open Go.RowKit Go.Port
attribute [local irreducible] Calls
theorem seg_bd {kind f t q a x y src dst : Int} {n : Nat} (h : segE kind f t q a x y src dst n = 0) : (1 ≤ kind ∧ kind ≤ 3) ∧ (0 ≤ src ∧ src ≤ 4294967295) ∧ (0 ≤ dst ∧ dst ≤ 4294967295) ∧ (0 ≤ f ∧ f ≤ 65535) ∧ (0 ≤ t ∧ t ≤ 65535) ∧ (0 ≤ x ∧ x ≤ 65535) ∧ (0 ≤ q ∧ q ≤ 4294967295) ∧ (0 ≤ a ∧ a ≤ 4294967295) ∧ (0 ≤ y ∧ y ≤ 15) ∧ n + sgSize kind ≤ 4000 ∧
    (kind = 3 → f ≤ 1 ∧ q ≤ 65535) ∧ (kind ≠ 1 → a = 0 ∧ x = 0 ∧ y = 0) ∧ (kind = 2 → q = 0) := by
  unfold segE at h
  split at h
  · cases h
  split at h
  · cases h
  split at h
  · cases h
  split at h
  · cases h
  rename_i h1 h2 h3 h4
  unfold segP1 at h1
  unfold segP2 at h2
  unfold segP3 at h3
  omega
end Go.Proofs.YtcnnldlpcpcemaaDoor
