/- Packets that are right; rows of the call's own, opened. -/
import Derived.Test.YtpinlpkaflckfaaDoorPut
import Derived.Test.YtpinlpkaflckfaaDoorClone
import Derived.Test.YtpinlpkaflckfaaDoorAny
set_option linter.unusedSimpArgs false
set_option linter.unusedVariables false
namespace Go.Proofs.YtpinlpkaflckfaaDoor
open Go.RowKit Go.Port
attribute [local irreducible] Calls
/-- A packet's cells. -/
def prow (k t i s d a : Int) (m : Bool) (A : Option Addr) (len cap : Nat) : List Value := [.int .i64 k, .int .i64 t, .int .i64 i, .int .i64 s, .int .i64 d, .int .i64 a, .bool m, .slice A len cap]
theorem pkt_bd {k t i s d a : Int} {n : Nat} (h : pktE k t i s d a n = 0) : pktB k t i s d a = false ∧ n ≤ 4000 ∧ (0 ≤ a ∧ a < 32768) ∧ (0 ≤ k ∧ k ≤ 15) ∧ (0 ≤ t ∧ t ≤ 255) ∧ (0 ≤ i ∧ i ≤ 65535) ∧ (0 ≤ s ∧ s ≤ 4294967295) ∧ (0 ≤ d ∧ d ≤ 4294967295) := by
  unfold pktE at h
  cases e : pktB k t i s d a with
  | true => rw [e] at h; simp at h
  | false =>
    rw [e] at h
    unfold pktB at e
    simp only [decide_eq_true_eq, decide_eq_false_iff_not, Bool.and_eq_true, Bool.or_eq_true, Bool.and_eq_false_iff, Bool.or_eq_false_iff, Bool.not_eq_true', Bool.not_eq_false', Bool.not_true, Bool.not_false, Bool.true_or, Bool.or_true, Bool.false_or, Bool.or_false, Bool.and_true, Bool.true_and, Bool.false_and, Bool.and_false, reduceCtorEq, Classical.not_not, beq_self_eq_true, bne_self_eq_false, not_true_eq_false, not_false_eq_true, or_false, false_or, or_true, true_or, and_true, true_and, and_false, false_and, or_self, and_self] at e
    simp at h
    exact ⟨rfl, by omega, by omega, by omega, by omega, by omega, by omega, by omega⟩
theorem own_form {E sz : Nat} {A : Option Addr} {m n cap : Nat} {xs : List Value} {c : Ch} (h : OwnS E sz (.slice A m cap) n xs c) (hn : 0 < n) : ∃ b ext, A = some ⟨b, 0, none⟩ ∧ c = [(b, .cells (xs ++ ext).toArray E (0, 0))] ∧ m = n ∧ n ≤ cap ∧ cap ≤ maxLen ∧ (xs ++ ext).length = cap * sz := by
  rcases h.2 with ⟨_, h0, _⟩ | ⟨b, cap', ext, hv, h1, h2, h3, hc⟩
  · omega
  · simp only [Value.slice.injEq] at hv
    obtain ⟨rfl, rfl, rfl⟩ := hv
    exact ⟨b, ext, rfl, hc, rfl, h1, h2, h3⟩
end Go.Proofs.YtpinlpkaflckfaaDoor
