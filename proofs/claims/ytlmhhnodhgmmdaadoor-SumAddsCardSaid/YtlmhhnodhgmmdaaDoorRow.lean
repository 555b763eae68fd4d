/- From a reading of an argument to what the walks are told. No program here. -/
import Derived.Test.YtlmhhnodhgmmdaaDoorBase
import Derived.ProofKit
import Derived.OpenShut
import Derived.SizedLaws
namespace Go.Port
open Go.RowKit

theorem isRow_of_open {w : World} {k : IntKind} {x : Addr} {len cap : Nat} {zs : List Int} (hl : len ≤ cap) (hz : zs.length = cap)
    (hcell : ∀ i, i < zs.length → w.cell? (x.add i) = some (.int k (zs.getD i 0))) : IsRow w k (some x) len cap (zs.take len) := by
  refine ⟨by simp; omega, ?_⟩
  by_cases h0 : len = 0
  · exact .inl h0
  · obtain ⟨b, off, spot⟩ := x
    have hc := hcell 0 (by omega)
    have hspot : spot = none := by simpa [Addr.add] using World.cell?_spot hc
    subst hspot
    have hadd : ∀ i, (⟨b, off, none⟩ : Addr).add i = ⟨b, off + i, none⟩ := fun i => by unfold Addr.add; split <;> simp_all
    refine .inr ⟨b, off, rfl, ?_, hl, ?_⟩
    · rw [hadd] at hc; exact World.block_lt_of_cell? w ⟨b, off + 0, none⟩ hc
    · refine RowAt.cells fun i hi => ?_
      have hi' : i < len := by simp at hi; omega
      have := hcell i (by omega)
      rw [hadd] at this
      rw [this, nth_take, if_pos hi']
      rfl
theorem octets_of_wf {zs : List Int} {len : Nat} (h : ∀ n ∈ zs, (Lit.int .u8 n).wf = true) : Octets (zs.take len) := fun x hx => by
  have := h x (List.mem_of_mem_take hx)
  simp [Lit.wf, IntKind.min, IntKind.max, IntKind.signed, IntKind.bits] at this
  omega
end Go.Port
