/- Arguments opened: lists of segments, of truths. -/
import Derived.Test.YtmocpeekdfkegaaDoorOpenS
import Derived.Test.YtmocpeekdfkegaaDoorRowQ
set_option linter.unusedSimpArgs false
set_option linter.unusedVariables false
namespace Go.Proofs.YtmocpeekdfkegaaDoor
open Go.Port Go.RowKit
/-- A segment: its numbers, and where its body lies. -/
structure Sg where
  (f t q a x y : Int)
  (A : Option Addr)
  (n c : Nat)
def Sg.row (p : Sg) : List Value := [.int .i64 p.f, .int .i64 p.t, .int .i64 p.q, .int .i64 p.a, .int .i64 p.x, .int .i64 p.y, .slice p.A p.n p.c]
section
variable {H : Type} {enc : TypeId × Value → H} {w : World}
set_option maxRecDepth 100000 in
theorem rd_segments {cs : List Value} (h : Rd enc Tryd.prog w 45 cs) : ∃ A len cap, ∃ l : List Sg, cs = [.slice A len cap] ∧ IsSl w 7 A len cap (l.flatMap Sg.row) ∧ len = l.length ∧ ∀ p ∈ l, p.n ≤ 9000000000000000 := by
  obtain ⟨A, len, cap, l, h1, h2, h3, _, _, _, h6⟩ := h.slice Tryd.underlying45 (f := Sg.row) (ok := fun p => p.n ≤ 9000000000000000) (sz := 7) (by kernel_rfl) (by decide) (fun _ => rfl) (fun cs hc => by
    obtain ⟨f, t, q, a, x, y, A, len, cap, l, rfl, _, _, _, _, hl⟩ := rd_segment hc
    exact ⟨⟨f, t, q, a, x, y, A, len, cap⟩, rfl, by show len ≤ _; omega⟩)
  exact ⟨A, len, cap, l, h1, h2, h3, h6⟩
set_option maxRecDepth 100000 in
theorem rd_bools {cs : List Value} (h : Rd enc Tryd.prog w 46 cs) : ∃ A len cap, ∃ l : List Bool, cs = [.slice A len cap] ∧ IsSl w 1 A len cap (l.map Value.bool) ∧ len = l.length := by
  obtain ⟨A, len, cap, l, h1, h2, h3, _⟩ := h.slice Tryd.underlying46 (f := fun b => [Value.bool b]) (ok := fun _ => True) (sz := 1) (by kernel_rfl) (by decide) (fun _ => rfl) (fun cs hc => by
    obtain ⟨b, rfl⟩ := hc.bool Tryd.underlying4
    exact ⟨b, rfl, trivial⟩)
  rw [flatMap_one] at h2
  exact ⟨A, len, cap, l, h1, h2, h3⟩
end
end Go.Proofs.YtmocpeekdfkegaaDoor
