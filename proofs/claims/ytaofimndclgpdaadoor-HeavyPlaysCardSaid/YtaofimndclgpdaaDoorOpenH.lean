/- Arguments opened: lists of pairs. -/
import Derived.Test.YtaofimndclgpdaaDoorRowP
import Derived.Test.YtaofimndclgpdaaDoorHeavyP
import Derived.Test.YtaofimndclgpdaaDoorProg
set_option linter.unusedSimpArgs false
set_option linter.unusedVariables false
namespace Go.Proofs.YtaofimndclgpdaaDoor
open Go.Port Go.RowKit
section
variable {H : Type} {enc : TypeId × Value → H} {w : World}
set_option maxRecDepth 100000 in
theorem rd_pair {cs : List Value} (h : Rd enc Tryd.prog w 34 cs) : ∃ x : Int × Int, cs = encH x := by
  have hc : Tryd.prog.cellsOf 3 = 1 := by kernel_rfl
  have hl : cs.length = 2 := (h.array Tryd.underlying34).1.trans (by kernel_rfl)
  match cs, hl with
  | [a, b], _ =>
    have h0 := (h.array Tryd.underlying34).2 0 (by decide)
    have h1 := (h.array Tryd.underlying34).2 1 (by decide)
    rw [hc] at h0 h1
    obtain ⟨n, e0, _⟩ := Rd.i64 (cs := [a]) h0 Tryd.underlying3
    obtain ⟨m, e1, _⟩ := Rd.i64 (cs := [b]) h1 Tryd.underlying3
    simp only [List.cons.injEq, and_true] at e0 e1
    exact ⟨(n, m), by rw [e0, e1]; rfl⟩
set_option maxRecDepth 100000 in
theorem rd_pairsB {cs : List Value} (h : Rd enc Tryd.prog w 22 cs) : ∃ A len cap, ∃ l : List (Int × Int), cs = [.slice A len cap] ∧ IsSl w 2 A len cap (rowsH l) ∧ len = l.length ∧ len ≤ 4611686018427387904 := by
  have hb : Tryd.prog.bytesOf 34 = 16 := by kernel_rfl
  obtain ⟨A, len, cap, l, h1, h2, h3, _, _, h7, _⟩ := h.slice Tryd.underlying22 (f := encH) (ok := fun _ => True) (sz := 2) (by kernel_rfl) (by decide) (fun _ => rfl) (fun cs hc => by
    obtain ⟨x, rfl⟩ := rd_pair hc
    exact ⟨x, rfl, trivial⟩)
  rw [hb] at h7
  exact ⟨A, len, cap, l, h1, h2, h3, by unfold reachBytes at h7; omega⟩
theorem rd_pairs {cs : List Value} (h : Rd enc Tryd.prog w 22 cs) : ∃ A len cap, ∃ l : List (Int × Int), cs = [.slice A len cap] ∧ IsSl w 2 A len cap (rowsH l) ∧ len = l.length := by
  obtain ⟨A, len, cap, l, h1, h2, h3, _⟩ := rd_pairsB h
  exact ⟨A, len, cap, l, h1, h2, h3⟩
end
end Go.Proofs.YtaofimndclgpdaaDoor
