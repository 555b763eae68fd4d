/- Arguments opened: prefixes, lists of them. -/
import Derived.Test.YtoelbnhjamddgaaDoorRowP
import Derived.Test.YtoelbnhjamddgaaDoorSortK
import Derived.Test.YtoelbnhjamddgaaDoorProg
set_option linter.unusedSimpArgs false
set_option linter.unusedVariables false
namespace Go.Proofs.YtoelbnhjamddgaaDoor
open Go.Port Go.RowKit
section
variable {H : Type} {enc : TypeId × Value → H} {w : World}
set_option maxRecDepth 100000 in
theorem rd_px {cs : List Value} (h : Rd enc Tryd.prog w 28 cs) : ∃ x : Sp, cs = encS x := by
  have hT := Tryd.underlying28
  have hl : cs.length = 2 := (h.struct hT).1.trans (by kernel_rfl)
  match cs, hl with
  | [x0, x1], _ =>
    have hi := Tryd.underlying3
    obtain ⟨f, e0, _⟩ := Rd.i64 (cs := [x0]) (h.field hT 0 0 1 3 rfl (by kernel_rfl)) hi
    obtain ⟨t, e1, _⟩ := Rd.i64 (cs := [x1]) (h.field hT 1 1 1 3 rfl (by kernel_rfl)) hi
    simp only [List.cons.injEq, and_true] at e0 e1
    subst e0 e1
    exact ⟨(f, t), rfl⟩
set_option maxRecDepth 100000 in
theorem rd_pxs {cs : List Value} (h : Rd enc Tryd.prog w 22 cs) : ∃ A len cap, ∃ l : List Sp, cs = [.slice A len cap] ∧ IsSl w 2 A len cap (rowsS l) ∧ len = l.length := by
  obtain ⟨A, len, cap, l, h1, h2, h3, _⟩ := h.slice Tryd.underlying22 (f := encS) (ok := fun _ => True) (sz := 2) (by kernel_rfl) (by decide) (fun _ => rfl) (fun cs hc => by
    obtain ⟨x, rfl⟩ := rd_px hc
    exact ⟨x, rfl, trivial⟩)
  exact ⟨A, len, cap, l, h1, h2, h3⟩
end
end Go.Proofs.YtoelbnhjamddgaaDoor
