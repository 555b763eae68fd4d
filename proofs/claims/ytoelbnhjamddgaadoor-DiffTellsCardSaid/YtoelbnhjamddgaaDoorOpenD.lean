/- Arguments opened: rules and edits, with bounds. -/
import Derived.Test.YtoelbnhjamddgaaDoorOpenU
import Derived.Test.YtoelbnhjamddgaaDoorDiffP
set_option linter.unusedSimpArgs false
set_option linter.unusedVariables false
namespace Go.Proofs.YtoelbnhjamddgaaDoor
open Go.Port Go.RowKit
section
variable {H : Type} {enc : TypeId × Value → H} {w : World}
set_option maxRecDepth 100000 in
theorem rd_rulesB {cs : List Value} (h : Rd enc Tryd.prog w 43 cs) : ∃ A len cap, ∃ l : List Ru, cs = [.slice A len cap] ∧ IsSl w 11 A len cap (l.flatMap Ru.row) ∧ len = l.length ∧ len * 104 ≤ 140737488351232 ∧ ∀ r ∈ l, r.ok w ∧ r.fl ≤ 4611686018427387904 ∧ r.tl ≤ 4611686018427387904 := by
  have hb : Tryd.prog.bytesOf 55 = 104 := by kernel_rfl
  obtain ⟨A, len, cap, l, h1, h2, h3, _, _, h7, h4⟩ := h.slice Tryd.underlying43 (f := Ru.row) (ok := fun r => r.ok w ∧ r.fl ≤ 4611686018427387904 ∧ r.tl ≤ 4611686018427387904) (sz := 11) (by kernel_rfl) (by decide) (fun _ => rfl) (fun cs hc => by
    obtain ⟨x, rfl, hx⟩ := rd_ruleB hc
    exact ⟨x, rfl, hx⟩)
  rw [hb] at h7
  exact ⟨A, len, cap, l, h1, h2, h3, by unfold reachBytes at h7; omega, h4⟩
set_option maxRecDepth 100000 in
theorem rd_edit {cs : List Value} (h : Rd enc Tryd.prog w 57 cs) : ∃ e : Eu, cs = e.row ∧ e.r.ok w ∧ e.r.fl ≤ 4611686018427387904 ∧ e.r.tl ≤ 4611686018427387904 := by
  have hT := Tryd.underlying57
  have hl : cs.length = 13 := (h.struct hT).1.trans (by kernel_rfl)
  match cs, hl with
  | [x0, x1, x2, x3, x4, x5, x6, x7, x8, x9, x10, x11, x12], _ =>
    obtain ⟨n, e0, _⟩ := Rd.i64 (cs := [x0]) (h.field hT 0 0 1 3 rfl (by kernel_rfl)) Tryd.underlying3
    obtain ⟨b, e1⟩ := Rd.bool (cs := [x1]) (h.field hT 1 1 1 4 rfl (by kernel_rfl)) Tryd.underlying4
    obtain ⟨r, e2, hr⟩ := rd_ruleB (cs := [x2, x3, x4, x5, x6, x7, x8, x9, x10, x11, x12]) (h.field hT 2 2 11 55 rfl (by kernel_rfl))
    simp only [List.cons.injEq, and_true] at e0 e1
    subst e0 e1
    exact ⟨⟨n, b, r⟩, by show _ = .int .i64 n :: .bool b :: r.row; rw [← e2], hr⟩
set_option maxRecDepth 100000 in
theorem rd_edits {cs : List Value} (h : Rd enc Tryd.prog w 45 cs) : ∃ A len cap, ∃ l : List Eu, cs = [.slice A len cap] ∧ IsSl w 13 A len cap (l.flatMap Eu.row) ∧ len = l.length ∧ ∀ e ∈ l, e.r.ok w ∧ e.r.fl ≤ 4611686018427387904 ∧ e.r.tl ≤ 4611686018427387904 := by
  obtain ⟨A, len, cap, l, h1, h2, h3, _, _, _, h4⟩ := h.slice Tryd.underlying45 (f := Eu.row) (ok := fun e => e.r.ok w ∧ e.r.fl ≤ 4611686018427387904 ∧ e.r.tl ≤ 4611686018427387904) (sz := 13) (by kernel_rfl) (by decide) (fun _ => rfl) (fun cs hc => by
    obtain ⟨x, rfl, hx⟩ := rd_edit hc
    exact ⟨x, rfl, hx⟩)
  exact ⟨A, len, cap, l, h1, h2, h3, h4⟩
end
end Go.Proofs.YtoelbnhjamddgaaDoor
