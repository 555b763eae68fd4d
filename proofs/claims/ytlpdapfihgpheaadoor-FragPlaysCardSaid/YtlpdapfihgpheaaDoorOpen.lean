/- Arguments of the program's types, opened. -/
import Derived.Test.YtlpdapfihgpheaaDoorRowP
import Derived.Test.YtlpdapfihgpheaaDoorProg
set_option linter.unusedSimpArgs false
set_option linter.unusedVariables false
namespace Go.Proofs.YtlpdapfihgpheaaDoor
open Go.Port
section
variable {H : Type} {enc : TypeId × Value → H} {w : World}
set_option maxRecDepth 100000 in
theorem rd_packet {cs : List Value} (h : Rd enc Tryd.prog w 24 cs) : ∃ k t i s d a m A len cap l, cs = [.int .i64 k, .int .i64 t, .int .i64 i, .int .i64 s, .int .i64 d, .int .i64 a, .bool m, .slice A len cap] ∧ IsRow w .u8 A len cap l ∧ Octets l ∧ len ≤ cap ∧ cap ≤ maxLen ∧ len ≤ 140737488351232 := by
  have hT := Tryd.underlying24
  have hl : cs.length = 8 := (h.struct hT).1.trans (by kernel_rfl)
  match cs, hl with
  | [x0, x1, x2, x3, x4, x5, x6, x7], _ =>
    have hi := Tryd.underlying3
    obtain ⟨k, e0, _⟩ := Rd.i64 (cs := [x0]) (h.field hT 0 0 1 3 rfl (by kernel_rfl)) hi
    obtain ⟨t, e1, _⟩ := Rd.i64 (cs := [x1]) (h.field hT 1 1 1 3 rfl (by kernel_rfl)) hi
    obtain ⟨i, e2, _⟩ := Rd.i64 (cs := [x2]) (h.field hT 2 2 1 3 rfl (by kernel_rfl)) hi
    obtain ⟨s, e3, _⟩ := Rd.i64 (cs := [x3]) (h.field hT 3 3 1 3 rfl (by kernel_rfl)) hi
    obtain ⟨d, e4, _⟩ := Rd.i64 (cs := [x4]) (h.field hT 4 4 1 3 rfl (by kernel_rfl)) hi
    obtain ⟨a, e5, _⟩ := Rd.i64 (cs := [x5]) (h.field hT 5 5 1 3 rfl (by kernel_rfl)) hi
    obtain ⟨m, e6⟩ := Rd.bool (cs := [x6]) (h.field hT 6 6 1 4 rfl (by kernel_rfl)) Tryd.underlying4
    obtain ⟨A, len, cap, l, e7, hb⟩ := Rd.bytes (cs := [x7]) (h.field hT 7 7 1 22 rfl (by kernel_rfl)) Tryd.underlying22 Tryd.underlying5 (by kernel_rfl) (by kernel_rfl)
    simp only [List.cons.injEq, and_true] at e0 e1 e2 e3 e4 e5 e6 e7
    subst e0 e1 e2 e3 e4 e5 e6 e7
    exact ⟨k, t, i, s, d, a, m, A, len, cap, l, rfl, hb⟩
end
end Go.Proofs.YtlpdapfihgpheaaDoor
