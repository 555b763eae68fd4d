/- Arguments opened: segments, keys. -/
import Derived.Test.YtmocpeekdfkegaaDoorRowP
import Derived.Test.YtmocpeekdfkegaaDoorProg
set_option linter.unusedSimpArgs false
set_option linter.unusedVariables false
namespace Go.Proofs.YtmocpeekdfkegaaDoor
open Go.Port
section
variable {H : Type} {enc : TypeId × Value → H} {w : World}
set_option maxRecDepth 100000 in
theorem rd_segment {cs : List Value} (h : Rd enc Tryd.prog w 34 cs) : ∃ f t q a x y A len cap l, cs = [.int .i64 f, .int .i64 t, .int .i64 q, .int .i64 a, .int .i64 x, .int .i64 y, .slice A len cap] ∧ IsRow w .u8 A len cap l ∧ Octets l ∧ len ≤ cap ∧ cap ≤ maxLen ∧ len ≤ 140737488351232 := by
  have hT := Tryd.underlying34
  have hl : cs.length = 7 := (h.struct hT).1.trans (by kernel_rfl)
  match cs, hl with
  | [x0, x1, x2, x3, x4, x5, x6], _ =>
    have hi := Tryd.underlying3
    obtain ⟨f, e0, _⟩ := Rd.i64 (cs := [x0]) (h.field hT 0 0 1 3 rfl (by kernel_rfl)) hi
    obtain ⟨t, e1, _⟩ := Rd.i64 (cs := [x1]) (h.field hT 1 1 1 3 rfl (by kernel_rfl)) hi
    obtain ⟨q, e2, _⟩ := Rd.i64 (cs := [x2]) (h.field hT 2 2 1 3 rfl (by kernel_rfl)) hi
    obtain ⟨a, e3, _⟩ := Rd.i64 (cs := [x3]) (h.field hT 3 3 1 3 rfl (by kernel_rfl)) hi
    obtain ⟨x, e4, _⟩ := Rd.i64 (cs := [x4]) (h.field hT 4 4 1 3 rfl (by kernel_rfl)) hi
    obtain ⟨y, e5, _⟩ := Rd.i64 (cs := [x5]) (h.field hT 5 5 1 3 rfl (by kernel_rfl)) hi
    obtain ⟨A, len, cap, l, e6, hb⟩ := Rd.bytes (cs := [x6]) (h.field hT 6 6 1 32 rfl (by kernel_rfl)) Tryd.underlying32 Tryd.underlying5 (by kernel_rfl) (by kernel_rfl)
    simp only [List.cons.injEq, and_true] at e0 e1 e2 e3 e4 e5 e6
    subst e0 e1 e2 e3 e4 e5 e6
    exact ⟨f, t, q, a, x, y, A, len, cap, l, rfl, hb⟩
set_option maxRecDepth 100000 in
theorem rd_key {cs : List Value} (h : Rd enc Tryd.prog w 23 cs) : ∃ k s f d t, cs = [.int .i64 k, .int .i64 s, .int .i64 f, .int .i64 d, .int .i64 t] := by
  have hT := Tryd.underlying23
  have hl : cs.length = 5 := (h.struct hT).1.trans (by kernel_rfl)
  match cs, hl with
  | [x0, x1, x2, x3, x4], _ =>
    have hi := Tryd.underlying3
    obtain ⟨f, e0, _⟩ := Rd.i64 (cs := [x0]) (h.field hT 0 0 1 3 rfl (by kernel_rfl)) hi
    obtain ⟨t, e1, _⟩ := Rd.i64 (cs := [x1]) (h.field hT 1 1 1 3 rfl (by kernel_rfl)) hi
    obtain ⟨q, e2, _⟩ := Rd.i64 (cs := [x2]) (h.field hT 2 2 1 3 rfl (by kernel_rfl)) hi
    obtain ⟨a, e3, _⟩ := Rd.i64 (cs := [x3]) (h.field hT 3 3 1 3 rfl (by kernel_rfl)) hi
    obtain ⟨x, e4, _⟩ := Rd.i64 (cs := [x4]) (h.field hT 4 4 1 3 rfl (by kernel_rfl)) hi
    simp only [List.cons.injEq, and_true] at e0 e1 e2 e3 e4
    subst e0 e1 e2 e3 e4
    exact ⟨f, t, q, a, x, rfl⟩
end
end Go.Proofs.YtmocpeekdfkegaaDoor
