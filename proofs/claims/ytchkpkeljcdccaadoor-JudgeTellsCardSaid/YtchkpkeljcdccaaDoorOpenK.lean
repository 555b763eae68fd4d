/- Arguments opened: keys. -/
import Derived.Test.YtchkpkeljcdccaaDoorRowP
import Derived.Test.YtchkpkeljcdccaaDoorProg
set_option linter.unusedSimpArgs false
set_option linter.unusedVariables false
namespace Go.Proofs.YtchkpkeljcdccaaDoor
open Go.Port
section
variable {H : Type} {enc : TypeId × Value → H} {w : World}
set_option maxRecDepth 100000 in
theorem rd_key {cs : List Value} (h : Rd enc Tryd.prog w 55 cs) : ∃ k s f d t, cs = [.int .i64 k, .int .i64 s, .int .i64 f, .int .i64 d, .int .i64 t] := by
  have hT := Tryd.underlying55
  have hl : cs.length = 5 := (h.struct hT).1.trans (by kernel_rfl)
  match cs, hl with
  | [x0, x1, x2, x3, x4], _ =>
    have hi := Tryd.underlying3
    obtain ⟨f, e0, _⟩ := Rd.i64 (cs := [x0]) (h.field hT 0 0 1 3 rfl (by kernel_rfl)) hi
    obtain ⟨t, e1, _⟩ := Rd.i64 (cs := [x1]) (h.field hT 1 1 1 3 rfl (by kernel_rfl)) hi
    obtain ⟨q, e2, _⟩ := Rd.i64 (cs := [x2]) (h.field hT 2 2 1 3 rfl (by kernel_rfl)) hi
    obtain ⟨a, e3, _⟩ := Rd.i64 (cs := [x3]) (h.field hT 3 3 1 3 rfl (by kernel_rfl)) hi
    obtain ⟨x, e4, _⟩ := Rd.i64 (cs := [x4]) (h.field hT 4 4 1 3 rfl (by kernel_rfl)) hi
    simp only [List.cons.injEq, and_true] at e0 e1 e2 e3 e4
    subst e0 e1 e2 e3 e4
    exact ⟨f, t, q, a, x, rfl⟩
end
end Go.Proofs.YtchkpkeljcdccaaDoor
