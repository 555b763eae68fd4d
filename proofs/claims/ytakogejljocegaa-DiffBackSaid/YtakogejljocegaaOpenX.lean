/- Arguments opened: a prefix. -/
import Derived.Test.YtakogejljocegaaRead
import Derived.Test.YtakogejljocegaaRowP
import Derived.Test.YtakogejljocegaaProg
set_option linter.unusedSimpArgs false
set_option linter.unusedVariables false
namespace Go.Proofs.Ytakogejljocegaa
open Go.Port Go.RowKit
section
variable {H : Type} {enc : TypeId × Value → H} {w : World}
set_option maxRecDepth 100000 in
theorem rd_prefix {cs : List Value} (h : Rd enc Try.prog w 29 cs) : ∃ a n, cs = [.int .i64 a, .int .i64 n] := by
  have hT := Try.underlying29
  have hl : cs.length = 2 := (h.struct hT).1.trans (by kernel_rfl)
  match cs, hl with
  | [x0, x1], _ =>
    have hi := Try.underlying3
    obtain ⟨f, e0, _⟩ := Rd.i64 (cs := [x0]) (h.field hT 0 0 1 3 rfl (by kernel_rfl)) hi
    obtain ⟨t, e1, _⟩ := Rd.i64 (cs := [x1]) (h.field hT 1 1 1 3 rfl (by kernel_rfl)) hi
    simp only [List.cons.injEq, and_true] at e0 e1
    subst e0 e1
    exact ⟨f, t, rfl⟩
end
end Go.Proofs.Ytakogejljocegaa
