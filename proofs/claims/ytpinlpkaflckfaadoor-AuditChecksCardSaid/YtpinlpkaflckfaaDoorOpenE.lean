/- Arguments opened: lists of events. -/
import Derived.Test.YtpinlpkaflckfaaDoorOpenS
import Derived.Test.YtpinlpkaflckfaaDoorAuditA
set_option linter.unusedSimpArgs false
set_option linter.unusedVariables false
namespace Go.Proofs.YtpinlpkaflckfaaDoor
open Go.Port Go.RowKit
section
variable {H : Type} {enc : TypeId × Value → H} {w : World}
set_option maxRecDepth 100000 in
theorem rd_event {cs : List Value} (h : Rd enc Tryd.prog w 30 cs) : ∃ e : Ev, cs = evRow e := by
  have hT := Tryd.underlying30
  have hl : cs.length = 8 := (h.struct hT).1.trans (by kernel_rfl)
  match cs, hl with
  | [x0, x1, x2, x3, x4, x5, x6, x7], _ =>
    have hi := Tryd.underlying3
    obtain ⟨tm, e0, _⟩ := Rd.i64 (cs := [x0]) (h.field hT 0 0 1 3 rfl (by kernel_rfl)) hi
    obtain ⟨nd, e1, _⟩ := Rd.i64 (cs := [x1]) (h.field hT 1 1 1 3 rfl (by kernel_rfl)) hi
    obtain ⟨wh, e2, _⟩ := Rd.i64 (cs := [x2]) (h.field hT 2 2 1 3 rfl (by kernel_rfl)) hi
    obtain ⟨k, s, f, d, t, e3⟩ := rd_key (cs := [x3, x4, x5, x6, x7]) (h.field hT 3 3 5 28 rfl (by kernel_rfl))
    simp only [List.cons.injEq, and_true] at e0 e1 e2 e3
    obtain ⟨rfl, rfl, rfl, rfl, rfl⟩ := e3
    subst e0 e1 e2
    exact ⟨⟨_, _, _, _, _, _, _, _⟩, rfl⟩
set_option maxRecDepth 100000 in
theorem rd_events {cs : List Value} (h : Rd enc Tryd.prog w 22 cs) : ∃ A len cap, ∃ l : List Ev, cs = [.slice A len cap] ∧ IsSl w 8 A len cap (l.flatMap evRow) ∧ len = l.length ∧ len ≤ cap ∧ cap ≤ maxLen := by
  obtain ⟨A, len, cap, l, h1, h2, h3, h4, h5, _, _⟩ := h.slice Tryd.underlying22 (f := evRow) (ok := fun _ => True) (sz := 8) (by kernel_rfl) (by decide) (fun _ => rfl) (fun cs hc => by
    obtain ⟨e, rfl⟩ := rd_event hc
    exact ⟨e, rfl, trivial⟩)
  exact ⟨A, len, cap, l, h1, h2, h3, h4, h5⟩
end
end Go.Proofs.YtpinlpkaflckfaaDoor
