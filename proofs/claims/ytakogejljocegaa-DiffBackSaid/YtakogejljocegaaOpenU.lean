/- Arguments opened: prefixes, rules, lists of them. -/
import Derived.Test.YtakogejljocegaaOpenT
import Derived.Test.YtakogejljocegaaOpenX
import Derived.Test.YtakogejljocegaaRuleC
set_option linter.unusedSimpArgs false
set_option linter.unusedVariables false
namespace Go.Proofs.Ytakogejljocegaa
open Go.Port Go.RowKit
section
variable {H : Type} {enc : TypeId × Value → H} {w : World}
set_option maxRecDepth 100000 in
theorem rd_ruleB {cs : List Value} (h : Rd enc Try.prog w 32 cs) : ∃ r : Ru, cs = r.row ∧ r.ok w ∧ r.fl ≤ 4611686018427387904 ∧ r.tl ≤ 4611686018427387904 := by
  have hT := Try.underlying32
  have hl : cs.length = 11 := (h.struct hT).1.trans (by kernel_rfl)
  match cs, hl with
  | [x0, x1, x2, x3, x4, x5, x6, x7, x8, x9, x10], _ =>
    have hi := Try.underlying3
    have hb := Try.underlying4
    obtain ⟨ps, e0⟩ := Rd.bool (cs := [x0]) (h.field hT 0 0 1 4 rfl (by kernel_rfl)) hb
    obtain ⟨qk, e1⟩ := Rd.bool (cs := [x1]) (h.field hT 1 1 1 4 rfl (by kernel_rfl)) hb
    obtain ⟨kp, e2⟩ := Rd.bool (cs := [x2]) (h.field hT 2 2 1 4 rfl (by kernel_rfl)) hb
    obtain ⟨way, e3, _⟩ := Rd.i64 (cs := [x3]) (h.field hT 3 3 1 3 rfl (by kernel_rfl)) hi
    obtain ⟨kind, e4, _⟩ := Rd.i64 (cs := [x4]) (h.field hT 4 4 1 3 rfl (by kernel_rfl)) hi
    obtain ⟨sa, sl, e5⟩ := rd_prefix (cs := [x5, x6]) (h.field hT 5 5 2 29 rfl (by kernel_rfl))
    obtain ⟨da, dl, e6⟩ := rd_prefix (cs := [x7, x8]) (h.field hT 6 7 2 29 rfl (by kernel_rfl))
    obtain ⟨FA, fl, fc, lf, e7, hf, hfl, hfb⟩ := rd_spansB (cs := [x9]) (h.field hT 7 9 1 30 rfl (by kernel_rfl))
    obtain ⟨TA, tl, tc, lt, e8, ht, htl, htb⟩ := rd_spansB (cs := [x10]) (h.field hT 8 10 1 30 rfl (by kernel_rfl))
    simp only [List.cons.injEq, and_true] at e0 e1 e2 e3 e4 e5 e6 e7 e8
    obtain ⟨rfl, rfl⟩ := e5
    obtain ⟨rfl, rfl⟩ := e6
    subst e0 e1 e2 e3 e4 e7 e8
    exact ⟨⟨ps, qk, kp, way, kind, sa, sl, da, dl, FA, fl, fc, TA, tl, tc, lf, lt⟩, rfl, ⟨⟨hf, hfl⟩, ht, htl⟩, hfb, htb⟩
theorem rd_rule {cs : List Value} (h : Rd enc Try.prog w 32 cs) : ∃ r : Ru, cs = r.row ∧ r.ok w := by
  obtain ⟨r, h1, h2, _⟩ := rd_ruleB h
  exact ⟨r, h1, h2⟩
set_option maxRecDepth 100000 in
theorem rd_rules {cs : List Value} (h : Rd enc Try.prog w 22 cs) : ∃ A len cap, ∃ l : List Ru, cs = [.slice A len cap] ∧ IsSl w 11 A len cap (l.flatMap Ru.row) ∧ len = l.length ∧ ∀ r ∈ l, r.ok w := by
  obtain ⟨A, len, cap, l, h1, h2, h3, _, _, _, h4⟩ := h.slice Try.underlying22 (f := Ru.row) (ok := fun r => r.ok w) (sz := 11) (by kernel_rfl) (by decide) (fun _ => rfl) (fun cs hc => by
    obtain ⟨x, rfl, hx⟩ := rd_rule hc
    exact ⟨x, rfl, hx⟩)
  exact ⟨A, len, cap, l, h1, h2, h3, h4⟩
end
end Go.Proofs.Ytakogejljocegaa
