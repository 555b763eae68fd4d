/- Arguments of the program's types, opened. -/
import Derived.Test.YtlmhhnodhgmmdaaRowP
import Derived.Test.YtlmhhnodhgmmdaaProg
set_option linter.unusedSimpArgs false
set_option linter.unusedVariables false
namespace Go.Proofs.Ytlmhhnodhgmmdaa
open Go.Port
section
variable {H : Type} {enc : TypeId × Value → H} {w : World}
theorem rd_packet {cs : List Value} (h : Rd enc Try.prog w 35 cs) : ∃ k t i s d a m A len cap l, cs = [.int .i64 k, .int .i64 t, .int .i64 i, .int .i64 s, .int .i64 d, .int .i64 a, .bool m, .slice A len cap] ∧ IsRow w .u8 A len cap l ∧ Octets l ∧ len ≤ cap ∧ cap ≤ maxLen ∧ len ≤ 140737488351232 := by
  have hT := Try.underlying35
  have hl : cs.length = 8 := (h.struct hT).1.trans (by kernel_rfl)
  match cs, hl with
  | [x0, x1, x2, x3, x4, x5, x6, x7], _ =>
    have hi := Try.underlying3
    obtain ⟨k, e0, _⟩ := Rd.i64 (cs := [x0]) (h.field hT 0 0 1 3 rfl (by kernel_rfl)) hi
    obtain ⟨t, e1, _⟩ := Rd.i64 (cs := [x1]) (h.field hT 1 1 1 3 rfl (by kernel_rfl)) hi
    obtain ⟨i, e2, _⟩ := Rd.i64 (cs := [x2]) (h.field hT 2 2 1 3 rfl (by kernel_rfl)) hi
    obtain ⟨s, e3, _⟩ := Rd.i64 (cs := [x3]) (h.field hT 3 3 1 3 rfl (by kernel_rfl)) hi
    obtain ⟨d, e4, _⟩ := Rd.i64 (cs := [x4]) (h.field hT 4 4 1 3 rfl (by kernel_rfl)) hi
    obtain ⟨a, e5, _⟩ := Rd.i64 (cs := [x5]) (h.field hT 5 5 1 3 rfl (by kernel_rfl)) hi
    obtain ⟨m, e6⟩ := Rd.bool (cs := [x6]) (h.field hT 6 6 1 4 rfl (by kernel_rfl)) Try.underlying4
    obtain ⟨A, len, cap, l, e7, hb⟩ := Rd.bytes (cs := [x7]) (h.field hT 7 7 1 26 rfl (by kernel_rfl)) Try.underlying26 Try.underlying5 (by kernel_rfl) (by kernel_rfl)
    simp only [List.cons.injEq, and_true] at e0 e1 e2 e3 e4 e5 e6 e7
    subst e0 e1 e2 e3 e4 e5 e6 e7
    exact ⟨k, t, i, s, d, a, m, A, len, cap, l, rfl, hb⟩
/-- A value of a type that is no struct's. -/
theorem rd_int {t : TypeId} {v : Value} {base : Nat} (ht : Try.prog.underlying t = some (.int .i64)) (hv : Value.okWide Try.prog w .any base t v) (h : Rd enc Try.prog w t v.cells.toList) : ∃ n, v = .int .i64 n ∧ -9223372036854775808 ≤ n ∧ n ≤ 9223372036854775807 := by
  obtain ⟨m, rfl⟩ := Go.WideShapes.okWide_int ht hv
  obtain ⟨n, h1, h2⟩ := Rd.i64 (cs := [.int .i64 m]) h ht
  simp only [List.cons.injEq, Value.int.injEq, true_and, and_true] at h1
  subst h1
  exact ⟨m, rfl, h2⟩
theorem rd_slice {t e : TypeId} {v : Value} {base : Nat} (ht : Try.prog.underlying t = some (.slice e)) (hv : Value.okWide Try.prog w .any base t v) : ∃ A len cap, v = .slice A len cap ∧ v.cells.toList = [.slice A len cap] := by
  obtain ⟨a, len, cap, rfl⟩ := Go.WideShapes.okWide_slice ht hv
  exact ⟨a, len, cap, rfl, rfl⟩
end
end Go.Proofs.Ytlmhhnodhgmmdaa
