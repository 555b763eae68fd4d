/- Arguments opened: flows. -/
import Derived.Test.YtmocpeekdfkegaaDoorOpenS
set_option linter.unusedSimpArgs false
set_option linter.unusedVariables false
namespace Go.Proofs.YtmocpeekdfkegaaDoor
open Go.Port
section
variable {H : Type} {enc : TypeId × Value → H} {w : World}
set_option maxRecDepth 100000 in
theorem rd_pair {a b : Value} (h : Rd enc Tryd.prog w 24 [a, b]) : ∃ n m : Int, a = .int .i64 n ∧ b = .int .i64 m := by
  have hc : Tryd.prog.cellsOf 3 = 1 := by kernel_rfl
  have h0 := (h.array Tryd.underlying24).2 0 (by decide)
  have h1 := (h.array Tryd.underlying24).2 1 (by decide)
  rw [hc] at h0 h1
  obtain ⟨n, e0, _⟩ := Rd.i64 (cs := [a]) h0 Tryd.underlying3
  obtain ⟨m, e1, _⟩ := Rd.i64 (cs := [b]) h1 Tryd.underlying3
  simp only [List.cons.injEq, and_true] at e0 e1
  exact ⟨n, m, e0, e1⟩
set_option maxRecDepth 100000 in
theorem rd_pairB {a b : Value} (h : Rd enc Tryd.prog w 25 [a, b]) : ∃ n m : Bool, a = .bool n ∧ b = .bool m := by
  have hc : Tryd.prog.cellsOf 4 = 1 := by kernel_rfl
  have h0 := (h.array Tryd.underlying25).2 0 (by decide)
  have h1 := (h.array Tryd.underlying25).2 1 (by decide)
  rw [hc] at h0 h1
  obtain ⟨n, e0⟩ := Rd.bool (cs := [a]) h0 Tryd.underlying4
  obtain ⟨m, e1⟩ := Rd.bool (cs := [b]) h1 Tryd.underlying4
  simp only [List.cons.injEq, and_true] at e0 e1
  exact ⟨n, m, e0, e1⟩
set_option maxRecDepth 100000 in
theorem rd_flow {cs : List Value} (h : Rd enc Tryd.prog w 27 cs) : ∃ k s f d t st un sp h0 h1 w0 w1 d0 d1 nm, cs = [.int .i64 k, .int .i64 s, .int .i64 f, .int .i64 d, .int .i64 t, .int .i64 st, .int .i64 un, .int .i64 sp, .int .i64 h0, .int .i64 h1, .int .i64 w0, .int .i64 w1, .bool d0, .bool d1, .int .i64 nm] := by
  have hT := Tryd.underlying27
  have hl : cs.length = 15 := (h.struct hT).1.trans (by kernel_rfl)
  match cs, hl with
  | [x0, x1, x2, x3, x4, x5, x6, x7, x8, x9, x10, x11, x12, x13, x14], _ =>
    have hi := Tryd.underlying3
    obtain ⟨k, s, f, d, t, e0⟩ := rd_key (cs := [x0, x1, x2, x3, x4]) (h.field hT 0 0 5 23 rfl (by kernel_rfl))
    obtain ⟨st, e5, _⟩ := Rd.i64 (cs := [x5]) (h.field hT 1 5 1 3 rfl (by kernel_rfl)) hi
    obtain ⟨un, e6, _⟩ := Rd.i64 (cs := [x6]) (h.field hT 2 6 1 3 rfl (by kernel_rfl)) hi
    obtain ⟨sp, e7, _⟩ := Rd.i64 (cs := [x7]) (h.field hT 3 7 1 3 rfl (by kernel_rfl)) hi
    obtain ⟨h0, h1, rfl, rfl⟩ := rd_pair (a := x8) (b := x9) (h.field hT 4 8 2 24 rfl (by kernel_rfl))
    obtain ⟨w0, w1, rfl, rfl⟩ := rd_pair (a := x10) (b := x11) (h.field hT 5 10 2 24 rfl (by kernel_rfl))
    obtain ⟨d0, d1, rfl, rfl⟩ := rd_pairB (a := x12) (b := x13) (h.field hT 6 12 2 25 rfl (by kernel_rfl))
    obtain ⟨nm, e14, _⟩ := Rd.i64 (cs := [x14]) (h.field hT 7 14 1 3 rfl (by kernel_rfl)) hi
    simp only [List.cons.injEq, and_true] at e0 e5 e6 e7 e14
    obtain ⟨rfl, rfl, rfl, rfl, rfl⟩ := e0
    subst e5 e6 e7 e14
    exact ⟨k, s, f, d, t, st, un, sp, h0, h1, w0, w1, d0, d1, nm, rfl⟩
end
end Go.Proofs.YtmocpeekdfkegaaDoor
