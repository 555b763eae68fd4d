/- Arguments opened. -/
import Derived.Test.YtmocpeekdfkegaaDoorRead
import Derived.Test.YtmocpeekdfkegaaDoorMem
import Derived.ShutString
import Derived.ChangeOld
import Derived.Test.YtmocpeekdfkegaaDoorProg
import Derived.Test.YtmocpeekdfkegaaDoorSyncP
/- What every row's proof needs, once. No program here. -/
set_option linter.unusedSimpArgs false
set_option linter.unusedVariables false
namespace Go.Port
open Go.RowKit Go.ChangeShapes Go.WideShapes
theorem trodAll_stays {H : Type} {enc : TypeId × Value → H} {P : Program} (hl : laidOutB P = true) {W W' : World} (hb : Below W.heap.size W W') :
    ∀ {ts : List TypeId} {vs : List Value} {ds : List (DataW H)} {ps : List MemPlace}, (ts.all fun t => P.readableRec t && decide (t < P.types.size)) = true → DataW.TrodAll enc P W 0 (fun _ => true) true ts vs ds ps →
      DataW.TrodAll enc P W' 0 (fun b => decide (b < W.heap.size)) true ts vs ds ps
  | [], vs, ds, ps, _, h => by
    obtain ⟨rfl, rfl, rfl⟩ := trodAll_nil h
    exact trodAll_mk0
  | t :: ts, vs, ds, ps, hts, h => by
    have hlt := h.lt
    obtain ⟨v, vs', d, ds', p, q, rfl, rfl, rfl, h1, h2⟩ := trodAll_cons h
    simp only [List.all_cons, Bool.and_eq_true, decide_eq_true_eq] at hts
    exact trodAll_cons_mk (Below.trod hl hts.1.1 hts.1.2 h1 hb (fun x hx => hlt x (by simp [hx]))) (trodAll_stays hl hb hts.2 h2)
end Go.Port
/- Arguments opened: segments, keys. -/
set_option linter.unusedSimpArgs false
set_option linter.unusedVariables false
namespace Go.Proofs.YtmocpeekdfkegaaDoor
open Go.Port
section
variable {H : Type} {enc : TypeId × Value → H} {w : World}
set_option maxRecDepth 100000 in
theorem rd_segment {cs : List Value} (h : Rd enc Tryd.prog w 34 cs) : ∃ f t q a x y A len cap l, cs = [.int .i64 f, .int .i64 t, .int .i64 q, .int .i64 a, .int .i64 x, .int .i64 y, .slice A len cap] ∧ IsRow w .u8 A len cap l ∧ Octets l ∧ len ≤ cap ∧ cap ≤ maxLen ∧ len ≤ 140737488351232 := by
  have hT := Tryd.underlying34
  have hl : cs.length = 7 := (h.struct hT).1.trans (by kernel_rfl)
  match cs, hl with
  | [x0, x1, x2, x3, x4, x5, x6], _ =>
    have hi := Tryd.underlying3
    obtain ⟨f, e0, _⟩ := Rd.i64 (cs := [x0]) (h.field hT 0 0 1 3 rfl (by kernel_rfl)) hi
    obtain ⟨t, e1, _⟩ := Rd.i64 (cs := [x1]) (h.field hT 1 1 1 3 rfl (by kernel_rfl)) hi
    obtain ⟨q, e2, _⟩ := Rd.i64 (cs := [x2]) (h.field hT 2 2 1 3 rfl (by kernel_rfl)) hi
    obtain ⟨a, e3, _⟩ := Rd.i64 (cs := [x3]) (h.field hT 3 3 1 3 rfl (by kernel_rfl)) hi
    obtain ⟨x, e4, _⟩ := Rd.i64 (cs := [x4]) (h.field hT 4 4 1 3 rfl (by kernel_rfl)) hi
    obtain ⟨y, e5, _⟩ := Rd.i64 (cs := [x5]) (h.field hT 5 5 1 3 rfl (by kernel_rfl)) hi
    obtain ⟨A, len, cap, l, e6, hb⟩ := Rd.bytes (cs := [x6]) (h.field hT 6 6 1 32 rfl (by kernel_rfl)) Tryd.underlying32 Tryd.underlying5 (by kernel_rfl) (by kernel_rfl)
    simp only [List.cons.injEq, and_true] at e0 e1 e2 e3 e4 e5 e6
    subst e0 e1 e2 e3 e4 e5 e6
    exact ⟨f, t, q, a, x, y, A, len, cap, l, rfl, hb⟩
set_option maxRecDepth 100000 in
theorem rd_key {cs : List Value} (h : Rd enc Tryd.prog w 23 cs) : ∃ k s f d t, cs = [.int .i64 k, .int .i64 s, .int .i64 f, .int .i64 d, .int .i64 t] := by
  have hT := Tryd.underlying23
  have hl : cs.length = 5 := (h.struct hT).1.trans (by kernel_rfl)
  match cs, hl with
  | [x0, x1, x2, x3, x4], _ =>
    have hi := Tryd.underlying3
    obtain ⟨f, e0, _⟩ := Rd.i64 (cs := [x0]) (h.field hT 0 0 1 3 rfl (by kernel_rfl)) hi
    obtain ⟨t, e1, _⟩ := Rd.i64 (cs := [x1]) (h.field hT 1 1 1 3 rfl (by kernel_rfl)) hi
    obtain ⟨q, e2, _⟩ := Rd.i64 (cs := [x2]) (h.field hT 2 2 1 3 rfl (by kernel_rfl)) hi
    obtain ⟨a, e3, _⟩ := Rd.i64 (cs := [x3]) (h.field hT 3 3 1 3 rfl (by kernel_rfl)) hi
    obtain ⟨x, e4, _⟩ := Rd.i64 (cs := [x4]) (h.field hT 4 4 1 3 rfl (by kernel_rfl)) hi
    simp only [List.cons.injEq, and_true] at e0 e1 e2 e3 e4
    subst e0 e1 e2 e3 e4
    exact ⟨f, t, q, a, x, rfl⟩
end
end Go.Proofs.YtmocpeekdfkegaaDoor
/- Arguments opened: flows. -/
set_option linter.unusedSimpArgs false
set_option linter.unusedVariables false
namespace Go.Proofs.YtmocpeekdfkegaaDoor
open Go.Port
section
variable {H : Type} {enc : TypeId × Value → H} {w : World}
set_option maxRecDepth 100000 in
theorem rd_pair {a b : Value} (h : Rd enc Tryd.prog w 24 [a, b]) : ∃ n m : Int, a = .int .i64 n ∧ b = .int .i64 m := by
  have hc : Tryd.prog.cellsOf 3 = 1 := by kernel_rfl
  have h0 := (h.array Tryd.underlying24).2 0 (by decide)
  have h1 := (h.array Tryd.underlying24).2 1 (by decide)
  rw [hc] at h0 h1
  obtain ⟨n, e0, _⟩ := Rd.i64 (cs := [a]) h0 Tryd.underlying3
  obtain ⟨m, e1, _⟩ := Rd.i64 (cs := [b]) h1 Tryd.underlying3
  simp only [List.cons.injEq, and_true] at e0 e1
  exact ⟨n, m, e0, e1⟩
set_option maxRecDepth 100000 in
theorem rd_pairB {a b : Value} (h : Rd enc Tryd.prog w 25 [a, b]) : ∃ n m : Bool, a = .bool n ∧ b = .bool m := by
  have hc : Tryd.prog.cellsOf 4 = 1 := by kernel_rfl
  have h0 := (h.array Tryd.underlying25).2 0 (by decide)
  have h1 := (h.array Tryd.underlying25).2 1 (by decide)
  rw [hc] at h0 h1
  obtain ⟨n, e0⟩ := Rd.bool (cs := [a]) h0 Tryd.underlying4
  obtain ⟨m, e1⟩ := Rd.bool (cs := [b]) h1 Tryd.underlying4
  simp only [List.cons.injEq, and_true] at e0 e1
  exact ⟨n, m, e0, e1⟩
set_option maxRecDepth 100000 in
theorem rd_flow {cs : List Value} (h : Rd enc Tryd.prog w 27 cs) : ∃ k s f d t st un sp h0 h1 w0 w1 d0 d1 nm, cs = [.int .i64 k, .int .i64 s, .int .i64 f, .int .i64 d, .int .i64 t, .int .i64 st, .int .i64 un, .int .i64 sp, .int .i64 h0, .int .i64 h1, .int .i64 w0, .int .i64 w1, .bool d0, .bool d1, .int .i64 nm] := by
  have hT := Tryd.underlying27
  have hl : cs.length = 15 := (h.struct hT).1.trans (by kernel_rfl)
  match cs, hl with
  | [x0, x1, x2, x3, x4, x5, x6, x7, x8, x9, x10, x11, x12, x13, x14], _ =>
    have hi := Tryd.underlying3
    obtain ⟨k, s, f, d, t, e0⟩ := rd_key (cs := [x0, x1, x2, x3, x4]) (h.field hT 0 0 5 23 rfl (by kernel_rfl))
    obtain ⟨st, e5, _⟩ := Rd.i64 (cs := [x5]) (h.field hT 1 5 1 3 rfl (by kernel_rfl)) hi
    obtain ⟨un, e6, _⟩ := Rd.i64 (cs := [x6]) (h.field hT 2 6 1 3 rfl (by kernel_rfl)) hi
    obtain ⟨sp, e7, _⟩ := Rd.i64 (cs := [x7]) (h.field hT 3 7 1 3 rfl (by kernel_rfl)) hi
    obtain ⟨h0, h1, rfl, rfl⟩ := rd_pair (a := x8) (b := x9) (h.field hT 4 8 2 24 rfl (by kernel_rfl))
    obtain ⟨w0, w1, rfl, rfl⟩ := rd_pair (a := x10) (b := x11) (h.field hT 5 10 2 24 rfl (by kernel_rfl))
    obtain ⟨d0, d1, rfl, rfl⟩ := rd_pairB (a := x12) (b := x13) (h.field hT 6 12 2 25 rfl (by kernel_rfl))
    obtain ⟨nm, e14, _⟩ := Rd.i64 (cs := [x14]) (h.field hT 7 14 1 3 rfl (by kernel_rfl)) hi
    simp only [List.cons.injEq, and_true] at e0 e5 e6 e7 e14
    obtain ⟨rfl, rfl, rfl, rfl, rfl⟩ := e0
    subst e5 e6 e7 e14
    exact ⟨k, s, f, d, t, st, un, sp, h0, h1, w0, w1, d0, d1, nm, rfl⟩
end
end Go.Proofs.YtmocpeekdfkegaaDoor
/- Arguments opened: lists of notes. -/
set_option linter.unusedSimpArgs false
set_option linter.unusedVariables false
namespace Go.Proofs.YtmocpeekdfkegaaDoor
open Go.Port Go.RowKit
section
variable {H : Type} {enc : TypeId × Value → H} {w : World}
set_option maxRecDepth 100000 in
theorem rd_note {cs : List Value} (h : Rd enc Tryd.prog w 57 cs) : ∃ x : Nt, cs = x.row := by
  have hT := Tryd.underlying57
  have hl : cs.length = 17 := (h.struct hT).1.trans (by kernel_rfl)
  match cs, hl with
  | [a, b, x0, x1, x2, x3, x4, x5, x6, x7, x8, x9, x10, x11, x12, x13, x14], _ =>
    have hi := Tryd.underlying3
    obtain ⟨wh, e0, _⟩ := Rd.i64 (cs := [a]) (h.field hT 0 0 1 3 rfl (by kernel_rfl)) hi
    obtain ⟨sq, e1, _⟩ := Rd.i64 (cs := [b]) (h.field hT 1 1 1 3 rfl (by kernel_rfl)) hi
    obtain ⟨k, s, f, d, t, st, un, sp, h0, h1, w0, w1, d0, d1, nm, e2⟩ := rd_flow (cs := [x0, x1, x2, x3, x4, x5, x6, x7, x8, x9, x10, x11, x12, x13, x14]) (h.field hT 2 2 15 27 rfl (by kernel_rfl))
    simp only [List.cons.injEq, and_true] at e0 e1
    subst e0 e1
    rw [e2]
    exact ⟨⟨wh, sq, ⟨k, s, f, d, t, st, un, sp, h0, h1, w0, w1, d0, d1, nm⟩⟩, rfl⟩
set_option maxRecDepth 100000 in
theorem rd_notes {cs : List Value} (h : Rd enc Tryd.prog w 50 cs) : ∃ A len cap, ∃ l : List Nt, cs = [.slice A len cap] ∧ IsSl w 17 A len cap (l.flatMap Nt.row) ∧ len = l.length := by
  obtain ⟨A, len, cap, l, h1, h2, h3, _⟩ := h.slice Tryd.underlying50 (f := Nt.row) (ok := fun _ => True) (sz := 17) (by kernel_rfl) (by decide) (fun _ => rfl) (fun cs hc => by
    obtain ⟨x, rfl⟩ := rd_note hc
    exact ⟨x, rfl, trivial⟩)
  exact ⟨A, len, cap, l, h1, h2, h3⟩
end
end Go.Proofs.YtmocpeekdfkegaaDoor
