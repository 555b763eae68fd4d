/- Lists of packets, opened. -/
import Derived.Test.YtlpdapfihgpheaaDoorOpen
set_option linter.unusedSimpArgs false
set_option linter.unusedVariables false
namespace Go.Proofs.YtlpdapfihgpheaaDoor
open Go.Port Go.RowKit
/-- A packet: its numbers, and where its body lies. -/
structure Pk where
  (k t i s d a : Int)
  (m : Bool)
  (A : Option Addr)
  (n c : Nat)
  (l : List Int)
def Pk.row (p : Pk) : List Value := [.int .i64 p.k, .int .i64 p.t, .int .i64 p.i, .int .i64 p.s, .int .i64 p.d, .int .i64 p.a, .bool p.m, .slice p.A p.n p.c]
def Pk.ok (w : World) (p : Pk) : Prop := IsRow w .u8 p.A p.n p.c p.l ∧ Octets p.l ∧ p.n ≤ p.c ∧ p.c ≤ maxLen ∧ p.n ≤ 140737488351232
section
variable {H : Type} {enc : TypeId × Value → H} {w : World}
set_option maxRecDepth 100000 in
theorem rd_packets {cs : List Value} (h : Rd enc Tryd.prog w 25 cs) : ∃ A len cap, ∃ ps : List Pk, cs = [.slice A len cap] ∧ IsSl w 8 A len cap (ps.flatMap Pk.row) ∧ len = ps.length ∧ len ≤ cap ∧ cap ≤ maxLen ∧ ∀ p ∈ ps, p.ok w := by
  obtain ⟨A, len, cap, ps, h1, h2, h3, h4, h5, _, h6⟩ := h.slice Tryd.underlying25 (f := Pk.row) (ok := Pk.ok w) (sz := 8) (by kernel_rfl) (by decide) (fun _ => rfl) (fun cs hc => by
    obtain ⟨k, t, i, s, d, a, m, A, len, cap, l, rfl, h⟩ := rd_packet hc
    exact ⟨⟨k, t, i, s, d, a, m, A, len, cap, l⟩, rfl, h⟩)
  exact ⟨A, len, cap, ps, h1, h2, h3, h4, h5, h6⟩
end
end Go.Proofs.YtlpdapfihgpheaaDoor
