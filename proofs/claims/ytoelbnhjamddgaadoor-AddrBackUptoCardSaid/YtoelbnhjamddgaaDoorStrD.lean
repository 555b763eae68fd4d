/- strconv.Atoi at any text, as a call answers it. -/
import Derived.Test.YtoelbnhjamddgaaDoorLayS
import Derived.Test.YtoelbnhjamddgaaDoorStrC
import Derived.Test.YtoelbnhjamddgaaDoorTextL
import Derived.Lib.AtoiAll
import Derived.Lib.AtoiErrMem
set_option linter.unusedSimpArgs false
set_option linter.unusedVariables false
namespace Go.Port
open Go.Lib
theorem mag_all {l : List UInt8} {v : Int} (h : atoiAll l = .ok v) : -9223372036854775808 ≤ v ∧ v ≤ 9223372036854775807 := by
  unfold atoiAll at h
  split at h
  · cases h
  · dsimp only at h
    split at h
    · cases h
    · cases h
    · split at h
      · cases h
      · split at h
        · cases h
        · simp only [NumEnd.ok.injEq] at h
          subst h
          split <;> omega
section
open Go.RowKit
variable {P : Program} {w0 : World} {D : List Nat} {n q : Nat} {ops : Array Oper} {Q : Exit → Act → World → Prop} {g : Nat → Value} {F : List (Nat × Value)} {L : List Ch}
variable {rest : List Oper} {ty : TypeId} {pos : String} {af : Array Edge} {d : Nat}
theorem sx_iface_ne {t1 t2 T : Nat} [hif : IfT P t1] {x : Operand} {v : Value} (hx : evn n (get g F) x = .iface T v) (h : SX P w0 D n q ops Q rest g ((d, .bool true) :: F) L) :
    SX P w0 D n q ops Q ({ dst := some d, op := .binOp .neq t1 x (.const .nilIface) t2, type := ty, pos := pos, after := af, guard := none } :: rest) g F L :=
  sx_run _ rfl rfl (fun w _ => by
    obtain ⟨ms, hi⟩ := hif.und
    have h2 := equal_iface_nil (T := T) (v := v) hi w
    show ((do pure (Next.value (← (do eqGuard .neq t1 x (.const .nilIface) (evn n (get g F) x) .nilIface; binOp .neq t1 (evn n (get g F) x) .nilIface)))) : Sem Next).run P w = _
    rw [hx]
    refine run_v ?_
    have hg : (eqGuard .neq t1 x (.const .nilIface) (.iface T v) .nilIface).run P w = .ok () w := by
      first
        | rfl
        | (cases x <;> rfl)
    rw [Sem.run_bind, hg]
    show (Op.equal t1 (.iface T v) .nilIface >>= fun b => (pure (.bool (!b)) : Sem Value)).run P w = _
    rw [Sem.run_bind, h2]
    rfl) h
end
end Go.Port
namespace Go.Proofs.YtoelbnhjamddgaaDoor
open Go.RowKit Go.Port
/-- What the library's functions on texts ask of the world, where they may fail. -/
structure Txe (w : World) : Prop where
  txt : Txt w
  syn : ∃ t p, w.cell? ⟨2, 0, none⟩ = some (.iface t p)
  rng : ∃ t p, w.cell? ⟨3, 0, none⟩ = some (.iface t p)
theorem Txe.mem {w0 w : World} {L : List Ch} (h : Txe w0) (hm : Mem w0 w [] L) : Txe w := by
  obtain ⟨t, p, h1⟩ := h.syn
  obtain ⟨t2, p2, h2⟩ := h.rng
  exact ⟨h.txt.mem hm, ⟨t, p, by rw [hm.cell (Lib.lt_of_cell h1) (by simp)]; exact h1⟩, ⟨t2, p2, by rw [hm.cell (Lib.lt_of_cell h2) (by simp)]; exact h2⟩⟩
attribute [local irreducible] Calls
theorem tx_len (s : List UInt8) : (⟨s.toArray⟩ : ByteArray).size = s.length := by show s.toArray.size = _; rw [List.size_toArray]
theorem str_AtoiOk {w : World} {s : List UInt8} {v : Int} (hA : Lib.atoiAll s = .ok v) (hs : s.length ≤ 281474976710656) : Calls Tryd.prog 30 #[tx s] w (Ret w [] (isV (.tuple #[.int .i64 v, er 0]))) :=
  (Go.Proofs.Tryd.strconv_Atoi_ok ⟨s.toArray⟩ (by rw [tx_len]; omega) v (by rw [mk_list]; exact hA) w).mono fun e w' ⟨he, hw⟩ =>
    ⟨_, [], he, Mem.of_below (by
      rcases hw with rfl | ⟨x, rfl⟩
      · exact Below.refl _ _
      · exact Lib.bytesWorld_below _ _ _), by rw [er, errV_zero], rfl⟩
theorem str_ItoaAny {w : World} (h : Txt w) {v : Int} (hb : -9223372036854775808 ≤ v ∧ v ≤ 9223372036854775807) : Calls Tryd.prog 31 #[.int .i64 v] w (Ret w [] (isV (tx (Lib.itoa v)))) :=
  (Go.Proofs.Tryd.strconv_Itoa v hb.1 hb.2 w h.pow).mono fun e w' ⟨he, k, os, hw⟩ => ⟨_, [], he, Mem.of_below (by rw [hw]; exact Lib.below_grow _ _ (Nat.le_refl _) _ _), rfl, rfl⟩
/-- Atoi fails: an error beside a number. -/
def AtoiN (v : Value) (L : List Ch) : Prop := L = [] ∧ ∃ (n : Int) (t : Nat) (p : Addr), v = .tuple #[.int .i64 n, .iface t (.pointer (some p))]
theorem str_AtoiNo {w : World} (h : Txe w) {s : List UInt8} (hA : ∀ v, Lib.atoiAll s ≠ .ok v) (hs : s.length ≤ 281474976710656) : Calls Tryd.prog 30 #[tx s] w (Ret w [] AtoiN) := by
  obtain ⟨t, p, h1⟩ := h.syn
  obtain ⟨t2, p2, h2⟩ := h.rng
  cases hB : Lib.atoiAll s
  · exact absurd hB (hA _)
  · exact (Go.Proofs.Tryd.strconv_Atoi_syntax ⟨s.toArray⟩ (by rw [tx_len]; exact hs) (by rw [mk_list]; exact hB) _ w h1 (.inr ⟨_, _, rfl⟩)).mono fun e w' ⟨N, he, _, _, hw⟩ =>
      ⟨_, [], he, Mem.of_below hw, rfl, _, _, _, rfl⟩
  · exact (Go.Proofs.Tryd.strconv_Atoi_range ⟨s.toArray⟩ (by rw [tx_len]; exact hs) (by rw [mk_list]; exact hB) _ w h2 (.inr ⟨_, _, rfl⟩)).mono fun e w' ⟨N, he, _, _, hw⟩ =>
      ⟨_, [], he, Mem.of_below hw, rfl, _, _, _, rfl⟩
end Go.Proofs.YtoelbnhjamddgaaDoor
