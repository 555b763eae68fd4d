/- Texts in walks: one behind the other, their length, their bytes, their parts. No program here. -/
import Derived.Test.YtoelbnhjamddgaaDoorStrS
import Derived.Test.YtoelbnhjamddgaaDoorEngB
import Derived.Laws.Strings2
set_option linter.unusedSimpArgs false
set_option linter.unusedVariables false
namespace Go.Port
open Go.RowKit
theorem tx_app (l m : List UInt8) : Value.string ((⟨l.toArray⟩ : ByteArray) ++ ⟨m.toArray⟩) = tx (l ++ m) := by
  rw [tx_data, ByteArray.data_append, Array.toList_append, mk_list, mk_list]
theorem tx_cut (l : List UInt8) (i j : Nat) : Value.string ((⟨l.toArray⟩ : ByteArray).extract i j) = tx ((l.drop i).take (j - i)) := by
  rw [tx_data, ByteArray.data_extract, Array.toList_extract]
theorem tx_size (l : List UInt8) : (⟨l.toArray⟩ : ByteArray).size = l.length := by
  show l.toArray.size = _
  rw [List.size_toArray]
section
variable {P : Program} {w0 : World} {D : List Nat} {n q : Nat} {ops : Array Oper} {Q : Exit → Act → World → Prop} {g : Nat → Value} {F : List (Nat × Value)} {L : List Ch}
variable {rest : List Oper} {ty : TypeId} {pos : String} {af : Array Edge} {d : Nat}
theorem sx_addT {x y : Operand} {l m : List UInt8} {t1 t2 : TypeId} (hx : evn n (get g F) x = tx l) (hy : evn n (get g F) y = tx m) (hb : l.length + m.length ≤ 9223372036854775807) (h : SX P w0 D n q ops Q rest g ((d, tx (l ++ m)) :: F) L) :
    SX P w0 D n q ops Q ({ dst := some d, op := .binOp .add t1 x y t2, type := ty, pos := pos, after := af, guard := none } :: rest) g F L :=
  sx_run (tx (l ++ m)) rfl rfl (fun w _ => by
    have h1 : ¬ ((((⟨l.toArray⟩ : ByteArray).size + (⟨m.toArray⟩ : ByteArray).size : Nat) : Int) > IntKind.i64.max) := by
      rw [tx_size, tx_size, show IntKind.i64.max = 9223372036854775807 from rfl]; omega
    unfold tx at hx hy
    rw [← tx_app]
    simp only [execOp, hx, hy, eqGuard_at_string, binOp, Op.stringOp, if_neg h1]
    simp [go_sem]) h
theorem sx_lenT {T : Nat} [StrT P T] {x : Operand} {l : List UInt8} (hx : evn n (get g F) x = tx l) (h : SX P w0 D n q ops Q rest g ((d, .int .i64 l.length) :: F) L) :
    SX P w0 D n q ops Q ({ dst := some d, op := .call { callee := .builtin .len, args := #[x], argTypes := #[T] }, type := ty, pos := pos, after := af, guard := none } :: rest) g F L :=
  sx_run _ rfl rfl (fun w _ => by
    have h1 := StrT.und (P := P) (T := T)
    unfold tx at hx
    rw [← tx_size]
    simp only [execOp, resolve]
    simp [hx, invoke, builtin, Builtin.len_, run_underlying h1, goInt, go_sem]) h
theorem sx_idxT {T : Nat} [StrT P T] {x y : Operand} {l : List UInt8} {i : Int} {b : UInt8} (hx : evn n (get g F) x = tx l) (hy : evn n (get g F) y = .int .i64 i) (hi : 0 ≤ i) (hb : l[i.toNat]? = some b) (h : SX P w0 D n q ops Q rest g ((d, .int .u8 b.toNat) :: F) L) :
    SX P w0 D n q ops Q ({ dst := some d, op := .index T x y, type := ty, pos := pos, after := af, guard := none } :: rest) g F L :=
  sx_run _ rfl rfl (fun w _ => by
    have h1 := StrT.und (P := P) (T := T)
    obtain ⟨hlt, hbe⟩ := List.getElem?_eq_some_iff.1 hb
    have hsz := tx_size l
    have hc : 0 ≤ i ∧ i < ((⟨l.toArray⟩ : ByteArray).size : Int) := by omega
    have h2 := run_index_string w T ⟨l.toArray⟩ .i64 i h1
    rw [dif_pos hc] at h2
    have h3 : (⟨l.toArray⟩ : ByteArray)[i.toNat]'(by omega) = b := by rw [← hbe]; rfl
    rw [h3] at h2
    unfold tx at hx
    simp only [execOp, hx, hy, Sem.run_bind, h2, Result.andThen_ok]
    rfl) h
theorem sx_subT {T : Nat} [StrT P T] {x y z : Operand} {l : List UInt8} {i j : Int} (hx : evn n (get g F) x = tx l) (hy : evn n (get g F) y = .int .i64 i) (hz : evn n (get g F) z = .int .i64 j) (hb : 0 ≤ i ∧ i ≤ j ∧ j ≤ l.length) (h : SX P w0 D n q ops Q rest g ((d, tx ((l.drop i.toNat).take (j.toNat - i.toNat))) :: F) L) :
    SX P w0 D n q ops Q ({ dst := some d, op := .slice T x (some y) (some z) none, type := ty, pos := pos, after := af, guard := none } :: rest) g F L :=
  sx_run _ rfl rfl (fun w _ => by
    have h1 := StrT.und (P := P) (T := T)
    have h2 := run_slice_string w T ⟨l.toArray⟩ .i64 .i64 i j h1 hb.1 hb.2.1 (by rw [tx_size]; exact hb.2.2)
    show ((do pure (Next.value (← Instr.sliceAt T (evn n (get g F) x) (some (evn n (get g F) y)) (some (evn n (get g F) z)) none))) : Sem Next).run P w = _
    unfold tx at hx
    rw [hx, hy, hz, Sem.run_bind, run_sliceAt_string w T _ _ _ _ h1, h2, tx_cut]
    rfl) h
theorem sx_fromT {T : Nat} [StrT P T] {x y : Operand} {l : List UInt8} {i : Int} (hx : evn n (get g F) x = tx l) (hy : evn n (get g F) y = .int .i64 i) (hb : 0 ≤ i ∧ i ≤ l.length) (h : SX P w0 D n q ops Q rest g ((d, tx (l.drop i.toNat)) :: F) L) :
    SX P w0 D n q ops Q ({ dst := some d, op := .slice T x (some y) none none, type := ty, pos := pos, after := af, guard := none } :: rest) g F L :=
  sx_run _ rfl rfl (fun w _ => by
    have h1 := StrT.und (P := P) (T := T)
    have h2 := run_slice_string_l w T ⟨l.toArray⟩ h1 .i64 i hb.1 (by rw [tx_size]; exact hb.2)
    show ((do pure (Next.value (← Instr.sliceAt T (evn n (get g F) x) (some (evn n (get g F) y)) none none))) : Sem Next).run P w = _
    unfold tx at hx
    rw [hx, hy, Sem.run_bind, run_sliceAt_string w T _ _ _ _ h1, h2, tx_cut, tx_size, List.take_of_length_le (by rw [List.length_drop]; omega)]
    rfl) h
end
end Go.Port
