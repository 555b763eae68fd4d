/- Texts in walks: two texts are compared. No program here. -/
import Derived.Test.YtoelbnhjamddgaaGreatDoorEngA
import Derived.Test.YtoelbnhjamddgaaGreatDoorEngB
import Derived.Laws.Strings
import Derived.Laws.Entries
set_option linter.unusedSimpArgs false
set_option linter.unusedVariables false
namespace Go.Port
open Go.RowKit
/-- A text as a value. -/
def tx (l : List UInt8) : Value := .string ⟨l.toArray⟩
theorem tx_one (l : List (List UInt8)) : ∀ u ∈ l.map tx, u.oneCell' = true := fun u hu => by
  obtain ⟨x, _, rfl⟩ := List.mem_map.1 hu
  rfl
theorem mk_list (l : List UInt8) : (⟨l.toArray⟩ : ByteArray).data.toList = l := by simp
theorem tx_data (b : ByteArray) : Value.string b = tx b.data.toList := by
  unfold tx
  rw [show b.data.toList.toArray = b.data by simp]
section
variable {P : Program} {w0 : World} {D : List Nat} {n q : Nat} {ops : Array Oper} {Q : Exit → Act → World → Prop} {g : Nat → Value} {F : List (Nat × Value)} {L : List Ch}
variable {rest : List Oper} {ty : TypeId} {pos : String} {af : Array Edge} {d : Nat}
theorem sx_txt {op : BinOp} {x y : Operand} {s t : ByteArray} {r : Bool} {t1 t2 : TypeId} (hx : evn n (get g F) x = .string s) (hy : evn n (get g F) y = .string t)
    (hr : (op = .eql ∧ r = decide (s.data.toList = t.data.toList)) ∨ (op = .neq ∧ r = decide (¬ s.data.toList = t.data.toList)))
    (h : SX P w0 D n q ops Q rest g ((d, .bool r) :: F) L) :
    SX P w0 D n q ops Q ({ dst := some d, op := .binOp op t1 x y t2, type := ty, pos := pos, after := af, guard := none } :: rest) g F L :=
  sx_run (.bool r) rfl rfl (fun w _ => by
    have he : (s.toList == t.toList) = decide (s.data.toList = t.data.toList) := by
      rw [ByteArray.toList_eq, ByteArray.toList_eq]
      by_cases e : s.data.toList = t.data.toList
      · rw [decide_eq_true e, e]; exact beq_self_eq_true _
      · rw [decide_eq_false e]; exact beq_eq_false_iff_ne.2 e
    rcases hr with ⟨rfl, rfl⟩ | ⟨rfl, rfl⟩ <;> simp only [execOp, hx, hy, eqGuard_at_string, binOp, Op.stringOp, he] <;> simp [go_sem]) h
theorem sx_eqlT {x y : Operand} {s t : ByteArray} {t1 t2 : TypeId} (hx : evn n (get g F) x = .string s) (hy : evn n (get g F) y = .string t) (h : SX P w0 D n q ops Q rest g ((d, .bool (decide (s.data.toList = t.data.toList))) :: F) L) :
    SX P w0 D n q ops Q ({ dst := some d, op := .binOp .eql t1 x y t2, type := ty, pos := pos, after := af, guard := none } :: rest) g F L := sx_txt hx hy (.inl ⟨rfl, rfl⟩) h
theorem sx_neqT {x y : Operand} {s t : ByteArray} {t1 t2 : TypeId} (hx : evn n (get g F) x = .string s) (hy : evn n (get g F) y = .string t) (h : SX P w0 D n q ops Q rest g ((d, .bool (decide (¬ s.data.toList = t.data.toList))) :: F) L) :
    SX P w0 D n q ops Q ({ dst := some d, op := .binOp .neq t1 x y t2, type := ty, pos := pos, after := af, guard := none } :: rest) g F L := sx_txt hx hy (.inr ⟨rfl, rfl⟩) h
theorem sx_eqlTN {x y : Operand} {s t : List UInt8} {t1 t2 : TypeId} (hx : evn n (get g F) x = tx s) (hy : evn n (get g F) y = tx t) (hn : ¬ s = t) (h : SX P w0 D n q ops Q rest g ((d, .bool false) :: F) L) :
    SX P w0 D n q ops Q ({ dst := some d, op := .binOp .eql t1 x y t2, type := ty, pos := pos, after := af, guard := none } :: rest) g F L :=
  sx_eqlT hx hy (by rw [mk_list, mk_list, decide_eq_false hn]; exact h)
theorem sx_neqTE {x y : Operand} {s : List UInt8} {t1 t2 : TypeId} (hx : evn n (get g F) x = tx s) (hy : evn n (get g F) y = tx s) (h : SX P w0 D n q ops Q rest g ((d, .bool false) :: F) L) :
    SX P w0 D n q ops Q ({ dst := some d, op := .binOp .neq t1 x y t2, type := ty, pos := pos, after := af, guard := none } :: rest) g F L :=
  sx_neqT hx hy (by rw [mk_list, decide_eq_false (fun h => h rfl)]; exact h)
/-- The last eight bits. -/
theorem andI_255 {a : Int} (h : 0 ≤ a) : andI a 255 = a % 256 := by
  obtain ⟨k, rfl⟩ : ∃ k : Nat, a = k := ⟨a.toNat, by omega⟩
  show ((k &&& 255 : Nat) : Int) = _
  rw [show k &&& 255 = k % 256 from Nat.and_two_pow_sub_one_eq_mod k 8]
  omega
theorem sx_and255 {x y : Operand} {a : Int} {t1 t2 : TypeId} (hx : evn n (get g F) x = .int .i64 a) (hy : evn n (get g F) y = .int .i64 255) (hb : 0 ≤ a ∧ a ≤ 9223372036854775807) (h : SX P w0 D n q ops Q rest g ((d, .int .i64 (a % 256)) :: F) L) :
    SX P w0 D n q ops Q ({ dst := some d, op := .binOp .and t1 x y t2, type := ty, pos := pos, after := af, guard := none } :: rest) g F L :=
  sx_andI hx hy ⟨hb, by decide⟩ (by rw [andI_255 hb.1]; exact h)
end
end Go.Port
