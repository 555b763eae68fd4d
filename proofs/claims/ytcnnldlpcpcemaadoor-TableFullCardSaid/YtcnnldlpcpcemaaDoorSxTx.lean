/- Several texts in one: StrS StrW StrY RetC AppZ. -/
import Derived.Test.YtcnnldlpcpcemaaDoorEngA
import Derived.Test.YtcnnldlpcpcemaaDoorEngB
import Derived.Laws.Strings
import Derived.Laws.Entries
import Derived.Laws.Strings2
import Derived.Lib.AppendZeros
/- Texts in walks: two texts are compared. No program here. -/
set_option linter.unusedSimpArgs false
set_option linter.unusedVariables false
namespace Go.Port
open Go.RowKit
/-- A text as a value. -/
def tx (l : List UInt8) : Value := .string ⟨l.toArray⟩
theorem tx_one (l : List (List UInt8)) : ∀ u ∈ l.map tx, u.oneCell' = true := fun u hu => by
  obtain ⟨x, _, rfl⟩ := List.mem_map.1 hu
  rfl
theorem mk_list (l : List UInt8) : (⟨l.toArray⟩ : ByteArray).data.toList = l := by simp
theorem tx_data (b : ByteArray) : Value.string b = tx b.data.toList := by
  unfold tx
  rw [show b.data.toList.toArray = b.data by simp]
section
variable {P : Program} {w0 : World} {D : List Nat} {n q : Nat} {ops : Array Oper} {Q : Exit → Act → World → Prop} {g : Nat → Value} {F : List (Nat × Value)} {L : List Ch}
variable {rest : List Oper} {ty : TypeId} {pos : String} {af : Array Edge} {d : Nat}
theorem sx_txt {op : BinOp} {x y : Operand} {s t : ByteArray} {r : Bool} {t1 t2 : TypeId} (hx : evn n (get g F) x = .string s) (hy : evn n (get g F) y = .string t)
    (hr : (op = .eql ∧ r = decide (s.data.toList = t.data.toList)) ∨ (op = .neq ∧ r = decide (¬ s.data.toList = t.data.toList)))
    (h : SX P w0 D n q ops Q rest g ((d, .bool r) :: F) L) :
    SX P w0 D n q ops Q ({ dst := some d, op := .binOp op t1 x y t2, type := ty, pos := pos, after := af, guard := none } :: rest) g F L :=
  sx_run (.bool r) rfl rfl (fun w _ => by
    have he : (s.toList == t.toList) = decide (s.data.toList = t.data.toList) := by
      rw [ByteArray.toList_eq, ByteArray.toList_eq]
      by_cases e : s.data.toList = t.data.toList
      · rw [decide_eq_true e, e]; exact beq_self_eq_true _
      · rw [decide_eq_false e]; exact beq_eq_false_iff_ne.2 e
    rcases hr with ⟨rfl, rfl⟩ | ⟨rfl, rfl⟩ <;> simp only [execOp, hx, hy, eqGuard_at_string, binOp, Op.stringOp, he] <;> simp [go_sem]) h
theorem sx_eqlT {x y : Operand} {s t : ByteArray} {t1 t2 : TypeId} (hx : evn n (get g F) x = .string s) (hy : evn n (get g F) y = .string t) (h : SX P w0 D n q ops Q rest g ((d, .bool (decide (s.data.toList = t.data.toList))) :: F) L) :
    SX P w0 D n q ops Q ({ dst := some d, op := .binOp .eql t1 x y t2, type := ty, pos := pos, after := af, guard := none } :: rest) g F L := sx_txt hx hy (.inl ⟨rfl, rfl⟩) h
theorem sx_neqT {x y : Operand} {s t : ByteArray} {t1 t2 : TypeId} (hx : evn n (get g F) x = .string s) (hy : evn n (get g F) y = .string t) (h : SX P w0 D n q ops Q rest g ((d, .bool (decide (¬ s.data.toList = t.data.toList))) :: F) L) :
    SX P w0 D n q ops Q ({ dst := some d, op := .binOp .neq t1 x y t2, type := ty, pos := pos, after := af, guard := none } :: rest) g F L := sx_txt hx hy (.inr ⟨rfl, rfl⟩) h
theorem sx_eqlTN {x y : Operand} {s t : List UInt8} {t1 t2 : TypeId} (hx : evn n (get g F) x = tx s) (hy : evn n (get g F) y = tx t) (hn : ¬ s = t) (h : SX P w0 D n q ops Q rest g ((d, .bool false) :: F) L) :
    SX P w0 D n q ops Q ({ dst := some d, op := .binOp .eql t1 x y t2, type := ty, pos := pos, after := af, guard := none } :: rest) g F L :=
  sx_eqlT hx hy (by rw [mk_list, mk_list, decide_eq_false hn]; exact h)
theorem sx_neqTE {x y : Operand} {s : List UInt8} {t1 t2 : TypeId} (hx : evn n (get g F) x = tx s) (hy : evn n (get g F) y = tx s) (h : SX P w0 D n q ops Q rest g ((d, .bool false) :: F) L) :
    SX P w0 D n q ops Q ({ dst := some d, op := .binOp .neq t1 x y t2, type := ty, pos := pos, after := af, guard := none } :: rest) g F L :=
  sx_neqT hx hy (by rw [mk_list, decide_eq_false (fun h => h rfl)]; exact h)
/-- The last eight bits. -/
theorem andI_255 {a : Int} (h : 0 ≤ a) : andI a 255 = a % 256 := by
  obtain ⟨k, rfl⟩ : ∃ k : Nat, a = k := ⟨a.toNat, by omega⟩
  show ((k &&& 255 : Nat) : Int) = _
  rw [show k &&& 255 = k % 256 from Nat.and_two_pow_sub_one_eq_mod k 8]
  omega
theorem sx_and255 {x y : Operand} {a : Int} {t1 t2 : TypeId} (hx : evn n (get g F) x = .int .i64 a) (hy : evn n (get g F) y = .int .i64 255) (hb : 0 ≤ a ∧ a ≤ 9223372036854775807) (h : SX P w0 D n q ops Q rest g ((d, .int .i64 (a % 256)) :: F) L) :
    SX P w0 D n q ops Q ({ dst := some d, op := .binOp .and t1 x y t2, type := ty, pos := pos, after := af, guard := none } :: rest) g F L :=
  sx_andI hx hy ⟨hb, by decide⟩ (by rw [andI_255 hb.1]; exact h)
end
end Go.Port
/- Texts in walks: one behind the other, their length, their bytes, their parts. No program here. -/
set_option linter.unusedSimpArgs false
set_option linter.unusedVariables false
namespace Go.Port
open Go.RowKit
theorem tx_app (l m : List UInt8) : Value.string ((⟨l.toArray⟩ : ByteArray) ++ ⟨m.toArray⟩) = tx (l ++ m) := by
  rw [tx_data, ByteArray.data_append, Array.toList_append, mk_list, mk_list]
theorem tx_cut (l : List UInt8) (i j : Nat) : Value.string ((⟨l.toArray⟩ : ByteArray).extract i j) = tx ((l.drop i).take (j - i)) := by
  rw [tx_data, ByteArray.data_extract, Array.toList_extract]
theorem tx_size (l : List UInt8) : (⟨l.toArray⟩ : ByteArray).size = l.length := by
  show l.toArray.size = _
  rw [List.size_toArray]
section
variable {P : Program} {w0 : World} {D : List Nat} {n q : Nat} {ops : Array Oper} {Q : Exit → Act → World → Prop} {g : Nat → Value} {F : List (Nat × Value)} {L : List Ch}
variable {rest : List Oper} {ty : TypeId} {pos : String} {af : Array Edge} {d : Nat}
theorem sx_addT {x y : Operand} {l m : List UInt8} {t1 t2 : TypeId} (hx : evn n (get g F) x = tx l) (hy : evn n (get g F) y = tx m) (hb : l.length + m.length ≤ 9223372036854775807) (h : SX P w0 D n q ops Q rest g ((d, tx (l ++ m)) :: F) L) :
    SX P w0 D n q ops Q ({ dst := some d, op := .binOp .add t1 x y t2, type := ty, pos := pos, after := af, guard := none } :: rest) g F L :=
  sx_run (tx (l ++ m)) rfl rfl (fun w _ => by
    have h1 : ¬ ((((⟨l.toArray⟩ : ByteArray).size + (⟨m.toArray⟩ : ByteArray).size : Nat) : Int) > IntKind.i64.max) := by
      rw [tx_size, tx_size, show IntKind.i64.max = 9223372036854775807 from rfl]; omega
    unfold tx at hx hy
    rw [← tx_app]
    simp only [execOp, hx, hy, eqGuard_at_string, binOp, Op.stringOp, if_neg h1]
    simp [go_sem]) h
theorem sx_lenT {T : Nat} [StrT P T] {x : Operand} {l : List UInt8} (hx : evn n (get g F) x = tx l) (h : SX P w0 D n q ops Q rest g ((d, .int .i64 l.length) :: F) L) :
    SX P w0 D n q ops Q ({ dst := some d, op := .call { callee := .builtin .len, args := #[x], argTypes := #[T] }, type := ty, pos := pos, after := af, guard := none } :: rest) g F L :=
  sx_run _ rfl rfl (fun w _ => by
    have h1 := StrT.und (P := P) (T := T)
    unfold tx at hx
    rw [← tx_size]
    simp only [execOp, resolve]
    simp [hx, invoke, builtin, Builtin.len_, run_underlying h1, goInt, go_sem]) h
theorem sx_idxT {T : Nat} [StrT P T] {x y : Operand} {l : List UInt8} {i : Int} {b : UInt8} (hx : evn n (get g F) x = tx l) (hy : evn n (get g F) y = .int .i64 i) (hi : 0 ≤ i) (hb : l[i.toNat]? = some b) (h : SX P w0 D n q ops Q rest g ((d, .int .u8 b.toNat) :: F) L) :
    SX P w0 D n q ops Q ({ dst := some d, op := .index T x y, type := ty, pos := pos, after := af, guard := none } :: rest) g F L :=
  sx_run _ rfl rfl (fun w _ => by
    have h1 := StrT.und (P := P) (T := T)
    obtain ⟨hlt, hbe⟩ := List.getElem?_eq_some_iff.1 hb
    have hsz := tx_size l
    have hc : 0 ≤ i ∧ i < ((⟨l.toArray⟩ : ByteArray).size : Int) := by omega
    have h2 := run_index_string w T ⟨l.toArray⟩ .i64 i h1
    rw [dif_pos hc] at h2
    have h3 : (⟨l.toArray⟩ : ByteArray)[i.toNat]'(by omega) = b := by rw [← hbe]; rfl
    rw [h3] at h2
    unfold tx at hx
    simp only [execOp, hx, hy, Sem.run_bind, h2, Result.andThen_ok]
    rfl) h
theorem sx_subT {T : Nat} [StrT P T] {x y z : Operand} {l : List UInt8} {i j : Int} (hx : evn n (get g F) x = tx l) (hy : evn n (get g F) y = .int .i64 i) (hz : evn n (get g F) z = .int .i64 j) (hb : 0 ≤ i ∧ i ≤ j ∧ j ≤ l.length) (h : SX P w0 D n q ops Q rest g ((d, tx ((l.drop i.toNat).take (j.toNat - i.toNat))) :: F) L) :
    SX P w0 D n q ops Q ({ dst := some d, op := .slice T x (some y) (some z) none, type := ty, pos := pos, after := af, guard := none } :: rest) g F L :=
  sx_run _ rfl rfl (fun w _ => by
    have h1 := StrT.und (P := P) (T := T)
    have h2 := run_slice_string w T ⟨l.toArray⟩ .i64 .i64 i j h1 hb.1 hb.2.1 (by rw [tx_size]; exact hb.2.2)
    show ((do pure (Next.value (← Instr.sliceAt T (evn n (get g F) x) (some (evn n (get g F) y)) (some (evn n (get g F) z)) none))) : Sem Next).run P w = _
    unfold tx at hx
    rw [hx, hy, hz, Sem.run_bind, run_sliceAt_string w T _ _ _ _ h1, h2, tx_cut]
    rfl) h
theorem sx_fromT {T : Nat} [StrT P T] {x y : Operand} {l : List UInt8} {i : Int} (hx : evn n (get g F) x = tx l) (hy : evn n (get g F) y = .int .i64 i) (hb : 0 ≤ i ∧ i ≤ l.length) (h : SX P w0 D n q ops Q rest g ((d, tx (l.drop i.toNat)) :: F) L) :
    SX P w0 D n q ops Q ({ dst := some d, op := .slice T x (some y) none none, type := ty, pos := pos, after := af, guard := none } :: rest) g F L :=
  sx_run _ rfl rfl (fun w _ => by
    have h1 := StrT.und (P := P) (T := T)
    have h2 := run_slice_string_l w T ⟨l.toArray⟩ h1 .i64 i hb.1 (by rw [tx_size]; exact hb.2)
    show ((do pure (Next.value (← Instr.sliceAt T (evn n (get g F) x) (some (evn n (get g F) y)) none none))) : Sem Next).run P w = _
    unfold tx at hx
    rw [hx, hy, Sem.run_bind, run_sliceAt_string w T _ _ _ _ h1, h2, tx_cut, tx_size, List.take_of_length_le (by rw [List.length_drop]; omega)]
    rfl) h
end
end Go.Port
/- Texts in walks: two that are the same, or not. No program here. -/
set_option linter.unusedSimpArgs false
set_option linter.unusedVariables false
namespace Go.Port
open Go.RowKit
section
variable {P : Program} {w0 : World} {D : List Nat} {n q : Nat} {ops : Array Oper} {Q : Exit → Act → World → Prop} {g : Nat → Value} {F : List (Nat × Value)} {L : List Ch}
variable {rest : List Oper} {ty : TypeId} {pos : String} {af : Array Edge} {d : Nat}
theorem sx_neqY {x y : Operand} {s t : List UInt8} {t1 t2 : TypeId} (hx : evn n (get g F) x = tx s) (hy : evn n (get g F) y = tx t) (hn : ¬ s = t) (h : SX P w0 D n q ops Q rest g ((d, .bool true) :: F) L) :
    SX P w0 D n q ops Q ({ dst := some d, op := .binOp .neq t1 x y t2, type := ty, pos := pos, after := af, guard := none } :: rest) g F L :=
  sx_neqT hx hy (by rw [mk_list, mk_list, decide_eq_true hn]; exact h)
theorem sx_eqlY {x y : Operand} {s t : List UInt8} {t1 t2 : TypeId} (hx : evn n (get g F) x = tx s) (hy : evn n (get g F) y = tx t) (hn : s = t) (h : SX P w0 D n q ops Q rest g ((d, .bool true) :: F) L) :
    SX P w0 D n q ops Q ({ dst := some d, op := .binOp .eql t1 x y t2, type := ty, pos := pos, after := af, guard := none } :: rest) g F L :=
  sx_eqlT hx hy (by rw [mk_list, mk_list, decide_eq_true hn]; exact h)
end
end Go.Port
/- A result that lies in a cell. No program here. -/
set_option linter.unusedSimpArgs false
set_option linter.unusedVariables false
namespace Go.Port
open Go.RowKit
theorem qx_retC1 {P : Program} {w0 : World} {D : List Nat} {n : Nat} {g : Nat → Value} {F : List (Nat × Value)} {L : List Ch} {fn : Func} {R : Value → List Ch → Prop} {t b : Nat} {T sz : Nat} [TyT P T sz true] {cs : List Value} {T' : TypeId} {fr : Nat × Nat} (i : Nat) (L' : List Ch) (h : fn.results = #[.cell t T])
    (ht : evn n (get g F) (.tmp t) = .pointer (some ⟨b, 0, none⟩)) (hL : L[i]? = some [(b, .cells cs.toArray T' fr)]) (hl : cs.length = sz) (hR : R (.agg cs.toArray) L') (hM : ∀ w, Mem w0 w D L → Mem w0 w D L') :
    QX w0 D n (bodyPost P fn (Ret w0 D R)) .ret g F L :=
  .mk fun w hm => by
    have h1 : (Fr n (get g F)).tmps.getD t undef = .pointer (some ⟨b, 0, none⟩) := by rw [← ht, ← Fr.evn]; rfl
    have h4 := loadVar_agg (P := P) (T := T) (w := w) (b := b) (off := 0) hl (fun j v hj => cell_of_cells (hm.at i hL (b, .cells cs.toArray T' fr) (by simp)) (by rw [Nat.zero_add]; exact hj))
    refine bodyPost_ret (v := .agg cs.toArray) ?_ Fr.defers ⟨_, L', rfl, hM w hm, hR⟩
    generalize (Fr n (get g F)).tmps = tm at h1
    simp [results, h, h1, h4, asAddr, -Array.getD_eq_getD_getElem?]
theorem qx_retC2 {P : Program} {w0 : World} {D : List Nat} {n : Nat} {g : Nat → Value} {F : List (Nat × Value)} {L : List Ch} {fn : Func} {R : Value → List Ch → Prop} {t u b : Nat} {T sz : Nat} [TyT P T sz true] {x : Value} {cs : List Value} {T' : TypeId} {fr : Nat × Nat} (i : Nat) (L' : List Ch) (h : fn.results = #[.cell t T, .tmp u])
    (ht : evn n (get g F) (.tmp t) = .pointer (some ⟨b, 0, none⟩)) (hL : L[i]? = some [(b, .cells cs.toArray T' fr)]) (hl : cs.length = sz) (hx : evn n (get g F) (.tmp u) = x) (hR : R (.tuple #[.agg cs.toArray, x]) L') (hM : ∀ w, Mem w0 w D L → Mem w0 w D L') :
    QX w0 D n (bodyPost P fn (Ret w0 D R)) .ret g F L :=
  .mk fun w hm => by
    have h1 : (Fr n (get g F)).tmps.getD t undef = .pointer (some ⟨b, 0, none⟩) := by rw [← ht, ← Fr.evn]; rfl
    have h2 : (Fr n (get g F)).tmps.getD u undef = x := by rw [← hx, ← Fr.evn]; rfl
    have h4 := loadVar_agg (P := P) (T := T) (w := w) (b := b) (off := 0) hl (fun j v hj => cell_of_cells (hm.at i hL (b, .cells cs.toArray T' fr) (by simp)) (by rw [Nat.zero_add]; exact hj))
    refine bodyPost_ret (v := .tuple #[.agg cs.toArray, x]) ?_ Fr.defers ⟨_, L', rfl, hM w hm, hR⟩
    generalize (Fr n (get g F)).tmps = tm at h1 h2
    simp [results, h, h1, h2, h4, asAddr, -Array.getD_eq_getD_getElem?]
end Go.Port
/- Steps of a call: append of a make onto nil. No program here. -/
set_option linter.unusedSimpArgs false
set_option linter.unusedVariables false
namespace Go.Port
open Go.RowKit Go.Lib
section
variable {P : Program} {w0 : World} {D : List Nat} {n q : Nat} {ops : Array Oper} {Q : Exit → Act → World → Prop} {g : Nat → Value} {F : List (Nat × Value)} {L : List Ch}
variable {rest : List Oper} {ty : TypeId} {pos : String} {af : Array Edge} {d : Nat}
theorem sx_cap {x : Operand} {T E sz bytes : Nat} {z : Value} [SlT P T E sz bytes z] {a : Option Addr} {len cap : Nat} (hx : evn n (get g F) x = .slice a len cap) (h : SX P w0 D n q ops Q rest g ((d, .int .i64 cap) :: F) L) :
    SX P w0 D n q ops Q ({ dst := some d, op := .call { callee := .builtin .cap, args := #[x], argTypes := #[T] }, type := ty, pos := pos, after := af, guard := none } :: rest) g F L :=
  sx_run _ rfl rfl (fun w _ => by
    have h1 := SlT.und (P := P) (T := T) (E := E) (sz := sz) (bytes := bytes) (z := z)
    simp only [execOp, resolve]
    simp [hx, invoke, builtin, Builtin.cap_, run_underlying h1, goInt, go_sem]) h
/-- append(nil, make([]T, k)...): a new row of k zeros. -/
theorem sx_appendZ {T Tn E sz bytes : Nat} {z : Value} [SlT P T E sz bytes z] {s x : Operand} {k : Nat} {a : Int} {kn : IntKind} (htn : P.underlying Tn = some (.int kn)) (hs : evn n (get g F) s = .slice none 0 0) (hx : evn n (get g F) x = .int .i64 a) (ha : a = k) (h0 : 0 < k) (hsz : 0 < sz) (hk : k ≤ 1000000) (hb : k * bytes ≤ 281474976710656)
    (h : ∀ b cap (zs : List Value), k ≤ cap → cap ≤ maxLen → zs.length = cap * sz → SX P w0 D n 0 ops Q rest g ((d, .slice (some ⟨b, 0, none⟩) k cap) :: F) ([(b, .cells zs.toArray E (0, 0))] :: L)) :
    SX P w0 D n 0 ops Q ({ dst := some d, op := .call { callee := .builtin .append, args := #[s, x], argTypes := #[T, Tn] }, type := ty, pos := pos, after := af, guard := none } :: rest) g F L :=
  .mk fun w hm => wpList_plain rfl fun K hK => by
    subst ha
    have ht := SlT.und (P := P) (T := T) (E := E) (sz := sz) (bytes := bytes) (z := z)
    obtain ⟨i, hi, hz, hsize, hbytes⟩ := info_parts (SlT.info (P := P) (T := T) (E := E) (sz := sz) (bytes := bytes) (z := z))
    have hzs : z.cells.size = sz := SlT.zs (P := P) (T := T) (E := E) (bytes := bytes)
    subst hsize hbytes
    have hr := run_append_nil_zeros (P := P) w T Tn ty E i z .i64 kn ht htn hi hz k h0 hsz (by omega) hb
    have ge := grownCap_ge w k 0 E
    have gl := grownCap_le_maxLen w k 0 E (by unfold maxLen; omega)
    unfold Oper.wp
    rw [Fr.evn]
    have he : (execOp (evn n (get g F)) { dst := some d, op := .call { callee := .builtin .append, args := #[s, x], argTypes := #[T, Tn] }, type := ty, pos := pos, after := af, guard := none }).run P w = ((Builtin.append_ #[T, Tn] ty #[evn n (get g F) s, evn n (get g F) x]).run P w).andThen fun v w => .ok (.value v) w := by
      simp only [execOp, resolve, invoke, builtin, Sem.run_bind, Sem.run_pure, Result.andThen_ok, List.map_toArray, List.map_cons, List.map_nil]
    rw [he, hs, hx, hr]
    show K ((Fr n (get g F)).put (some d) _) _
    rw [Fr.put, get_put]
    have hl : ((Builtin.zeroCells z.cells k ++ Builtin.zeroCells z.cells (grownCap w k 0 E - k)) : Array Value).toList.length = grownCap w k 0 E * i.size := by
      rw [Array.length_toList, Array.size_append, size_zeroCells, size_zeroCells, hzs, ← Nat.add_mul]
      congr 1
      omega
    have := h w.heap.size (grownCap w k 0 E) (Builtin.zeroCells z.cells k ++ Builtin.zeroCells z.cells (grownCap w k 0 E - k)).toList ge gl hl
    rw [Array.toArray_toList] at this
    exact hK _ _ (this.out _ (hm.drew.new _))
end
end Go.Port
