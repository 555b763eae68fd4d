/- Steps of a call: errors, slices, rows that grow. No program here. -/
import Derived.Test.YtchkpkeljcdccaaSxOps
import Derived.Laws.BytesArg
set_option linter.unusedSimpArgs false
set_option linter.unusedVariables false
namespace Go.Port
open Go.RowKit

class IfT (P : Program) (T : Nat) : Prop where
  und : ∃ ms, P.underlying T = some (.interface ms)
class MkI (P : Program) (T : Nat) : Prop where
  run : ∀ v w, (Instr.makeInterface T v).run P w = .ok (.iface T v) w
class IntT (P : Program) (T : Nat) (k : outParam IntKind) : Prop where
  und : P.underlying T = some (.int k)
class StrT (P : Program) (T : Nat) : Prop where
  und : P.underlying T = some .string

/-- An error: none, or a number. -/
@[irreducible] def errV (T : Nat) (k : Int) : Value := if k = 0 then .nilIface else .iface T (.int .i64 k)
theorem errV_zero (T : Nat) : errV T 0 = .nilIface := by unfold errV; rfl
theorem errV_ne {T : Nat} {k : Int} (h : k ≠ 0) : errV T k = .iface T (.int .i64 k) := by unfold errV; rw [if_neg h]

/-- The rest of a slice, from a place on. -/
def shift (A : Option Addr) (cap k sz : Nat) : Option Addr := if cap = k then A else A.map fun a => a.add (k * sz)
theorem IsSl.from {w : World} {sz : Nat} {A : Option Addr} {len cap : Nat} {xs : List Value} (h : IsSl w sz A len cap xs) {k : Nat} (hk : k ≤ len) (hc : len ≤ cap) : IsSl w sz (shift A cap k sz) (len - k) (cap - k) (xs.drop (k * sz)) := by
  refine ⟨by rw [List.length_drop, h.1, Nat.sub_mul], ?_⟩
  by_cases he : len = k
  · exact .inl (by omega)
  · rcases h.2 with h2 | ⟨b, o, rfl, hb, hc, hx⟩
    · exact .inl (by omega)
    · refine .inr ⟨b, o + k * sz, ?_, hb, by omega, ?_⟩
      · unfold shift
        rw [if_neg (by omega)]
        simp [addr_add]
      · intro i u hu
        rw [List.getElem?_drop] at hu
        have := hx _ _ hu
        rwa [← Nat.add_assoc] at this
theorem IsSl.to {w : World} {sz : Nat} {A : Option Addr} {len cap : Nat} {xs : List Value} (h : IsSl w sz A len cap xs) {k c : Nat} (hk : k ≤ len) (hc : k ≤ c) : IsSl w sz A k c (xs.take (k * sz)) := by
  have hle : k * sz ≤ len * sz := Nat.mul_le_mul_right _ hk
  refine ⟨by rw [List.length_take, h.1]; omega, ?_⟩
  by_cases he : k = 0
  · exact .inl he
  · rcases h.2 with h2 | ⟨b, o, rfl, hb, _, hx⟩
    · exact .inl (by omega)
    · refine .inr ⟨b, o, rfl, hb, hc, fun i u hu => hx i u ?_⟩
      rw [List.getElem?_take] at hu
      split at hu
      · exact hu
      · cases hu
theorem IsSl.nil {w : World} {sz c : Nat} {A : Option Addr} : IsSl w sz A 0 c [] := ⟨by simp, .inl rfl⟩

theorem shift_zero (A : Option Addr) (c sz : Nat) : shift A c 0 sz = A := by
  unfold shift
  split
  · rfl
  · cases A <;> simp [Addr.add]
theorem IsRow.from {w : World} {k : IntKind} {A : Option Addr} {len cap : Nat} {l : List Int} (h : IsRow w k A len cap l) {n : Nat} (hn : n ≤ len) (hc : len ≤ cap) : IsRow w k (shift A cap n 1) (len - n) (cap - n) (l.drop n) := by
  have := IsSl.from h hn hc
  unfold IsRow
  rw [List.map_drop]
  simpa using this
theorem IsRow.to {w : World} {k : IntKind} {A : Option Addr} {len cap : Nat} {l : List Int} (h : IsRow w k A len cap l) {n c : Nat} (hn : n ≤ len) (hc : n ≤ c) : IsRow w k A n c (l.take n) := by
  have := IsSl.to h hn hc
  unfold IsRow
  rw [List.map_take]
  simpa using this
theorem FF.of {f : Nat → Value} {t : Nat} {v : Value} {l : List (Nat × Value)} (h : f t = v) (h' : FF f l) : FF f ((t, v) :: l) := ⟨h, h'⟩
theorem iv {k : IntKind} {a b : Int} (h : a = b) : Value.int k a = Value.int k b := by rw [h]
theorem sv {A : Option Addr} {n m c : Nat} (h : n = m) : Value.slice A n c = Value.slice A m c := by rw [h]
/-- A slice that the call has made, and the piece of memory where it lies. -/
def OwnS (E sz : Nat) (v : Value) (n : Nat) (xs : List Value) (c : Ch) : Prop :=
  xs.length = n * sz ∧ ((v = .slice none 0 0 ∧ n = 0 ∧ c = []) ∨ ∃ b cap ext, v = .slice (some ⟨b, 0, none⟩) n cap ∧ n ≤ cap ∧ cap ≤ maxLen ∧ (xs ++ ext).length = cap * sz ∧ c = [(b, .cells (xs ++ ext).toArray E (0, 0))])
theorem OwnS.nil (E sz : Nat) : OwnS E sz (.slice none 0 0) 0 [] [] := ⟨by simp, .inl ⟨rfl, rfl, rfl⟩⟩
theorem OwnS.lit (E sz b k : Nat) (xs : List Value) (h : xs.length = k * sz) (hk : k ≤ maxLen) : OwnS E sz (.slice (some ⟨b, 0, none⟩) k k) k xs [(b, .cells xs.toArray E (0, 0))] :=
  ⟨h, .inr ⟨b, k, [], rfl, Nat.le_refl _, hk, by simpa using h, by simp⟩⟩
/-- Rows of the call's own, as a call answers them. -/
def Made (E sz : Nat) (n : Nat) (xs : List Value) (v : Value) (L : List Ch) : Prop := ∃ A cap c, v = .slice A n cap ∧ n ≤ cap ∧ L = [c] ∧ OwnS E sz v n xs c
theorem OwnS.len {E sz : Nat} {v : Value} {n : Nat} {xs : List Value} {c : Ch} (h : OwnS E sz v n xs c) : ∃ A cap, v = .slice A n cap ∧ n ≤ cap := by
  rcases h.2 with ⟨rfl, rfl, _⟩ | ⟨b, cap, ext, rfl, h1, _⟩
  · exact ⟨_, _, rfl, Nat.le_refl _⟩
  · exact ⟨_, _, rfl, h1⟩
theorem OwnS.sees {E sz : Nat} {A : Option Addr} {m n cap : Nat} {xs : List Value} {c : Ch} {w : World} (h : OwnS E sz (.slice A m cap) n xs c) (hc : Has w c) : IsSl w sz A n cap xs ∧ m = n ∧ n ≤ cap := by
  rcases h.2 with ⟨hv, rfl, _⟩ | ⟨b, cap', ext, hv, h1, _, h2, rfl⟩
  · simp only [Value.slice.injEq] at hv
    obtain ⟨rfl, rfl, rfl⟩ := hv
    have : xs = [] := List.eq_nil_of_length_eq_zero (by simpa using h.1)
    subst this
    exact ⟨IsSl.nil, rfl, Nat.le_refl _⟩
  · simp only [Value.slice.injEq] at hv
    obtain ⟨rfl, rfl, rfl⟩ := hv
    have hb := hc (b, .cells (xs ++ ext).toArray E (0, 0)) (by simp)
    refine ⟨⟨h.1, .inr ⟨b, 0, rfl, heap_lt hb, h1, fun i u hu => ?_⟩⟩, rfl, h1⟩
    rw [Nat.zero_add]
    refine cell_of_cells hb ?_
    rw [List.getElem?_append_left (by
      rcases Nat.lt_or_ge i xs.length with h | h
      · exact h
      · rw [List.getElem?_eq_none h] at hu; cases hu)]
    exact hu

section
variable {P : Program} {w0 : World} {D : List Nat} {n q : Nat} {ops : Array Oper} {Q : Exit → Act → World → Prop} {g : Nat → Value} {F : List (Nat × Value)} {L : List Ch}
variable {rest : List Oper} {ty : TypeId} {pos : String} {af : Array Edge} {d : Nat}

/- Errors. -/
theorem equal_nil_nil {t : Nat} {ms : Array (String × TypeId)} (hi : P.underlying t = some (.interface ms)) (w : World) : (Op.equal t .nilIface .nilIface).run P w = .ok true w := by
  show (Op.equalIn (9999 + 1) t .nilIface .nilIface).run P w = _
  rw [Op.equalIn, Sem.run_bind, run_underlying hi]; rfl
theorem equal_iface_nil {t T : Nat} {v : Value} {ms : Array (String × TypeId)} (hi : P.underlying t = some (.interface ms)) (w : World) : (Op.equal t (.iface T v) .nilIface).run P w = .ok false w := by
  show (Op.equalIn (9999 + 1) t (.iface T v) .nilIface).run P w = _
  rw [Op.equalIn, Sem.run_bind, run_underlying hi]; rfl
theorem err_cmp {op : BinOp} {t1 t2 T : Nat} [hif : IfT P t1] {x : Operand} {k : Int} {r : Bool} (hx : evn n (get g F) x = errV T k) (hr : (op = .neq ∧ r = decide (¬ k = 0)) ∨ (op = .eql ∧ r = decide (k = 0))) (w : World) :
    (execOp (evn n (get g F)) { dst := some d, op := .binOp op t1 x (.const .nilIface) t2, type := ty, pos := pos, after := af, guard := none }).run P w = .ok (.value (.bool r)) w := by
  obtain ⟨ms, hi⟩ := hif.und
  have h1 := equal_nil_nil hi w
  have h2 := fun v => equal_iface_nil (T := T) (v := v) hi w
  show ((do pure (Next.value (← (do eqGuard op t1 x (.const .nilIface) (evn n (get g F) x) .nilIface; binOp op t1 (evn n (get g F) x) .nilIface)))) : Sem Next).run P w = _
  rw [hx]
  refine run_v ?_
  have hg : ∀ (v : Value), (eqGuard op t1 x (.const .nilIface) v .nilIface).run P w = .ok () w := by
    intro v
    rcases hr with ⟨rfl, _⟩ | ⟨rfl, _⟩ <;> cases v <;> first
      | rfl
      | (cases x <;> rfl)
  rw [Sem.run_bind, hg]
  show (binOp op t1 (errV T k) .nilIface).run P w = _
  by_cases hk : k = 0
  · subst hk; rw [errV_zero]
    rcases hr with ⟨rfl, rfl⟩ | ⟨rfl, rfl⟩
    · show (Op.equal t1 .nilIface .nilIface >>= fun b => (pure (.bool (!b)) : Sem Value)).run P w = _
      rw [Sem.run_bind, h1]; rfl
    · show (Op.equal t1 .nilIface .nilIface >>= fun b => (pure (.bool b) : Sem Value)).run P w = _
      rw [Sem.run_bind, h1]; rfl
  · rw [errV_ne hk]
    rcases hr with ⟨rfl, rfl⟩ | ⟨rfl, rfl⟩
    · show (Op.equal t1 (.iface T (.int .i64 k)) .nilIface >>= fun b => (pure (.bool (!b)) : Sem Value)).run P w = _
      rw [Sem.run_bind, h2]; simp [hk]
    · show (Op.equal t1 (.iface T (.int .i64 k)) .nilIface >>= fun b => (pure (.bool b) : Sem Value)).run P w = _
      rw [Sem.run_bind, h2]; simp [hk]
theorem sx_err_ne {t1 t2 T : Nat} [IfT P t1] {x : Operand} {k : Int} (hx : evn n (get g F) x = errV T k) (h : SX P w0 D n q ops Q rest g ((d, .bool (decide (¬ k = 0))) :: F) L) :
    SX P w0 D n q ops Q ({ dst := some d, op := .binOp .neq t1 x (.const .nilIface) t2, type := ty, pos := pos, after := af, guard := none } :: rest) g F L :=
  sx_run _ rfl rfl (fun w _ => err_cmp hx (.inl ⟨rfl, rfl⟩) w) h
theorem sx_err_eq {t1 t2 T : Nat} [IfT P t1] {x : Operand} {k : Int} (hx : evn n (get g F) x = errV T k) (h : SX P w0 D n q ops Q rest g ((d, .bool (decide (k = 0))) :: F) L) :
    SX P w0 D n q ops Q ({ dst := some d, op := .binOp .eql t1 x (.const .nilIface) t2, type := ty, pos := pos, after := af, guard := none } :: rest) g F L :=
  sx_run _ rfl rfl (fun w _ => err_cmp hx (.inr ⟨rfl, rfl⟩) w) h
theorem sx_errn_ne {t1 t2 : Nat} [hif : IfT P t1] {x : Operand} (hx : evn n (get g F) x = .nilIface) (h : SX P w0 D n q ops Q rest g ((d, .bool false) :: F) L) :
    SX P w0 D n q ops Q ({ dst := some d, op := .binOp .neq t1 x (.const .nilIface) t2, type := ty, pos := pos, after := af, guard := none } :: rest) g F L :=
  sx_run _ rfl rfl (fun w _ => err_cmp (T := 0) (k := 0) (by rw [hx, errV_zero]) (.inl ⟨rfl, rfl⟩) w) h
theorem sx_errn_eq {t1 t2 : Nat} [hif : IfT P t1] {x : Operand} (hx : evn n (get g F) x = .nilIface) (h : SX P w0 D n q ops Q rest g ((d, .bool true) :: F) L) :
    SX P w0 D n q ops Q ({ dst := some d, op := .binOp .eql t1 x (.const .nilIface) t2, type := ty, pos := pos, after := af, guard := none } :: rest) g F L :=
  sx_run _ rfl rfl (fun w _ => err_cmp (T := 0) (k := 0) (by rw [hx, errV_zero]) (.inr ⟨rfl, rfl⟩) w) h
theorem sx_iface {T : Nat} [MkI P T] {x : Operand} (v : Value) (hx : evn n (get g F) x = v) (h : SX P w0 D n q ops Q rest g ((d, .iface T v) :: F) L) :
    SX P w0 D n q ops Q ({ dst := some d, op := .makeInterface T x, type := ty, pos := pos, after := af, guard := none } :: rest) g F L :=
  sx_run _ rfl rfl (fun w _ => by
    show ((do pure (Next.value (← Instr.makeInterface T (evn n (get g F) x)))) : Sem Next).run P w = _
    rw [hx]; exact run_v (MkI.run v w)) h

/- Slices. -/
theorem sx_index {T E sz bytes : Nat} {z : Value} [SlT P T E sz bytes z] {x y : Operand} {b o len cap : Nat} {i : Int} (hx : evn n (get g F) x = .slice (some ⟨b, o, none⟩) len cap) (hy : evn n (get g F) y = .int .i64 i) (hi : 0 ≤ i ∧ i < len)
    (h : SX P w0 D n q ops Q rest g ((d, .pointer (some ⟨b, o + i.toNat * sz, none⟩)) :: F) L) :
    SX P w0 D n q ops Q ({ dst := some d, op := .indexAddr T x y, type := ty, pos := pos, after := af, guard := none } :: rest) g F L :=
  sx_run _ rfl rfl (fun w _ => by
    have h1 := SlT.und (P := P) (T := T) (E := E) (sz := sz) (bytes := bytes) (z := z)
    obtain ⟨inf, hinf, _, hsz, _⟩ := info_parts (SlT.info (P := P) (T := T) (E := E) (sz := sz) (bytes := bytes) (z := z))
    have h2 : (sizeOf E).run P w = .ok sz w := by simp [sizeOf, typeInfo, hinf, hsz, go_sem]
    show ((do pure (Next.value (← Instr.indexAt T (evn n (get g F) x) (evn n (get g F) y)))) : Sem Next).run P w = _
    rw [hx, hy]
    refine run_v ?_
    simp [Instr.indexAt, asIntOf, run_underlying h1, hi.1, hi.2, h2, addr_add, go_sem]) h
/-- A slice that may be none. -/
theorem sx_indexS {T E sz bytes : Nat} {z : Value} [SlT P T E sz bytes z] {x y : Operand} {A : Option Addr} {len cap sz' : Nat} {i : Int} {xs : List Value} (hx : evn n (get g F) x = .slice A len cap) (hs : IsSl w0 sz' A len cap xs) (hy : evn n (get g F) y = .int .i64 i) (hi : 0 ≤ i ∧ i < len)
    (h : ∀ b o, A = some ⟨b, o, none⟩ → b < w0.heap.size → CellsAt w0 b o xs → SX P w0 D n q ops Q rest g ((d, .pointer (some ⟨b, o + i.toNat * sz, none⟩)) :: F) L) :
    SX P w0 D n q ops Q ({ dst := some d, op := .indexAddr T x y, type := ty, pos := pos, after := af, guard := none } :: rest) g F L := by
  rcases hs.2 with h0 | ⟨b, o, rfl, hb, _, hc⟩
  · omega
  · exact sx_index hx hy hi (h b o rfl hb hc)
/-- What is there from the beginning. -/
theorem sx_loadOld {T sz : Nat} [TyT P T sz false] {x : Operand} {b o k : Nat} {xs : List Value} {v : Value} (hx : evn n (get g F) x = .pointer (some ⟨b, o + k, none⟩)) (hc : CellsAt w0 b o xs) (hb : b < w0.heap.size) (hD : b ∉ D) (hv : xs[k]? = some v) (h : SX P w0 D n q ops Q rest g ((d, v) :: F) L) :
    SX P w0 D n q ops Q ({ dst := some d, op := .load T x, type := ty, pos := pos, after := af, guard := none } :: rest) g F L :=
  sx_loadM hx (fun w hm => (hm.cell (p := ⟨b, o + k, none⟩) hb hD).trans (hc k v hv)) h
theorem sx_loadOldA {T sz : Nat} [TyT P T sz true] {x : Operand} {b o k : Nat} {xs vs : List Value} (hx : evn n (get g F) x = .pointer (some ⟨b, o + k, none⟩)) (hc : CellsAt w0 b o xs) (hb : b < w0.heap.size) (hD : b ∉ D) (hl : vs.length = sz) (hv : ∀ j v, vs[j]? = some v → xs[k + j]? = some v) (h : SX P w0 D n q ops Q rest g ((d, .agg vs.toArray) :: F) L) :
    SX P w0 D n q ops Q ({ dst := some d, op := .load T x, type := ty, pos := pos, after := af, guard := none } :: rest) g F L :=
  sx_loadMA hx hl (fun w hm j v hj => (hm.cell (p := ⟨b, o + k + j, none⟩) hb hD).trans (by rw [Nat.add_assoc]; exact hc (k + j) v (hv j v hj))) h
theorem slice_run {T E sz bytes : Nat} {z : Value} [SlT P T E sz bytes z] {A : Option Addr} {len cap : Nat} {lo hi mx : Option Value} {l h m : Nat} {w : World} (hb : (Instr.sliceBounds true len cap lo hi mx).run P w = .ok (l, h, m) w) :
    (Instr.sliceAt T (.slice A len cap) lo hi mx).run P w = .ok (.slice (shift A m l sz) (h - l) (m - l)) w := by
  have h1 := SlT.und (P := P) (T := T) (E := E) (sz := sz) (bytes := bytes) (z := z)
  obtain ⟨inf, hinf, _, hsz, _⟩ := info_parts (SlT.info (P := P) (T := T) (E := E) (sz := sz) (bytes := bytes) (z := z))
  have h2 : (sizeOf E).run P w = .ok sz w := by simp [sizeOf, typeInfo, hinf, hsz, go_sem]
  unfold Instr.sliceAt
  rw [Sem.run_bind, run_underlying h1]
  show (Instr.slice T (.slice A len cap) lo hi mx).run P w = _
  unfold Instr.slice
  rw [Sem.run_bind, run_underlying h1]
  show (Instr.sliceBounds true len cap lo hi mx >>= _).run P w = _
  rw [Sem.run_bind, hb]
  show (sizeOf E >>= _).run P w = _
  rw [Sem.run_bind, h2]
  rfl
theorem bound_run {x y : Int} {k : Nat} {c : BoundsCode} {w : World} (h : 0 ≤ x ∧ x ≤ k) : (Instr.sliceBound (.int .i64 x) k c).run P w = .ok x.toNat w := by
  unfold Instr.sliceBound
  simp [asIntOf, h.1, h.2, go_sem]
theorem sx_sliceFrom {T E sz bytes : Nat} {z : Value} [SlT P T E sz bytes z] {x y : Operand} {A : Option Addr} {len cap : Nat} {k : Int} (hx : evn n (get g F) x = .slice A len cap) (hy : evn n (get g F) y = .int .i64 k) (hk : 0 ≤ k ∧ k ≤ len)
    (h : SX P w0 D n q ops Q rest g ((d, .slice (shift A cap k.toNat sz) (len - k.toNat) (cap - k.toNat)) :: F) L) :
    SX P w0 D n q ops Q ({ dst := some d, op := .slice T x (some y) none none, type := ty, pos := pos, after := af, guard := none } :: rest) g F L :=
  sx_run _ rfl rfl (fun w _ => by
    show ((do pure (Next.value (← Instr.sliceAt T (evn n (get g F) x) (some (evn n (get g F) y)) none none))) : Sem Next).run P w = _
    rw [hx, hy]
    refine run_v (slice_run (T := T) ?_)
    unfold Instr.sliceBounds
    simp only [Sem.run_bind, Sem.run_pure, Result.andThen_ok, bound_run (y := 0) hk]) h
theorem sx_sliceTo {T E sz bytes : Nat} {z : Value} [SlT P T E sz bytes z] {x y : Operand} {A : Option Addr} {len cap : Nat} {k : Int} (hx : evn n (get g F) x = .slice A len cap) (hy : evn n (get g F) y = .int .i64 k) (hk : 0 ≤ k ∧ k ≤ cap)
    (h : SX P w0 D n q ops Q rest g ((d, .slice (shift A cap 0 sz) k.toNat cap) :: F) L) :
    SX P w0 D n q ops Q ({ dst := some d, op := .slice T x none (some y) none, type := ty, pos := pos, after := af, guard := none } :: rest) g F L :=
  sx_run _ rfl rfl (fun w _ => by
    show ((do pure (Next.value (← Instr.sliceAt T (evn n (get g F) x) none (some (evn n (get g F) y)) none))) : Sem Next).run P w = _
    rw [hx, hy]
    have := slice_run (P := P) (T := T) (E := E) (sz := sz) (bytes := bytes) (z := z) (A := A) (len := len) (cap := cap) (lo := none) (hi := some (.int .i64 k)) (mx := none) (l := 0) (h := k.toNat) (m := cap) (w := w) (by
      unfold Instr.sliceBounds
      simp only [Sem.run_bind, Sem.run_pure, Result.andThen_ok, bound_run (y := 0) hk])
    rw [Nat.sub_zero, Nat.sub_zero] at this
    exact run_v this) h
theorem sx_sliceBoth {T E sz bytes : Nat} {z : Value} [SlT P T E sz bytes z] {x y u : Operand} {A : Option Addr} {len cap : Nat} {j k : Int} (hx : evn n (get g F) x = .slice A len cap) (hy : evn n (get g F) y = .int .i64 j) (hu : evn n (get g F) u = .int .i64 k) (hk : 0 ≤ j ∧ j ≤ k ∧ k ≤ cap)
    (h : SX P w0 D n q ops Q rest g ((d, .slice (shift A cap j.toNat sz) (k.toNat - j.toNat) (cap - j.toNat)) :: F) L) :
    SX P w0 D n q ops Q ({ dst := some d, op := .slice T x (some y) (some u) none, type := ty, pos := pos, after := af, guard := none } :: rest) g F L :=
  sx_run _ rfl rfl (fun w _ => by
    show ((do pure (Next.value (← Instr.sliceAt T (evn n (get g F) x) (some (evn n (get g F) y)) (some (evn n (get g F) u)) none))) : Sem Next).run P w = _
    rw [hx, hy, hu]
    refine run_v (slice_run (T := T) ?_)
    have h1 : 0 ≤ k ∧ k ≤ (cap : Int) := ⟨by omega, hk.2.2⟩
    have h2 : 0 ≤ j ∧ j ≤ (k.toNat : Int) := ⟨hk.1, by omega⟩
    unfold Instr.sliceBounds
    simp only [Sem.run_bind, Sem.run_pure, Result.andThen_ok, bound_run (y := 0) h1, bound_run (y := 0) h2]) h
/-- s[:k:k] -/
theorem sx_sliceFull {T E sz bytes : Nat} {z : Value} [SlT P T E sz bytes z] {x y u : Operand} {A : Option Addr} {len cap : Nat} {j k : Int} (hx : evn n (get g F) x = .slice A len cap) (hy : evn n (get g F) y = .int .i64 j) (hu : evn n (get g F) u = .int .i64 k) (hk : 0 ≤ j ∧ j ≤ k ∧ k ≤ cap)
    (h : SX P w0 D n q ops Q rest g ((d, .slice (shift A k.toNat 0 sz) j.toNat k.toNat) :: F) L) :
    SX P w0 D n q ops Q ({ dst := some d, op := .slice T x none (some y) (some u), type := ty, pos := pos, after := af, guard := none } :: rest) g F L :=
  sx_run _ rfl rfl (fun w _ => by
    show ((do pure (Next.value (← Instr.sliceAt T (evn n (get g F) x) none (some (evn n (get g F) y)) (some (evn n (get g F) u))))) : Sem Next).run P w = _
    rw [hx, hy, hu]
    have h1 : 0 ≤ k ∧ k ≤ (cap : Int) := ⟨by omega, hk.2.2⟩
    have h2 : 0 ≤ j ∧ j ≤ (k.toNat : Int) := ⟨hk.1, by omega⟩
    have := slice_run (P := P) (T := T) (E := E) (sz := sz) (bytes := bytes) (z := z) (A := A) (len := len) (cap := cap) (lo := none) (hi := some (.int .i64 j)) (mx := some (.int .i64 k)) (l := 0) (h := j.toNat) (m := k.toNat) (w := w) (by
      unfold Instr.sliceBounds
      simp only [Sem.run_bind, Sem.run_pure, Result.andThen_ok, bound_run (y := 0) h1, bound_run (y := 0) h2])
    rw [Nat.sub_zero, Nat.sub_zero] at this
    exact run_v this) h

/- Rows that grow. -/
theorem append_own {T E sz bytes : Nat} {z : Value} [SlT P T E sz bytes z] {w : World} {v : Value} {m k : Nat} {xs ys : List Value} {c : Ch} {A : Option Addr} {cap : Nat}
    (hown : OwnS E sz v m xs c) (hm : Mem w0 w D (c :: L)) (hs : IsSl w sz A k cap ys) (h1 : ∀ u ∈ ys, u.oneCell' = true) (hb : (m + k) * bytes ≤ 140737488355328) :
    ∃ v' w' c', (Builtin.append_ #[T, T] ty #[v, .slice A k cap]).run P w = .ok v' w' ∧ OwnS E sz v' (m + k) (xs ++ ys) c' ∧ Mem w0 w' D (c' :: L) := by
  have ht := SlT.und (P := P) (T := T) (E := E) (sz := sz) (bytes := bytes) (z := z)
  have hzs := SlT.zs (P := P) (T := T) (E := E) (sz := sz) (bytes := bytes) (z := z)
  have hsz := SlT.szp (P := P) (T := T) (E := E) (sz := sz) (bytes := bytes) (z := z)
  have hby := SlT.byp (P := P) (T := T) (E := E) (sz := sz) (bytes := bytes) (z := z)
  obtain ⟨i, hi, hz, hsize, hbytes⟩ := info_parts (SlT.info (P := P) (T := T) (E := E) (sz := sz) (bytes := bytes) (z := z))
  subst hsize hbytes
  have hlen : (xs ++ ys).length = (m + k) * i.size := by rw [List.length_append, hown.1, hs.1, Nat.add_mul]
  have hmax : m + k ≤ maxLen := by
    have : m + k ≤ (m + k) * i.bytes := Nat.le_mul_of_pos_right _ hby
    unfold maxLen; omega
  have hsmall : m + k ≤ 9223372036854775807 := by unfold maxLen at hmax; omega
  rcases hs.2 with h0 | ⟨b, o, rfl, hlt, hle, hc⟩
  · subst h0
    have hy : ys = [] := List.eq_nil_of_length_eq_zero (by simpa using hs.1)
    subst hy
    refine ⟨v, w, c, ?_, by simpa using hown, hm⟩
    rcases hown.2 with ⟨rfl, rfl, _⟩ | ⟨b', cap', ext, rfl, hn, _, _, _⟩
    · cases A <;> simp [Builtin.append_, run_underlying ht, sizeOf, typeInfo, hi, Builtin.lenOf, Builtin.firstCells, loadCells, loadCellsFrom]
    · cases A <;> simp [Builtin.append_, run_underlying ht, sizeOf, typeInfo, hi, Builtin.lenOf, Builtin.firstCells, loadCells, loadCellsFrom, hn, storeCells]
  · have hnews : ∀ j u, ys[j]? = some u → w.cell? ((⟨b, o, none⟩ : Addr).add j) = some u := fun j u hu => by rw [addr_add]; exact hc j u hu
    have grown : ∀ (cap' : Nat) (r : Array Value), r.toList.take ((m + k) * i.size) = xs ++ ys → r.size = cap' * i.size → m + k ≤ cap' → cap' ≤ maxLen →
        OwnS E i.size (.slice (some ⟨w.heap.size, 0, none⟩) (m + k) cap') (m + k) (xs ++ ys) [(w.heap.size, .cells r E (0, 0))] ∧ Mem w0 (w.drew.alloc (.cells r E (0, 0))) D ([(w.heap.size, .cells r E (0, 0))] :: L) := by
      intro cap' r hr hrs hc1 hc2
      have e : xs ++ ys ++ r.toList.drop ((m + k) * i.size) = r.toList := by rw [← hr, List.take_append_drop]
      refine ⟨⟨hlen, .inr ⟨_, cap', r.toList.drop ((m + k) * i.size), rfl, hc1, hc2, by rw [e]; simpa using hrs, by rw [e]⟩⟩, ?_⟩
      exact hm.tail.drew.new _
    have ge := grownCap_ge w (m + k)
    rcases hown.2 with ⟨rfl, rfl, rfl⟩ | ⟨b', cap', ext, rfl, hn, hcm, hcs, rfl⟩
    · have hx : xs = [] := List.eq_nil_of_length_eq_zero (by simpa using hown.1)
      subst hx
      by_cases hk : k = 0
      · subst hk
        have hy : ys = [] := List.eq_nil_of_length_eq_zero (by simpa using hs.1)
        subst hy
        refine ⟨_, w, [], ?_, OwnS.nil _ _, hm⟩
        simp [Builtin.append_, run_underlying ht, sizeOf, typeInfo, hi, Builtin.lenOf, Builtin.firstCells, loadCells, loadCellsFrom]
      · have hr := run_append_nil (P := P) w T ty E i z ht hi hz ⟨b, o, none⟩ k cap ys hs.1 hnews (by omega) (by omega) (by have hb := hb; simp only [Nat.zero_add] at hb; omega)
        have hg := grown (grownCap w k 0 E) (ys.toArray ++ Builtin.zeroCells z.cells (grownCap w k 0 E - k)) (by
          simp only [Array.toList_append, Nat.zero_add, List.nil_append]; rw [← hs.1]; exact List.take_left) (by
          have := grownCap_ge w k 0 E
          simp only [Array.size_append, List.size_toArray, size_zeroCells, hzs, hs.1, ← Nat.add_mul]; congr 1; omega) (by have := grownCap_ge w k 0 E; omega) (grownCap_le_maxLen w k 0 E (by omega))
        rw [Nat.zero_add] at hg ⊢
        exact ⟨_, _, _, hr, hg.1, hg.2⟩
    · have hblk : w.heap[b']? = some (.cells (xs ++ ext).toArray E (0, 0)) := hm.head (b', .cells (xs ++ ext).toArray E (0, 0)) (by simp)
      by_cases hroom : m + k ≤ cap'
      · have hfit : m * i.size + ys.length ≤ (xs ++ ext).toArray.size := by
          rw [List.size_toArray, hcs, hs.1, ← Nat.add_mul]; exact Nat.mul_le_mul_right _ hroom
        have hr := run_append_room (P := P) w T ty E i ht hi b' m cap' _ hblk ⟨b, o, none⟩ k cap ys hs.1 hnews h1 hroom hfit
        have e : ((xs ++ ext).toArray.toList.take (m * i.size) ++ ys ++ (xs ++ ext).toArray.toList.drop (m * i.size + ys.length)) = xs ++ ys ++ ext.drop ys.length := by
          simp only [← hown.1]
          rw [List.take_left, List.drop_append]
          simp
        rw [e] at hr
        refine ⟨_, _, [(b', .cells (xs ++ ys ++ ext.drop ys.length).toArray E (0, 0))], hr, ⟨hlen, .inr ⟨b', cap', ext.drop ys.length, rfl, hroom, hcm, ?_, rfl⟩⟩, ?_⟩
        · have h2 : (m + k) * i.size ≤ cap' * i.size := Nat.mul_le_mul_right _ hroom
          have h3 := hown.1
          have h4 := hs.1
          simp only [List.length_append, List.length_drop, Nat.add_mul] at hcs h2 ⊢
          omega
        · exact hm.upd rfl rfl rfl (by simp [World.setRow]) (setRow_heap w b' _ _ E _ hblk) fun j hj _ => setRow_other w b' j _ hj
      · have holds : ∀ j u, xs[j]? = some u → w.cell? ((⟨b', 0, none⟩ : Addr).add j) = some u := fun j u hu => by
          rw [addr_add, Nat.zero_add]
          refine cell_of_cells hblk ?_
          rw [List.getElem?_append_left (by
            rcases Nat.lt_or_ge j xs.length with h | h
            · exact h
            · rw [List.getElem?_eq_none h] at hu; cases hu)]
          exact hu
        have hr := run_append_grow (P := P) w T ty E i z ht hi hz ⟨b', 0, none⟩ m cap' xs hown.1 holds ⟨b, o, none⟩ k cap ys hs.1 hnews (by omega) (by omega) (growslice_fits (by omega) hb)
        have hg := grown (grownCap w (m + k) cap' E) (xs.toArray ++ ys.toArray ++ Builtin.zeroCells z.cells (grownCap w (m + k) cap' E - (m + k))) (by
          simp only [Array.toList_append]; rw [← hlen]; exact List.take_left) (by
          have := grownCap_ge w (m + k) cap' E
          simp only [Array.size_append, List.size_toArray, size_zeroCells, hzs, hown.1, hs.1, ← Nat.add_mul]; congr 1; omega) (grownCap_ge w (m + k) cap' E) (grownCap_le_maxLen w (m + k) cap' E hmax)
        exact ⟨_, _, _, hr, hg.1, hg.2⟩
theorem append_exec {T : Nat} {s x : Operand} {w : World} {r : Result Value} (hr : (Builtin.append_ #[T, T] ty #[evn n (get g F) s, evn n (get g F) x]).run P w = r) :
    (execOp (evn n (get g F)) { dst := some d, op := .call { callee := .builtin .append, args := #[s, x], argTypes := #[T, T] }, type := ty, pos := pos, after := af, guard := none }).run P w = r.andThen fun v w => .ok (.value v) w := by
  simp only [execOp, resolve, invoke, builtin, Sem.run_bind, Sem.run_pure, Result.andThen_ok, List.map_toArray, List.map_cons, List.map_nil, hr]
theorem sx_append {T E sz bytes : Nat} {z : Value} [SlT P T E sz bytes z] {s x : Operand} {v : Value} {m k cap : Nat} {xs ys : List Value} {c : Ch} {A : Option Addr} {L' : List Ch}
    (hs : evn n (get g F) s = v) (hx : evn n (get g F) x = .slice A k cap) (hrot : Rot L (c :: L')) (hown : OwnS E sz v m xs c) (hr : ∀ w, Mem w0 w D (c :: L') → IsSl w sz A k cap ys) (h1 : ∀ u ∈ ys, u.oneCell' = true) (hb : (m + k) * bytes ≤ 140737488355328)
    (h : ∀ v' c', OwnS E sz v' (m + k) (xs ++ ys) c' → SX P w0 D n 0 ops Q rest g ((d, v') :: F) (c' :: L')) :
    SX P w0 D n 0 ops Q ({ dst := some d, op := .call { callee := .builtin .append, args := #[s, x], argTypes := #[T, T] }, type := ty, pos := pos, after := af, guard := none } :: rest) g F L :=
  .mk fun w hm => wpList_plain rfl fun K hK => by
    obtain ⟨v', w', c', e1, e2, e3⟩ := append_own (P := P) (T := T) (E := E) (sz := sz) (bytes := bytes) (z := z) (ty := ty) hown (hrot.mem hm) (hr w (hrot.mem hm)) h1 hb
    unfold Oper.wp
    rw [Fr.evn, append_exec (r := .ok v' w') (by rw [hs, hx]; exact e1)]
    show K ((Fr n (get g F)).put (some d) v') w'
    rw [Fr.put, get_put]
    exact hK _ _ ((h v' c' e2).out _ e3)
/-- .. what lies in a new piece of memory, which is forgotten then. -/
theorem sx_append1 {T E sz bytes : Nat} {z : Value} [SlT P T E sz bytes z] {s x : Operand} {v : Value} {m k cap b : Nat} {xs ys : List Value} {c : Ch} {T' : TypeId} {fr : Nat × Nat} {L' : List Ch}
    (hs : evn n (get g F) s = v) (hx : evn n (get g F) x = .slice (some ⟨b, 0, none⟩) k cap) (hrot : Rot L (c :: L')) (hown : OwnS E sz v m xs c) (hl : ys.length = k * sz) (hc : k ≤ cap) (h1 : ys.all Value.oneCell' = true) (hb : (m + k) * bytes ≤ 140737488355328)
    (h : ∀ v' c', OwnS E sz v' (m + k) (xs ++ ys) c' → SX P w0 D n 0 ops Q rest g ((d, v') :: F) (c' :: L')) :
    SX P w0 D n 0 ops Q ({ dst := some d, op := .call { callee := .builtin .append, args := #[s, x], argTypes := #[T, T] }, type := ty, pos := pos, after := af, guard := none } :: rest) g F ([(b, .cells ys.toArray T' fr)] :: L) :=
  sx_append (L' := [(b, .cells ys.toArray T' fr)] :: L') hs hx (by
      refine List.Perm.trans (List.Perm.flatten (List.Perm.swap _ _ _)) ?_
      show ([(b, Obj.cells ys.toArray T' fr)] ++ (c :: L').flatten).Perm ([(b, Obj.cells ys.toArray T' fr)] ++ L.flatten)
      exact hrot.append_left _) hown (fun w hm => by
      have hb := (rot1.mem hm).head (b, .cells ys.toArray T' fr) (by simp)
      exact ⟨hl, .inr ⟨b, 0, rfl, heap_lt hb, hc, fun i u hu => by rw [Nat.zero_add]; exact cell_of_cells hb hu⟩⟩) (fun u hu => List.all_eq_true.1 h1 u hu) hb fun v' c' ho => sx_mem (h v' c' ho) fun w hm => mem_drop1 hm

/- Literals of slices. -/
theorem foldl_sets : ∀ (vs : List Value) (j : Nat) (cs : Array Value) (off : Nat), off + j + vs.length ≤ cs.size →
    ((vs.zipIdx j).foldl (fun cs (c, j) => cs.setIfInBounds (off + j) c) cs).toList = cs.toList.take (off + j) ++ vs ++ cs.toList.drop (off + j + vs.length)
  | [], j, cs, off, _ => by simp
  | v :: vs, j, cs, off, h => by
    simp only [List.length_cons] at h
    rw [List.zipIdx_cons, List.foldl_cons, foldl_sets vs (j + 1) _ off (by simp; omega)]
    have hl : off + j < cs.toList.length := by simp; omega
    have h1 : (cs.setIfInBounds (off + j) v).toList = cs.toList.set (off + j) v := by simp
    have h2 : (cs.toList.set (off + j) v).take (off + (j + 1)) = cs.toList.take (off + j) ++ [v] := by
      rw [show off + (j + 1) = off + j + 1 by omega, List.take_set, List.take_succ_eq_append_getElem hl]
      have hk : (cs.toList.take (off + j)).length = off + j := by simp; omega
      rw [List.set_append_right _ _ (by omega), hk]; simp
    have h3 : (cs.toList.set (off + j) v).drop (off + (j + 1) + vs.length) = cs.toList.drop (off + (j + 1) + vs.length) := by rw [List.drop_set_of_lt]; omega
    rw [h1, h2, h3, List.length_cons]
    simp [Nat.add_comm 1, Nat.add_assoc, Nat.add_left_comm 1]
theorem fill_full {sz : Nat} : ∀ (vs : List Value) (j : Nat) (cs : Array Value), (∀ v ∈ vs, v.cells.size = sz) → (j + vs.length) * sz ≤ cs.size →
    ∃ r, Instr.fill (fun i => some (i * sz, sz)) cs ((List.range' j vs.length).zip vs) = some r ∧ r.toList = cs.toList.take (j * sz) ++ (vs.map fun v => v.cells.toList).flatten ++ cs.toList.drop ((j + vs.length) * sz)
  | [], j, cs, _, _ => ⟨cs, rfl, by simp⟩
  | v :: vs, j, cs, h, hl => by
    have hv := h v (by simp)
    simp only [List.length_cons] at hl
    have hm : (j + (vs.length + 1)) * sz = j * sz + sz + vs.length * sz := by rw [Nat.add_mul, Nat.add_mul]; omega
    have hf := foldl_sets v.cells.toList 0 cs (j * sz) (by simp [hv]; omega)
    have hlen : v.cells.toList.length = sz := by simp [hv]
    have hz : v.cells.zipIdx.foldl (fun cs (c, k) => cs.setIfInBounds (j * sz + k) c) cs = (v.cells.toList.zipIdx).foldl (fun cs (c, k) => cs.setIfInBounds (j * sz + k) c) cs := by
      rw [← Array.foldl_toList]; simp
    obtain ⟨r, hr, he⟩ := fill_full vs (j + 1) (v.cells.zipIdx.foldl (fun cs (c, k) => cs.setIfInBounds (j * sz + k) c) cs) (fun u hu => h u (by simp [hu])) (by
      rw [hz, ← Array.length_toList, hf]
      simp only [List.length_append, List.length_take, List.length_drop, Array.length_toList, hlen]
      rw [show j + 1 + vs.length = j + (vs.length + 1) by omega, hm]; omega)
    refine ⟨r, ?_, ?_⟩
    · rw [List.length_cons, List.range'_succ, List.zip_cons_cons, Instr.fill]
      simp only [hv]
      rw [if_neg (by simp; omega)]
      exact hr
    · rw [he, hz, hf]
      simp only [Nat.add_zero, hlen, List.map_cons, List.flatten_cons, List.length_cons]
      have e1 : (cs.toList.take (j * sz) ++ v.cells.toList ++ cs.toList.drop (j * sz + sz)).take ((j + 1) * sz) = cs.toList.take (j * sz) ++ v.cells.toList := by
        refine List.take_left' ?_
        simp only [List.length_append, List.length_take, Array.length_toList, hlen, Nat.add_mul]; omega
      have e2 : (cs.toList.take (j * sz) ++ v.cells.toList ++ cs.toList.drop (j * sz + sz)).drop ((j + 1 + vs.length) * sz) = cs.toList.drop ((j + (vs.length + 1)) * sz) := by
        rw [List.drop_append, List.drop_eq_nil_of_le (by
          simp only [List.length_append, List.length_take, Array.length_toList, hlen, Nat.add_mul]; omega)]
        rw [List.nil_append, List.drop_drop]
        congr 1
        simp only [List.length_append, List.length_take, Array.length_toList, hlen, Nat.add_mul]
        omega
      rw [e1, e2]
      simp [List.append_assoc]
def idxs : Nat → List (Nat × Operand) → Bool
  | _, [] => true
  | k, (i, _) :: l => Nat.beq i k && idxs (k + 1) l
theorem idxs_zip (f : Operand → Value) : ∀ (l : List (Nat × Operand)) (k : Nat), idxs k l = true → l.map (fun p => (p.1, f p.2)) = (List.range' k (l.map fun p => f p.2).length).zip (l.map fun p => f p.2)
  | [], _, _ => rfl
  | (i, x) :: l, k, h => by
    simp only [idxs, Bool.and_eq_true] at h
    have hk : i = k := Nat.eq_of_beq_eq_true h.1
    subst hk
    rw [List.map_cons, List.map_cons, List.length_cons, List.range'_succ, List.zip_cons_cons, idxs_zip f l (i + 1) h.2]
def pcells (n : Nat) (f : Nat → Value) : List (Nat × Operand) → List Value
  | [] => []
  | (_, x) :: l => (evn n f x).cells.toList ++ pcells n f l
def psizes (n sz : Nat) (f : Nat → Value) : List (Nat × Operand) → Bool
  | [] => true
  | (_, x) :: l => Nat.beq (evn n f x).cells.size sz && psizes n sz f l
theorem pcells_eq (n : Nat) (f : Nat → Value) : ∀ l, ((l.map fun p => evn n f p.2).map fun v => v.cells.toList).flatten = pcells n f l
  | [] => rfl
  | (_, x) :: l => by rw [List.map_cons, List.map_cons, List.flatten_cons, pcells_eq n f l]; rfl
theorem psizes_eq {n sz : Nat} {f : Nat → Value} : ∀ {l : List (Nat × Operand)}, psizes n sz f l = true → ∀ v ∈ l.map (fun p => evn n f p.2), v.cells.size = sz
  | [], _, v, hv => by cases hv
  | (_, x) :: l, h, v, hv => by
    simp only [psizes, Bool.and_eq_true] at h
    rw [List.map_cons, List.mem_cons] at hv
    rcases hv with rfl | hv
    · exact Nat.eq_of_beq_eq_true h.1
    · exact psizes_eq h.2 v hv
theorem sx_buildS {T E sz bytes len : Nat} {z : Value} [SlT P T E sz bytes z] {ps : List (Nat × Operand)} (cs : List Value) (hi : idxs 0 ps = true) (hn : Nat.beq ps.length len = true) (hs : psizes n sz (get g F) ps = true) (hc : pcells n (get g F) ps = cs)  (hle : Nat.ble (len * sz) 16777216 = true)
    (h : ∀ b, SX P w0 D n 0 ops Q rest g ((d, .slice (some ⟨b, 0, none⟩) len len) :: F) ([(b, .cells cs.toArray E (0, 0))] :: L)) :
    SX P w0 D n 0 ops Q ({ dst := some d, op := .buildSlice T len ps.toArray, type := ty, pos := pos, after := af, guard := none } :: rest) g F L :=
  .mk fun w hm => wpList_plain rfl fun K hK => by
    have ht := SlT.und (P := P) (T := T) (E := E) (sz := sz) (bytes := bytes) (z := z)
    obtain ⟨i, hif, hzi, hsize, _⟩ := info_parts (SlT.info (P := P) (T := T) (E := E) (sz := sz) (bytes := bytes) (z := z))
    have h2 : (sizeOf E).run P w = .ok sz w := by simp [sizeOf, typeInfo, hif, hsize, go_sem]
    have h3 : (zeroValue E).run P w = .ok z w := by simp [zeroValue, typeInfo, hif, hzi, go_sem]
    have hlen : ps.length = len := Nat.eq_of_beq_eq_true hn
    have hle' : len * sz ≤ 16777216 := Nat.le_of_ble_eq_true hle
    have hzz : z.cells.size = sz := SlT.zs (P := P) (T := T) (E := E) (bytes := bytes)
    have hfill : ∀ A : Array Value, A.size = len * sz → Instr.fill (fun i => some (i * sz, sz)) A (ps.map fun p => (p.1, evn n (get g F) p.2)) = some cs.toArray := by
      intro A hA
      obtain ⟨r, hr, he⟩ := fill_full (sz := sz) (ps.map fun p => evn n (get g F) p.2) 0 A (psizes_eq hs) (by simp [hlen, hA])
      rw [idxs_zip _ ps 0 hi, hr]
      congr 1
      rw [← Array.toList_inj, he, pcells_eq, hc]
      simp [hlen, hA]
    have hrun : (Instr.buildSlice T len ((ps.map fun p => (p.1, evn n (get g F) p.2)).toArray)).run P w = .ok (.slice (some ⟨w.heap.size, 0, none⟩) len len) (w.alloc (.cells cs.toArray E (0, 0))) := by
      unfold Instr.buildSlice
      rw [Sem.run_bind, run_underlying ht]
      show (sizeOf E >>= _).run P w = _
      rw [Sem.run_bind, h2]
      dsimp only [Result.andThen_ok]
      rw [if_neg (by omega)]
      by_cases h0 : len * sz = 0
      · rw [if_pos h0]
        have := hfill ((Array.range (len * sz)).map fun x => (#[] : Array Value)[x % (#[] : Array Value).size]!) (by simp)
        show (match Instr.fill (fun i => some (i * sz, sz)) ((Array.range (len * sz)).map fun x => (#[] : Array Value)[x % (#[] : Array Value).size]!) _ with | some cells => _ | _ => _ : Sem Value).run P w = _
        rw [this]; rfl
      · rw [if_neg h0]
        rw [Sem.run_bind, h3]
        have := hfill ((Array.range (len * sz)).map fun x => z.cells[x % z.cells.size]!) (by simp)
        show (match Instr.fill (fun i => some (i * sz, sz)) ((Array.range (len * sz)).map fun x => z.cells[x % z.cells.size]!) _ with | some cells => _ | _ => _ : Sem Value).run P w = _
        rw [this]; rfl
    unfold Oper.wp
    rw [Fr.evn]
    have hx : (execOp (evn n (get g F)) { dst := some d, op := .buildSlice T len ps.toArray, type := ty, pos := pos, after := af, guard := none }).run P w = .ok (.value (.slice (some ⟨w.heap.size, 0, none⟩) len len)) (w.alloc (.cells cs.toArray E (0, 0))) := by
      show ((do pure (Next.value (← Instr.buildSlice T len (ps.toArray.map fun p => (p.1, evn n (get g F) p.2))))) : Sem Next).run P w = _
      rw [List.map_toArray]
      exact run_v hrun
    rw [hx, Oper.upon_value, Fr.put, get_put]
    exact hK _ _ ((h w.heap.size).out _ (hm.new _))

/- Conversions. -/
theorem sx_conv {S T : Nat} {k k' : IntKind} [IntT P S k'] [IntT P T k] {x : Operand} {a : Int} (hx : evn n (get g F) x = .int k' a) (h : SX P w0 D n q ops Q rest g ((d, .int k (k.wrap a)) :: F) L) :
    SX P w0 D n q ops Q ({ dst := some d, op := .convert S T x, type := ty, pos := pos, after := af, guard := none } :: rest) g F L :=
  sx_run _ rfl rfl (fun w _ => by
    show ((do pure (Next.value (← convert S T (evn n (get g F) x)))) : Sem Next).run P w = _
    rw [hx]
    refine run_v ?_
    unfold convert
    rw [Sem.run_bind, run_underlying IntT.und]
    show (underlying T >>= _).run P w = _
    rw [Sem.run_bind, run_underlying IntT.und]
    rfl) h
theorem sx_convIn {S T : Nat} {k' : IntKind} [IntT P S k'] [IntT P T .i64] {x : Operand} {a : Int} (hx : evn n (get g F) x = .int k' a) (hb : -9223372036854775808 ≤ a ∧ a ≤ 9223372036854775807) (h : SX P w0 D n q ops Q rest g ((d, .int .i64 a) :: F) L) :
    SX P w0 D n q ops Q ({ dst := some d, op := .convert S T x, type := ty, pos := pos, after := af, guard := none } :: rest) g F L :=
  sx_conv hx (by rw [IntWalk.i64_in _ hb]; exact h)
theorem sx_convU8 {S T : Nat} {k' : IntKind} [IntT P S k'] [IntT P T .u8] {x : Operand} {a : Int} (hx : evn n (get g F) x = .int k' a) (hb : 0 ≤ a ∧ a ≤ 255) (h : SX P w0 D n q ops Q rest g ((d, .int .u8 a) :: F) L) :
    SX P w0 D n q ops Q ({ dst := some d, op := .convert S T x, type := ty, pos := pos, after := af, guard := none } :: rest) g F L :=
  sx_conv hx (by rw [IntWalk.u8_in _ hb]; exact h)
theorem sx_convU8m {S T : Nat} {k' : IntKind} [IntT P S k'] [IntT P T .u8] {x : Operand} {a : Int} (hx : evn n (get g F) x = .int k' a) (h : SX P w0 D n q ops Q rest g ((d, .int .u8 (a % 256)) :: F) L) :
    SX P w0 D n q ops Q ({ dst := some d, op := .convert S T x, type := ty, pos := pos, after := af, guard := none } :: rest) g F L :=
  sx_conv hx (by rw [IntKind.wrap_u8]; exact h)
theorem sx_convU32m {S T : Nat} {k' : IntKind} [IntT P S k'] [IntT P T .u32] {x : Operand} {a : Int} (hx : evn n (get g F) x = .int k' a) (h : SX P w0 D n q ops Q rest g ((d, .int .u32 (a % 4294967296)) :: F) L) :
    SX P w0 D n q ops Q ({ dst := some d, op := .convert S T x, type := ty, pos := pos, after := af, guard := none } :: rest) g F L :=
  sx_conv hx (by rw [IntKind.wrap_u32]; exact h)
theorem sx_convU64m {S T : Nat} {k' : IntKind} [IntT P S k'] [IntT P T .u64] {x : Operand} {a : Int} (hx : evn n (get g F) x = .int k' a) (h : SX P w0 D n q ops Q rest g ((d, .int .u64 (a % 18446744073709551616)) :: F) L) :
    SX P w0 D n q ops Q ({ dst := some d, op := .convert S T x, type := ty, pos := pos, after := af, guard := none } :: rest) g F L :=
  sx_conv hx (by rw [IntKind.wrap_u64]; exact h)
theorem sx_convBytes {S T E sz bytes : Nat} {z : Value} [SlT P S E sz bytes z] [IntT P E .u8] [StrT P T] {x : Operand} {A : Option Addr} {len cap : Nat} {l : List Int} (hx : evn n (get g F) x = .slice A len cap) (hr : ∀ w, Mem w0 w D L → IsRow w .u8 A len cap l) (h : SX P w0 D n q ops Q rest g ((d, .string (strOfNums l)) :: F) L) :
    SX P w0 D n q ops Q ({ dst := some d, op := .convert S T x, type := ty, pos := pos, after := af, guard := none } :: rest) g F L :=
  sx_run _ rfl rfl (fun w hm => by
    have h1 := SlT.und (P := P) (T := S) (E := E) (sz := sz) (bytes := bytes) (z := z)
    have hrow := hr w hm
    have hlen := hrow.len
    subst hlen
    show ((do pure (Next.value (← convert S T (evn n (get g F) x)))) : Sem Next).run P w = _
    rw [hx]
    refine run_v ?_
    rcases hrow.2 with h0 | ⟨b, o, rfl, _, _, hc⟩
    · have hl : l = [] := List.eq_nil_of_length_eq_zero h0
      subst hl
      rw [run_convert_bytes_string w S T E _ _ _ h1 IntT.und StrT.und]
      cases A <;> rfl
    · exact run_convert_bytes_arg w S E h1 IntT.und b o l.length cap l rfl (fun i hi => hc.row i hi) T StrT.und) h
end
end Go.Port
