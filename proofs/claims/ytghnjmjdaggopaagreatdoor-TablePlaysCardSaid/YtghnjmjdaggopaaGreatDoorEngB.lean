/- Several texts in one: SxMem SxMore SxBits Step Any AnyB AnyC Slim RowQ LoadV SxArr OwnL Fun FunM. -/
import Derived.Test.YtghnjmjdaggopaaGreatDoorEngA
import Derived.Laws.BytesArg
import Derived.OrdersHeld
/- Steps of a call: errors, slices, rows that grow. No program here. -/
set_option linter.unusedSimpArgs false
set_option linter.unusedVariables false
namespace Go.Port
open Go.RowKit

class IfT (P : Program) (T : Nat) : Prop where
  und : ∃ ms, P.underlying T = some (.interface ms)
class MkI (P : Program) (T : Nat) : Prop where
  run : ∀ v w, (Instr.makeInterface T v).run P w = .ok (.iface T v) w
class IntT (P : Program) (T : Nat) (k : outParam IntKind) : Prop where
  und : P.underlying T = some (.int k)
class StrT (P : Program) (T : Nat) : Prop where
  und : P.underlying T = some .string

/-- An error: none, or a number. -/
@[irreducible] def errV (T : Nat) (k : Int) : Value := if k = 0 then .nilIface else .iface T (.int .i64 k)
theorem errV_zero (T : Nat) : errV T 0 = .nilIface := by unfold errV; rfl
theorem errV_ne {T : Nat} {k : Int} (h : k ≠ 0) : errV T k = .iface T (.int .i64 k) := by unfold errV; rw [if_neg h]

/-- The rest of a slice, from a place on. -/
def shift (A : Option Addr) (cap k sz : Nat) : Option Addr := if cap = k then A else A.map fun a => a.add (k * sz)
theorem IsSl.from {w : World} {sz : Nat} {A : Option Addr} {len cap : Nat} {xs : List Value} (h : IsSl w sz A len cap xs) {k : Nat} (hk : k ≤ len) (hc : len ≤ cap) : IsSl w sz (shift A cap k sz) (len - k) (cap - k) (xs.drop (k * sz)) := by
  refine ⟨by rw [List.length_drop, h.1, Nat.sub_mul], ?_⟩
  by_cases he : len = k
  · exact .inl (by omega)
  · rcases h.2 with h2 | ⟨b, o, rfl, hb, hc, hx⟩
    · exact .inl (by omega)
    · refine .inr ⟨b, o + k * sz, ?_, hb, by omega, ?_⟩
      · unfold shift
        rw [if_neg (by omega)]
        simp [addr_add]
      · intro i u hu
        rw [List.getElem?_drop] at hu
        have := hx _ _ hu
        rwa [← Nat.add_assoc] at this
theorem IsSl.to {w : World} {sz : Nat} {A : Option Addr} {len cap : Nat} {xs : List Value} (h : IsSl w sz A len cap xs) {k c : Nat} (hk : k ≤ len) (hc : k ≤ c) : IsSl w sz A k c (xs.take (k * sz)) := by
  have hle : k * sz ≤ len * sz := Nat.mul_le_mul_right _ hk
  refine ⟨by rw [List.length_take, h.1]; omega, ?_⟩
  by_cases he : k = 0
  · exact .inl he
  · rcases h.2 with h2 | ⟨b, o, rfl, hb, _, hx⟩
    · exact .inl (by omega)
    · refine .inr ⟨b, o, rfl, hb, hc, fun i u hu => hx i u ?_⟩
      rw [List.getElem?_take] at hu
      split at hu
      · exact hu
      · cases hu
theorem IsSl.nil {w : World} {sz c : Nat} {A : Option Addr} : IsSl w sz A 0 c [] := ⟨by simp, .inl rfl⟩

theorem shift_zero (A : Option Addr) (c sz : Nat) : shift A c 0 sz = A := by
  unfold shift
  split
  · rfl
  · cases A <;> simp [Addr.add]
theorem IsRow.from {w : World} {k : IntKind} {A : Option Addr} {len cap : Nat} {l : List Int} (h : IsRow w k A len cap l) {n : Nat} (hn : n ≤ len) (hc : len ≤ cap) : IsRow w k (shift A cap n 1) (len - n) (cap - n) (l.drop n) := by
  have := IsSl.from h hn hc
  unfold IsRow
  rw [List.map_drop]
  simpa using this
theorem IsRow.to {w : World} {k : IntKind} {A : Option Addr} {len cap : Nat} {l : List Int} (h : IsRow w k A len cap l) {n c : Nat} (hn : n ≤ len) (hc : n ≤ c) : IsRow w k A n c (l.take n) := by
  have := IsSl.to h hn hc
  unfold IsRow
  rw [List.map_take]
  simpa using this
theorem FF.of {f : Nat → Value} {t : Nat} {v : Value} {l : List (Nat × Value)} (h : f t = v) (h' : FF f l) : FF f ((t, v) :: l) := ⟨h, h'⟩
/-- A slice that the call has made, and the piece of memory where it lies. -/
def OwnS (E sz : Nat) (v : Value) (n : Nat) (xs : List Value) (c : Ch) : Prop :=
  xs.length = n * sz ∧ ((v = .slice none 0 0 ∧ n = 0 ∧ c = []) ∨ ∃ b cap ext, v = .slice (some ⟨b, 0, none⟩) n cap ∧ n ≤ cap ∧ cap ≤ maxLen ∧ (xs ++ ext).length = cap * sz ∧ c = [(b, .cells (xs ++ ext).toArray E (0, 0))])
theorem OwnS.nil (E sz : Nat) : OwnS E sz (.slice none 0 0) 0 [] [] := ⟨by simp, .inl ⟨rfl, rfl, rfl⟩⟩
theorem OwnS.lit (E sz b k : Nat) (xs : List Value) (h : xs.length = k * sz) (hk : k ≤ maxLen) : OwnS E sz (.slice (some ⟨b, 0, none⟩) k k) k xs [(b, .cells xs.toArray E (0, 0))] :=
  ⟨h, .inr ⟨b, k, [], rfl, Nat.le_refl _, hk, by simpa using h, by simp⟩⟩
/-- Rows of the call's own, as a call answers them. -/
def Made (E sz : Nat) (n : Nat) (xs : List Value) (v : Value) (L : List Ch) : Prop := ∃ A cap c, v = .slice A n cap ∧ n ≤ cap ∧ L = [c] ∧ OwnS E sz v n xs c
theorem OwnS.len {E sz : Nat} {v : Value} {n : Nat} {xs : List Value} {c : Ch} (h : OwnS E sz v n xs c) : ∃ A cap, v = .slice A n cap ∧ n ≤ cap := by
  rcases h.2 with ⟨rfl, rfl, _⟩ | ⟨b, cap, ext, rfl, h1, _⟩
  · exact ⟨_, _, rfl, Nat.le_refl _⟩
  · exact ⟨_, _, rfl, h1⟩
theorem OwnS.sees {E sz : Nat} {A : Option Addr} {m n cap : Nat} {xs : List Value} {c : Ch} {w : World} (h : OwnS E sz (.slice A m cap) n xs c) (hc : Has w c) : IsSl w sz A n cap xs ∧ m = n ∧ n ≤ cap := by
  rcases h.2 with ⟨hv, rfl, _⟩ | ⟨b, cap', ext, hv, h1, _, h2, rfl⟩
  · simp only [Value.slice.injEq] at hv
    obtain ⟨rfl, rfl, rfl⟩ := hv
    have : xs = [] := List.eq_nil_of_length_eq_zero (by simpa using h.1)
    subst this
    exact ⟨IsSl.nil, rfl, Nat.le_refl _⟩
  · simp only [Value.slice.injEq] at hv
    obtain ⟨rfl, rfl, rfl⟩ := hv
    have hb := hc (b, .cells (xs ++ ext).toArray E (0, 0)) (by simp)
    refine ⟨⟨h.1, .inr ⟨b, 0, rfl, heap_lt hb, h1, fun i u hu => ?_⟩⟩, rfl, h1⟩
    rw [Nat.zero_add]
    refine cell_of_cells hb ?_
    rw [List.getElem?_append_left (by
      rcases Nat.lt_or_ge i xs.length with h | h
      · exact h
      · rw [List.getElem?_eq_none h] at hu; cases hu)]
    exact hu

section
variable {P : Program} {w0 : World} {D : List Nat} {n q : Nat} {ops : Array Oper} {Q : Exit → Act → World → Prop} {g : Nat → Value} {F : List (Nat × Value)} {L : List Ch}
variable {rest : List Oper} {ty : TypeId} {pos : String} {af : Array Edge} {d : Nat}

/- Errors. -/
theorem equal_nil_nil {t : Nat} {ms : Array (String × TypeId)} (hi : P.underlying t = some (.interface ms)) (w : World) : (Op.equal t .nilIface .nilIface).run P w = .ok true w := by
  show (Op.equalIn (9999 + 1) t .nilIface .nilIface).run P w = _
  rw [Op.equalIn, Sem.run_bind, run_underlying hi]; rfl
theorem equal_iface_nil {t T : Nat} {v : Value} {ms : Array (String × TypeId)} (hi : P.underlying t = some (.interface ms)) (w : World) : (Op.equal t (.iface T v) .nilIface).run P w = .ok false w := by
  show (Op.equalIn (9999 + 1) t (.iface T v) .nilIface).run P w = _
  rw [Op.equalIn, Sem.run_bind, run_underlying hi]; rfl
theorem err_cmp {op : BinOp} {t1 t2 T : Nat} [hif : IfT P t1] {x : Operand} {k : Int} {r : Bool} (hx : evn n (get g F) x = errV T k) (hr : (op = .neq ∧ r = decide (¬ k = 0)) ∨ (op = .eql ∧ r = decide (k = 0))) (w : World) :
    (execOp (evn n (get g F)) { dst := some d, op := .binOp op t1 x (.const .nilIface) t2, type := ty, pos := pos, after := af, guard := none }).run P w = .ok (.value (.bool r)) w := by
  obtain ⟨ms, hi⟩ := hif.und
  have h1 := equal_nil_nil hi w
  have h2 := fun v => equal_iface_nil (T := T) (v := v) hi w
  show ((do pure (Next.value (← (do eqGuard op t1 x (.const .nilIface) (evn n (get g F) x) .nilIface; binOp op t1 (evn n (get g F) x) .nilIface)))) : Sem Next).run P w = _
  rw [hx]
  refine run_v ?_
  have hg : ∀ (v : Value), (eqGuard op t1 x (.const .nilIface) v .nilIface).run P w = .ok () w := by
    intro v
    rcases hr with ⟨rfl, _⟩ | ⟨rfl, _⟩ <;> cases v <;> first
      | rfl
      | (cases x <;> rfl)
  rw [Sem.run_bind, hg]
  show (binOp op t1 (errV T k) .nilIface).run P w = _
  by_cases hk : k = 0
  · subst hk; rw [errV_zero]
    rcases hr with ⟨rfl, rfl⟩ | ⟨rfl, rfl⟩
    · show (Op.equal t1 .nilIface .nilIface >>= fun b => (pure (.bool (!b)) : Sem Value)).run P w = _
      rw [Sem.run_bind, h1]; rfl
    · show (Op.equal t1 .nilIface .nilIface >>= fun b => (pure (.bool b) : Sem Value)).run P w = _
      rw [Sem.run_bind, h1]; rfl
  · rw [errV_ne hk]
    rcases hr with ⟨rfl, rfl⟩ | ⟨rfl, rfl⟩
    · show (Op.equal t1 (.iface T (.int .i64 k)) .nilIface >>= fun b => (pure (.bool (!b)) : Sem Value)).run P w = _
      rw [Sem.run_bind, h2]; simp [hk]
    · show (Op.equal t1 (.iface T (.int .i64 k)) .nilIface >>= fun b => (pure (.bool b) : Sem Value)).run P w = _
      rw [Sem.run_bind, h2]; simp [hk]
theorem sx_err_ne {t1 t2 T : Nat} [IfT P t1] {x : Operand} {k : Int} (hx : evn n (get g F) x = errV T k) (h : SX P w0 D n q ops Q rest g ((d, .bool (decide (¬ k = 0))) :: F) L) :
    SX P w0 D n q ops Q ({ dst := some d, op := .binOp .neq t1 x (.const .nilIface) t2, type := ty, pos := pos, after := af, guard := none } :: rest) g F L :=
  sx_run _ rfl rfl (fun w _ => err_cmp hx (.inl ⟨rfl, rfl⟩) w) h
theorem sx_err_eq {t1 t2 T : Nat} [IfT P t1] {x : Operand} {k : Int} (hx : evn n (get g F) x = errV T k) (h : SX P w0 D n q ops Q rest g ((d, .bool (decide (k = 0))) :: F) L) :
    SX P w0 D n q ops Q ({ dst := some d, op := .binOp .eql t1 x (.const .nilIface) t2, type := ty, pos := pos, after := af, guard := none } :: rest) g F L :=
  sx_run _ rfl rfl (fun w _ => err_cmp hx (.inr ⟨rfl, rfl⟩) w) h
theorem sx_errn_ne {t1 t2 : Nat} [hif : IfT P t1] {x : Operand} (hx : evn n (get g F) x = .nilIface) (h : SX P w0 D n q ops Q rest g ((d, .bool false) :: F) L) :
    SX P w0 D n q ops Q ({ dst := some d, op := .binOp .neq t1 x (.const .nilIface) t2, type := ty, pos := pos, after := af, guard := none } :: rest) g F L :=
  sx_run _ rfl rfl (fun w _ => err_cmp (T := 0) (k := 0) (by rw [hx, errV_zero]) (.inl ⟨rfl, rfl⟩) w) h
theorem sx_errn_eq {t1 t2 : Nat} [hif : IfT P t1] {x : Operand} (hx : evn n (get g F) x = .nilIface) (h : SX P w0 D n q ops Q rest g ((d, .bool true) :: F) L) :
    SX P w0 D n q ops Q ({ dst := some d, op := .binOp .eql t1 x (.const .nilIface) t2, type := ty, pos := pos, after := af, guard := none } :: rest) g F L :=
  sx_run _ rfl rfl (fun w _ => err_cmp (T := 0) (k := 0) (by rw [hx, errV_zero]) (.inr ⟨rfl, rfl⟩) w) h
theorem sx_iface {T : Nat} [MkI P T] {x : Operand} (v : Value) (hx : evn n (get g F) x = v) (h : SX P w0 D n q ops Q rest g ((d, .iface T v) :: F) L) :
    SX P w0 D n q ops Q ({ dst := some d, op := .makeInterface T x, type := ty, pos := pos, after := af, guard := none } :: rest) g F L :=
  sx_run _ rfl rfl (fun w _ => by
    show ((do pure (Next.value (← Instr.makeInterface T (evn n (get g F) x)))) : Sem Next).run P w = _
    rw [hx]; exact run_v (MkI.run v w)) h

/- Slices. -/
theorem sx_index {T E sz bytes : Nat} {z : Value} [SlT P T E sz bytes z] {x y : Operand} {b o len cap : Nat} {i : Int} (hx : evn n (get g F) x = .slice (some ⟨b, o, none⟩) len cap) (hy : evn n (get g F) y = .int .i64 i) (hi : 0 ≤ i ∧ i < len)
    (h : SX P w0 D n q ops Q rest g ((d, .pointer (some ⟨b, o + i.toNat * sz, none⟩)) :: F) L) :
    SX P w0 D n q ops Q ({ dst := some d, op := .indexAddr T x y, type := ty, pos := pos, after := af, guard := none } :: rest) g F L :=
  sx_run _ rfl rfl (fun w _ => by
    have h1 := SlT.und (P := P) (T := T) (E := E) (sz := sz) (bytes := bytes) (z := z)
    obtain ⟨inf, hinf, _, hsz, _⟩ := info_parts (SlT.info (P := P) (T := T) (E := E) (sz := sz) (bytes := bytes) (z := z))
    have h2 : (sizeOf E).run P w = .ok sz w := by simp [sizeOf, typeInfo, hinf, hsz, go_sem]
    show ((do pure (Next.value (← Instr.indexAt T (evn n (get g F) x) (evn n (get g F) y)))) : Sem Next).run P w = _
    rw [hx, hy]
    refine run_v ?_
    simp [Instr.indexAt, asIntOf, run_underlying h1, hi.1, hi.2, h2, addr_add, go_sem]) h
/-- A slice that may be none. -/
theorem sx_indexS {T E sz bytes : Nat} {z : Value} [SlT P T E sz bytes z] {x y : Operand} {A : Option Addr} {len cap sz' : Nat} {i : Int} {xs : List Value} (hx : evn n (get g F) x = .slice A len cap) (hs : IsSl w0 sz' A len cap xs) (hy : evn n (get g F) y = .int .i64 i) (hi : 0 ≤ i ∧ i < len)
    (h : ∀ b o, A = some ⟨b, o, none⟩ → b < w0.heap.size → CellsAt w0 b o xs → SX P w0 D n q ops Q rest g ((d, .pointer (some ⟨b, o + i.toNat * sz, none⟩)) :: F) L) :
    SX P w0 D n q ops Q ({ dst := some d, op := .indexAddr T x y, type := ty, pos := pos, after := af, guard := none } :: rest) g F L := by
  rcases hs.2 with h0 | ⟨b, o, rfl, hb, _, hc⟩
  · omega
  · exact sx_index hx hy hi (h b o rfl hb hc)
/-- What is there from the beginning. -/
theorem sx_loadOld {T sz : Nat} [TyT P T sz false] {x : Operand} {b o k : Nat} {xs : List Value} {v : Value} (hx : evn n (get g F) x = .pointer (some ⟨b, o + k, none⟩)) (hc : CellsAt w0 b o xs) (hb : b < w0.heap.size) (hD : b ∉ D) (hv : xs[k]? = some v) (h : SX P w0 D n q ops Q rest g ((d, v) :: F) L) :
    SX P w0 D n q ops Q ({ dst := some d, op := .load T x, type := ty, pos := pos, after := af, guard := none } :: rest) g F L :=
  sx_loadM hx (fun w hm => (hm.cell (p := ⟨b, o + k, none⟩) hb hD).trans (hc k v hv)) h
theorem slice_run {T E sz bytes : Nat} {z : Value} [SlT P T E sz bytes z] {A : Option Addr} {len cap : Nat} {lo hi mx : Option Value} {l h m : Nat} {w : World} (hb : (Instr.sliceBounds true len cap lo hi mx).run P w = .ok (l, h, m) w) :
    (Instr.sliceAt T (.slice A len cap) lo hi mx).run P w = .ok (.slice (shift A m l sz) (h - l) (m - l)) w := by
  have h1 := SlT.und (P := P) (T := T) (E := E) (sz := sz) (bytes := bytes) (z := z)
  obtain ⟨inf, hinf, _, hsz, _⟩ := info_parts (SlT.info (P := P) (T := T) (E := E) (sz := sz) (bytes := bytes) (z := z))
  have h2 : (sizeOf E).run P w = .ok sz w := by simp [sizeOf, typeInfo, hinf, hsz, go_sem]
  unfold Instr.sliceAt
  rw [Sem.run_bind, run_underlying h1]
  show (Instr.slice T (.slice A len cap) lo hi mx).run P w = _
  unfold Instr.slice
  rw [Sem.run_bind, run_underlying h1]
  show (Instr.sliceBounds true len cap lo hi mx >>= _).run P w = _
  rw [Sem.run_bind, hb]
  show (sizeOf E >>= _).run P w = _
  rw [Sem.run_bind, h2]
  rfl
theorem bound_run {x y : Int} {k : Nat} {c : BoundsCode} {w : World} (h : 0 ≤ x ∧ x ≤ k) : (Instr.sliceBound (.int .i64 x) k c).run P w = .ok x.toNat w := by
  unfold Instr.sliceBound
  simp [asIntOf, h.1, h.2, go_sem]
theorem sx_sliceFrom {T E sz bytes : Nat} {z : Value} [SlT P T E sz bytes z] {x y : Operand} {A : Option Addr} {len cap : Nat} {k : Int} (hx : evn n (get g F) x = .slice A len cap) (hy : evn n (get g F) y = .int .i64 k) (hk : 0 ≤ k ∧ k ≤ len)
    (h : SX P w0 D n q ops Q rest g ((d, .slice (shift A cap k.toNat sz) (len - k.toNat) (cap - k.toNat)) :: F) L) :
    SX P w0 D n q ops Q ({ dst := some d, op := .slice T x (some y) none none, type := ty, pos := pos, after := af, guard := none } :: rest) g F L :=
  sx_run _ rfl rfl (fun w _ => by
    show ((do pure (Next.value (← Instr.sliceAt T (evn n (get g F) x) (some (evn n (get g F) y)) none none))) : Sem Next).run P w = _
    rw [hx, hy]
    refine run_v (slice_run (T := T) ?_)
    unfold Instr.sliceBounds
    simp only [Sem.run_bind, Sem.run_pure, Result.andThen_ok, bound_run (y := 0) hk]) h
theorem sx_sliceTo {T E sz bytes : Nat} {z : Value} [SlT P T E sz bytes z] {x y : Operand} {A : Option Addr} {len cap : Nat} {k : Int} (hx : evn n (get g F) x = .slice A len cap) (hy : evn n (get g F) y = .int .i64 k) (hk : 0 ≤ k ∧ k ≤ cap)
    (h : SX P w0 D n q ops Q rest g ((d, .slice (shift A cap 0 sz) k.toNat cap) :: F) L) :
    SX P w0 D n q ops Q ({ dst := some d, op := .slice T x none (some y) none, type := ty, pos := pos, after := af, guard := none } :: rest) g F L :=
  sx_run _ rfl rfl (fun w _ => by
    show ((do pure (Next.value (← Instr.sliceAt T (evn n (get g F) x) none (some (evn n (get g F) y)) none))) : Sem Next).run P w = _
    rw [hx, hy]
    have := slice_run (P := P) (T := T) (E := E) (sz := sz) (bytes := bytes) (z := z) (A := A) (len := len) (cap := cap) (lo := none) (hi := some (.int .i64 k)) (mx := none) (l := 0) (h := k.toNat) (m := cap) (w := w) (by
      unfold Instr.sliceBounds
      simp only [Sem.run_bind, Sem.run_pure, Result.andThen_ok, bound_run (y := 0) hk])
    rw [Nat.sub_zero, Nat.sub_zero] at this
    exact run_v this) h
theorem sx_sliceBoth {T E sz bytes : Nat} {z : Value} [SlT P T E sz bytes z] {x y u : Operand} {A : Option Addr} {len cap : Nat} {j k : Int} (hx : evn n (get g F) x = .slice A len cap) (hy : evn n (get g F) y = .int .i64 j) (hu : evn n (get g F) u = .int .i64 k) (hk : 0 ≤ j ∧ j ≤ k ∧ k ≤ cap)
    (h : SX P w0 D n q ops Q rest g ((d, .slice (shift A cap j.toNat sz) (k.toNat - j.toNat) (cap - j.toNat)) :: F) L) :
    SX P w0 D n q ops Q ({ dst := some d, op := .slice T x (some y) (some u) none, type := ty, pos := pos, after := af, guard := none } :: rest) g F L :=
  sx_run _ rfl rfl (fun w _ => by
    show ((do pure (Next.value (← Instr.sliceAt T (evn n (get g F) x) (some (evn n (get g F) y)) (some (evn n (get g F) u)) none))) : Sem Next).run P w = _
    rw [hx, hy, hu]
    refine run_v (slice_run (T := T) ?_)
    have h1 : 0 ≤ k ∧ k ≤ (cap : Int) := ⟨by omega, hk.2.2⟩
    have h2 : 0 ≤ j ∧ j ≤ (k.toNat : Int) := ⟨hk.1, by omega⟩
    unfold Instr.sliceBounds
    simp only [Sem.run_bind, Sem.run_pure, Result.andThen_ok, bound_run (y := 0) h1, bound_run (y := 0) h2]) h
/-- s[:k:k] -/
theorem sx_sliceFull {T E sz bytes : Nat} {z : Value} [SlT P T E sz bytes z] {x y u : Operand} {A : Option Addr} {len cap : Nat} {j k : Int} (hx : evn n (get g F) x = .slice A len cap) (hy : evn n (get g F) y = .int .i64 j) (hu : evn n (get g F) u = .int .i64 k) (hk : 0 ≤ j ∧ j ≤ k ∧ k ≤ cap)
    (h : SX P w0 D n q ops Q rest g ((d, .slice (shift A k.toNat 0 sz) j.toNat k.toNat) :: F) L) :
    SX P w0 D n q ops Q ({ dst := some d, op := .slice T x none (some y) (some u), type := ty, pos := pos, after := af, guard := none } :: rest) g F L :=
  sx_run _ rfl rfl (fun w _ => by
    show ((do pure (Next.value (← Instr.sliceAt T (evn n (get g F) x) none (some (evn n (get g F) y)) (some (evn n (get g F) u))))) : Sem Next).run P w = _
    rw [hx, hy, hu]
    have h1 : 0 ≤ k ∧ k ≤ (cap : Int) := ⟨by omega, hk.2.2⟩
    have h2 : 0 ≤ j ∧ j ≤ (k.toNat : Int) := ⟨hk.1, by omega⟩
    have := slice_run (P := P) (T := T) (E := E) (sz := sz) (bytes := bytes) (z := z) (A := A) (len := len) (cap := cap) (lo := none) (hi := some (.int .i64 j)) (mx := some (.int .i64 k)) (l := 0) (h := j.toNat) (m := k.toNat) (w := w) (by
      unfold Instr.sliceBounds
      simp only [Sem.run_bind, Sem.run_pure, Result.andThen_ok, bound_run (y := 0) h1, bound_run (y := 0) h2])
    rw [Nat.sub_zero, Nat.sub_zero] at this
    exact run_v this) h

/- Rows that grow. -/
theorem append_own {T E sz bytes : Nat} {z : Value} [SlT P T E sz bytes z] {w : World} {v : Value} {m k : Nat} {xs ys : List Value} {c : Ch} {A : Option Addr} {cap : Nat}
    (hown : OwnS E sz v m xs c) (hm : Mem w0 w D (c :: L)) (hs : IsSl w sz A k cap ys) (h1 : ∀ u ∈ ys, u.oneCell' = true) (hb : (m + k) * bytes ≤ 140737488355328) :
    ∃ v' w' c', (Builtin.append_ #[T, T] ty #[v, .slice A k cap]).run P w = .ok v' w' ∧ OwnS E sz v' (m + k) (xs ++ ys) c' ∧ Mem w0 w' D (c' :: L) := by
  have ht := SlT.und (P := P) (T := T) (E := E) (sz := sz) (bytes := bytes) (z := z)
  have hzs := SlT.zs (P := P) (T := T) (E := E) (sz := sz) (bytes := bytes) (z := z)
  have hsz := SlT.szp (P := P) (T := T) (E := E) (sz := sz) (bytes := bytes) (z := z)
  have hby := SlT.byp (P := P) (T := T) (E := E) (sz := sz) (bytes := bytes) (z := z)
  obtain ⟨i, hi, hz, hsize, hbytes⟩ := info_parts (SlT.info (P := P) (T := T) (E := E) (sz := sz) (bytes := bytes) (z := z))
  subst hsize hbytes
  have hlen : (xs ++ ys).length = (m + k) * i.size := by rw [List.length_append, hown.1, hs.1, Nat.add_mul]
  have hmax : m + k ≤ maxLen := by
    have : m + k ≤ (m + k) * i.bytes := Nat.le_mul_of_pos_right _ hby
    unfold maxLen; omega
  have hsmall : m + k ≤ 9223372036854775807 := by unfold maxLen at hmax; omega
  rcases hs.2 with h0 | ⟨b, o, rfl, hlt, hle, hc⟩
  · subst h0
    have hy : ys = [] := List.eq_nil_of_length_eq_zero (by simpa using hs.1)
    subst hy
    refine ⟨v, w, c, ?_, by simpa using hown, hm⟩
    rcases hown.2 with ⟨rfl, rfl, _⟩ | ⟨b', cap', ext, rfl, hn, _, _, _⟩
    · cases A <;> simp [Builtin.append_, run_underlying ht, sizeOf, typeInfo, hi, Builtin.lenOf, Builtin.firstCells, loadCells, loadCellsFrom]
    · cases A <;> simp [Builtin.append_, run_underlying ht, sizeOf, typeInfo, hi, Builtin.lenOf, Builtin.firstCells, loadCells, loadCellsFrom, hn, storeCells]
  · have hnews : ∀ j u, ys[j]? = some u → w.cell? ((⟨b, o, none⟩ : Addr).add j) = some u := fun j u hu => by rw [addr_add]; exact hc j u hu
    have grown : ∀ (cap' : Nat) (r : Array Value), r.toList.take ((m + k) * i.size) = xs ++ ys → r.size = cap' * i.size → m + k ≤ cap' → cap' ≤ maxLen →
        OwnS E i.size (.slice (some ⟨w.heap.size, 0, none⟩) (m + k) cap') (m + k) (xs ++ ys) [(w.heap.size, .cells r E (0, 0))] ∧ Mem w0 (w.drew.alloc (.cells r E (0, 0))) D ([(w.heap.size, .cells r E (0, 0))] :: L) := by
      intro cap' r hr hrs hc1 hc2
      have e : xs ++ ys ++ r.toList.drop ((m + k) * i.size) = r.toList := by rw [← hr, List.take_append_drop]
      refine ⟨⟨hlen, .inr ⟨_, cap', r.toList.drop ((m + k) * i.size), rfl, hc1, hc2, by rw [e]; simpa using hrs, by rw [e]⟩⟩, ?_⟩
      exact hm.tail.drew.new _
    have ge := grownCap_ge w (m + k)
    rcases hown.2 with ⟨rfl, rfl, rfl⟩ | ⟨b', cap', ext, rfl, hn, hcm, hcs, rfl⟩
    · have hx : xs = [] := List.eq_nil_of_length_eq_zero (by simpa using hown.1)
      subst hx
      by_cases hk : k = 0
      · subst hk
        have hy : ys = [] := List.eq_nil_of_length_eq_zero (by simpa using hs.1)
        subst hy
        refine ⟨_, w, [], ?_, OwnS.nil _ _, hm⟩
        simp [Builtin.append_, run_underlying ht, sizeOf, typeInfo, hi, Builtin.lenOf, Builtin.firstCells, loadCells, loadCellsFrom]
      · have hr := run_append_nil (P := P) w T ty E i z ht hi hz ⟨b, o, none⟩ k cap ys hs.1 hnews (by omega) (by omega) (by have hb := hb; simp only [Nat.zero_add] at hb; omega)
        have hg := grown (grownCap w k 0 E) (ys.toArray ++ Builtin.zeroCells z.cells (grownCap w k 0 E - k)) (by
          simp only [Array.toList_append, Nat.zero_add, List.nil_append]; rw [← hs.1]; exact List.take_left) (by
          have := grownCap_ge w k 0 E
          simp only [Array.size_append, List.size_toArray, size_zeroCells, hzs, hs.1, ← Nat.add_mul]; congr 1; omega) (by have := grownCap_ge w k 0 E; omega) (grownCap_le_maxLen w k 0 E (by omega))
        rw [Nat.zero_add] at hg ⊢
        exact ⟨_, _, _, hr, hg.1, hg.2⟩
    · have hblk : w.heap[b']? = some (.cells (xs ++ ext).toArray E (0, 0)) := hm.head (b', .cells (xs ++ ext).toArray E (0, 0)) (by simp)
      by_cases hroom : m + k ≤ cap'
      · have hfit : m * i.size + ys.length ≤ (xs ++ ext).toArray.size := by
          rw [List.size_toArray, hcs, hs.1, ← Nat.add_mul]; exact Nat.mul_le_mul_right _ hroom
        have hr := run_append_room (P := P) w T ty E i ht hi b' m cap' _ hblk ⟨b, o, none⟩ k cap ys hs.1 hnews h1 hroom hfit
        have e : ((xs ++ ext).toArray.toList.take (m * i.size) ++ ys ++ (xs ++ ext).toArray.toList.drop (m * i.size + ys.length)) = xs ++ ys ++ ext.drop ys.length := by
          simp only [← hown.1]
          rw [List.take_left, List.drop_append]
          simp
        rw [e] at hr
        refine ⟨_, _, [(b', .cells (xs ++ ys ++ ext.drop ys.length).toArray E (0, 0))], hr, ⟨hlen, .inr ⟨b', cap', ext.drop ys.length, rfl, hroom, hcm, ?_, rfl⟩⟩, ?_⟩
        · have h2 : (m + k) * i.size ≤ cap' * i.size := Nat.mul_le_mul_right _ hroom
          have h3 := hown.1
          have h4 := hs.1
          simp only [List.length_append, List.length_drop, Nat.add_mul] at hcs h2 ⊢
          omega
        · exact hm.upd rfl rfl rfl (by simp [World.setRow]) (setRow_heap w b' _ _ E _ hblk) fun j hj _ => setRow_other w b' j _ hj
      · have holds : ∀ j u, xs[j]? = some u → w.cell? ((⟨b', 0, none⟩ : Addr).add j) = some u := fun j u hu => by
          rw [addr_add, Nat.zero_add]
          refine cell_of_cells hblk ?_
          rw [List.getElem?_append_left (by
            rcases Nat.lt_or_ge j xs.length with h | h
            · exact h
            · rw [List.getElem?_eq_none h] at hu; cases hu)]
          exact hu
        have hr := run_append_grow (P := P) w T ty E i z ht hi hz ⟨b', 0, none⟩ m cap' xs hown.1 holds ⟨b, o, none⟩ k cap ys hs.1 hnews (by omega) (by omega) (growslice_fits (by omega) hb)
        have hg := grown (grownCap w (m + k) cap' E) (xs.toArray ++ ys.toArray ++ Builtin.zeroCells z.cells (grownCap w (m + k) cap' E - (m + k))) (by
          simp only [Array.toList_append]; rw [← hlen]; exact List.take_left) (by
          have := grownCap_ge w (m + k) cap' E
          simp only [Array.size_append, List.size_toArray, size_zeroCells, hzs, hown.1, hs.1, ← Nat.add_mul]; congr 1; omega) (grownCap_ge w (m + k) cap' E) (grownCap_le_maxLen w (m + k) cap' E hmax)
        exact ⟨_, _, _, hr, hg.1, hg.2⟩
theorem append_exec {T : Nat} {s x : Operand} {w : World} {r : Result Value} (hr : (Builtin.append_ #[T, T] ty #[evn n (get g F) s, evn n (get g F) x]).run P w = r) :
    (execOp (evn n (get g F)) { dst := some d, op := .call { callee := .builtin .append, args := #[s, x], argTypes := #[T, T] }, type := ty, pos := pos, after := af, guard := none }).run P w = r.andThen fun v w => .ok (.value v) w := by
  simp only [execOp, resolve, invoke, builtin, Sem.run_bind, Sem.run_pure, Result.andThen_ok, List.map_toArray, List.map_cons, List.map_nil, hr]
theorem sx_append {T E sz bytes : Nat} {z : Value} [SlT P T E sz bytes z] {s x : Operand} {v : Value} {m k cap : Nat} {xs ys : List Value} {c : Ch} {A : Option Addr} {L' : List Ch}
    (hs : evn n (get g F) s = v) (hx : evn n (get g F) x = .slice A k cap) (hrot : Rot L (c :: L')) (hown : OwnS E sz v m xs c) (hr : ∀ w, Mem w0 w D (c :: L') → IsSl w sz A k cap ys) (h1 : ∀ u ∈ ys, u.oneCell' = true) (hb : (m + k) * bytes ≤ 140737488355328)
    (h : ∀ v' c', OwnS E sz v' (m + k) (xs ++ ys) c' → SX P w0 D n 0 ops Q rest g ((d, v') :: F) (c' :: L')) :
    SX P w0 D n 0 ops Q ({ dst := some d, op := .call { callee := .builtin .append, args := #[s, x], argTypes := #[T, T] }, type := ty, pos := pos, after := af, guard := none } :: rest) g F L :=
  .mk fun w hm => wpList_plain rfl fun K hK => by
    obtain ⟨v', w', c', e1, e2, e3⟩ := append_own (P := P) (T := T) (E := E) (sz := sz) (bytes := bytes) (z := z) (ty := ty) hown (hrot.mem hm) (hr w (hrot.mem hm)) h1 hb
    unfold Oper.wp
    rw [Fr.evn, append_exec (r := .ok v' w') (by rw [hs, hx]; exact e1)]
    show K ((Fr n (get g F)).put (some d) v') w'
    rw [Fr.put, get_put]
    exact hK _ _ ((h v' c' e2).out _ e3)
/-- .. what lies in a new piece of memory, which is forgotten then. -/
theorem sx_append1 {T E sz bytes : Nat} {z : Value} [SlT P T E sz bytes z] {s x : Operand} {v : Value} {m k cap b : Nat} {xs ys : List Value} {c : Ch} {T' : TypeId} {fr : Nat × Nat} {L' : List Ch}
    (hs : evn n (get g F) s = v) (hx : evn n (get g F) x = .slice (some ⟨b, 0, none⟩) k cap) (hrot : Rot L (c :: L')) (hown : OwnS E sz v m xs c) (hl : ys.length = k * sz) (hc : k ≤ cap) (h1 : ys.all Value.oneCell' = true) (hb : (m + k) * bytes ≤ 140737488355328)
    (h : ∀ v' c', OwnS E sz v' (m + k) (xs ++ ys) c' → SX P w0 D n 0 ops Q rest g ((d, v') :: F) (c' :: L')) :
    SX P w0 D n 0 ops Q ({ dst := some d, op := .call { callee := .builtin .append, args := #[s, x], argTypes := #[T, T] }, type := ty, pos := pos, after := af, guard := none } :: rest) g F ([(b, .cells ys.toArray T' fr)] :: L) :=
  sx_append (L' := [(b, .cells ys.toArray T' fr)] :: L') hs hx (by
      refine List.Perm.trans (List.Perm.flatten (List.Perm.swap _ _ _)) ?_
      show ([(b, Obj.cells ys.toArray T' fr)] ++ (c :: L').flatten).Perm ([(b, Obj.cells ys.toArray T' fr)] ++ L.flatten)
      exact hrot.append_left _) hown (fun w hm => by
      have hb := (rot1.mem hm).head (b, .cells ys.toArray T' fr) (by simp)
      exact ⟨hl, .inr ⟨b, 0, rfl, heap_lt hb, hc, fun i u hu => by rw [Nat.zero_add]; exact cell_of_cells hb hu⟩⟩) (fun u hu => List.all_eq_true.1 h1 u hu) hb fun v' c' ho => sx_mem (h v' c' ho) fun w hm => mem_drop1 hm

/- Literals of slices. -/
theorem foldl_sets : ∀ (vs : List Value) (j : Nat) (cs : Array Value) (off : Nat), off + j + vs.length ≤ cs.size →
    ((vs.zipIdx j).foldl (fun cs (c, j) => cs.setIfInBounds (off + j) c) cs).toList = cs.toList.take (off + j) ++ vs ++ cs.toList.drop (off + j + vs.length)
  | [], j, cs, off, _ => by simp
  | v :: vs, j, cs, off, h => by
    simp only [List.length_cons] at h
    rw [List.zipIdx_cons, List.foldl_cons, foldl_sets vs (j + 1) _ off (by simp; omega)]
    have hl : off + j < cs.toList.length := by simp; omega
    have h1 : (cs.setIfInBounds (off + j) v).toList = cs.toList.set (off + j) v := by simp
    have h2 : (cs.toList.set (off + j) v).take (off + (j + 1)) = cs.toList.take (off + j) ++ [v] := by
      rw [show off + (j + 1) = off + j + 1 by omega, List.take_set, List.take_succ_eq_append_getElem hl]
      have hk : (cs.toList.take (off + j)).length = off + j := by simp; omega
      rw [List.set_append_right _ _ (by omega), hk]; simp
    have h3 : (cs.toList.set (off + j) v).drop (off + (j + 1) + vs.length) = cs.toList.drop (off + (j + 1) + vs.length) := by rw [List.drop_set_of_lt]; omega
    rw [h1, h2, h3, List.length_cons]
    simp [Nat.add_comm 1, Nat.add_assoc, Nat.add_left_comm 1]
theorem fill_full {sz : Nat} : ∀ (vs : List Value) (j : Nat) (cs : Array Value), (∀ v ∈ vs, v.cells.size = sz) → (j + vs.length) * sz ≤ cs.size →
    ∃ r, Instr.fill (fun i => some (i * sz, sz)) cs ((List.range' j vs.length).zip vs) = some r ∧ r.toList = cs.toList.take (j * sz) ++ (vs.map fun v => v.cells.toList).flatten ++ cs.toList.drop ((j + vs.length) * sz)
  | [], j, cs, _, _ => ⟨cs, rfl, by simp⟩
  | v :: vs, j, cs, h, hl => by
    have hv := h v (by simp)
    simp only [List.length_cons] at hl
    have hm : (j + (vs.length + 1)) * sz = j * sz + sz + vs.length * sz := by rw [Nat.add_mul, Nat.add_mul]; omega
    have hf := foldl_sets v.cells.toList 0 cs (j * sz) (by simp [hv]; omega)
    have hlen : v.cells.toList.length = sz := by simp [hv]
    have hz : v.cells.zipIdx.foldl (fun cs (c, k) => cs.setIfInBounds (j * sz + k) c) cs = (v.cells.toList.zipIdx).foldl (fun cs (c, k) => cs.setIfInBounds (j * sz + k) c) cs := by
      rw [← Array.foldl_toList]; simp
    obtain ⟨r, hr, he⟩ := fill_full vs (j + 1) (v.cells.zipIdx.foldl (fun cs (c, k) => cs.setIfInBounds (j * sz + k) c) cs) (fun u hu => h u (by simp [hu])) (by
      rw [hz, ← Array.length_toList, hf]
      simp only [List.length_append, List.length_take, List.length_drop, Array.length_toList, hlen]
      rw [show j + 1 + vs.length = j + (vs.length + 1) by omega, hm]; omega)
    refine ⟨r, ?_, ?_⟩
    · rw [List.length_cons, List.range'_succ, List.zip_cons_cons, Instr.fill]
      simp only [hv]
      rw [if_neg (by simp; omega)]
      exact hr
    · rw [he, hz, hf]
      simp only [Nat.add_zero, hlen, List.map_cons, List.flatten_cons, List.length_cons]
      have e1 : (cs.toList.take (j * sz) ++ v.cells.toList ++ cs.toList.drop (j * sz + sz)).take ((j + 1) * sz) = cs.toList.take (j * sz) ++ v.cells.toList := by
        refine List.take_left' ?_
        simp only [List.length_append, List.length_take, Array.length_toList, hlen, Nat.add_mul]; omega
      have e2 : (cs.toList.take (j * sz) ++ v.cells.toList ++ cs.toList.drop (j * sz + sz)).drop ((j + 1 + vs.length) * sz) = cs.toList.drop ((j + (vs.length + 1)) * sz) := by
        rw [List.drop_append, List.drop_eq_nil_of_le (by
          simp only [List.length_append, List.length_take, Array.length_toList, hlen, Nat.add_mul]; omega)]
        rw [List.nil_append, List.drop_drop]
        congr 1
        simp only [List.length_append, List.length_take, Array.length_toList, hlen, Nat.add_mul]
        omega
      rw [e1, e2]
      simp [List.append_assoc]
def idxs : Nat → List (Nat × Operand) → Bool
  | _, [] => true
  | k, (i, _) :: l => Nat.beq i k && idxs (k + 1) l
theorem idxs_zip (f : Operand → Value) : ∀ (l : List (Nat × Operand)) (k : Nat), idxs k l = true → l.map (fun p => (p.1, f p.2)) = (List.range' k (l.map fun p => f p.2).length).zip (l.map fun p => f p.2)
  | [], _, _ => rfl
  | (i, x) :: l, k, h => by
    simp only [idxs, Bool.and_eq_true] at h
    have hk : i = k := Nat.eq_of_beq_eq_true h.1
    subst hk
    rw [List.map_cons, List.map_cons, List.length_cons, List.range'_succ, List.zip_cons_cons, idxs_zip f l (i + 1) h.2]
def pcells (n : Nat) (f : Nat → Value) : List (Nat × Operand) → List Value
  | [] => []
  | (_, x) :: l => (evn n f x).cells.toList ++ pcells n f l
def psizes (n sz : Nat) (f : Nat → Value) : List (Nat × Operand) → Bool
  | [] => true
  | (_, x) :: l => Nat.beq (evn n f x).cells.size sz && psizes n sz f l
theorem pcells_eq (n : Nat) (f : Nat → Value) : ∀ l, ((l.map fun p => evn n f p.2).map fun v => v.cells.toList).flatten = pcells n f l
  | [] => rfl
  | (_, x) :: l => by rw [List.map_cons, List.map_cons, List.flatten_cons, pcells_eq n f l]; rfl
theorem psizes_eq {n sz : Nat} {f : Nat → Value} : ∀ {l : List (Nat × Operand)}, psizes n sz f l = true → ∀ v ∈ l.map (fun p => evn n f p.2), v.cells.size = sz
  | [], _, v, hv => by cases hv
  | (_, x) :: l, h, v, hv => by
    simp only [psizes, Bool.and_eq_true] at h
    rw [List.map_cons, List.mem_cons] at hv
    rcases hv with rfl | hv
    · exact Nat.eq_of_beq_eq_true h.1
    · exact psizes_eq h.2 v hv
theorem sx_buildS {T E sz bytes len : Nat} {z : Value} [SlT P T E sz bytes z] {ps : List (Nat × Operand)} (cs : List Value) (hi : idxs 0 ps = true) (hn : Nat.beq ps.length len = true) (hs : psizes n sz (get g F) ps = true) (hc : pcells n (get g F) ps = cs)  (hle : Nat.ble (len * sz) 16777216 = true)
    (h : ∀ b, SX P w0 D n 0 ops Q rest g ((d, .slice (some ⟨b, 0, none⟩) len len) :: F) ([(b, .cells cs.toArray E (0, 0))] :: L)) :
    SX P w0 D n 0 ops Q ({ dst := some d, op := .buildSlice T len ps.toArray, type := ty, pos := pos, after := af, guard := none } :: rest) g F L :=
  .mk fun w hm => wpList_plain rfl fun K hK => by
    have ht := SlT.und (P := P) (T := T) (E := E) (sz := sz) (bytes := bytes) (z := z)
    obtain ⟨i, hif, hzi, hsize, _⟩ := info_parts (SlT.info (P := P) (T := T) (E := E) (sz := sz) (bytes := bytes) (z := z))
    have h2 : (sizeOf E).run P w = .ok sz w := by simp [sizeOf, typeInfo, hif, hsize, go_sem]
    have h3 : (zeroValue E).run P w = .ok z w := by simp [zeroValue, typeInfo, hif, hzi, go_sem]
    have hlen : ps.length = len := Nat.eq_of_beq_eq_true hn
    have hle' : len * sz ≤ 16777216 := Nat.le_of_ble_eq_true hle
    have hzz : z.cells.size = sz := SlT.zs (P := P) (T := T) (E := E) (bytes := bytes)
    have hfill : ∀ A : Array Value, A.size = len * sz → Instr.fill (fun i => some (i * sz, sz)) A (ps.map fun p => (p.1, evn n (get g F) p.2)) = some cs.toArray := by
      intro A hA
      obtain ⟨r, hr, he⟩ := fill_full (sz := sz) (ps.map fun p => evn n (get g F) p.2) 0 A (psizes_eq hs) (by simp [hlen, hA])
      rw [idxs_zip _ ps 0 hi, hr]
      congr 1
      rw [← Array.toList_inj, he, pcells_eq, hc]
      simp [hlen, hA]
    have hrun : (Instr.buildSlice T len ((ps.map fun p => (p.1, evn n (get g F) p.2)).toArray)).run P w = .ok (.slice (some ⟨w.heap.size, 0, none⟩) len len) (w.alloc (.cells cs.toArray E (0, 0))) := by
      unfold Instr.buildSlice
      rw [Sem.run_bind, run_underlying ht]
      show (sizeOf E >>= _).run P w = _
      rw [Sem.run_bind, h2]
      dsimp only [Result.andThen_ok]
      rw [if_neg (by omega)]
      by_cases h0 : len * sz = 0
      · rw [if_pos h0]
        have := hfill ((Array.range (len * sz)).map fun x => (#[] : Array Value)[x % (#[] : Array Value).size]!) (by simp)
        show (match Instr.fill (fun i => some (i * sz, sz)) ((Array.range (len * sz)).map fun x => (#[] : Array Value)[x % (#[] : Array Value).size]!) _ with | some cells => _ | _ => _ : Sem Value).run P w = _
        rw [this]; rfl
      · rw [if_neg h0]
        rw [Sem.run_bind, h3]
        have := hfill ((Array.range (len * sz)).map fun x => z.cells[x % z.cells.size]!) (by simp)
        show (match Instr.fill (fun i => some (i * sz, sz)) ((Array.range (len * sz)).map fun x => z.cells[x % z.cells.size]!) _ with | some cells => _ | _ => _ : Sem Value).run P w = _
        rw [this]; rfl
    unfold Oper.wp
    rw [Fr.evn]
    have hx : (execOp (evn n (get g F)) { dst := some d, op := .buildSlice T len ps.toArray, type := ty, pos := pos, after := af, guard := none }).run P w = .ok (.value (.slice (some ⟨w.heap.size, 0, none⟩) len len)) (w.alloc (.cells cs.toArray E (0, 0))) := by
      show ((do pure (Next.value (← Instr.buildSlice T len (ps.toArray.map fun p => (p.1, evn n (get g F) p.2))))) : Sem Next).run P w = _
      rw [List.map_toArray]
      exact run_v hrun
    rw [hx, Oper.upon_value, Fr.put, get_put]
    exact hK _ _ ((h w.heap.size).out _ (hm.new _))

/- Conversions. -/
theorem sx_conv {S T : Nat} {k k' : IntKind} [IntT P S k'] [IntT P T k] {x : Operand} {a : Int} (hx : evn n (get g F) x = .int k' a) (h : SX P w0 D n q ops Q rest g ((d, .int k (k.wrap a)) :: F) L) :
    SX P w0 D n q ops Q ({ dst := some d, op := .convert S T x, type := ty, pos := pos, after := af, guard := none } :: rest) g F L :=
  sx_run _ rfl rfl (fun w _ => by
    show ((do pure (Next.value (← convert S T (evn n (get g F) x)))) : Sem Next).run P w = _
    rw [hx]
    refine run_v ?_
    unfold convert
    rw [Sem.run_bind, run_underlying IntT.und]
    show (underlying T >>= _).run P w = _
    rw [Sem.run_bind, run_underlying IntT.und]
    rfl) h
theorem sx_convIn {S T : Nat} {k' : IntKind} [IntT P S k'] [IntT P T .i64] {x : Operand} {a : Int} (hx : evn n (get g F) x = .int k' a) (hb : -9223372036854775808 ≤ a ∧ a ≤ 9223372036854775807) (h : SX P w0 D n q ops Q rest g ((d, .int .i64 a) :: F) L) :
    SX P w0 D n q ops Q ({ dst := some d, op := .convert S T x, type := ty, pos := pos, after := af, guard := none } :: rest) g F L :=
  sx_conv hx (by rw [IntWalk.i64_in _ hb]; exact h)
theorem sx_convU8 {S T : Nat} {k' : IntKind} [IntT P S k'] [IntT P T .u8] {x : Operand} {a : Int} (hx : evn n (get g F) x = .int k' a) (hb : 0 ≤ a ∧ a ≤ 255) (h : SX P w0 D n q ops Q rest g ((d, .int .u8 a) :: F) L) :
    SX P w0 D n q ops Q ({ dst := some d, op := .convert S T x, type := ty, pos := pos, after := af, guard := none } :: rest) g F L :=
  sx_conv hx (by rw [IntWalk.u8_in _ hb]; exact h)
theorem sx_convU8m {S T : Nat} {k' : IntKind} [IntT P S k'] [IntT P T .u8] {x : Operand} {a : Int} (hx : evn n (get g F) x = .int k' a) (h : SX P w0 D n q ops Q rest g ((d, .int .u8 (a % 256)) :: F) L) :
    SX P w0 D n q ops Q ({ dst := some d, op := .convert S T x, type := ty, pos := pos, after := af, guard := none } :: rest) g F L :=
  sx_conv hx (by rw [IntKind.wrap_u8]; exact h)
theorem sx_convU32m {S T : Nat} {k' : IntKind} [IntT P S k'] [IntT P T .u32] {x : Operand} {a : Int} (hx : evn n (get g F) x = .int k' a) (h : SX P w0 D n q ops Q rest g ((d, .int .u32 (a % 4294967296)) :: F) L) :
    SX P w0 D n q ops Q ({ dst := some d, op := .convert S T x, type := ty, pos := pos, after := af, guard := none } :: rest) g F L :=
  sx_conv hx (by rw [IntKind.wrap_u32]; exact h)
theorem sx_convU64m {S T : Nat} {k' : IntKind} [IntT P S k'] [IntT P T .u64] {x : Operand} {a : Int} (hx : evn n (get g F) x = .int k' a) (h : SX P w0 D n q ops Q rest g ((d, .int .u64 (a % 18446744073709551616)) :: F) L) :
    SX P w0 D n q ops Q ({ dst := some d, op := .convert S T x, type := ty, pos := pos, after := af, guard := none } :: rest) g F L :=
  sx_conv hx (by rw [IntKind.wrap_u64]; exact h)
end
end Go.Port
/- Steps of a call: literals of structs, places of arrays, what callers tell, signs. No program here. -/
set_option linter.unusedSimpArgs false
set_option linter.unusedVariables false
namespace Go.Port
open Go.RowKit

/-- A literal of a struct: where its fields are, what it holds at first. -/
class BldT (P : Program) (T : Nat) (places : outParam (List (Nat × Nat))) (zero : outParam (List Value)) : Prop where
  blt : ∀ parts, P.built T parts = Instr.fill (places.toArray[·]?) zero.toArray parts
class ArT (P : Program) (T : Nat) (len E sz : outParam Nat) : Prop where
  und : P.underlying T = some (.array len E)
  size_run : ∀ w, (sizeOf E).run P w = .ok sz w
/-- What a literal comes to. -/
def bldL (pl : List (Nat × Nat)) : List Value → List (Nat × Value) → Option (List Value)
  | cs, [] => some cs
  | cs, (i, v) :: r => match pl[i]? with
    | none => none
    | some (off, sz) => bif Nat.beq v.cells.size sz && Nat.ble (off + sz) cs.length then bldL pl (splice cs off v.cells.toList) r else none
theorem foldl_splice : ∀ (vs : List Value) (j off : Nat) (cs : List Value), (vs.zipIdx j).foldl (fun (cs : Array Value) (c, j) => cs.setIfInBounds (off + j) c) cs.toArray = (splice cs (off + j) vs).toArray
  | [], _, _, _ => rfl
  | v :: vs, j, off, cs => by
    rw [List.zipIdx_cons, List.foldl_cons, splice]
    simp only [List.setIfInBounds_toArray]
    rw [foldl_splice vs (j + 1) off]
    rfl
theorem fill_bldL (pl : List (Nat × Nat)) : ∀ (ps : List (Nat × Value)) (cs cs' : List Value), bldL pl cs ps = some cs' → Instr.fill (pl.toArray[·]?) cs.toArray ps = some cs'.toArray
  | [], cs, cs', h => by simp only [bldL, Option.some.injEq] at h; subst h; rfl
  | (i, v) :: r, cs, cs', h => by
    unfold bldL at h
    unfold Instr.fill
    rw [List.getElem?_toArray]
    cases hp : pl[i]? with
    | none => rw [hp] at h; cases h
    | some p =>
      obtain ⟨off, sz⟩ := p
      rw [hp] at h
      dsimp only at h ⊢
      cases hb : Nat.beq v.cells.size sz && Nat.ble (off + sz) cs.length with
      | false => rw [hb] at h; cases h
      | true =>
        rw [hb] at h
        simp only [Bool.and_eq_true] at hb
        have h1 : v.cells.size = sz := Nat.eq_of_beq_eq_true hb.1
        have h2 : off + sz ≤ cs.length := Nat.le_of_ble_eq_true hb.2
        rw [if_neg (by simp [h1]; omega), ← Array.foldl_toList, Array.toList_zipIdx, foldl_splice]
        exact fill_bldL pl r _ cs' h
def pvals (n : Nat) (f : Nat → Value) : List (Nat × Operand) → List (Nat × Value)
  | [] => []
  | (i, x) :: l => (i, evn n f x) :: pvals n f l
theorem pvals_eq (n : Nat) (f : Nat → Value) : ∀ l : List (Nat × Operand), l.map (fun p => (p.1, evn n f p.2)) = pvals n f l
  | [] => rfl
  | (i, x) :: l => by rw [List.map_cons, pvals_eq n f l]; rfl
/-- The bodies of the loops, in order. -/
def loopsOf : Code → List Code
  | .seq a b => loopsOf a ++ loopsOf b
  | .cond _ a b => loopsOf a ++ loopsOf b
  | .block _ a => loopsOf a
  | .loop c => c :: loopsOf c
  | _ => []
def loopAt (k : Nat) (f : Func) : Code := (loopsOf (f.body.getD .skip)).getD k .skip
/-- Pieces of memory, taken out one by one: the place of each in what is left. -/
def picks : List Ch → List Nat → List Ch
  | _, [] => []
  | L, i :: is => match L[i]? with
    | some c => c :: picks (L.eraseIdx i) is
    | none => []
theorem picks_perm : ∀ (is : List Nat) (L : List Ch), ∃ R, (picks L is ++ R).Perm L
  | [], L => ⟨L, .refl _⟩
  | i :: is, L => by
    unfold picks
    cases h : L[i]? with
    | none => exact ⟨L, .refl _⟩
    | some c =>
      obtain ⟨hi, rfl⟩ := List.getElem?_eq_some_iff.1 h
      obtain ⟨R, hR⟩ := picks_perm is (L.eraseIdx i)
      have hp : (L[i] :: L.eraseIdx i).Perm L := by
        rw [List.eraseIdx_eq_take_drop_succ]
        refine List.perm_middle.symm.trans ?_
        rw [← List.drop_eq_getElem_cons hi, List.take_append_drop]
      exact ⟨R, (List.Perm.cons _ hR).trans hp⟩
theorem Mem.picks {w0 w : World} {D : List Nat} {L : List Ch} (h : Mem w0 w D L) (is : List Nat) : Mem w0 w D (Port.picks L is) := by
  obtain ⟨R, hR⟩ := picks_perm is L
  exact (h.permL hR).drop
/-- A block that is told. -/
theorem Mem.blk {w0 w : World} {D : List Nat} {L : List Ch} (h : Mem w0 w D L) (i : Nat) {b : Nat} {o : Obj} (hL : L[i]? = some [(b, o)]) : w.heap[b]? = some o := h.at i hL (b, o) (by simp)
theorem Mem.old0 {w0 w : World} {L : List Ch} {b : Nat} {o : Obj} (h : Mem w0 w [] L) (hb : w0.heap[b]? = some o) : w.heap[b]? = some o := by
  rw [h.old b (heap_lt hb) (by simp)]; exact hb

section
variable {P : Program} {w0 : World} {D : List Nat} {n q : Nat} {ops : Array Oper} {Q : Exit → Act → World → Prop} {g : Nat → Value} {F : List (Nat × Value)} {L : List Ch}
variable {rest : List Oper} {ty : TypeId} {pos : String} {af : Array Edge} {d : Nat}
theorem sx_build {T : Nat} {places : List (Nat × Nat)} {zero : List Value} [BldT P T places zero] {ps : List (Nat × Operand)} (cs : List Value) (hc : bldL places zero (pvals n (get g F) ps) = some cs) (h : SX P w0 D n q ops Q rest g ((d, .agg cs.toArray) :: F) L) :
    SX P w0 D n q ops Q ({ dst := some d, op := .build T ps.toArray, type := ty, pos := pos, after := af, guard := none } :: rest) g F L :=
  sx_run _ rfl rfl (fun w _ => by
    show ((do pure (Next.value (← Instr.build T (ps.toArray.map fun p => (p.1, evn n (get g F) p.2))))) : Sem Next).run P w = _
    refine run_v ?_
    rw [List.map_toArray, pvals_eq]
    exact run_build w T _ _ (by rw [BldT.blt]; exact fill_bldL places _ _ cs hc)) h
theorem at_build {T : TypeId} {ps : Array (Nat × Operand)} (h : SX P w0 D n q ops Q ({ dst := some d, op := .build T ps, type := ty, pos := pos, after := af, guard := none } :: rest) g F L) : SX P w0 D n q ops Q ({ dst := some d, op := .build T ps, type := ty, pos := pos, after := af, guard := none } :: rest) g F L := h
theorem sx_nilCheck {x : Operand} {a : Addr} (hx : evn n (get g F) x = .pointer (some a)) (h : SX P w0 D n q ops Q rest g ((d, .pointer (some a)) :: F) L) :
    SX P w0 D n q ops Q ({ dst := some d, op := .nilCheck x, type := ty, pos := pos, after := af, guard := none } :: rest) g F L :=
  sx_run _ rfl rfl (fun w _ => by simp only [execOp, hx]; rfl) h
/-- What lay there from the beginning. -/
theorem sx_loadB {T sz : Nat} [TyT P T sz false] {x : Operand} {b off : Nat} {cs : List Value} {T' : TypeId} {fr : Nat × Nat} {v : Value} (hx : evn n (get g F) x = .pointer (some ⟨b, off, none⟩)) (hb : w0.heap[b]? = some (.cells cs.toArray T' fr)) (hv : cs[off]? = some v)
    (h : SX P w0 [] n q ops Q rest g ((d, v) :: F) L) : SX P w0 [] n q ops Q ({ dst := some d, op := .load T x, type := ty, pos := pos, after := af, guard := none } :: rest) g F L :=
  sx_loadM hx (fun _ hm => cell_of_cells (hm.old0 hb) hv) h
theorem sx_loadBW {T sz : Nat} [TyT P T sz true] {x : Operand} {b : Nat} {cs : List Value} {T' : TypeId} {fr : Nat × Nat} (hx : evn n (get g F) x = .pointer (some ⟨b, 0, none⟩)) (hb : w0.heap[b]? = some (.cells cs.toArray T' fr)) (hl : cs.length = sz)
    (h : SX P w0 [] n q ops Q rest g ((d, .agg cs.toArray) :: F) L) : SX P w0 [] n q ops Q ({ dst := some d, op := .load T x, type := ty, pos := pos, after := af, guard := none } :: rest) g F L :=
  sx_loadMA hx hl (fun _ hm j v hj => cell_of_cells (hm.old0 hb) (by rw [Nat.zero_add]; exact hj)) h
theorem sx_neg {x : Operand} {a : Int} {t1 : TypeId} (hx : evn n (get g F) x = .int .i64 a) (hb : -9223372036854775808 ≤ -a ∧ -a ≤ 9223372036854775807) (h : SX P w0 D n q ops Q rest g ((d, .int .i64 (-a)) :: F) L) :
    SX P w0 D n q ops Q ({ dst := some d, op := .unOp .neg t1 x, type := ty, pos := pos, after := af, guard := none } :: rest) g F L :=
  sx_run (.int .i64 (-a)) rfl rfl (fun w _ => by simp only [execOp, hx, Op.unary, Op.intArith, Int.zero_sub, IntWalk.i64_in _ hb]; rfl) h
/-- The rest, of any number. -/
theorem sx_remT {x y : Operand} {a b : Int} {t1 t2 : TypeId} (hx : evn n (get g F) x = .int .i64 a) (hy : evn n (get g F) y = .int .i64 b) (hb : 0 < b) (h : SX P w0 D n q ops Q rest g ((d, .int .i64 (a.tmod b)) :: F) L) :
    SX P w0 D n q ops Q ({ dst := some d, op := .binOp .rem t1 x y t2, type := ty, pos := pos, after := af, guard := none } :: rest) g F L :=
  sx_run (.int .i64 (a.tmod b)) rfl rfl (fun w _ => by
    have h3 : ¬ b = 0 := by omega
    simp only [execOp, hx, hy, eqGuard, binOp, Op.intDiv, if_neg h3]; rfl) h
theorem sx_min {x y : Operand} {k : IntKind} {a b : Int} {ts : Array TypeId} (hx : evn n (get g F) x = .int k a) (hy : evn n (get g F) y = .int k b) (h : SX P w0 D n q ops Q rest g ((d, .int k (min a b)) :: F) L) :
    SX P w0 D n q ops Q ({ dst := some d, op := .call { callee := .builtin .min, args := #[x, y], argTypes := ts }, type := ty, pos := pos, after := af, guard := none } :: rest) g F L :=
  sx_run _ rfl rfl (fun w _ => by
    have e : (if b < a then b else a) = min a b := by omega
    rw [← e]
    simp [execOp, resolve, hx, hy, invoke, builtin, Builtin.min_, Builtin.min2, go_sem]) h
theorem sx_max {x y : Operand} {k : IntKind} {a b : Int} {ts : Array TypeId} (hx : evn n (get g F) x = .int k a) (hy : evn n (get g F) y = .int k b) (h : SX P w0 D n q ops Q rest g ((d, .int k (max a b)) :: F) L) :
    SX P w0 D n q ops Q ({ dst := some d, op := .call { callee := .builtin .max, args := #[x, y], argTypes := ts }, type := ty, pos := pos, after := af, guard := none } :: rest) g F L :=
  sx_run _ rfl rfl (fun w _ => by
    have e : (if a < b then b else a) = max a b := by omega
    rw [← e]
    simp [execOp, resolve, hx, hy, invoke, builtin, Builtin.max_, Builtin.max2, go_sem]) h
/-- A place of an array. -/
theorem sx_place {T len E sz : Nat} [ArT P T len E sz] {x y : Operand} {b o : Nat} {i : Int} (k : Nat) (hx : evn n (get g F) x = .pointer (some ⟨b, o, none⟩)) (hy : evn n (get g F) y = .int .i64 i) (hi : 0 ≤ i ∧ i < len) (hk : o + i.toNat * sz = k)
    (h : SX P w0 D n q ops Q rest g ((d, .pointer (some ⟨b, k, none⟩)) :: F) L) :
    SX P w0 D n q ops Q ({ dst := some d, op := .indexAddr T x y, type := ty, pos := pos, after := af, guard := none } :: rest) g F L :=
  sx_run _ rfl rfl (fun w _ => by
    have h1 := ArT.und (P := P) (T := T) (len := len) (E := E) (sz := sz)
    have h2 := ArT.size_run (P := P) (T := T) (len := len) (E := E) (sz := sz) w
    show ((do pure (Next.value (← Instr.indexAt T (evn n (get g F) x) (evn n (get g F) y)))) : Sem Next).run P w = _
    rw [hx, hy]
    refine run_v ?_
    subst hk
    simp [Instr.indexAt, Instr.sureAddr, asIntOf, run_underlying h1, hi.1, hi.2, h2, addr_add, go_sem]) h
theorem at_ixaddr {T : TypeId} {x y : Operand} (h : SX P w0 D n q ops Q ({ dst := some d, op := .indexAddr T x y, type := ty, pos := pos, after := af, guard := none } :: rest) g F L) : SX P w0 D n q ops Q ({ dst := some d, op := .indexAddr T x y, type := ty, pos := pos, after := af, guard := none } :: rest) g F L := h
theorem ffr {f : Nat → Value} {l : List (Nat × Value)} (h : FF f l := by repeat (first | exact trivial | refine And.intro rfl ?_)) : FF f l := h
/-- To stop. -/
def Halt (p : Prop) : Prop := p
attribute [irreducible] Halt
theorem halt_go {p : Prop} (h : p) : Halt p := by unfold Halt; exact h
theorem halt_of {p : Prop} (h : Halt p) : p := by unfold Halt at h; exact h
/-- .. ahead of a region. -/
theorem stop_r (id : Nat) {l : Array Oper} {b : Bool} (h : Halt (CX P w0 D n Q (.region id l b) g F L)) : CX P w0 D n Q (.region id l b) g F L := halt_of h
theorem stop_rs (id : Nat) {l : Array Oper} {b : Bool} {y : Code} (h : Halt (CX P w0 D n Q (.seq (.region id l b) y) g F L)) : CX P w0 D n Q (.seq (.region id l b) y) g F L := halt_of h
theorem stop_rss (id : Nat) {l : Array Oper} {b : Bool} {y z : Code} (h : Halt (CX P w0 D n Q (.seq (.seq (.region id l b) y) z) g F L)) : CX P w0 D n Q (.seq (.seq (.region id l b) y) z) g F L := halt_of h
end
end Go.Port
/- Steps of a call: shifts, and, or, and not; what is copied onto rows; new rows. No program here. -/
set_option linter.unusedSimpArgs false
set_option linter.unusedVariables false
namespace Go.Port
open Go.RowKit

theorem toNat_i64 {a : Int} (h : 0 ≤ a ∧ a ≤ 9223372036854775807) : (BitVec.ofInt 64 a).toNat = a.toNat := by
  obtain ⟨m, rfl⟩ := Int.eq_ofNat_of_zero_le h.1
  rw [BitVec.ofInt_natCast, BitVec.toNat_ofNat]
  exact Nat.mod_eq_of_lt (by omega)
theorem fdiv_pos {a b : Int} (hb : 0 < b) : a.fdiv b = a / b := Int.fdiv_eq_ediv_of_nonneg a (by omega)
section
variable {P : Program} {w0 : World} {D : List Nat} {n q : Nat} {ops : Array Oper} {Q : Exit → Act → World → Prop} {g : Nat → Value} {F : List (Nat × Value)} {L : List Ch}
variable {rest : List Oper} {ty : TypeId} {pos : String} {af : Array Edge} {d : Nat}
theorem sx_shr {x y : Operand} {k : IntKind} {a b : Int} {t1 t2 : TypeId} (hx : evn n (get g F) x = .int .i64 a) (hy : evn n (get g F) y = .int k b) (hb : 0 ≤ b ∧ b ≤ 64) (h : SX P w0 D n q ops Q rest g ((d, .int .i64 (a / 2 ^ b.toNat)) :: F) L) :
    SX P w0 D n q ops Q ({ dst := some d, op := .binOp .shr t1 x y t2, type := ty, pos := pos, after := af, guard := none } :: rest) g F L :=
  sx_run (.int .i64 (a / 2 ^ b.toNat)) rfl rfl (fun w _ => by
    have h3 : ¬ b < 0 := by omega
    have h4 : min b.toNat IntKind.i64.bits = b.toNat := by
      have : IntKind.i64.bits = 64 := rfl
      rw [this]; omega
    have h5 : (0 : Int) < 2 ^ b.toNat := Int.pow_pos (by decide)
    simp only [execOp, hx, hy, eqGuard, binOp, Op.shift, if_neg h3, h4, fdiv_pos h5]; rfl) h
theorem sx_shl8 {x y : Operand} {k : IntKind} {a : Int} {t1 t2 : TypeId} (hx : evn n (get g F) x = .int .i64 a) (hy : evn n (get g F) y = .int k 8) (hb : -36028797018963968 ≤ a ∧ a ≤ 36028797018963967) (h : SX P w0 D n q ops Q rest g ((d, .int .i64 (a * 256)) :: F) L) :
    SX P w0 D n q ops Q ({ dst := some d, op := .binOp .shl t1 x y t2, type := ty, pos := pos, after := af, guard := none } :: rest) g F L :=
  sx_run (.int .i64 (a * 256)) rfl rfl (fun w _ => by
    have h3 : ¬ (8 : Int) < 0 := by omega
    have h4 : min (8 : Int).toNat IntKind.i64.bits = 8 := rfl
    have h5 : (2 : Int) ^ 8 = 256 := rfl
    simp only [execOp, hx, hy, eqGuard, binOp, Op.shift, if_neg h3, h4, h5, IntWalk.i64_in _ (by omega : -9223372036854775808 ≤ a * 256 ∧ a * 256 ≤ 9223372036854775807)]; rfl) h
/-- 'or' of a number that ends in eight noughts, and a byte. -/
theorem sx_or8 {x y : Operand} {a b : Int} {t1 t2 : TypeId} (hx : evn n (get g F) x = .int .i64 (a * 256)) (hy : evn n (get g F) y = .int .i64 b) (hb : (0 ≤ a ∧ a ≤ 36028797018963967) ∧ 0 ≤ b ∧ b ≤ 255) (h : SX P w0 D n q ops Q rest g ((d, .int .i64 (a * 256 + b)) :: F) L) :
    SX P w0 D n q ops Q ({ dst := some d, op := .binOp .or t1 x y t2, type := ty, pos := pos, after := af, guard := none } :: rest) g F L :=
  sx_run (.int .i64 (a * 256 + b)) rfl rfl (fun w _ => by
    have h1 := or_byte a b hb.1.1 hb.1.2 hb.2.1 hb.2.2
    have h2 : ∀ x y, (Op.intBits .or .i64 x y : Sem Value) = pure (.int .i64 (bits .or .i64 x y)) := fun _ _ => rfl
    simp only [execOp, hx, hy, eqGuard, binOp, h2, h1]; rfl) h
def andI (a b : Int) : Int := ((a.toNat &&& b.toNat : Nat) : Int)
def orI (a b : Int) : Int := ((a.toNat ||| b.toNat : Nat) : Int)
theorem sx_bits {o : BinOp} {x y : Operand} {a b r : Int} {t1 t2 : TypeId} (hx : evn n (get g F) x = .int .i64 a) (hy : evn n (get g F) y = .int .i64 b) (ho : o = .and ∨ o = .or ∨ o = .andNot) (hr : (Op.intBits o .i64 a b : Sem Value) = pure (.int .i64 r)) (h : SX P w0 D n q ops Q rest g ((d, .int .i64 r) :: F) L) :
    SX P w0 D n q ops Q ({ dst := some d, op := .binOp o t1 x y t2, type := ty, pos := pos, after := af, guard := none } :: rest) g F L :=
  sx_run (.int .i64 r) rfl rfl (fun w _ => by
    rcases ho with rfl | rfl | rfl <;> (simp only [execOp, hx, hy, eqGuard, binOp, hr]; rfl)) h
theorem intBits_and {a b : Int} (ha : 0 ≤ a ∧ a ≤ 9223372036854775807) (hb : 0 ≤ b ∧ b ≤ 9223372036854775807) : (Op.intBits .and .i64 a b : Sem Value) = pure (.int .i64 (andI a b)) := by
  have h1 : a = (a.toNat : Int) := by omega
  have h2 : b = (b.toNat : Int) := by omega
  have h3 := and_i64 a.toNat b.toNat (by omega) (by omega)
  rw [← h1, ← h2] at h3
  show pure (Value.int .i64 (bits .and .i64 a b)) = _
  rw [h3]; rfl
theorem intBits_or {a b : Int} (ha : 0 ≤ a ∧ a ≤ 9223372036854775807) (hb : 0 ≤ b ∧ b ≤ 9223372036854775807) : (Op.intBits .or .i64 a b : Sem Value) = pure (.int .i64 (orI a b)) := by
  have h1 : a = (a.toNat : Int) := by omega
  have h2 : b = (b.toNat : Int) := by omega
  have h3 := or_i64 a.toNat b.toNat (by omega) (by omega)
  rw [← h1, ← h2] at h3
  show pure (Value.int .i64 (bits .or .i64 a b)) = _
  rw [h3]; rfl
/-- The lower fifteen bits of a word. -/
theorem intBits_not15 {a : Int} (ha : 0 ≤ a ∧ a ≤ 65535) : (Op.intBits .andNot .i64 a 32768 : Sem Value) = pure (.int .i64 (a % 32768)) := by
  have h1 := toNat_i64 (a := a) (by omega)
  have h2 : (BitVec.ofInt 64 a &&& ~~~ BitVec.ofInt 64 32768).toNat = a.toNat % 32768 := by
    have hlt : (BitVec.ofInt 64 a) < 65536#64 := by rw [BitVec.lt_def, h1]; show a.toNat < 65536; omega
    have e : BitVec.ofInt 64 a &&& ~~~ BitVec.ofInt 64 32768 = BitVec.ofInt 64 a &&& 32767#64 := by
      ext i hi
      simp only [BitVec.getElem_and, BitVec.getElem_not]
      by_cases hi16 : i < 16
      · have : i = 0 ∨ i = 1 ∨ i = 2 ∨ i = 3 ∨ i = 4 ∨ i = 5 ∨ i = 6 ∨ i = 7 ∨ i = 8 ∨ i = 9 ∨ i = 10 ∨ i = 11 ∨ i = 12 ∨ i = 13 ∨ i = 14 ∨ i = 15 := by omega
        rcases this with rfl | rfl | rfl | rfl | rfl | rfl | rfl | rfl | rfl | rfl | rfl | rfl | rfl | rfl | rfl | rfl <;> exact congrArg (fun z => (BitVec.ofInt 64 a)[_] && z) (by decide +revert)
      · have : (BitVec.ofInt 64 a)[i] = false := by
          rw [BitVec.getElem_eq_testBit_toNat, h1]
          exact Nat.testBit_lt_two_pow (Nat.lt_of_lt_of_le (by omega : a.toNat < 2 ^ 16) (Nat.pow_le_pow_right (by decide) (by omega)))
        rw [this]; simp
    rw [e, BitVec.toNat_and, h1]
    show a.toNat &&& 32767 = _
    exact Nat.and_two_pow_sub_one_eq_mod a.toNat 15
  show pure (Value.int .i64 (IntKind.i64.wrap ((BitVec.ofInt 64 a &&& ~~~ BitVec.ofInt 64 32768).toNat : Int))) = _
  rw [h2, IntWalk.i64_in _ (by omega)]
  congr 2; omega
theorem intBits_or15 {a : Int} (ha : 0 ≤ a ∧ a < 32768) : (Op.intBits .or .i64 a 32768 : Sem Value) = pure (.int .i64 (a + 32768)) := by
  rw [intBits_or (by omega) (by omega)]
  congr 2
  have h1 : a.toNat ||| 32768 = 32768 + a.toNat := by
    have := Nat.two_pow_add_eq_or_of_lt (i := 15) (b := a.toNat) (by omega) 1
    rw [Nat.or_comm]; simpa using this.symm
  show ((a.toNat ||| (32768 : Int).toNat : Nat) : Int) = _
  rw [show (32768 : Int).toNat = 32768 from rfl, h1]; omega
theorem sx_andI {x y : Operand} {a b : Int} {t1 t2 : TypeId} (hx : evn n (get g F) x = .int .i64 a) (hy : evn n (get g F) y = .int .i64 b) (hb : (0 ≤ a ∧ a ≤ 9223372036854775807) ∧ 0 ≤ b ∧ b ≤ 9223372036854775807) (h : SX P w0 D n q ops Q rest g ((d, .int .i64 (andI a b)) :: F) L) :
    SX P w0 D n q ops Q ({ dst := some d, op := .binOp .and t1 x y t2, type := ty, pos := pos, after := af, guard := none } :: rest) g F L := sx_bits hx hy (by simp) (intBits_and hb.1 hb.2) h
theorem sx_or15 {x y : Operand} {a : Int} {t1 t2 : TypeId} (hx : evn n (get g F) x = .int .i64 a) (hy : evn n (get g F) y = .int .i64 32768) (hb : 0 ≤ a ∧ a < 32768) (h : SX P w0 D n q ops Q rest g ((d, .int .i64 (a + 32768)) :: F) L) :
    SX P w0 D n q ops Q ({ dst := some d, op := .binOp .or t1 x y t2, type := ty, pos := pos, after := af, guard := none } :: rest) g F L := sx_bits hx hy (by simp) (intBits_or15 hb) h
theorem sx_not15 {x y : Operand} {a : Int} {t1 t2 : TypeId} (hx : evn n (get g F) x = .int .i64 a) (hy : evn n (get g F) y = .int .i64 32768) (hb : 0 ≤ a ∧ a ≤ 65535) (h : SX P w0 D n q ops Q rest g ((d, .int .i64 (a % 32768)) :: F) L) :
    SX P w0 D n q ops Q ({ dst := some d, op := .binOp .andNot t1 x y t2, type := ty, pos := pos, after := af, guard := none } :: rest) g F L := sx_bits hx hy (by simp) (intBits_not15 hb) h
theorem sx_subU8 {x y : Operand} {a b : Int} {t1 t2 : TypeId} (hx : evn n (get g F) x = .int .u8 a) (hy : evn n (get g F) y = .int .u8 b) (hb : 0 ≤ a - b ∧ a - b ≤ 255) (h : SX P w0 D n q ops Q rest g ((d, .int .u8 (a - b)) :: F) L) :
    SX P w0 D n q ops Q ({ dst := some d, op := .binOp .sub t1 x y t2, type := ty, pos := pos, after := af, guard := none } :: rest) g F L :=
  sx_run (.int .u8 (a - b)) rfl rfl (fun w _ => by
    have e : IntKind.u8.wrap (a - b) = a - b := by
      show (a - b) % 256 = a - b
      omega
    simp only [execOp, hx, hy, eqGuard, binOp, Op.intArith, e]; rfl) h
theorem OwnS.set {E : Nat} {b n cap : Nat} {xs ext : List Value} {off : Nat} {v : Value} (h : OwnS E 1 (.slice (some ⟨b, 0, none⟩) n cap) n xs [(b, .cells (xs ++ ext).toArray E (0, 0))]) : OwnS E 1 (.slice (some ⟨b, 0, none⟩) n cap) n (xs.set off v) [(b, .cells (xs.set off v ++ ext).toArray E (0, 0))] := by
  refine ⟨by rw [List.length_set]; exact h.1, ?_⟩
  rcases h.2 with ⟨hv, _⟩ | ⟨b', cap', ext', hv, h1, h2, h3, hc⟩
  · cases hv
  · simp only [Value.slice.injEq] at hv
    obtain ⟨ha, _, rfl⟩ := hv
    simp only [Option.some.injEq, Addr.mk.injEq] at ha
    obtain ⟨rfl, _⟩ := ha
    simp only [List.cons.injEq, Prod.mk.injEq, true_and, and_true, Obj.cells.injEq] at hc
    have hc' : xs ++ ext = xs ++ ext' := by simpa using hc
    obtain rfl := List.append_cancel_left hc'
    exact .inr ⟨_, _, ext, rfl, h1, h2, by rw [List.length_append, List.length_set, ← List.length_append]; exact h3, rfl⟩
/- Results that lie in a cell. -/
theorem loadVar_agg {T sz : Nat} [TyT P T sz true] {w : World} {b off : Nat} {vs : List Value} (hl : vs.length = sz) (h : ∀ j v, vs[j]? = some v → w.cell? ⟨b, off + j, none⟩ = some v) : (loadVar T ⟨b, off, none⟩).run P w = .ok (.agg vs.toArray) w := by
  have h1 := TyT.agg_run (P := P) (T := T) (sz := sz) (agg := true) w
  have h2 := TyT.size_run (P := P) (T := T) (sz := sz) (agg := true) w
  have h3 := loadCells_run (P := P) (w := w) (b := b) vs off 0 #[] (fun j v hv => by rw [Nat.zero_add]; exact h j v hv)
  rw [hl] at h3
  simp [loadVar, h1, h2, loadCells, h3, go_sem]
end
end Go.Port
/- One step of a walk, found by what stands next. No program here. The tactics of the side facts lie in the facts' own arguments. -/
set_option linter.unusedSimpArgs false
set_option linter.unusedVariables false
namespace Go.Port
open Go.RowKit
/-- A test's answer. -/
theorem dec {p : Prop} (h : p := by first | assumption | (simp only [decide_eq_true_eq, decide_eq_false_iff_not, Bool.and_eq_true, Bool.or_eq_true, Bool.and_eq_false_iff, Bool.or_eq_false_iff, Bool.not_eq_true', Bool.not_eq_false', Bool.not_true, Bool.not_false, Bool.true_or, Bool.or_true, Bool.false_or, Bool.or_false, Bool.and_true, Bool.true_and, Bool.false_and, Bool.and_false, reduceCtorEq, Classical.not_not, beq_self_eq_true, bne_self_eq_false, not_true_eq_false, not_false_eq_true, or_false, false_or, or_true, true_or, and_true, true_and, and_false, false_and, or_self, and_self]; done) | (simp only [decide_eq_true_eq, decide_eq_false_iff_not, Bool.and_eq_true, Bool.or_eq_true, Bool.and_eq_false_iff, Bool.or_eq_false_iff, Bool.not_eq_true', Bool.not_eq_false', Bool.not_true, Bool.not_false, Bool.true_or, Bool.or_true, Bool.false_or, Bool.or_false, Bool.and_true, Bool.true_and, Bool.false_and, Bool.and_false, reduceCtorEq, Classical.not_not, beq_self_eq_true, bne_self_eq_false, not_true_eq_false, not_false_eq_true, or_false, false_or, or_true, true_or, and_true, true_and, and_false, false_and, or_self, and_self]; omega)) : p := h
/-- A bound. -/
theorem bnd {p : Prop} (h : p := by first | omega | (simp only [decide_eq_true_eq, decide_eq_false_iff_not, Bool.and_eq_true, Bool.or_eq_true, Bool.and_eq_false_iff, Bool.or_eq_false_iff, Bool.not_eq_true', Bool.not_eq_false', Bool.not_true, Bool.not_false, Bool.true_or, Bool.or_true, Bool.false_or, Bool.or_false, Bool.and_true, Bool.true_and, Bool.false_and, Bool.and_false, reduceCtorEq, Classical.not_not, beq_self_eq_true, bne_self_eq_false, not_true_eq_false, not_false_eq_true, or_false, false_or, or_true, true_or, and_true, true_and, and_false, false_and, or_self, and_self] at hb; omega)) : p := h
theorem ras {p : Prop} (h : p := by first | rfl | assumption) : p := h
theorem asm {p : Prop} (h : p := by assumption) : p := h
theorem dk {p : Prop} (h : p := by decide +kernel) : p := h
/-- A value's form. -/
theorem vf {a v : Value} (h : a = v := by first | exact (rfl : _ = Value.int _ _) | exact (rfl : _ = Value.bool _) | exact (rfl : _ = Value.pointer (some ⟨_, _, none⟩)) | exact (rfl : _ = Value.slice _ _ _) | exact (rfl : _ = Value.string _) | exact (rfl : _ = Value.nilIface) | exact (rfl : _ = errV _ _) | exact (rfl : _ = Value.iface _ _) | exact (rfl : _ = Value.agg _) | exact (rfl : _ = Value.tuple _) | exact (rfl : _ = Value.pointer none) | exact (rfl : _ = Value.map _) | exact (rfl : _ = Value.func _ _ _) | exact (rfl : _ = Value.nilFunc)) : a = v := h
/-- For every new block. -/
structure AllB (R : Nat → Prop) : Prop where
  out : ∀ b, R b
/-- For every row that grew. -/
structure AllS (E sz m : Nat) (xs : List Value) (R : Value → Ch → Prop) : Prop where
  out : ∀ (A : Option Addr) (cp : Nat) (c : Ch), m ≤ cp → OwnS E sz (.slice A m cp) m xs c → R (.slice A m cp) c
theorem AllS.get {E sz m : Nat} {xs : List Value} {R : Value → Ch → Prop} (h : AllS E sz m xs R) (v : Value) (c : Ch) (ho : OwnS E sz v m xs c) : R v c := by
  obtain ⟨A, cp, rfl, hcp⟩ := ho.len
  exact h.out A cp c hcp ho
/- Groups of operations at a guard. -/
def isP (t : Nat) (o : Oper) : Bool := match o.op with
  | .pick (.tmp u) (.const (.bool true)) (.tmp _) => Nat.beq u t
  | .pick (.tmp u) (.tmp _) (.const (.bool false)) => Nat.beq u t
  | _ => false
def grpOf (t : Nat) : List Oper → List Oper
  | [] => []
  | o :: r => bif isP t o then [] else o :: grpOf t r
def aftOf (t : Nat) : List Oper → List Oper
  | [] => []
  | o :: r => bif isP t o then r else aftOf t r
def pickOf (t : Nat) : List Oper → Option Oper
  | [] => none
  | o :: r => bif isP t o then some o else pickOf t r
theorem pickOf_eq {t : Nat} {p : Oper} : ∀ {l : List Oper}, pickOf t l = some p → l = grpOf t l ++ p :: aftOf t l
  | [], h => by cases h
  | o :: r, h => by
    unfold pickOf at h
    unfold grpOf aftOf
    cases e : isP t o with
    | true => rw [e] at h; cases h; rfl
    | false =>
      rw [e] at h
      show o :: r = o :: (grpOf t r ++ p :: aftOf t r)
      rw [← pickOf_eq h]
section
variable {P : Program} {w0 : World} {D : List Nat} {n q : Nat} {ops : Array Oper} {Q : Exit → Act → World → Prop} {g : Nat → Value} {F : List (Nat × Value)} {L : List Ch} {ty d : Nat} {pos : String} {af : Array Edge} {rest : List Oper}
theorem sx_grpC {t : Nat} {o : Oper} (he : isP t o = false) (h : SX P w0 D n q ops Q (o :: grpOf t rest) g F L) : SX P w0 D n q ops Q (grpOf t (o :: rest)) g F L := by unfold grpOf; rw [he]; exact h
theorem sx_grpN {t : Nat} {o : Oper} (he : isP t o = true) (h : SX P w0 D n q ops Q [] g F L) : SX P w0 D n q ops Q (grpOf t (o :: rest)) g F L := by unfold grpOf; rw [he]; exact h
theorem sx_aftC {t : Nat} {o : Oper} (he : isP t o = false) (h : SX P w0 D n q ops Q (aftOf t rest) g F L) : SX P w0 D n q ops Q (aftOf t (o :: rest)) g F L := by unfold aftOf; rw [he]; exact h
theorem sx_aftN {t : Nat} {o : Oper} (he : isP t o = true) (h : SX P w0 D n q ops Q rest g F L) : SX P w0 D n q ops Q (aftOf t (o :: rest)) g F L := by unfold aftOf; rw [he]; exact h
theorem sx_orG {o : Oper} {j t x : Nat} {b : Bool} {gd : Option (Nat × Bool)} (hg : o.guard = some (j, false)) (hd : (ops[j]?).bind (·.dst) = some t) (hv : get g F t = .bool b)
    (hp : pickOf t (o :: rest) = some { dst := some d, op := .pick (.tmp t) (.const (.bool true)) (.tmp x), type := ty, pos := pos, after := af, guard := gd }) (htn : Nat.blt t n = true) (hxn : Nat.blt x n = true)
    (h : ∃ c : Bool, (b = false → ∀ K : Act → World → Prop, (∀ g F' L', get g F' t = .bool b → get g F' x = .bool c → Beside F' F → L'.drop (L'.length - L.length) = L → QX w0 D n (Exit.then K Q) .normal g F' L') → SX P w0 D n 0 ops (Exit.then K Q) (grpOf t (o :: rest)) g F L) ∧
      (∀ g, SX P w0 D n 0 ops Q ({ dst := some d, op := .move (.const (.bool (b || c))), type := ty, pos := pos, after := af, guard := gd } :: aftOf t (o :: rest)) g F L))
    (hno : b = true → ∀ K : Act → World → Prop, (∀ g F' L', get g F' t = .bool b → Beside F' F → L'.drop (L'.length - L.length) = L → QX w0 D n (Exit.then K Q) .normal g F' L') → SX P w0 D n 0 ops (Exit.then K Q) (grpOf t (o :: rest)) g F L) : SX P w0 D n 0 ops Q (o :: rest) g F L :=
  sx_or (grpOf t (o :: rest)) hg hd hv (pickOf_eq hp) htn hxn h hno
theorem sx_andG {o : Oper} {j t x : Nat} {b : Bool} {gd : Option (Nat × Bool)} (hg : o.guard = some (j, true)) (hd : (ops[j]?).bind (·.dst) = some t) (hv : get g F t = .bool b)
    (hp : pickOf t (o :: rest) = some { dst := some d, op := .pick (.tmp t) (.tmp x) (.const (.bool false)), type := ty, pos := pos, after := af, guard := gd }) (htn : Nat.blt t n = true) (hxn : Nat.blt x n = true)
    (h : ∃ c : Bool, (b = true → ∀ K : Act → World → Prop, (∀ g F' L', get g F' t = .bool b → get g F' x = .bool c → Beside F' F → L'.drop (L'.length - L.length) = L → QX w0 D n (Exit.then K Q) .normal g F' L') → SX P w0 D n 0 ops (Exit.then K Q) (grpOf t (o :: rest)) g F L) ∧
      (∀ g, SX P w0 D n 0 ops Q ({ dst := some d, op := .move (.const (.bool (b && c))), type := ty, pos := pos, after := af, guard := gd } :: aftOf t (o :: rest)) g F L))
    (hno : b = false → ∀ K : Act → World → Prop, (∀ g F' L', get g F' t = .bool b → Beside F' F → L'.drop (L'.length - L.length) = L → QX w0 D n (Exit.then K Q) .normal g F' L') → SX P w0 D n 0 ops (Exit.then K Q) (grpOf t (o :: rest)) g F L) : SX P w0 D n 0 ops Q (o :: rest) g F L :=
  sx_and (grpOf t (o :: rest)) hg hd hv (pickOf_eq hp) htn hxn h hno
theorem at_grp {t : Nat} {l : List Oper} (h : SX P w0 D n q ops Q (grpOf t l) g F L) : SX P w0 D n q ops Q (grpOf t l) g F L := h
theorem at_aft {t : Nat} {l : List Oper} (h : SX P w0 D n q ops Q (aftOf t l) g F L) : SX P w0 D n q ops Q (aftOf t l) g F L := h
end
end Go.Port
/- Regions of any order in which pieces of memory are read beside calls and stores of other ones. No program here. -/
set_option linter.unusedSimpArgs false
set_option linter.unusedVariables false
namespace Go.Port
open Go.RowKit

/-- What pieces tell is there; and all that was there at first. -/
def heldS (w0 : World) (D : List Nat) (Ls : List Ch) (w : World) : Prop := Mem w0 w D Ls
def doneArr (m : Nat) : List Nat → Array Bool
  | [] => Array.replicate m false
  | k :: l => (doneArr m l).setIfInBounds k true
/-- The rest of a region of any order: Ls is read, L may change; done tells which are behind us. -/
def AH (P : Program) (w0 : World) (D : List Nat) (n : Nat) (ops : Array Oper) (Q : Exit → Act → World → Prop) (Ls : List Ch) (done : List Nat) (g : Nat → Value) (F : List (Nat × Value)) (L : List Ch) : Prop :=
  ∀ w, Mem w0 w D (Ls ++ L) → wpAnyH P .any ops (np Q) (heldS w0 D Ls) (ops.size - done.length) (doneArr ops.size done) (Fr n (get g F)) w
attribute [irreducible] AH
section
variable {P : Program} {w0 : World} {D : List Nat} {n q : Nat} {ops : Array Oper} {Q : Exit → Act → World → Prop} {g : Nat → Value} {F : List (Nat × Value)} {L Ls : List Ch} {done : List Nat} {d : Nat}
theorem AH.mk (h : ∀ w, Mem w0 w D (Ls ++ L) → wpAnyH P .any ops (np Q) (heldS w0 D Ls) (ops.size - done.length) (doneArr ops.size done) (Fr n (get g F)) w) : AH P w0 D n ops Q Ls done g F L := by unfold AH; exact h
theorem AH.out (h : AH P w0 D n ops Q Ls done g F L) : ∀ w, Mem w0 w D (Ls ++ L) → wpAnyH P .any ops (np Q) (heldS w0 D Ls) (ops.size - done.length) (doneArr ops.size done) (Fr n (get g F)) w := by unfold AH at h; exact h
theorem at_held (h : AH P w0 D n ops Q Ls done g F L) : AH P w0 D n ops Q Ls done g F L := h
theorem cx_held {id : Nat} {l : List Oper} (Ls L' : List Ch) (hm : P.follows .mixedOrders = true) (hL : ∀ w, Mem w0 w D L → Mem w0 w D (Ls ++ L')) (h : AH P w0 D n l.toArray Q Ls [] g F L') : CX P w0 D n Q (.region id l.toArray true) g F L :=
  .mk fun w hw => wp_mono (wp_region_held (Q := np Q) (S := heldS w0 D Ls) hm (h.out _ (hL _ hw.drew))) fun e a w q => by
    cases e <;> first | exact q | exact q.elim
def takeH (ops : Array Oper) (done : List Nat) (k : Nat) : Bool := Nat.blt done.length ops.size && Region.noSelect ops && Region.free .any ops (doneArr ops.size done) k && (Region.ready .any ops (doneArr ops.size done)).contains k
def loneH (ops : Array Oper) (done : List Nat) (k : Nat) : Bool := Nat.blt done.length ops.size && decide (Region.ready .any ops (doneArr ops.size done) = [k])
def overH (ops : Array Oper) (done : List Nat) : Bool := decide (Region.ready .any ops (doneArr ops.size done) = [])
theorem ah_take {k : Nat} {o : Oper} {v : Value} (ht : takeH ops done k = true) (hi : ops[k]? = some o) (hd : o.dst = some d)
    (hy : YieldsIf P ops (heldS w0 D Ls) o v (Fr n (get g F))) (h : AH P w0 D n ops Q Ls (k :: done) g ((d, v) :: F) L) : AH P w0 D n ops Q Ls done g F L := .mk fun w hm => by
  simp only [takeH, Bool.and_eq_true] at ht
  have hlt : done.length < ops.size := Nat.le_of_ble_eq_true ht.1.1.1
  have h1 := h.out w hm
  have e : ops.size - done.length = (ops.size - (k :: done).length) + 1 := by rw [List.length_cons]; omega
  rw [e]
  refine wpAnyH_take hi ht.1.1.2 ht.1.2 ht.2 (fun c a w q => q.elim) hy (hm.drop (L' := Ls)) ?_
  rw [hd, Fr.put, get_put]
  exact h1
def valOpL : Op → Bool
  | .load .. => true
  | .nilCheck _ => false
  | o => valOp o
theorem valOpL_run {ρ : Operand → Value} {o : Oper} (h : valOpL o.op = true) (w : World) : (∃ v w', (execOp ρ o).run P w = .ok (.value v) w') ∨ ∃ h w', (execOp ρ o).run P w = .halt h w' := by
  obtain ⟨dst, op, ty, pos, af, gd⟩ := o
  cases op with
  | load t a => exact andThen_value
  | nilCheck x => simp [valOpL] at h
  | _ => exact valOp_run (by simpa [valOpL] using h) w
/-- What only computes, or reads what is held, or what was there at first. -/
theorem ah_pure (k : Nat) {o : Oper} (ht : takeH ops done k = true) (hi : ops[k]? = some o) (hval : valOpL o.op = true) (hg : o.guard = none) (hd : o.dst = some d) (hdn : Nat.blt d n = true)
    (h : ∃ v, SX P w0 D n 2 ops (isF n g ((d, v) :: F)) [o] g F Ls ∧ AH P w0 D n ops Q Ls (k :: done) g ((d, v) :: F) L) : AH P w0 D n ops Q Ls done g F L := by
  obtain ⟨v, h1, h2⟩ := h
  refine ah_take (v := v) ht hi hd (.inl ⟨by simp [Region.wanted, hg], fun w hS => ?_⟩) h2
  have h3 := h1.out2 (q := 0) w hS
  unfold wpStill at h3
  rw [if_pos (by simp [Region.wanted, hg])] at h3
  unfold Oper.still at h3
  have key : ∀ u, (Fr n (get g F)).put o.dst u = Fr n (get g ((d, v) :: F)) → u = v := by
    intro u hu
    rw [hd, Fr.put, get_put] at hu
    have hlt : d < n := Nat.le_of_ble_eq_true hdn
    have h4 := congrArg (fun a : Act => a.tmps.getD d undef) hu
    simp only [Fr.getD hlt] at h4
    have h5 : ∀ x, get g ((d, x) :: F) d = x := fun x => by show (bif Nat.beq d d then x else _) = x; rw [Nat.beq_refl]; rfl
    rwa [h5, h5] at h4
  rcases valOpL_run (P := P) (ρ := (Fr n (get g F)).eval) hval w with ⟨u, w', hr⟩ | ⟨x, w', hr⟩
  · rw [hr] at h3 ⊢
    obtain ⟨rfl, _, h4⟩ := h3
    rw [key u h4]
  · rw [hr] at h3; exact h3.elim
theorem ah_nil (k : Nat) {x : Operand} {ty : TypeId} {pos : String} {af : Array Edge} {p : Addr} (ht : takeH ops done k = true) (hi : ops[k]? = some { dst := some d, op := .nilCheck x, type := ty, pos := pos, after := af, guard := none }) (hx : evn n (get g F) x = .pointer (some p))
    (h : AH P w0 D n ops Q Ls (k :: done) g ((d, .pointer (some p)) :: F) L) : AH P w0 D n ops Q Ls done g F L :=
  ah_take ht hi rfl (.inl ⟨by simp [Region.wanted], fun w _ => by rw [Fr.evn]; simp only [execOp, hx]; rfl⟩) h
theorem ah_skip (k : Nat) {j t : Nat} {want b : Bool} {o : Oper} (ht : takeH ops done k = true) (hi : ops[k]? = some o) (hg : o.guard = some (j, want)) (hdst : o.dst = some d) (hd : (ops[j]?).bind (·.dst) = some t) (htn : Nat.blt t n = true) (hv : get g F t = .bool b) (hb : b = !want)
    (h : AH P w0 D n ops Q Ls (k :: done) g ((d, undef) :: F) L) : AH P w0 D n ops Q Ls done g F L :=
  ah_take ht hi hdst (.inr ⟨wanted_no hg hd htn hv hb, rfl⟩) h
theorem ah_lone (k : Nat) {o : Oper} (ht : loneH ops done k = true) (hi : ops[k]? = some o) (h : SX P w0 D n 0 ops (Exit.then (fun a w => heldS w0 D Ls w ∧ wpAnyH P .any ops (np Q) (heldS w0 D Ls) (ops.size - (k :: done).length) (doneArr ops.size (k :: done)) a w) (np Q)) [o] g F (Ls ++ L)) : AH P w0 D n ops Q Ls done g F L := .mk fun w hm => by
  simp only [loneH, Bool.and_eq_true, decide_eq_true_eq] at ht
  have hlt : done.length < ops.size := Nat.le_of_ble_eq_true ht.1
  have e : ops.size - done.length = (ops.size - (k :: done).length) + 1 := by rw [List.length_cons]; omega
  rw [e]
  refine wpAnyH_all ht.2 (by simp) fun i hi' => ?_
  have : i = k := by simpa using hi'
  subst this
  have h1 := h.out w hm
  unfold wpList at h1
  unfold wpOp
  simp only [hi]
  split at h1
  · rename_i hw
    rw [if_pos hw]
    rcases h1 with h1 | ⟨h1, a, w', h2⟩
    · refine .inl ?_
      unfold Oper.wp at h1 ⊢
      generalize (execOp (Fr n (get g F)).eval o).run P w = r at h1 ⊢
      cases r with
      | ok x w' =>
        cases x <;> simp only [Oper.upon] at h1 ⊢ <;> first
          | exact h1
          | (refine Calls.mono h1 fun e w'' he => ?_
             cases e with
             | returned v => exact he
             | panicked ch => exact he
             | outgrown => obtain ⟨a, w, hh⟩ := he; exact ⟨a, w, hh⟩)
      | halt x w' => cases x <;> simp only [Oper.upon] at h1 ⊢ <;> exact h1
    · exact .inr ⟨h1, a, w', h2⟩
  · rename_i hw
    rw [if_neg hw]; exact h1
theorem qx_held {k : Nat} {L' : List Ch} (hL : ∀ w, Mem w0 w D L' → Mem w0 w D (Ls ++ L)) (h : AH P w0 D n ops Q Ls (k :: done) g F L) : QX w0 D n (Exit.then (fun a w => heldS w0 D Ls w ∧ wpAnyH P .any ops (np Q) (heldS w0 D Ls) (ops.size - (k :: done).length) (doneArr ops.size (k :: done)) a w) (np Q)) .normal g F L' := .mk fun w hm =>
  have hm' := hL w hm
  ⟨hm'.drop (L' := Ls), h.out w hm'⟩
theorem held_mid1 {c : Ch} {w : World} (h : Mem w0 w D (c :: (Ls ++ L))) : Mem w0 w D (Ls ++ (c :: L)) := h.permL List.perm_middle
theorem held_mid2 {c c' : Ch} {w : World} (h : Mem w0 w D (c :: c' :: (Ls ++ L))) : Mem w0 w D (Ls ++ (c :: c' :: L)) := h.permL (List.perm_middle.trans (List.Perm.cons _ List.perm_middle))
theorem at_reg (id : Nat) {l : Array Oper} {b : Bool} (h : CX P w0 D n Q (.region id l b) g F L) : CX P w0 D n Q (.region id l b) g F L := h
theorem ah_over (ht : overH ops done = true) (h : QX w0 D n Q .normal g F (Ls ++ L)) : AH P w0 D n ops Q Ls done g F L := .mk fun w hm => by
  simp only [overH, decide_eq_true_eq] at ht
  exact wpAnyH_done (Q := np Q) ht (h.out w hm) _
/- Which pieces are held. -/
theorem cx_held0 {id : Nat} {l : List Oper} (hm : P.follows .mixedOrders = true) (h : AH P w0 D n l.toArray Q [] [] g F L) : CX P w0 D n Q (.region id l.toArray true) g F L := cx_held [] L hm (fun _ h => h) h
theorem cx_heldA {id : Nat} {l : List Oper} {c : Ch} (hm : P.follows .mixedOrders = true) (h : AH P w0 D n l.toArray Q [c] [] g F L) : CX P w0 D n Q (.region id l.toArray true) g F (c :: L) := cx_held [c] L hm (fun _ h => h) h
theorem cx_heldC {id : Nat} {l : List Oper} {c c0 c1 : Ch} (hm : P.follows .mixedOrders = true) (h : AH P w0 D n l.toArray Q [c] [] g F (c0 :: c1 :: L)) : CX P w0 D n Q (.region id l.toArray true) g F (c0 :: c1 :: c :: L) := cx_held [c] (c0 :: c1 :: L) hm (fun _ h => rot2.mem h) h
theorem ah_over0 (ht : overH ops done = true) (h : QX w0 D n Q .normal g F L) : AH P w0 D n ops Q [] done g F L := ah_over ht h
theorem ah_over1 {c : Ch} (ht : overH ops done = true) (h : QX w0 D n Q .normal g F (c :: L)) : AH P w0 D n ops Q [c] done g F L := ah_over ht h
theorem ah_over2 {c c' : Ch} (ht : overH ops done = true) (h : QX w0 D n Q .normal g F (c :: c' :: L)) : AH P w0 D n ops Q [c, c'] done g F L := ah_over ht h
end
end Go.Port
/- Regions of any order in which either of two operations may come first. No program here. -/
set_option linter.unusedSimpArgs false
set_option linter.unusedVariables false
namespace Go.Port
open Go.RowKit
section
variable {P : Program} {w0 : World} {D : List Nat} {n q : Nat} {ops : Array Oper} {Q : Exit → Act → World → Prop} {g : Nat → Value} {F : List (Nat × Value)} {L Ls : List Ch} {done : List Nat} {d : Nat}
theorem op_of_SX {k : Nat} {o : Oper} (hi : ops[k]? = some o) {K : Act → World → Prop} {w : World} (h1 : wpList P ops (Exit.then K (np Q)) [o] (Fr n (get g F)) w) : wpOp P ops (np Q) k K (Fr n (get g F)) w := by
  unfold wpList at h1
  unfold wpOp
  simp only [hi]
  split at h1
  · rename_i hw
    rw [if_pos hw]
    rcases h1 with h1 | ⟨h1, a, w', h2⟩
    · refine .inl ?_
      unfold Oper.wp at h1 ⊢
      generalize (execOp (Fr n (get g F)).eval o).run P w = r at h1 ⊢
      cases r with
      | ok x w' =>
        cases x <;> simp only [Oper.upon] at h1 ⊢ <;> first
          | exact h1
          | (refine Calls.mono h1 fun e w'' he => ?_
             cases e with
             | returned v => exact he
             | panicked ch => exact he
             | outgrown => obtain ⟨a, w, hh⟩ := he; exact ⟨a, w, hh⟩)
      | halt x w' => cases x <;> simp only [Oper.upon] at h1 ⊢ <;> exact h1
    · exact .inr ⟨h1, a, w', h2⟩
  · rename_i hw
    rw [if_neg hw]; exact h1
def twoH (ops : Array Oper) (done : List Nat) (i j : Nat) : Bool := Nat.blt done.length ops.size && decide (Region.ready .any ops (doneArr ops.size done) = [i, j])
/-- Either may come first. -/
theorem ah_both (i j : Nat) {o o' : Oper} (ht : twoH ops done i j = true) (hi : ops[i]? = some o) (hj : ops[j]? = some o')
    (h : SX P w0 D n 0 ops (Exit.then (fun a w => heldS w0 D Ls w ∧ wpAnyH P .any ops (np Q) (heldS w0 D Ls) (ops.size - (i :: done).length) (doneArr ops.size (i :: done)) a w) (np Q)) [o] g F (Ls ++ L))
    (h' : SX P w0 D n 0 ops (Exit.then (fun a w => heldS w0 D Ls w ∧ wpAnyH P .any ops (np Q) (heldS w0 D Ls) (ops.size - (j :: done).length) (doneArr ops.size (j :: done)) a w) (np Q)) [o'] g F (Ls ++ L)) : AH P w0 D n ops Q Ls done g F L := .mk fun w hm => by
  simp only [twoH, Bool.and_eq_true, decide_eq_true_eq] at ht
  have hlt : done.length < ops.size := Nat.le_of_ble_eq_true ht.1
  have e : ∀ k : Nat, ops.size - done.length = (ops.size - (k :: done).length) + 1 := fun k => by rw [List.length_cons]; omega
  rw [e i]
  refine wpAnyH_all ht.2 (by simp) fun x hx => ?_
  have : x = i ∨ x = j := by simpa using hx
  rcases this with rfl | rfl
  · exact op_of_SX hi (h.out w hm)
  · rw [show ops.size - (i :: done).length = ops.size - (x :: done).length by simp]
    exact op_of_SX hj (h'.out w hm)
end
end Go.Port
/- Regions of any order: guarded operations that are wanted; several calls of values, in whatever order. No program here. -/
set_option linter.unusedSimpArgs false
set_option linter.unusedVariables false
namespace Go.Port
open Go.RowKit
section
variable {P : Program} {w0 : World} {D : List Nat} {n q : Nat} {ops : Array Oper} {Q : Exit → Act → World → Prop} {g : Nat → Value} {F : List (Nat × Value)} {L Ls : List Ch} {done : List Nat} {d : Nat}
theorem wanted_yes {o : Oper} {j t : Nat} {want b : Bool} (hg : o.guard = some (j, want)) (hd : (ops[j]?).bind (·.dst) = some t) (ht : Nat.blt t n = true) (hv : get g F t = .bool b) (hb : b = want) : Region.wanted o (yielded ops (Fr n (get g F)).tmps) = true := by
  simp only [Region.wanted, hg, yielded_fr hd ht, hv, hb]; cases want <;> rfl
/-- A guarded one that is wanted. -/
theorem ah_pureW (k : Nat) {j t : Nat} {want b : Bool} {o : Oper} (ht : takeH ops done k = true) (hi : ops[k]? = some o) (hval : valOpL o.op = true) (hg : o.guard = some (j, want)) (hd : o.dst = some d) (hdn : Nat.blt d n = true) (hgd : (ops[j]?).bind (·.dst) = some t) (htn : Nat.blt t n = true) (hv : get g F t = .bool b) (hb : b = want)
    (h : ∃ v, SX P w0 D n 2 ops (isF n g ((d, v) :: F)) [o] g F Ls ∧ AH P w0 D n ops Q Ls (k :: done) g ((d, v) :: F) L) : AH P w0 D n ops Q Ls done g F L := by
  have hw := wanted_yes hg hgd htn hv hb
  obtain ⟨v, h1, h2⟩ := h
  refine ah_take (v := v) ht hi hd (.inl ⟨hw, fun w hS => ?_⟩) h2
  have h3 := h1.out2 (q := 0) w hS
  unfold wpStill at h3
  rw [if_pos hw] at h3
  unfold Oper.still at h3
  have key : ∀ u, (Fr n (get g F)).put o.dst u = Fr n (get g ((d, v) :: F)) → u = v := by
    intro u hu
    rw [hd, Fr.put, get_put] at hu
    have hlt : d < n := Nat.le_of_ble_eq_true hdn
    have h4 := congrArg (fun a : Act => a.tmps.getD d undef) hu
    simp only [Fr.getD hlt] at h4
    have h5 : ∀ x, get g ((d, x) :: F) d = x := fun x => by show (bif Nat.beq d d then x else _) = x; rw [Nat.beq_refl]; rfl
    rwa [h5, h5] at h4
  rcases valOpL_run (P := P) (ρ := (Fr n (get g F)).eval) hval w with ⟨u, w', hr⟩ | ⟨x, w', hr⟩
  · rw [hr] at h3 ⊢
    obtain ⟨rfl, _, h4⟩ := h3
    rw [key u h4]
  · rw [hr] at h3; exact h3.elim
def notIn (k : Nat) : List Nat → Bool
  | [] => true
  | x :: l => !Nat.beq k x && notIn k l
def pureAt (ops : Array Oper) (k : Nat) : Bool := match ops[k]? with
  | some o => valOpL o.op || o.guard.isSome || (match o.op with | .nilCheck _ => true | _ => false)
  | none => false
theorem ah_at (k : Nat) (ht : takeH ops done k = true) (h : takeH ops done k = true → AH P w0 D n ops Q Ls done g F L) : AH P w0 D n ops Q Ls done g F L := h ht
theorem ah_not (k : Nat) (_ : notIn k done = true) (h : AH P w0 D n ops Q Ls done g F L) : AH P w0 D n ops Q Ls done g F L := h
theorem ah_isp (k : Nat) (_ : pureAt ops k = true) (h : AH P w0 D n ops Q Ls done g F L) : AH P w0 D n ops Q Ls done g F L := h
/-- Two pieces held. -/
theorem cx_held2 {id : Nat} {l : List Oper} {c c' : Ch} (hm : P.follows .mixedOrders = true) (h : AH P w0 D n l.toArray Q [c, c'] [] g F L) : CX P w0 D n Q (.region id l.toArray true) g F (c :: c' :: L) := cx_held [c, c'] L hm (fun _ hm => hm) h
/-- One of several calls: its number, its slot, its value. -/
structure Cv where
  k : Nat
  d : Nat
  v : Value
/-- It is a call of a value, in this frame. -/
def Cv.ok (P : Program) (w0 : World) (D : List Nat) (n : Nat) (ops : Array Oper) (L : List Ch) (f : Nat → Value) (e : Cv) : Prop :=
  ∃ o, ops[e.k]? = some o ∧ o.dst = some e.d ∧ (∀ cs b, o.op ≠ .select cs b) ∧ Region.wanted o (yielded ops (Fr n f).tmps) = true ∧
    ∃ (fid : FuncId) (args : Array Value), ∀ w, Mem w0 w D L → (execOp (Fr n f).eval o).run P w = .ok (.enter fid args) w ∧ Calls P fid args w fun x w' => x = .returned e.v ∧ Mem w0 w' D L
/-- No call looks at another one's slot; and whatever order they take, they alone may come, till all have come. -/
def freeCv (ops : Array Oper) : Nat → List Nat → List Nat → Bool
  | 0, _, S => S.isEmpty
  | m + 1, done, S => S.isEmpty || (Nat.blt done.length ops.size && decide (Region.ready .any ops (doneArr ops.size done) = S) && S.all fun k => freeCv ops m (k :: done) (S.erase k))
def apartCv (ops : Array Oper) (E : List Cv) : Bool := E.all fun e => E.all fun e' => e.k == e'.k || (e.d != e'.d && match ops[e'.k]? with | some o => !(o.looksAt ops).contains e.d | none => false)
def keysCv (E : List Cv) : Bool := decide (E.map (·.k)).Nodup
def putsCv (f : Nat → Value) : List Cv → Nat → Value
  | [] => f
  | e :: E => putsCv (upd f e.d e.v) E
def CvAll (P : Program) (w0 : World) (D : List Nat) (n : Nat) (ops : Array Oper) (L : List Ch) (f : Nat → Value) : List Cv → Prop
  | [] => True
  | e :: E => e.ok P w0 D n ops L f ∧ CvAll P w0 D n ops L f E
theorem CvAll.all {f : Nat → Value} : ∀ {E : List Cv}, CvAll P w0 D n ops L f E → ∀ e ∈ E, e.ok P w0 D n ops L f
  | [], _, e, h => by cases h
  | x :: E, h, e, he => by
    rcases List.mem_cons.1 he with rfl | he
    · exact h.1
    · exact h.2.all e he
def addCv : List Cv → List (Nat × Value) → List (Nat × Value)
  | [], F => F
  | e :: E, F => addCv E ((e.d, e.v) :: F)
def addK : List Cv → List Nat → List Nat
  | [], l => l
  | e :: E, l => addK E (e.k :: l)
end
end Go.Port
/- Arms in short: what is looked for is found by a default. No program here. -/
set_option linter.unusedSimpArgs false
set_option linter.unusedVariables false
namespace Go.Port
open Go.RowKit
theorem bcs {a cs : List Value} (h : a = cs := by first | exact (rfl : _ = []) | exact (rfl : _ = [_]) | exact (rfl : _ = [_, _]) | exact (rfl : _ = [_, _, _]) | exact (rfl : _ = [_, _, _, _]) | exact (rfl : _ = [_, _, _, _, _]) | exact (rfl : _ = [_, _, _, _, _, _]) | exact (rfl : _ = [_, _, _, _, _, _, _]) | exact (rfl : _ = [_, _, _, _, _, _, _, _]) | exact (rfl : _ = [_, _, _, _, _, _, _, _, _]) | exact (rfl : _ = [_, _, _, _, _, _, _, _, _, _]) | exact (rfl : _ = [_, _, _, _, _, _, _, _, _, _, _]) | exact (rfl : _ = [_, _, _, _, _, _, _, _, _, _, _, _]) | exact (rfl : _ = [_, _, _, _, _, _, _, _, _, _, _, _, _]) | exact (rfl : _ = [_, _, _, _, _, _, _, _, _, _, _, _, _, _]) | exact (rfl : _ = [_, _, _, _, _, _, _, _, _, _, _, _, _, _, _]) | exact (rfl : _ = [_, _, _, _, _, _, _, _, _, _, _, _, _, _, _, _])) : a = cs := h
/-- The piece that holds a block. -/
theorem pc {L : List Ch} {b : Nat} {cs : List Value} {T' : TypeId} {fr : Nat × Nat} (h : ∃ i : Nat, L[i]? = some [(b, Obj.cells cs.toArray T' fr)] := by first | exact ⟨0, rfl⟩ | exact ⟨1, rfl⟩ | exact ⟨2, rfl⟩ | exact ⟨3, rfl⟩ | exact ⟨4, rfl⟩ | exact ⟨5, rfl⟩ | exact ⟨6, rfl⟩ | exact ⟨7, rfl⟩ | exact ⟨8, rfl⟩ | exact ⟨9, rfl⟩) : ∃ i : Nat, L[i]? = some [(b, Obj.cells cs.toArray T' fr)] := h
theorem gv {a : Option Value} {v : Value} (h : a = some v := by exact rfl) : a = some v := h
theorem gl {a b : Nat} (h : a = b := by exact rfl) : a = b := h
theorem gb {a b : Bool} (h : a = b := by exact rfl) : a = b := h
theorem plc {a b : Nat} (h : a = b := by first | exact (rfl : _ = 0) | exact (rfl : _ = 1) | exact (rfl : _ = 2) | exact (rfl : _ = 3) | exact (rfl : _ = 4) | exact (rfl : _ = 5) | exact (rfl : _ = 6) | exact (rfl : _ = 7) | exact (rfl : _ = 8) | exact (rfl : _ = 9) | exact (rfl : _ = 10) | exact (rfl : _ = 11) | exact (rfl : _ = 12) | exact (rfl : _ = 13) | exact (rfl : _ = 14) | exact (rfl : _ = 15) | exact (rfl : _ = 16)) : a = b := h
section
variable {P : Program} {w0 : World} {D : List Nat} {n q : Nat} {ops : Array Oper} {Q : Exit → Act → World → Prop} {g : Nat → Value} {F : List (Nat × Value)} {L : List Ch}
variable {rest : List Oper} {ty : TypeId} {pos : String} {af : Array Edge} {d : Nat}
theorem sx_loadE {T sz : Nat} [TyT P T sz false] {x : Operand} {b off : Nat} {cs : List Value} {T' : TypeId} {fr : Nat × Nat} {v : Value} (hx : evn n (get g F) x = .pointer (some ⟨b, off, none⟩)) (hL : ∃ i : Nat, L[i]? = some [(b, Obj.cells cs.toArray T' fr)]) (hv : cs[off]? = some v)
    (h : SX P w0 D n q ops Q rest g ((d, v) :: F) L) : SX P w0 D n q ops Q ({ dst := some d, op := .load T x, type := ty, pos := pos, after := af, guard := none } :: rest) g F L := by
  obtain ⟨i, hi⟩ := hL
  exact sx_load i hx hi hv h
theorem sx_loadWE {T sz : Nat} [TyT P T sz true] {x : Operand} {b : Nat} {cs : List Value} {T' : TypeId} {fr : Nat × Nat} (hx : evn n (get g F) x = .pointer (some ⟨b, 0, none⟩)) (hL : ∃ i : Nat, L[i]? = some [(b, Obj.cells cs.toArray T' fr)]) (hl : cs.length = sz)
    (h : SX P w0 D n q ops Q rest g ((d, .agg cs.toArray) :: F) L) : SX P w0 D n q ops Q ({ dst := some d, op := .load T x, type := ty, pos := pos, after := af, guard := none } :: rest) g F L := by
  obtain ⟨i, hi⟩ := hL
  exact sx_loadW i hx hi hl h
variable {Ls : List Ch} {done : List Nat}
theorem lkk {ops : Array Oper} {done : List Nat} (k : Nat) (_ : notIn k done = true) (h3 : loneH ops done k = true) : loneH ops done k = true := h3
/-- The only one that may come. -/
theorem lon {ops : Array Oper} {done : List Nat} {k : Nat} (h : loneH ops done k = true := by first | exact lkk 0 rfl dk | exact lkk 1 rfl dk | exact lkk 2 rfl dk | exact lkk 3 rfl dk | exact lkk 4 rfl dk | exact lkk 5 rfl dk | exact lkk 6 rfl dk | exact lkk 7 rfl dk | exact lkk 8 rfl dk | exact lkk 9 rfl dk | exact lkk 10 rfl dk | exact lkk 11 rfl dk | exact lkk 12 rfl dk | exact lkk 13 rfl dk | exact lkk 14 rfl dk | exact lkk 15 rfl dk | exact lkk 16 rfl dk | exact lkk 17 rfl dk | exact lkk 18 rfl dk | exact lkk 19 rfl dk | exact lkk 20 rfl dk | exact lkk 21 rfl dk | exact lkk 22 rfl dk | exact lkk 23 rfl dk | exact lkk 24 rfl dk | exact lkk 25 rfl dk | exact lkk 26 rfl dk | exact lkk 27 rfl dk | exact lkk 28 rfl dk | exact lkk 29 rfl dk | exact lkk 30 rfl dk | exact lkk 31 rfl dk) : loneH ops done k = true := h
end
end Go.Port
/- Steps of a call: rows whose base is told ahead; parts of their places. No program here. -/
set_option linter.unusedSimpArgs false
set_option linter.unusedVariables false
namespace Go.Port
open Go.RowKit
/-- Where a row lies, if it has anything. -/
theorem IsSl.base {w : World} {sz : Nat} {A : Option Addr} {len cap : Nat} {xs : List Value} (h : IsSl w sz A len cap xs) : ∃ b o, 0 < len → A = some ⟨b, o, none⟩ ∧ b < w.heap.size ∧ CellsAt w b o xs := by
  rcases h.2 with h0 | ⟨b, o, rfl, hb, _, hc⟩
  · exact ⟨0, 0, fun hh => by omega⟩
  · exact ⟨b, o, fun _ => ⟨rfl, hb, hc⟩⟩
section
variable {P : Program} {w0 : World} {D : List Nat} {n q : Nat} {ops : Array Oper} {Q : Exit → Act → World → Prop} {g : Nat → Value} {F : List (Nat × Value)} {L : List Ch}
variable {rest : List Oper} {ty : TypeId} {pos : String} {af : Array Edge} {d : Nat}
theorem sx_indexQ {T E sz bytes : Nat} {z : Value} [SlT P T E sz bytes z] {x y : Operand} {A : Option Addr} {b o len cap : Nat} {i : Int} (hx : evn n (get g F) x = .slice A len cap) (hA : A = some ⟨b, o, none⟩) (hy : evn n (get g F) y = .int .i64 i) (hi : 0 ≤ i ∧ i < len)
    (h : SX P w0 D n q ops Q rest g ((d, .pointer (some ⟨b, o + i.toNat * sz, none⟩)) :: F) L) :
    SX P w0 D n q ops Q ({ dst := some d, op := .indexAddr T x y, type := ty, pos := pos, after := af, guard := none } :: rest) g F L := by
  subst hA
  exact sx_index hx hy hi h
end
end Go.Port
/- Steps of a call: a part of a cell, its cells told. No program here. -/
set_option linter.unusedSimpArgs false
set_option linter.unusedVariables false
namespace Go.Port
open Go.RowKit
section
variable {w0 : World} {D : List Nat} {n q : Nat} {ops : Array Oper} {Q : Exit → Act → World → Prop} {g : Nat → Value} {F : List (Nat × Value)} {L : List Ch}
variable {rest : List Oper} {ty : TypeId} {pos : String} {af : Array Edge} {d : Nat}
theorem sx_loadV {P : Program} {T sz : Nat} [TyT P T sz true] (i : Nat) (vs : List Value) {x : Operand} {b off : Nat} {cs : List Value} {T' : TypeId} {fr : Nat × Nat} (hx : evn n (get g F) x = .pointer (some ⟨b, off, none⟩)) (hL : L[i]? = some [(b, .cells cs.toArray T' fr)]) (hv : (cs.drop off).take sz = vs) (hl : vs.length = sz)
    (h : SX P w0 D n q ops Q rest g ((d, .agg vs.toArray) :: F) L) : SX P w0 D n q ops Q ({ dst := some d, op := .load T x, type := ty, pos := pos, after := af, guard := none } :: rest) g F L := by
  subst hv
  exact sx_loadP i hx hL hl h
end
end Go.Port
/- Steps of a call: places of an array's value, literals of arrays. No program here. -/
set_option linter.unusedSimpArgs false
set_option linter.unusedVariables false
namespace Go.Port
open Go.RowKit
section
variable {P : Program} {w0 : World} {D : List Nat} {n q : Nat} {ops : Array Oper} {Q : Exit → Act → World → Prop} {g : Nat → Value} {F : List (Nat × Value)} {L : List Ch}
variable {rest : List Oper} {ty : TypeId} {pos : String} {af : Array Edge} {d : Nat}
theorem sx_buildC {T : Nat} {ps : List (Nat × Operand)} (cs : List Value) (hc : P.built T (pvals n (get g F) ps) = some cs.toArray) (h : SX P w0 D n q ops Q rest g ((d, .agg cs.toArray) :: F) L) :
    SX P w0 D n q ops Q ({ dst := some d, op := .build T ps.toArray, type := ty, pos := pos, after := af, guard := none } :: rest) g F L :=
  sx_run _ rfl rfl (fun w _ => by
    show ((do pure (Next.value (← Instr.build T (ps.toArray.map fun p => (p.1, evn n (get g F) p.2))))) : Sem Next).run P w = _
    refine run_v ?_
    rw [List.map_toArray, pvals_eq]
    exact run_build w T _ _ hc) h
theorem sx_indexA {T len E : Nat} [ArT P T len E 1] [TyT P E 1 false] {x y : Operand} {cs : List Value} {i : Int} {v : Value} (hx : evn n (get g F) x = .agg cs.toArray) (hy : evn n (get g F) y = .int .i64 i) (hi : 0 ≤ i ∧ i < len) (hv : cs[i.toNat]? = some v) (h : SX P w0 D n q ops Q rest g ((d, v) :: F) L) :
    SX P w0 D n q ops Q ({ dst := some d, op := .index T x y, type := ty, pos := pos, after := af, guard := none } :: rest) g F L :=
  sx_run _ rfl rfl (fun w _ => by
    have h1 := ArT.und (P := P) (T := T) (len := len) (E := E) (sz := 1)
    have h2 := ArT.size_run (P := P) (T := T) (len := len) (E := E) (sz := 1) w
    have h3 : (part E cs.toArray (i.toNat * 1)).run P w = .ok v w := by
      unfold part
      rw [Sem.run_bind, TyT.agg_run (P := P) (T := E) (sz := 1) (agg := false) w]
      simp only [Result.andThen_ok, List.getElem?_toArray, Nat.mul_one, hv, Bool.false_eq_true, if_false]
      rfl
    show ((do pure (Next.value (← Instr.index T (evn n (get g F) x) (evn n (get g F) y)))) : Sem Next).run P w = _
    rw [hx, hy]
    refine run_v ?_
    simp only [Instr.index, asIntOf, Sem.run_bind, Sem.run_pure, Result.andThen_ok, run_underlying h1, hi.1, hi.2, and_self, if_true, h2, h3]) h
end
end Go.Port
/- Steps of a call: rows of the call's own, read. No program here. -/
set_option linter.unusedSimpArgs false
set_option linter.unusedVariables false
namespace Go.Port
open Go.RowKit
theorem OwnS.base' {E sz : Nat} {A : Option Addr} {n cap : Nat} {xs : List Value} {c : Ch} (h : OwnS E sz (.slice A n cap) n xs c) : ∃ b, 0 < n → A = some ⟨b, 0, none⟩ := by
  rcases h.2 with ⟨_, h0, _⟩ | ⟨b, _, _, hv, _⟩
  · exact ⟨0, fun hh => by omega⟩
  · simp only [Value.slice.injEq] at hv
    exact ⟨b, fun _ => hv.1⟩
theorem OwnS.cell' {E sz : Nat} {b n cap k : Nat} {A : Option Addr} {xs : List Value} {c : Ch} {w : World} {v : Value} (h : OwnS E sz (.slice A n cap) n xs c) (hA : A = some ⟨b, 0, none⟩) (hn : 0 < n) (hc : Has w c) (hv : xs[k]? = some v) : w.cell? ⟨b, 0 + k, none⟩ = some v := by
  subst hA
  rcases (h.sees hc).1.2 with h0 | ⟨b', o, e, _, _, hcs⟩
  · omega
  · simp only [Option.some.injEq, Addr.mk.injEq] at e
    obtain ⟨rfl, rfl, _⟩ := e
    exact hcs k v hv
section
variable {P : Program} {w0 : World} {D : List Nat} {n q : Nat} {ops : Array Oper} {Q : Exit → Act → World → Prop} {g : Nat → Value} {F : List (Nat × Value)} {L : List Ch}
variable {rest : List Oper} {ty : TypeId} {pos : String} {af : Array Edge} {d : Nat}
theorem sx_loadSA {T sz E z : Nat} [TyT P T sz true] (j k : Nat) (vs : List Value) {x : Operand} {b p m cap : Nat} {A : Option Addr} {xs : List Value} {c : Ch} (hx : evn n (get g F) x = .pointer (some ⟨b, p, none⟩)) (ho : OwnS E z (.slice A m cap) m xs c) (hA : A = some ⟨b, 0, none⟩) (hp : p = k) (hm0 : 0 < m) (hL : L[j]? = some c) (hl : vs.length = sz) (hv : ∀ i v, vs[i]? = some v → xs[k + i]? = some v)
    (h : SX P w0 D n q ops Q rest g ((d, .agg vs.toArray) :: F) L) : SX P w0 D n q ops Q ({ dst := some d, op := .load T x, type := ty, pos := pos, after := af, guard := none } :: rest) g F L := by
  subst hp
  exact sx_loadMA hx hl (fun w hm i v hi => by have := ho.cell' hA hm0 (hm.at j hL) (hv i v hi); rwa [Nat.zero_add] at this) h
theorem sx_loadS1 {T sz E z : Nat} [TyT P T sz false] (j k : Nat) {v : Value} {x : Operand} {b p m cap : Nat} {A : Option Addr} {xs : List Value} {c : Ch} (hx : evn n (get g F) x = .pointer (some ⟨b, p, none⟩)) (ho : OwnS E z (.slice A m cap) m xs c) (hA : A = some ⟨b, 0, none⟩) (hp : p = k) (hm0 : 0 < m) (hL : L[j]? = some c) (hv : xs[k]? = some v)
    (h : SX P w0 D n q ops Q rest g ((d, v) :: F) L) : SX P w0 D n q ops Q ({ dst := some d, op := .load T x, type := ty, pos := pos, after := af, guard := none } :: rest) g F L := by
  subst hp
  exact sx_loadM hx (fun w hm => by have := ho.cell' hA hm0 (hm.at j hL) hv; rwa [Nat.zero_add] at this) h
end
end Go.Port
/- Steps of a call: functions as values. No program here. -/
set_option linter.unusedSimpArgs false
set_option linter.unusedVariables false
namespace Go.Port
open Go.RowKit
section
variable {P : Program} {w0 : World} {D : List Nat} {n q : Nat} {ops : Array Oper} {Q : Exit → Act → World → Prop} {g : Nat → Value} {F : List (Nat × Value)} {L : List Ch}
variable {rest : List Oper} {ty : TypeId} {pos : String} {af : Array Edge} {d : Nat}
theorem sx_makeFunc {fn : Fn} {la : List Operand} (vs : List Value) (hv : evs n (get g F) la = vs) (h : SX P w0 D n q ops Q rest g ((d, .func fn #[] vs.toArray) :: F) L) :
    SX P w0 D n q ops Q ({ dst := some d, op := .makeFunc fn #[] la.toArray, type := ty, pos := pos, after := af, guard := none } :: rest) g F L :=
  sx_run (.func fn #[] vs.toArray) rfl rfl (fun w _ => by
    show ((do pure (Next.value (← Instr.makeFunc fn (#[].map (evn n (get g F))) (la.toArray.map (evn n (get g F)))))) : Sem Next).run P w = _
    simp only [List.map_toArray, evs_map, hv]; rfl) h
theorem run_callF {k : Nat} [CalT P k] {t : Nat} {la : List Operand} {ats : Array TypeId} {dst : Option Nat} {caps : List Value} (hx : evn n (get g F) (.tmp t) = .func (.func k) #[] caps.toArray) {w : World} : (execOp (evn n (get g F)) { dst := dst, op := .call { callee := .value (.tmp t), args := la.toArray, argTypes := ats }, type := ty, pos := pos, after := af, guard := none }).run P w = .ok (.enter k (evs n (get g F) la ++ caps).toArray) w := by
  have h1 := CalT.run (P := P) (k := k) (evs n (get g F) la ++ caps).toArray w
  simp only [execOp, resolve, hx]
  simp [Deferred.ofValue, evs_map, invoke, go_sem] at h1 ⊢
  exact h1
theorem sx_callF {k t : Nat} [CalT P k] {la : List Operand} {ats : Array TypeId} {caps : List Value} {v : Value} (hx : evn n (get g F) (.tmp t) = .func (.func k) #[] caps.toArray) (hc : ∀ w, Mem w0 w D L → Calls P k (evs n (get g F) la ++ caps).toArray w (Ret w [] (isV v))) (h : SX P w0 D n q ops Q rest g ((d, v) :: F) L) (hq : Nat.blt q 2 = true) :
    SX P w0 D n q ops Q ({ dst := some d, op := .call { callee := .value (.tmp t), args := la.toArray, argTypes := ats }, type := ty, pos := pos, after := af, guard := none } :: rest) g F L := by
  match q with
  | 0 =>
    exact .mk fun w hm => wpList_plain rfl fun K hK => by
      unfold Oper.wp
      rw [Fr.evn, run_callF hx, Oper.upon_enter]
      refine (hc w hm).mono ?_
      rintro e w' ⟨v', L', rfl, hm', rfl, rfl⟩
      show K ((Fr n (get g F)).put (some d) v') w'
      rw [Fr.put, get_put]
      exact hK _ _ (h.out _ (hm.call0 hm'))
  | 1 =>
    refine .mk1 ?_
    have h1 := h.out1
    unfold wpQuiet
    rw [if_pos (by simp [Region.wanted])]
    refine ⟨v, fun w hm => ?_, by rw [show (Fr n (get g F)).put (some d) v = Fr n (get g ((d, v) :: F)) by rw [Fr.put, get_put]]; exact h1⟩
    unfold Oper.quietAt
    rw [Fr.evn, run_callF hx]
    refine ⟨rfl, (hc w hm).mono ?_⟩
    rintro e w' ⟨v', L', rfl, hm', rfl, rfl⟩
    exact ⟨rfl, hm.call0 hm'⟩
  | q + 2 => simp [Nat.blt] at hq
theorem at_callT (t : Nat) {dst : Option Nat} {la : Array Operand} {ats : Array TypeId} {gd : Option (Nat × Bool)} (h : SX P w0 D n q ops Q ({ dst := dst, op := .call { callee := .value (.tmp t), args := la, argTypes := ats }, type := ty, pos := pos, after := af, guard := gd } :: rest) g F L) :
    SX P w0 D n q ops Q ({ dst := dst, op := .call { callee := .value (.tmp t), args := la, argTypes := ats }, type := ty, pos := pos, after := af, guard := gd } :: rest) g F L := h
end
end Go.Port
/- Steps of a call: functions as values that change what they hold. No program here. -/
set_option linter.unusedSimpArgs false
set_option linter.unusedVariables false
namespace Go.Port
open Go.RowKit
theorem Mem.self {w0 w : World} {D : List Nat} {c : Ch} {L : List Ch} (h : Mem w0 w D (c :: L)) : Mem w w (c.map (·.1)) [c] := by
  have hn := h.nodup
  simp only [List.flatten_cons, List.map_append] at hn
  have := Mem.start (w := w) (L := [c]) (fun e he => h.head e (by simpa using he)) (by simpa using (List.nodup_append.1 hn).1)
  simpa using this
/-- What was there first is not what a call made. -/
theorem Mem.apart {w0 w : World} {c : Ch} {L : List Ch} (h : Mem w0 w [] (c :: L)) {sz : Nat} {A : Option Addr} {len cap : Nat} {xs : List Value} (hs : IsSl w0 sz A len cap xs) : len = 0 ∨ ∀ b o, A = some ⟨b, o, none⟩ → b ∉ c.map (·.1) := by
  rcases hs.2 with h0 | ⟨b, o, rfl, hb, _, _⟩
  · exact .inl (by omega)
  · refine .inr fun b' o' e hm => ?_
    simp only [Option.some.injEq, Addr.mk.injEq] at e
    obtain ⟨rfl, _⟩ := e
    obtain ⟨e, he, rfl⟩ := List.mem_map.1 hm
    rcases h.own e (by simp [he]) with h1 | h1
    · omega
    · cases h1
section
variable {P : Program} {w0 : World} {D : List Nat} {n q : Nat} {ops : Array Oper} {Q : Exit → Act → World → Prop} {g : Nat → Value} {F : List (Nat × Value)} {L : List Ch}
variable {rest : List Oper} {ty : TypeId} {pos : String} {af : Array Edge} {d : Nat}
end
end Go.Port
