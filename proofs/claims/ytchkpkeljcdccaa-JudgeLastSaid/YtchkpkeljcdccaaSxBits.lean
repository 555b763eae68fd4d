/- Steps of a call: shifts, and, or, and not; what is copied onto rows; new rows. No program here. -/
import Derived.Test.YtchkpkeljcdccaaSxMore
import Derived.Test.YtchkpkeljcdccaaPlain
set_option linter.unusedSimpArgs false
set_option linter.unusedVariables false
namespace Go.Port
open Go.RowKit

theorem toNat_i64 {a : Int} (h : 0 ≤ a ∧ a ≤ 9223372036854775807) : (BitVec.ofInt 64 a).toNat = a.toNat := by
  obtain ⟨m, rfl⟩ := Int.eq_ofNat_of_zero_le h.1
  rw [BitVec.ofInt_natCast, BitVec.toNat_ofNat]
  exact Nat.mod_eq_of_lt (by omega)
theorem fdiv_pos {a b : Int} (hb : 0 < b) : a.fdiv b = a / b := Int.fdiv_eq_ediv_of_nonneg a (by omega)
section
variable {P : Program} {w0 : World} {D : List Nat} {n q : Nat} {ops : Array Oper} {Q : Exit → Act → World → Prop} {g : Nat → Value} {F : List (Nat × Value)} {L : List Ch}
variable {rest : List Oper} {ty : TypeId} {pos : String} {af : Array Edge} {d : Nat}
theorem sx_shr {x y : Operand} {k : IntKind} {a b : Int} {t1 t2 : TypeId} (hx : evn n (get g F) x = .int .i64 a) (hy : evn n (get g F) y = .int k b) (hb : 0 ≤ b ∧ b ≤ 64) (h : SX P w0 D n q ops Q rest g ((d, .int .i64 (a / 2 ^ b.toNat)) :: F) L) :
    SX P w0 D n q ops Q ({ dst := some d, op := .binOp .shr t1 x y t2, type := ty, pos := pos, after := af, guard := none } :: rest) g F L :=
  sx_run (.int .i64 (a / 2 ^ b.toNat)) rfl rfl (fun w _ => by
    have h3 : ¬ b < 0 := by omega
    have h4 : min b.toNat IntKind.i64.bits = b.toNat := by
      have : IntKind.i64.bits = 64 := rfl
      rw [this]; omega
    have h5 : (0 : Int) < 2 ^ b.toNat := Int.pow_pos (by decide)
    simp only [execOp, hx, hy, eqGuard, binOp, Op.shift, if_neg h3, h4, fdiv_pos h5]; rfl) h
theorem sx_shl8 {x y : Operand} {k : IntKind} {a : Int} {t1 t2 : TypeId} (hx : evn n (get g F) x = .int .i64 a) (hy : evn n (get g F) y = .int k 8) (hb : -36028797018963968 ≤ a ∧ a ≤ 36028797018963967) (h : SX P w0 D n q ops Q rest g ((d, .int .i64 (a * 256)) :: F) L) :
    SX P w0 D n q ops Q ({ dst := some d, op := .binOp .shl t1 x y t2, type := ty, pos := pos, after := af, guard := none } :: rest) g F L :=
  sx_run (.int .i64 (a * 256)) rfl rfl (fun w _ => by
    have h3 : ¬ (8 : Int) < 0 := by omega
    have h4 : min (8 : Int).toNat IntKind.i64.bits = 8 := rfl
    have h5 : (2 : Int) ^ 8 = 256 := rfl
    simp only [execOp, hx, hy, eqGuard, binOp, Op.shift, if_neg h3, h4, h5, IntWalk.i64_in _ (by omega : -9223372036854775808 ≤ a * 256 ∧ a * 256 ≤ 9223372036854775807)]; rfl) h
/-- 'or' of a number that ends in eight noughts, and a byte. -/
theorem sx_or8 {x y : Operand} {a b : Int} {t1 t2 : TypeId} (hx : evn n (get g F) x = .int .i64 (a * 256)) (hy : evn n (get g F) y = .int .i64 b) (hb : (0 ≤ a ∧ a ≤ 36028797018963967) ∧ 0 ≤ b ∧ b ≤ 255) (h : SX P w0 D n q ops Q rest g ((d, .int .i64 (a * 256 + b)) :: F) L) :
    SX P w0 D n q ops Q ({ dst := some d, op := .binOp .or t1 x y t2, type := ty, pos := pos, after := af, guard := none } :: rest) g F L :=
  sx_run (.int .i64 (a * 256 + b)) rfl rfl (fun w _ => by
    have h1 := or_byte a b hb.1.1 hb.1.2 hb.2.1 hb.2.2
    have h2 : ∀ x y, (Op.intBits .or .i64 x y : Sem Value) = pure (.int .i64 (bits .or .i64 x y)) := fun _ _ => rfl
    simp only [execOp, hx, hy, eqGuard, binOp, h2, h1]; rfl) h
def andI (a b : Int) : Int := ((a.toNat &&& b.toNat : Nat) : Int)
def orI (a b : Int) : Int := ((a.toNat ||| b.toNat : Nat) : Int)
theorem sx_bits {o : BinOp} {x y : Operand} {a b r : Int} {t1 t2 : TypeId} (hx : evn n (get g F) x = .int .i64 a) (hy : evn n (get g F) y = .int .i64 b) (ho : o = .and ∨ o = .or ∨ o = .andNot) (hr : (Op.intBits o .i64 a b : Sem Value) = pure (.int .i64 r)) (h : SX P w0 D n q ops Q rest g ((d, .int .i64 r) :: F) L) :
    SX P w0 D n q ops Q ({ dst := some d, op := .binOp o t1 x y t2, type := ty, pos := pos, after := af, guard := none } :: rest) g F L :=
  sx_run (.int .i64 r) rfl rfl (fun w _ => by
    rcases ho with rfl | rfl | rfl <;> (simp only [execOp, hx, hy, eqGuard, binOp, hr]; rfl)) h
theorem intBits_and {a b : Int} (ha : 0 ≤ a ∧ a ≤ 9223372036854775807) (hb : 0 ≤ b ∧ b ≤ 9223372036854775807) : (Op.intBits .and .i64 a b : Sem Value) = pure (.int .i64 (andI a b)) := by
  have h1 : a = (a.toNat : Int) := by omega
  have h2 : b = (b.toNat : Int) := by omega
  have h3 := and_i64 a.toNat b.toNat (by omega) (by omega)
  rw [← h1, ← h2] at h3
  show pure (Value.int .i64 (bits .and .i64 a b)) = _
  rw [h3]; rfl
theorem intBits_or {a b : Int} (ha : 0 ≤ a ∧ a ≤ 9223372036854775807) (hb : 0 ≤ b ∧ b ≤ 9223372036854775807) : (Op.intBits .or .i64 a b : Sem Value) = pure (.int .i64 (orI a b)) := by
  have h1 : a = (a.toNat : Int) := by omega
  have h2 : b = (b.toNat : Int) := by omega
  have h3 := or_i64 a.toNat b.toNat (by omega) (by omega)
  rw [← h1, ← h2] at h3
  show pure (Value.int .i64 (bits .or .i64 a b)) = _
  rw [h3]; rfl
/-- The lower fifteen bits of a word. -/
theorem intBits_not15 {a : Int} (ha : 0 ≤ a ∧ a ≤ 65535) : (Op.intBits .andNot .i64 a 32768 : Sem Value) = pure (.int .i64 (a % 32768)) := by
  have h1 := toNat_i64 (a := a) (by omega)
  have h2 : (BitVec.ofInt 64 a &&& ~~~ BitVec.ofInt 64 32768).toNat = a.toNat % 32768 := by
    have hlt : (BitVec.ofInt 64 a) < 65536#64 := by rw [BitVec.lt_def, h1]; show a.toNat < 65536; omega
    have e : BitVec.ofInt 64 a &&& ~~~ BitVec.ofInt 64 32768 = BitVec.ofInt 64 a &&& 32767#64 := by
      ext i hi
      simp only [BitVec.getElem_and, BitVec.getElem_not]
      by_cases hi16 : i < 16
      · have : i = 0 ∨ i = 1 ∨ i = 2 ∨ i = 3 ∨ i = 4 ∨ i = 5 ∨ i = 6 ∨ i = 7 ∨ i = 8 ∨ i = 9 ∨ i = 10 ∨ i = 11 ∨ i = 12 ∨ i = 13 ∨ i = 14 ∨ i = 15 := by omega
        rcases this with rfl | rfl | rfl | rfl | rfl | rfl | rfl | rfl | rfl | rfl | rfl | rfl | rfl | rfl | rfl | rfl <;> exact congrArg (fun z => (BitVec.ofInt 64 a)[_] && z) (by decide +revert)
      · have : (BitVec.ofInt 64 a)[i] = false := by
          rw [BitVec.getElem_eq_testBit_toNat, h1]
          exact Nat.testBit_lt_two_pow (Nat.lt_of_lt_of_le (by omega : a.toNat < 2 ^ 16) (Nat.pow_le_pow_right (by decide) (by omega)))
        rw [this]; simp
    rw [e, BitVec.toNat_and, h1]
    show a.toNat &&& 32767 = _
    exact Nat.and_two_pow_sub_one_eq_mod a.toNat 15
  show pure (Value.int .i64 (IntKind.i64.wrap ((BitVec.ofInt 64 a &&& ~~~ BitVec.ofInt 64 32768).toNat : Int))) = _
  rw [h2, IntWalk.i64_in _ (by omega)]
  congr 2; omega
theorem intBits_or15 {a : Int} (ha : 0 ≤ a ∧ a < 32768) : (Op.intBits .or .i64 a 32768 : Sem Value) = pure (.int .i64 (a + 32768)) := by
  rw [intBits_or (by omega) (by omega)]
  congr 2
  have h1 : a.toNat ||| 32768 = 32768 + a.toNat := by
    have := Nat.two_pow_add_eq_or_of_lt (i := 15) (b := a.toNat) (by omega) 1
    rw [Nat.or_comm]; simpa using this.symm
  show ((a.toNat ||| (32768 : Int).toNat : Nat) : Int) = _
  rw [show (32768 : Int).toNat = 32768 from rfl, h1]; omega
theorem sx_andI {x y : Operand} {a b : Int} {t1 t2 : TypeId} (hx : evn n (get g F) x = .int .i64 a) (hy : evn n (get g F) y = .int .i64 b) (hb : (0 ≤ a ∧ a ≤ 9223372036854775807) ∧ 0 ≤ b ∧ b ≤ 9223372036854775807) (h : SX P w0 D n q ops Q rest g ((d, .int .i64 (andI a b)) :: F) L) :
    SX P w0 D n q ops Q ({ dst := some d, op := .binOp .and t1 x y t2, type := ty, pos := pos, after := af, guard := none } :: rest) g F L := sx_bits hx hy (by simp) (intBits_and hb.1 hb.2) h
theorem sx_or15 {x y : Operand} {a : Int} {t1 t2 : TypeId} (hx : evn n (get g F) x = .int .i64 a) (hy : evn n (get g F) y = .int .i64 32768) (hb : 0 ≤ a ∧ a < 32768) (h : SX P w0 D n q ops Q rest g ((d, .int .i64 (a + 32768)) :: F) L) :
    SX P w0 D n q ops Q ({ dst := some d, op := .binOp .or t1 x y t2, type := ty, pos := pos, after := af, guard := none } :: rest) g F L := sx_bits hx hy (by simp) (intBits_or15 hb) h
theorem sx_not15 {x y : Operand} {a : Int} {t1 t2 : TypeId} (hx : evn n (get g F) x = .int .i64 a) (hy : evn n (get g F) y = .int .i64 32768) (hb : 0 ≤ a ∧ a ≤ 65535) (h : SX P w0 D n q ops Q rest g ((d, .int .i64 (a % 32768)) :: F) L) :
    SX P w0 D n q ops Q ({ dst := some d, op := .binOp .andNot t1 x y t2, type := ty, pos := pos, after := af, guard := none } :: rest) g F L := sx_bits hx hy (by simp) (intBits_not15 hb) h
theorem run_cells {w : World} {sz bl cap : Nat} {A : Option Addr} {xs : List Value} (h : IsSl w sz A bl cap xs) {k : Nat} (hk : k ≤ bl) : (Builtin.firstCells sz k (.slice A bl cap)).run P w = .ok (xs.take (k * sz)).toArray w := by
  have hle : k * sz ≤ xs.length := by rw [h.1]; exact Nat.mul_le_mul_right _ hk
  rcases h.2 with rfl | ⟨b, o, rfl, hb, _, hc⟩
  · obtain rfl : k = 0 := by omega
    obtain rfl : xs = [] := List.eq_nil_of_length_eq_zero (by simpa using h.1)
    cases A with
    | none => simp [Builtin.firstCells, go_sem]
    | some a => simp [Builtin.firstCells, loadCells, loadCellsFrom, go_sem]
  · have h1 := loadCells_run (P := P) (w := w) (b := b) (xs.take (k * sz)) o 0 #[] (fun j v hv => by
      rw [Nat.zero_add]
      rw [List.getElem?_take] at hv
      split at hv
      · exact hc j v hv
      · cases hv)
    rw [List.length_take, Nat.min_eq_left hle] at h1
    show (loadCellsFrom ⟨b, o, none⟩ 0 (k * sz) #[]).run P w = _
    rw [h1]; simp
theorem copy_run {T E sz bytes : Nat} {z : Value} [SlT P T E sz bytes z] {w : World} {b off dl cp sl scap : Nat} {A : Option Addr} {cs xs : List Value} {T' : TypeId} {T2 : TypeId}
    (hs : IsSl w sz A sl scap xs) (h1 : ∀ v ∈ xs, oneB v = true) (hle : off + dl * sz ≤ cs.length) (h : w.heap[b]? = some (.cells cs.toArray T' (0, 0))) :
    ∃ w', (Builtin.copy_ #[T, T2] ty #[.slice (some ⟨b, off, none⟩) dl cp, .slice A sl scap]).run P w = .ok (.int .i64 (min sl dl : Nat)) w' ∧ w'.heap[b]? = some (.cells (splice cs off (xs.take (min sl dl * sz))).toArray T' (0, 0)) ∧ w'.os = w.os ∧ w'.tape = w.tape ∧ w'.output = w.output ∧ w'.heap.size = w.heap.size ∧ ∀ k, k ≠ b → w'.heap[k]? = w.heap[k]? := by
  have hu := SlT.und (P := P) (T := T) (E := E) (sz := sz) (bytes := bytes) (z := z)
  obtain ⟨inf, hinf, _, hsz, _⟩ := info_parts (SlT.info (P := P) (T := T) (E := E) (sz := sz) (bytes := bytes) (z := z))
  have h2 : (sizeOf E).run P w = .ok sz w := by simp [sizeOf, typeInfo, hinf, hsz, go_sem]
  have hmul : min sl dl * sz ≤ dl * sz := Nat.mul_le_mul_right _ (Nat.min_le_right _ _)
  obtain ⟨w', r1, r2, r⟩ := storeCells_run (P := P) (b := b) (T := T') (xs.take (min sl dl * sz)) off 0 cs w (fun v hv => h1 v (List.mem_of_mem_take hv)) (by rw [List.length_take, Nat.add_zero]; omega) h
  refine ⟨w', ?_, by rw [Nat.add_zero] at r2; exact r2, r⟩
  have h3 := run_cells (P := P) hs (Nat.min_le_left sl dl)
  unfold Builtin.copy_
  simp only [List.getElem?_toArray, List.getElem?_cons_zero, List.getElem?_cons_succ]
  simp only [Builtin.lenOf, Sem.run_bind, Sem.run_pure, Result.andThen_ok, run_underlying hu, h2, show Nat.min sl dl = min sl dl from rfl]
  rw [h3]
  simp only [Result.andThen_ok, Sem.run_bind, r1]
  rfl
/-- What is copied onto a row. -/
theorem sx_copy {T E sz bytes : Nat} {z : Value} [SlT P T E sz bytes z] {T2 : TypeId} {x y : Operand} {b off dl cp sl scap : Nat} {A : Option Addr} {cs xs : List Value} {T' : TypeId}
    (hx : evn n (get g F) x = .slice (some ⟨b, off, none⟩) dl cp) (hy : evn n (get g F) y = .slice A sl scap) (hs : ∀ w, Mem w0 w D ([(b, .cells cs.toArray T' (0, 0))] :: L) → IsSl w sz A sl scap xs) (h1 : ∀ v ∈ xs, oneB v = true) (hle : off + dl * sz ≤ cs.length)
    (h : SX P w0 D n 0 ops Q rest g ((d, .int .i64 (min sl dl : Nat)) :: F) ([(b, .cells (splice cs off (xs.take (min sl dl * sz))).toArray T' (0, 0))] :: L)) :
    SX P w0 D n 0 ops Q ({ dst := some d, op := .call { callee := .builtin .copy, args := #[x, y], argTypes := #[T, T2] }, type := ty, pos := pos, after := af, guard := none } :: rest) g F ([(b, .cells cs.toArray T' (0, 0))] :: L) :=
  .mk fun w hm => wpList_plain rfl fun K hK => by
    obtain ⟨w', r1, r2, r3, r4, r5, r6, r7⟩ := copy_run (P := P) (T := T) (E := E) (sz := sz) (bytes := bytes) (z := z) (w := w) (ty := ty) (T2 := T2) (dl := dl) (cp := cp) (hs w hm) h1 hle (hm.head (b, .cells cs.toArray T' (0, 0)) (by simp))
    unfold Oper.wp
    have hr : (execOp (evn n (get g F)) { dst := some d, op := .call { callee := .builtin .copy, args := #[x, y], argTypes := #[T, T2] }, type := ty, pos := pos, after := af, guard := none }).run P w = .ok (.value (.int .i64 (min sl dl : Nat))) w' := by
      simp only [execOp, resolve, invoke, builtin, Sem.run_bind, Sem.run_pure, Result.andThen_ok, List.map_toArray, List.map_cons, List.map_nil, hx, hy, r1]
    rw [Fr.evn, hr]
    show K ((Fr n (get g F)).put (some d) _) w'
    rw [Fr.put, get_put]
    exact hK _ _ (h.out _ (hm.upd r3 r4 r5 (by omega) r2 fun k hk _ => r7 k hk))
theorem sx_sliceFromP {T E sz bytes : Nat} {z : Value} [SlT P T E sz bytes z] {x y : Operand} {b o len cap : Nat} {k : Int} (hx : evn n (get g F) x = .slice (some ⟨b, o, none⟩) len cap) (hy : evn n (get g F) y = .int .i64 k) (hk : (0 ≤ k ∧ k ≤ len) ∧ k < cap)
    (h : SX P w0 D n q ops Q rest g ((d, .slice (some ⟨b, o + k.toNat * sz, none⟩) (len - k.toNat) (cap - k.toNat)) :: F) L) :
    SX P w0 D n q ops Q ({ dst := some d, op := .slice T x (some y) none none, type := ty, pos := pos, after := af, guard := none } :: rest) g F L := by
  have e : shift (some ⟨b, o, none⟩) cap k.toNat sz = some ⟨b, o + k.toNat * sz, none⟩ := by
    unfold shift
    rw [if_neg (by omega), Option.map_some, addr_add]
  exact sx_sliceFrom hx hy hk.1 (by rw [e]; exact h)
/-- A row of the call's own, with something copied onto it. -/
theorem splice_mid (a b c ext vs : List Value) (h : b.length = vs.length) : splice (a ++ b ++ c ++ ext) a.length vs = a ++ vs ++ c ++ ext := by
  rw [splice_get _ _ _ (by simp only [List.length_append]; omega)]
  rw [List.append_assoc, List.append_assoc, List.take_left, ← h, ← List.drop_drop, List.drop_left, List.drop_left]
  simp only [List.append_assoc]
theorem sx_subU8 {x y : Operand} {a b : Int} {t1 t2 : TypeId} (hx : evn n (get g F) x = .int .u8 a) (hy : evn n (get g F) y = .int .u8 b) (hb : 0 ≤ a - b ∧ a - b ≤ 255) (h : SX P w0 D n q ops Q rest g ((d, .int .u8 (a - b)) :: F) L) :
    SX P w0 D n q ops Q ({ dst := some d, op := .binOp .sub t1 x y t2, type := ty, pos := pos, after := af, guard := none } :: rest) g F L :=
  sx_run (.int .u8 (a - b)) rfl rfl (fun w _ => by
    have e : IntKind.u8.wrap (a - b) = a - b := by
      show (a - b) % 256 = a - b
      omega
    simp only [execOp, hx, hy, eqGuard, binOp, Op.intArith, e]; rfl) h
theorem set_app {xs ext : List Value} {off : Nat} {v : Value} (h : off < xs.length) : (xs ++ ext).set off v = xs.set off v ++ ext := by rw [List.set_append_left _ _ h]
/-- One place of a row that is the call's own. -/
theorem sx_storeX {T sz : Nat} [TyT P T sz false] {p : Operand} {b off : Nat} {xs ext : List Value} {T' : TypeId} {v : Value} (hp : evn n (get g F) p = .pointer (some ⟨b, off, none⟩)) (h1 : oneB v = true) (hsz : Nat.beq sz 1 = true) (hlt : off < xs.length)
    (h : SX P w0 D n 0 ops Q rest g F ([(b, .cells (xs.set off v ++ ext).toArray T' (0, 0))] :: L)) : SX P w0 D n 0 ops Q ({ dst := none, op := .store T p (.const v), type := ty, pos := pos, after := af, guard := none } :: rest) g F ([(b, .cells (xs ++ ext).toArray T' (0, 0))] :: L) :=
  sx_store hp h1 hsz (Nat.ble_eq_true_of_le (by show off + 1 ≤ _; rw [List.length_append]; omega)) (set_app hlt) h
theorem OwnS.set {E : Nat} {b n cap : Nat} {xs ext : List Value} {off : Nat} {v : Value} (h : OwnS E 1 (.slice (some ⟨b, 0, none⟩) n cap) n xs [(b, .cells (xs ++ ext).toArray E (0, 0))]) : OwnS E 1 (.slice (some ⟨b, 0, none⟩) n cap) n (xs.set off v) [(b, .cells (xs.set off v ++ ext).toArray E (0, 0))] := by
  refine ⟨by rw [List.length_set]; exact h.1, ?_⟩
  rcases h.2 with ⟨hv, _⟩ | ⟨b', cap', ext', hv, h1, h2, h3, hc⟩
  · cases hv
  · simp only [Value.slice.injEq] at hv
    obtain ⟨ha, _, rfl⟩ := hv
    simp only [Option.some.injEq, Addr.mk.injEq] at ha
    obtain ⟨rfl, _⟩ := ha
    simp only [List.cons.injEq, Prod.mk.injEq, true_and, and_true, Obj.cells.injEq] at hc
    have hc' : xs ++ ext = xs ++ ext' := by simpa using hc
    obtain rfl := List.append_cancel_left hc'
    exact .inr ⟨_, _, ext, rfl, h1, h2, by rw [List.length_append, List.length_set, ← List.length_append]; exact h3, rfl⟩
/-- What memory tells may be known. -/
theorem cx_know {c : Code} {p : Prop} (hp : ∀ w, Mem w0 w D L → p) (h : p → CX P w0 D n Q c g F L) : CX P w0 D n Q c g F L := .mk fun w hm => (h (hp w hm)).out w hm
/- Results that lie in a cell. -/
theorem loadVar_agg {T sz : Nat} [TyT P T sz true] {w : World} {b off : Nat} {vs : List Value} (hl : vs.length = sz) (h : ∀ j v, vs[j]? = some v → w.cell? ⟨b, off + j, none⟩ = some v) : (loadVar T ⟨b, off, none⟩).run P w = .ok (.agg vs.toArray) w := by
  have h1 := TyT.agg_run (P := P) (T := T) (sz := sz) (agg := true) w
  have h2 := TyT.size_run (P := P) (T := T) (sz := sz) (agg := true) w
  have h3 := loadCells_run (P := P) (w := w) (b := b) vs off 0 #[] (fun j v hv => by rw [Nat.zero_add]; exact h j v hv)
  rw [hl] at h3
  simp [loadVar, h1, h2, loadCells, h3, go_sem]
theorem qx_retC3 {fn : Func} {R : Value → List Ch → Prop} {t u s b : Nat} {T sz : Nat} [TyT P T sz true] {x y : Value} {cs : List Value} {T' : TypeId} {fr : Nat × Nat} (i : Nat) (L' : List Ch) (h : fn.results = #[.cell t T, .tmp u, .tmp s])
    (ht : evn n (get g F) (.tmp t) = .pointer (some ⟨b, 0, none⟩)) (hL : L[i]? = some [(b, .cells cs.toArray T' fr)]) (hl : cs.length = sz) (hx : evn n (get g F) (.tmp u) = x) (hy : evn n (get g F) (.tmp s) = y) (hR : R (.tuple #[.agg cs.toArray, x, y]) L') (hM : ∀ w, Mem w0 w D L → Mem w0 w D L') :
    QX w0 D n (bodyPost P fn (Ret w0 D R)) .ret g F L :=
  .mk fun w hm => by
    have h1 : (Fr n (get g F)).tmps.getD t undef = .pointer (some ⟨b, 0, none⟩) := by rw [← ht, ← Fr.evn]; rfl
    have h2 : (Fr n (get g F)).tmps.getD u undef = x := by rw [← hx, ← Fr.evn]; rfl
    have h3 : (Fr n (get g F)).tmps.getD s undef = y := by rw [← hy, ← Fr.evn]; rfl
    have h4 := loadVar_agg (P := P) (T := T) (w := w) (b := b) (off := 0) hl (fun j v hj => cell_of_cells (hm.at i hL (b, .cells cs.toArray T' fr) (by simp)) (by rw [Nat.zero_add]; exact hj))
    refine bodyPost_ret (v := .tuple #[.agg cs.toArray, x, y]) ?_ Fr.defers ⟨_, L', rfl, hM w hm, hR⟩
    generalize (Fr n (get g F)).tmps = tm at h1 h2 h3
    simp [results, h, h1, h2, h3, h4, asAddr, -Array.getD_eq_getD_getElem?]
end
end Go.Port
