/- Numbers of 64 bits, as bytes and from bytes; arms in short. -/
import Derived.Test.YtmocpeekdfkegaaDoorStep
import Derived.Test.YtmocpeekdfkegaaDoorAnyC
/- Arms in short: what is looked for is found by a default. No program here. -/
set_option linter.unusedSimpArgs false
set_option linter.unusedVariables false
namespace Go.Port
open Go.RowKit
theorem blds {a : Option (List Value)} {cs : List Value} (h : a = some cs := by first | exact (rfl : _ = some [_]) | exact (rfl : _ = some [_, _]) | exact (rfl : _ = some [_, _, _]) | exact (rfl : _ = some [_, _, _, _]) | exact (rfl : _ = some [_, _, _, _, _]) | exact (rfl : _ = some [_, _, _, _, _, _]) | exact (rfl : _ = some [_, _, _, _, _, _, _]) | exact (rfl : _ = some [_, _, _, _, _, _, _, _]) | exact (rfl : _ = some [_, _, _, _, _, _, _, _, _]) | exact (rfl : _ = some [_, _, _, _, _, _, _, _, _, _]) | exact (rfl : _ = some [_, _, _, _, _, _, _, _, _, _, _, _, _, _, _]) | exact (rfl : _ = some [_, _, _, _, _, _, _, _, _, _, _, _, _, _, _, _, _])) : a = some cs := h
theorem bcs {a cs : List Value} (h : a = cs := by first | exact (rfl : _ = []) | exact (rfl : _ = [_]) | exact (rfl : _ = [_, _]) | exact (rfl : _ = [_, _, _]) | exact (rfl : _ = [_, _, _, _]) | exact (rfl : _ = [_, _, _, _, _]) | exact (rfl : _ = [_, _, _, _, _, _]) | exact (rfl : _ = [_, _, _, _, _, _, _]) | exact (rfl : _ = [_, _, _, _, _, _, _, _]) | exact (rfl : _ = [_, _, _, _, _, _, _, _, _]) | exact (rfl : _ = [_, _, _, _, _, _, _, _, _, _]) | exact (rfl : _ = [_, _, _, _, _, _, _, _, _, _, _]) | exact (rfl : _ = [_, _, _, _, _, _, _, _, _, _, _, _]) | exact (rfl : _ = [_, _, _, _, _, _, _, _, _, _, _, _, _]) | exact (rfl : _ = [_, _, _, _, _, _, _, _, _, _, _, _, _, _]) | exact (rfl : _ = [_, _, _, _, _, _, _, _, _, _, _, _, _, _, _]) | exact (rfl : _ = [_, _, _, _, _, _, _, _, _, _, _, _, _, _, _, _])) : a = cs := h
/-- The piece that holds a block. -/
theorem pc {L : List Ch} {b : Nat} {cs : List Value} {T' : TypeId} {fr : Nat × Nat} (h : ∃ i : Nat, L[i]? = some [(b, Obj.cells cs.toArray T' fr)] := by first | exact ⟨0, rfl⟩ | exact ⟨1, rfl⟩ | exact ⟨2, rfl⟩ | exact ⟨3, rfl⟩ | exact ⟨4, rfl⟩ | exact ⟨5, rfl⟩ | exact ⟨6, rfl⟩ | exact ⟨7, rfl⟩ | exact ⟨8, rfl⟩ | exact ⟨9, rfl⟩) : ∃ i : Nat, L[i]? = some [(b, Obj.cells cs.toArray T' fr)] := h
theorem gv {a : Option Value} {v : Value} (h : a = some v := by exact rfl) : a = some v := h
theorem gl {a b : Nat} (h : a = b := by exact rfl) : a = b := h
theorem gb {a b : Bool} (h : a = b := by exact rfl) : a = b := h
theorem plc {a b : Nat} (h : a = b := by first | exact (rfl : _ = 0) | exact (rfl : _ = 1) | exact (rfl : _ = 2) | exact (rfl : _ = 3) | exact (rfl : _ = 4) | exact (rfl : _ = 5) | exact (rfl : _ = 6) | exact (rfl : _ = 7) | exact (rfl : _ = 8) | exact (rfl : _ = 9) | exact (rfl : _ = 10) | exact (rfl : _ = 11) | exact (rfl : _ = 12) | exact (rfl : _ = 13) | exact (rfl : _ = 14) | exact (rfl : _ = 15) | exact (rfl : _ = 16)) : a = b := h
/-- A piece brought ahead. -/
theorem pr {L L1 : List Ch} {b : Nat} {cs : List Value} {T' : TypeId} (h : Rot L ([(b, Obj.cells cs.toArray T' (0, 0))] :: L1) := by first | exact rot0 | exact rot1 | exact rot2 | exact rot3 | exact rot4 | exact rot5 | exact rot6 | exact rot7 | exact rot8 | exact rot9) : Rot L ([(b, Obj.cells cs.toArray T' (0, 0))] :: L1) := h
section
variable {P : Program} {w0 : World} {D : List Nat} {n q : Nat} {ops : Array Oper} {Q : Exit → Act → World → Prop} {g : Nat → Value} {F : List (Nat × Value)} {L : List Ch}
variable {rest : List Oper} {ty : TypeId} {pos : String} {af : Array Edge} {d : Nat}
theorem sx_loadE {T sz : Nat} [TyT P T sz false] {x : Operand} {b off : Nat} {cs : List Value} {T' : TypeId} {fr : Nat × Nat} {v : Value} (hx : evn n (get g F) x = .pointer (some ⟨b, off, none⟩)) (hL : ∃ i : Nat, L[i]? = some [(b, Obj.cells cs.toArray T' fr)]) (hv : cs[off]? = some v)
    (h : SX P w0 D n q ops Q rest g ((d, v) :: F) L) : SX P w0 D n q ops Q ({ dst := some d, op := .load T x, type := ty, pos := pos, after := af, guard := none } :: rest) g F L := by
  obtain ⟨i, hi⟩ := hL
  exact sx_load i hx hi hv h
theorem sx_loadWE {T sz : Nat} [TyT P T sz true] {x : Operand} {b : Nat} {cs : List Value} {T' : TypeId} {fr : Nat × Nat} (hx : evn n (get g F) x = .pointer (some ⟨b, 0, none⟩)) (hL : ∃ i : Nat, L[i]? = some [(b, Obj.cells cs.toArray T' fr)]) (hl : cs.length = sz)
    (h : SX P w0 D n q ops Q rest g ((d, .agg cs.toArray) :: F) L) : SX P w0 D n q ops Q ({ dst := some d, op := .load T x, type := ty, pos := pos, after := af, guard := none } :: rest) g F L := by
  obtain ⟨i, hi⟩ := hL
  exact sx_loadW i hx hi hl h
theorem sx_storeE {T sz : Nat} [TyT P T sz false] {p : Operand} {b off : Nat} {cs cs' : List Value} {T' : TypeId} {v : Value} {L1 : List Ch} (hp : evn n (get g F) p = .pointer (some ⟨b, off, none⟩)) (hr : Rot L ([(b, Obj.cells cs.toArray T' (0, 0))] :: L1)) (h1 : oneB v = true) (hsz : Nat.beq sz 1 = true) (hle : Nat.blt off cs.length = true) (hs : cs.set off v = cs')
    (h : SX P w0 D n 0 ops Q rest g F ([(b, .cells cs'.toArray T' (0, 0))] :: L1)) : SX P w0 D n 0 ops Q ({ dst := none, op := .store T p (.const v), type := ty, pos := pos, after := af, guard := none } :: rest) g F L :=
  sx_rot hr (sx_store hp h1 hsz hle hs h)
theorem sx_storeWE {T sz : Nat} [TyT P T sz true] {p : Operand} {b : Nat} {cs vs : List Value} {T' : TypeId} {L1 : List Ch} (hp : evn n (get g F) p = .pointer (some ⟨b, 0, none⟩)) (hr : Rot L ([(b, Obj.cells cs.toArray T' (0, 0))] :: L1)) (hl : vs.length = sz) (hle : cs.length = sz) (h1 : vs.all oneB = true)
    (h : SX P w0 D n 0 ops Q rest g F ([(b, .cells vs.toArray T' (0, 0))] :: L1)) : SX P w0 D n 0 ops Q ({ dst := none, op := .store T p (.const (.agg vs.toArray)), type := ty, pos := pos, after := af, guard := none } :: rest) g F L :=
  sx_rot hr (sx_storeW hp hl hle h1 h)
variable {Ls : List Ch} {done : List Nat}
theorem tkk {ops : Array Oper} {done : List Nat} (k : Nat) (h1 : notIn k done = true) (h2 : pureAt ops k = true) (h3 : takeH ops done k = true) : (notIn k done && pureAt ops k && takeH ops done k) = true := by rw [h1, h2, h3]; rfl
/-- The next one that may be taken. -/
theorem tk {ops : Array Oper} {done : List Nat} {k : Nat} (h : (notIn k done && pureAt ops k && takeH ops done k) = true := by first | exact tkk 0 rfl rfl dk | exact tkk 1 rfl rfl dk | exact tkk 2 rfl rfl dk | exact tkk 3 rfl rfl dk | exact tkk 4 rfl rfl dk | exact tkk 5 rfl rfl dk | exact tkk 6 rfl rfl dk | exact tkk 7 rfl rfl dk | exact tkk 8 rfl rfl dk | exact tkk 9 rfl rfl dk | exact tkk 10 rfl rfl dk | exact tkk 11 rfl rfl dk | exact tkk 12 rfl rfl dk | exact tkk 13 rfl rfl dk | exact tkk 14 rfl rfl dk | exact tkk 15 rfl rfl dk | exact tkk 16 rfl rfl dk | exact tkk 17 rfl rfl dk | exact tkk 18 rfl rfl dk | exact tkk 19 rfl rfl dk | exact tkk 20 rfl rfl dk | exact tkk 21 rfl rfl dk | exact tkk 22 rfl rfl dk | exact tkk 23 rfl rfl dk | exact tkk 24 rfl rfl dk | exact tkk 25 rfl rfl dk | exact tkk 26 rfl rfl dk | exact tkk 27 rfl rfl dk | exact tkk 28 rfl rfl dk | exact tkk 29 rfl rfl dk | exact tkk 30 rfl rfl dk | exact tkk 31 rfl rfl dk) : (notIn k done && pureAt ops k && takeH ops done k) = true := h
theorem ah_pk {k : Nat} (ht : (notIn k done && pureAt ops k && takeH ops done k) = true) (h : takeH ops done k = true → AH P w0 D n ops Q Ls done g F L) : AH P w0 D n ops Q Ls done g F L := by
  simp only [Bool.and_eq_true] at ht
  exact h ht.2
theorem lkk {ops : Array Oper} {done : List Nat} (k : Nat) (_ : notIn k done = true) (h3 : loneH ops done k = true) : loneH ops done k = true := h3
/-- The only one that may come. -/
theorem lon {ops : Array Oper} {done : List Nat} {k : Nat} (h : loneH ops done k = true := by first | exact lkk 0 rfl dk | exact lkk 1 rfl dk | exact lkk 2 rfl dk | exact lkk 3 rfl dk | exact lkk 4 rfl dk | exact lkk 5 rfl dk | exact lkk 6 rfl dk | exact lkk 7 rfl dk | exact lkk 8 rfl dk | exact lkk 9 rfl dk | exact lkk 10 rfl dk | exact lkk 11 rfl dk | exact lkk 12 rfl dk | exact lkk 13 rfl dk | exact lkk 14 rfl dk | exact lkk 15 rfl dk | exact lkk 16 rfl dk | exact lkk 17 rfl dk | exact lkk 18 rfl dk | exact lkk 19 rfl dk | exact lkk 20 rfl dk | exact lkk 21 rfl dk | exact lkk 22 rfl dk | exact lkk 23 rfl dk | exact lkk 24 rfl dk | exact lkk 25 rfl dk | exact lkk 26 rfl dk | exact lkk 27 rfl dk | exact lkk 28 rfl dk | exact lkk 29 rfl dk | exact lkk 30 rfl dk | exact lkk 31 rfl dk) : loneH ops done k = true := h
end
end Go.Port
/- Steps of a call: numbers of 64 bits without a sign; bytes of numbers. No program here. -/
set_option linter.unusedSimpArgs false
set_option linter.unusedVariables false
namespace Go.Port
open Go.RowKit
section
variable {P : Program} {w0 : World} {D : List Nat} {n q : Nat} {ops : Array Oper} {Q : Exit → Act → World → Prop} {g : Nat → Value} {F : List (Nat × Value)} {L : List Ch}
variable {rest : List Oper} {ty : TypeId} {pos : String} {af : Array Edge} {d : Nat}
theorem sx_addU64 {x y : Operand} {a b : Int} {t1 t2 : TypeId} (hx : evn n (get g F) x = .int .u64 a) (hy : evn n (get g F) y = .int .u64 b) (h : SX P w0 D n q ops Q rest g ((d, .int .u64 ((a + b) % 18446744073709551616)) :: F) L) :
    SX P w0 D n q ops Q ({ dst := some d, op := .binOp .add t1 x y t2, type := ty, pos := pos, after := af, guard := none } :: rest) g F L :=
  sx_run (.int .u64 ((a + b) % 18446744073709551616)) rfl rfl (fun w _ => by simp only [execOp, hx, hy, eqGuard, binOp, Op.intArith, IntKind.wrap_u64]; rfl) h
theorem sx_mulU64 {x y : Operand} {a b : Int} {t1 t2 : TypeId} (hx : evn n (get g F) x = .int .u64 a) (hy : evn n (get g F) y = .int .u64 b) (h : SX P w0 D n q ops Q rest g ((d, .int .u64 ((a * b) % 18446744073709551616)) :: F) L) :
    SX P w0 D n q ops Q ({ dst := some d, op := .binOp .mul t1 x y t2, type := ty, pos := pos, after := af, guard := none } :: rest) g F L :=
  sx_run (.int .u64 ((a * b) % 18446744073709551616)) rfl rfl (fun w _ => by simp only [execOp, hx, hy, eqGuard, binOp, Op.intArith, IntKind.wrap_u64]; rfl) h
theorem sx_quoU64 {x y : Operand} {a b : Int} {t1 t2 : TypeId} (hx : evn n (get g F) x = .int .u64 a) (hy : evn n (get g F) y = .int .u64 b) (hb : 0 ≤ a ∧ a ≤ 18446744073709551615 ∧ 0 < b) (h : SX P w0 D n q ops Q rest g ((d, .int .u64 (a / b)) :: F) L) :
    SX P w0 D n q ops Q ({ dst := some d, op := .binOp .quo t1 x y t2, type := ty, pos := pos, after := af, guard := none } :: rest) g F L :=
  sx_run (.int .u64 (a / b)) rfl rfl (fun w _ => by
    have h1 : 0 ≤ a / b := Int.ediv_nonneg hb.1 (by omega)
    have h2 : a / b ≤ a := Int.ediv_le_self _ hb.1
    have h3 : ¬ b = 0 := by omega
    have h4 : a / b % 18446744073709551616 = a / b := Int.emod_eq_of_lt h1 (by omega)
    simp only [execOp, hx, hy, eqGuard, binOp, Op.intDiv, if_neg h3, Int.tdiv_eq_ediv_of_nonneg hb.1, IntKind.wrap_u64, h4]; rfl) h
theorem sx_remU64 {x y : Operand} {a b : Int} {t1 t2 : TypeId} (hx : evn n (get g F) x = .int .u64 a) (hy : evn n (get g F) y = .int .u64 b) (hb : 0 ≤ a ∧ 0 < b) (h : SX P w0 D n q ops Q rest g ((d, .int .u64 (a % b)) :: F) L) :
    SX P w0 D n q ops Q ({ dst := some d, op := .binOp .rem t1 x y t2, type := ty, pos := pos, after := af, guard := none } :: rest) g F L :=
  sx_run (.int .u64 (a % b)) rfl rfl (fun w _ => by
    have h3 : ¬ b = 0 := by omega
    simp only [execOp, hx, hy, eqGuard, binOp, Op.intDiv, if_neg h3, Int.tmod_eq_emod_of_nonneg hb.1]; rfl) h
theorem sx_shlU64 {x y : Operand} {k : IntKind} {a b : Int} {t1 t2 : TypeId} (hx : evn n (get g F) x = .int .u64 a) (hy : evn n (get g F) y = .int k b) (hb : 0 ≤ b ∧ b ≤ 64) (h : SX P w0 D n q ops Q rest g ((d, .int .u64 ((a * 2 ^ b.toNat) % 18446744073709551616)) :: F) L) :
    SX P w0 D n q ops Q ({ dst := some d, op := .binOp .shl t1 x y t2, type := ty, pos := pos, after := af, guard := none } :: rest) g F L :=
  sx_run (.int .u64 ((a * 2 ^ b.toNat) % 18446744073709551616)) rfl rfl (fun w _ => by
    have h3 : ¬ b < 0 := by omega
    have h4 : min b.toNat IntKind.u64.bits = b.toNat := by
      have : IntKind.u64.bits = 64 := rfl
      rw [this]; omega
    simp only [execOp, hx, hy, eqGuard, binOp, Op.shift, if_neg h3, h4, IntKind.wrap_u64]; rfl) h
theorem sx_shrU64 {x y : Operand} {k : IntKind} {a b : Int} {t1 t2 : TypeId} (hx : evn n (get g F) x = .int .u64 a) (hy : evn n (get g F) y = .int k b) (hb : 0 ≤ b ∧ b ≤ 64) (h : SX P w0 D n q ops Q rest g ((d, .int .u64 (a / 2 ^ b.toNat)) :: F) L) :
    SX P w0 D n q ops Q ({ dst := some d, op := .binOp .shr t1 x y t2, type := ty, pos := pos, after := af, guard := none } :: rest) g F L :=
  sx_run (.int .u64 (a / 2 ^ b.toNat)) rfl rfl (fun w _ => by
    have h3 : ¬ b < 0 := by omega
    have h4 : min b.toNat IntKind.u64.bits = b.toNat := by
      have : IntKind.u64.bits = 64 := rfl
      rw [this]; omega
    have h5 : (0 : Int) < 2 ^ b.toNat := Int.pow_pos (by decide)
    simp only [execOp, hx, hy, eqGuard, binOp, Op.shift, if_neg h3, h4, fdiv_pos h5]; rfl) h
theorem ofInt_u64 {a : Int} (h : 0 ≤ a ∧ a ≤ 18446744073709551615) : (BitVec.ofInt 64 a).toNat = a.toNat := by
  obtain ⟨m, rfl⟩ := Int.eq_ofNat_of_zero_le h.1
  rw [BitVec.ofInt_natCast, BitVec.toNat_ofNat]
  exact Nat.mod_eq_of_lt (by omega)
/-- 'exclusive or' with nothing, and with all. -/
theorem xor_u64 {a : Int} (h : 0 ≤ a ∧ a ≤ 18446744073709551615) (b : Int) (hb : b = 0 ∨ b = 18446744073709551615) : (Op.intBits .xor .u64 a b : Sem Value) = pure (.int .u64 (if b = 0 then a else 18446744073709551615 - a)) := by
  have h1 := ofInt_u64 h
  have hbits : IntKind.u64.bits = 64 := rfl
  show pure (Value.int .u64 (IntKind.u64.wrap ((BitVec.ofInt 64 a ^^^ BitVec.ofInt 64 b).toNat : Int))) = _
  congr 2
  rw [IntKind.wrap_u64]
  rcases hb with rfl | rfl
  · rw [if_pos rfl, show BitVec.ofInt 64 0 = 0#64 from rfl, BitVec.xor_zero, h1]; omega
  · rw [if_neg (by decide), show BitVec.ofInt 64 18446744073709551615 = BitVec.allOnes 64 from rfl, BitVec.xor_allOnes, BitVec.toNat_not, h1]
    omega
theorem sx_xorU64 {x y : Operand} {a b : Int} {t1 t2 : TypeId} (hx : evn n (get g F) x = .int .u64 a) (hy : evn n (get g F) y = .int .u64 b) (hb : (0 ≤ a ∧ a ≤ 18446744073709551615) ∧ (b = 0 ∨ b = 18446744073709551615)) (h : SX P w0 D n q ops Q rest g ((d, .int .u64 (if b = 0 then a else 18446744073709551615 - a)) :: F) L) :
    SX P w0 D n q ops Q ({ dst := some d, op := .binOp .xor t1 x y t2, type := ty, pos := pos, after := af, guard := none } :: rest) g F L :=
  sx_run (.int .u64 (if b = 0 then a else 18446744073709551615 - a)) rfl rfl (fun w _ => by
    simp only [execOp, hx, hy, eqGuard, binOp, xor_u64 hb.1 b hb.2]; rfl) h
/-- A byte, with its highest bit set. -/
theorem or128 {a : Int} (h : 0 ≤ a ∧ a ≤ 255) : (Op.intBits .or .u8 a 128 : Sem Value) = pure (.int .u8 (a % 128 + 128)) := by
  obtain ⟨m, rfl⟩ := Int.eq_ofNat_of_zero_le h.1
  have hm : m < 256 := by omega
  show pure (Value.int .u8 (IntKind.u8.wrap ((BitVec.ofInt 8 (m : Int) ||| BitVec.ofInt 8 128).toNat : Int))) = _
  congr 2
  have key : ∀ k : Fin 256, ((BitVec.ofInt 8 ((k.val : Nat) : Int) ||| BitVec.ofInt 8 128).toNat : Nat) = k.val % 128 + 128 := by decide +kernel
  have k2 : ((BitVec.ofInt 8 (m : Int) ||| BitVec.ofInt 8 128).toNat : Nat) = m % 128 + 128 := key ⟨m, hm⟩
  rw [IntKind.wrap_u8, k2]
  omega
theorem sx_or128 {x y : Operand} {a : Int} {t1 t2 : TypeId} (hx : evn n (get g F) x = .int .u8 a) (hy : evn n (get g F) y = .int .u8 128) (hb : 0 ≤ a ∧ a ≤ 255) (h : SX P w0 D n q ops Q rest g ((d, .int .u8 (a % 128 + 128)) :: F) L) :
    SX P w0 D n q ops Q ({ dst := some d, op := .binOp .or t1 x y t2, type := ty, pos := pos, after := af, guard := none } :: rest) g F L :=
  sx_run (.int .u8 (a % 128 + 128)) rfl rfl (fun w _ => by
    simp only [execOp, hx, hy, eqGuard, binOp, or128 hb]; rfl) h
theorem sx_addU8 {x y : Operand} {a b : Int} {t1 t2 : TypeId} (hx : evn n (get g F) x = .int .u8 a) (hy : evn n (get g F) y = .int .u8 b) (hb : 0 ≤ a + b ∧ a + b ≤ 255) (h : SX P w0 D n q ops Q rest g ((d, .int .u8 (a + b)) :: F) L) :
    SX P w0 D n q ops Q ({ dst := some d, op := .binOp .add t1 x y t2, type := ty, pos := pos, after := af, guard := none } :: rest) g F L :=
  sx_run (.int .u8 (a + b)) rfl rfl (fun w _ => by simp only [execOp, hx, hy, eqGuard, binOp, Op.intArith, IntWalk.u8_in _ hb]; rfl) h
end
/-- A number without its sign. -/
def zig (n : Int) : Int := if 0 ≤ n then 2 * n else -2 * n - 1
/-- The bytes of a number without a sign. -/
def vbs : Nat → Int → List Int
  | 0, u => [u]
  | f + 1, u => if u < 128 then [u] else (u % 128 + 128) :: vbs f (u / 128)
/-- .. of a number. -/
def vb (n : Int) : List Int := vbs 10 (zig n)
/-- Fits into a number of 64 bits. -/
def I64 (n : Int) : Prop := -9223372036854775808 ≤ n ∧ n ≤ 9223372036854775807
theorem vbs_stop {f : Nat} {u : Int} (h : u < 128) : vbs f u = [u] := by
  cases f with
  | zero => rfl
  | succ f => rw [vbs, if_pos h]
theorem vbs_go {f : Nat} {u : Int} (h : ¬ u < 128) : vbs (f + 1) u = (u % 128 + 128) :: vbs f (u / 128) := by rw [vbs, if_neg h]
theorem zig_bd {n : Int} (h : -9223372036854775808 ≤ n ∧ n ≤ 9223372036854775807) : 0 ≤ zig n ∧ zig n ≤ 18446744073709551615 := by unfold zig; split <;> omega
end Go.Port
/- Numbers read from bytes: steps on bits; what comes of it. No program here. -/
set_option linter.unusedSimpArgs false
set_option linter.unusedVariables false
namespace Go.Port
open Go.RowKit
/-- The number of one without a sign. -/
def unz (u : Int) : Int := if u % 2 = 0 then u / 2 else -(u / 2) - 1
/-- The number that bytes begin with: the fault, the number, how many bytes (behind a fault: how many were passed). -/
def rdX : Nat → Nat → Int → List Int → Int × Int × Nat
  | 0, _, _, _ => (0, 0, 0)
  | _ + 1, _, _, [] => (8, 0, 0)
  | f + 1, i, x, c :: r => if (i = 9 ∧ 1 < c) ∨ (0 < i ∧ c = 0) then (2, 0, 0) else if c < 128 then (0, unz (x + c % 128 * 128 ^ i), 1) else
      ((rdX f (i + 1) (x + c % 128 * 128 ^ i) r).1, (rdX f (i + 1) (x + c % 128 * 128 ^ i) r).2.1, (rdX f (i + 1) (x + c % 128 * 128 ^ i) r).2.2 + 1)
section
variable {P : Program} {w0 : World} {D : List Nat} {n q : Nat} {ops : Array Oper} {Q : Exit → Act → World → Prop} {g : Nat → Value} {F : List (Nat × Value)} {L : List Ch}
variable {rest : List Oper} {ty : TypeId} {pos : String} {af : Array Edge} {d : Nat}
theorem and127 {a : Int} (h : 0 ≤ a ∧ a ≤ 255) : (Op.intBits .and .u8 a 127 : Sem Value) = pure (.int .u8 (a % 128)) := by
  obtain ⟨m, rfl⟩ := Int.eq_ofNat_of_zero_le h.1
  have hm : m < 256 := by omega
  show pure (Value.int .u8 (IntKind.u8.wrap ((BitVec.ofInt 8 (m : Int) &&& BitVec.ofInt 8 127).toNat : Int))) = _
  congr 2
  have key : ∀ k : Fin 256, ((BitVec.ofInt 8 ((k.val : Nat) : Int) &&& BitVec.ofInt 8 127).toNat : Nat) = k.val % 128 := by decide +kernel
  have k2 : ((BitVec.ofInt 8 (m : Int) &&& BitVec.ofInt 8 127).toNat : Nat) = m % 128 := key ⟨m, hm⟩
  rw [IntKind.wrap_u8, k2]
  omega
theorem sx_and127 {x y : Operand} {a : Int} {t1 t2 : TypeId} (hx : evn n (get g F) x = .int .u8 a) (hy : evn n (get g F) y = .int .u8 127) (hb : 0 ≤ a ∧ a ≤ 255) (h : SX P w0 D n q ops Q rest g ((d, .int .u8 (a % 128)) :: F) L) :
    SX P w0 D n q ops Q ({ dst := some d, op := .binOp .and t1 x y t2, type := ty, pos := pos, after := af, guard := none } :: rest) g F L :=
  sx_run (.int .u8 (a % 128)) rfl rfl (fun w _ => by
    simp only [execOp, hx, hy, eqGuard, binOp, and127 hb]; rfl) h
/-- 'or' of numbers that have no bit together. -/
theorem or_dis {a t : Int} {k : Nat} (ha : 0 ≤ a ∧ a < 2 ^ k) (ht : 0 ≤ t) (hs : a + t * 2 ^ k ≤ 18446744073709551615) : (Op.intBits .or .u64 a (t * 2 ^ k) : Sem Value) = pure (.int .u64 (a + t * 2 ^ k)) := by
  obtain ⟨m, rfl⟩ := Int.eq_ofNat_of_zero_le ha.1
  obtain ⟨u, rfl⟩ := Int.eq_ofNat_of_zero_le ht
  have e : ((u : Int) * 2 ^ k) = ((2 ^ k * u : Nat) : Int) := by
    rw [Int.natCast_mul, Int.natCast_pow, Int.mul_comm]; rfl
  rw [e] at hs ⊢
  have hm : m < 2 ^ k := by
    have := ha.2
    have h2 : ((2 : Int) ^ k) = ((2 ^ k : Nat) : Int) := by rw [Int.natCast_pow]; rfl
    rw [h2] at this
    omega
  show pure (Value.int .u64 (IntKind.u64.wrap ((BitVec.ofInt 64 (m : Int) ||| BitVec.ofInt 64 ((2 ^ k * u : Nat) : Int)).toNat : Int))) = _
  congr 2
  rw [IntKind.wrap_u64, BitVec.toNat_or, ofInt_u64 (a := (m : Int)) (by omega), ofInt_u64 (a := ((2 ^ k * u : Nat) : Int)) (by omega)]
  rw [Int.toNat_natCast, Int.toNat_natCast, Nat.or_comm, ← Nat.two_pow_add_eq_or_of_lt hm]
  omega
theorem sx_orDis {x y : Operand} {a b : Int} {t1 t2 : TypeId} (t : Int) (k : Nat) (hx : evn n (get g F) x = .int .u64 a) (hy : evn n (get g F) y = .int .u64 b) (hb : b = t * 2 ^ k) (ha : 0 ≤ a ∧ a < 2 ^ k) (ht : 0 ≤ t) (hs : a + t * 2 ^ k ≤ 18446744073709551615) (h : SX P w0 D n q ops Q rest g ((d, .int .u64 (a + t * 2 ^ k)) :: F) L) :
    SX P w0 D n q ops Q ({ dst := some d, op := .binOp .or t1 x y t2, type := ty, pos := pos, after := af, guard := none } :: rest) g F L := by
  subst hb
  exact sx_run (.int .u64 (a + t * 2 ^ k)) rfl rfl (fun w _ => by
    simp only [execOp, hx, hy, eqGuard, binOp, or_dis ha ht hs]; rfl) h
theorem and1 {a : Int} (h : 0 ≤ a ∧ a ≤ 18446744073709551615) : (Op.intBits .and .u64 a 1 : Sem Value) = pure (.int .u64 (a % 2)) := by
  show pure (Value.int .u64 (IntKind.u64.wrap ((BitVec.ofInt 64 a &&& BitVec.ofInt 64 1).toNat : Int))) = _
  congr 2
  rw [IntKind.wrap_u64, BitVec.toNat_and, ofInt_u64 h, show (BitVec.ofInt 64 1).toNat = 1 from rfl, Nat.and_one_is_mod]
  omega
theorem sx_and1 {x y : Operand} {a : Int} {t1 t2 : TypeId} (hx : evn n (get g F) x = .int .u64 a) (hy : evn n (get g F) y = .int .u64 1) (hb : 0 ≤ a ∧ a ≤ 18446744073709551615) (h : SX P w0 D n q ops Q rest g ((d, .int .u64 (a % 2)) :: F) L) :
    SX P w0 D n q ops Q ({ dst := some d, op := .binOp .and t1 x y t2, type := ty, pos := pos, after := af, guard := none } :: rest) g F L :=
  sx_run (.int .u64 (a % 2)) rfl rfl (fun w _ => by
    simp only [execOp, hx, hy, eqGuard, binOp, and1 hb]; rfl) h
/-- 'exclusive or' with nothing, and with all: numbers with a sign. -/
theorem xor_i64 {a : Int} (h : 0 ≤ a ∧ a ≤ 9223372036854775807) (b : Int) (hb : b = 0 ∨ b = -1) : (Op.intBits .xor .i64 a b : Sem Value) = pure (.int .i64 (if b = 0 then a else -a - 1)) := by
  have h1 := toNat_i64 h
  show pure (Value.int .i64 (IntKind.i64.wrap ((BitVec.ofInt 64 a ^^^ BitVec.ofInt 64 b).toNat : Int))) = _
  congr 2
  rw [IntKind.wrap_i64]
  rcases hb with rfl | rfl
  · rw [if_pos rfl, show BitVec.ofInt 64 0 = 0#64 from rfl, BitVec.xor_zero, h1]; omega
  · rw [if_neg (by decide), show BitVec.ofInt 64 (-1) = BitVec.allOnes 64 from rfl, BitVec.xor_allOnes, BitVec.toNat_not, h1]
    omega
theorem sx_xorI64 {x y : Operand} {a b : Int} {t1 t2 : TypeId} (hx : evn n (get g F) x = .int .i64 a) (hy : evn n (get g F) y = .int .i64 b) (hb : (0 ≤ a ∧ a ≤ 9223372036854775807) ∧ (b = 0 ∨ b = -1)) (h : SX P w0 D n q ops Q rest g ((d, .int .i64 (if b = 0 then a else -a - 1)) :: F) L) :
    SX P w0 D n q ops Q ({ dst := some d, op := .binOp .xor t1 x y t2, type := ty, pos := pos, after := af, guard := none } :: rest) g F L :=
  sx_run (.int .i64 (if b = 0 then a else -a - 1)) rfl rfl (fun w _ => by
    simp only [execOp, hx, hy, eqGuard, binOp, xor_i64 hb.1 b hb.2]; rfl) h
end
end Go.Port
/- Steps of a call: rows of the call's own, read. No program here. -/
set_option linter.unusedSimpArgs false
set_option linter.unusedVariables false
namespace Go.Port
open Go.RowKit
theorem OwnS.base' {E sz : Nat} {A : Option Addr} {n cap : Nat} {xs : List Value} {c : Ch} (h : OwnS E sz (.slice A n cap) n xs c) : ∃ b, 0 < n → A = some ⟨b, 0, none⟩ := by
  rcases h.2 with ⟨_, h0, _⟩ | ⟨b, _, _, hv, _⟩
  · exact ⟨0, fun hh => by omega⟩
  · simp only [Value.slice.injEq] at hv
    exact ⟨b, fun _ => hv.1⟩
theorem OwnS.cell' {E sz : Nat} {b n cap k : Nat} {A : Option Addr} {xs : List Value} {c : Ch} {w : World} {v : Value} (h : OwnS E sz (.slice A n cap) n xs c) (hA : A = some ⟨b, 0, none⟩) (hn : 0 < n) (hc : Has w c) (hv : xs[k]? = some v) : w.cell? ⟨b, 0 + k, none⟩ = some v := by
  subst hA
  rcases (h.sees hc).1.2 with h0 | ⟨b', o, e, _, _, hcs⟩
  · omega
  · simp only [Option.some.injEq, Addr.mk.injEq] at e
    obtain ⟨rfl, rfl, _⟩ := e
    exact hcs k v hv
section
variable {P : Program} {w0 : World} {D : List Nat} {n q : Nat} {ops : Array Oper} {Q : Exit → Act → World → Prop} {g : Nat → Value} {F : List (Nat × Value)} {L : List Ch}
variable {rest : List Oper} {ty : TypeId} {pos : String} {af : Array Edge} {d : Nat}
theorem sx_loadSA {T sz E z : Nat} [TyT P T sz true] (j k : Nat) (vs : List Value) {x : Operand} {b p m cap : Nat} {A : Option Addr} {xs : List Value} {c : Ch} (hx : evn n (get g F) x = .pointer (some ⟨b, p, none⟩)) (ho : OwnS E z (.slice A m cap) m xs c) (hA : A = some ⟨b, 0, none⟩) (hp : p = k) (hm0 : 0 < m) (hL : L[j]? = some c) (hl : vs.length = sz) (hv : ∀ i v, vs[i]? = some v → xs[k + i]? = some v)
    (h : SX P w0 D n q ops Q rest g ((d, .agg vs.toArray) :: F) L) : SX P w0 D n q ops Q ({ dst := some d, op := .load T x, type := ty, pos := pos, after := af, guard := none } :: rest) g F L := by
  subst hp
  exact sx_loadMA hx hl (fun w hm i v hi => by have := ho.cell' hA hm0 (hm.at j hL) (hv i v hi); rwa [Nat.zero_add] at this) h
theorem sx_loadS1 {T sz E z : Nat} [TyT P T sz false] (j k : Nat) {v : Value} {x : Operand} {b p m cap : Nat} {A : Option Addr} {xs : List Value} {c : Ch} (hx : evn n (get g F) x = .pointer (some ⟨b, p, none⟩)) (ho : OwnS E z (.slice A m cap) m xs c) (hA : A = some ⟨b, 0, none⟩) (hp : p = k) (hm0 : 0 < m) (hL : L[j]? = some c) (hv : xs[k]? = some v)
    (h : SX P w0 D n q ops Q rest g ((d, v) :: F) L) : SX P w0 D n q ops Q ({ dst := some d, op := .load T x, type := ty, pos := pos, after := af, guard := none } :: rest) g F L := by
  subst hp
  exact sx_loadM hx (fun w hm => by have := ho.cell' hA hm0 (hm.at j hL) hv; rwa [Nat.zero_add] at this) h
end
end Go.Port
