/- Steps of a call: what each operation does. No program here. -/
import Derived.Test.YtchkpkeljcdccaaSx
set_option linter.unusedSimpArgs false
set_option linter.unusedVariables false
namespace Go.Port
open Go.RowKit

/- Facts on types, found as instances. -/
class TyT (P : Program) (T : Nat) (sz : outParam Nat) (agg : outParam Bool) : Prop where
  agg_run : ∀ w, (isAgg T).run P w = .ok agg w
  size_run : ∀ w, (sizeOf T).run P w = .ok sz w
class FdT (P : Program) (T i : Nat) (off ft : outParam Nat) : Prop where
  at_run : ∀ a w, (Instr.fieldAt T (.pointer (some a)) i).run P w = .ok (.pointer (some (a.add off))) w
  val_run : ∀ cs w, (Instr.field T (.agg cs) i).run P w = (part ft cs off).run P w
class ZvT (P : Program) (T : Nat) (z : outParam Value) : Prop where
  run : ∀ w, (zeroValue T).run P w = .ok z w
class CalT (P : Program) (k : Nat) : Prop where
  run : ∀ args w, (callFunc k args).run P w = .ok (.enter k args) w
class SlT (P : Program) (T : Nat) (E sz bytes : outParam Nat) (z : outParam Value) : Prop where
  und : P.underlying T = some (.slice E)
  info : (P.info? E).map (fun i => (i.zero, i.size, i.bytes)) = some (some z, sz, bytes)
  zs : z.cells.size = sz
  szp : 0 < sz
  byp : 0 < bytes

theorem run_v {P : Program} {s : Sem Value} {v : Value} {w w' : World} (h : s.run P w = .ok v w') : ((do pure (Next.value (← s))) : Sem Next).run P w = .ok (.value v) w' := by
  rw [Sem.run_bind, h]; rfl
theorem run_u {P : Program} {s : Sem Unit} {w w' : World} (h : s.run P w = .ok () w') : ((do s; pure Next.skip) : Sem Next).run P w = .ok .skip w' := by
  rw [Sem.run_bind, h]; rfl
theorem addr_add (b o k : Nat) : (⟨b, o, none⟩ : Addr).add k = ⟨b, o + k, none⟩ := by unfold Addr.add; split <;> simp_all
def oneB : Value → Bool
  | .agg _ => false
  | .tuple _ => false
  | _ => true
theorem one_cells {v : Value} (h : oneB v = true) : v.cells = #[v] := by cases v <;> simp_all [oneB, Value.cells]

/-- Cells written one behind the other. -/
def splice : List Value → Nat → List Value → List Value
  | l, _, [] => l
  | l, k, v :: vs => splice (l.set k v) (k + 1) vs
theorem splice_length : ∀ (vs l : List Value) (k : Nat), (splice l k vs).length = l.length
  | [], _, _ => rfl
  | v :: vs, l, k => by rw [splice, splice_length vs]; simp
theorem splice_get : ∀ (vs l : List Value) (k : Nat), k + vs.length ≤ l.length → splice l k vs = l.take k ++ (vs ++ l.drop (k + vs.length))
  | [], l, k, _ => by simp [splice]
  | v :: vs, l, k, h => by
    simp only [List.length_cons] at h
    rw [splice, splice_get vs _ _ (by simp; omega)]
    have h1 : (l.set k v).take (k + 1) = l.take k ++ [v] := by
      rw [List.take_set, List.take_succ_eq_append_getElem (by omega)]
      have hk : (l.take k).length = k := by simp; omega
      rw [List.set_append_right _ _ (by omega), hk]; simp
    have h2 : (l.set k v).drop (k + 1 + vs.length) = l.drop (k + 1 + vs.length) := by rw [List.drop_set_of_lt]; omega
    rw [h1, h2, List.length_cons]
    simp [Nat.add_assoc, Nat.add_comm 1]
theorem splice_whole (vs l : List Value) (h : vs.length = l.length) : splice l 0 vs = vs := by
  rw [splice_get vs l 0 (by omega), h]; simp

section
variable {P : Program} {w0 : World} {D : List Nat} {n q : Nat} {ops : Array Oper} {Q : Exit → Act → World → Prop} {g : Nat → Value} {F : List (Nat × Value)} {L : List Ch}
variable {rest : List Oper} {ty : TypeId} {pos : String} {af : Array Edge} {d : Nat}

theorem loadCells_run {w : World} {b : Nat} : ∀ (vs : List Value) (off i : Nat) (acc : Array Value), (∀ j v, vs[j]? = some v → w.cell? ⟨b, off + (i + j), none⟩ = some v) →
    (loadCellsFrom ⟨b, off, none⟩ i vs.length acc).run P w = .ok (acc ++ vs.toArray) w
  | [], off, i, acc, _ => by simp [loadCellsFrom, pure, Sem.run]
  | v :: vs, off, i, acc, h => by
    have h0 := h 0 v rfl
    simp only [List.length_cons, loadCellsFrom, load]
    show Sem.run P (Sem.bind (.load .plain ((⟨b, off, none⟩ : Addr).add i) .pure) _) w = _
    simp only [Sem.bind, Sem.run, addr_add]
    rw [show off + i = off + (i + 0) from rfl, h0]
    show (loadCellsFrom ⟨b, off, none⟩ (i + 1) vs.length (acc.push v)).run P w = _
    rw [loadCells_run vs off (i + 1) (acc.push v) (fun j u hu => by have := h (j + 1) u hu; rw [show i + 1 + j = i + (j + 1) by omega]; exact this)]
    congr 1
    rw [← Array.toList_inj]; simp
theorem load_one {T : Nat} {sz : Nat} [TyT P T sz false] {w : World} {a : Addr} {v : Value} (h : w.cell? a = some v) : (Instr.loadAt T (.pointer (some a))).run P w = .ok v w := by
  have h1 := TyT.agg_run (P := P) (T := T) (sz := sz) (agg := false) w
  simp [Instr.loadAt, Instr.sureAddr, loadVar, h1, load, Sem.run, h, go_sem]
theorem load_agg {T sz : Nat} [TyT P T sz true] {w : World} {b off : Nat} {vs : List Value} (hl : vs.length = sz) (h : ∀ j v, vs[j]? = some v → w.cell? ⟨b, off + j, none⟩ = some v) : (Instr.loadAt T (.pointer (some ⟨b, off, none⟩))).run P w = .ok (.agg vs.toArray) w := by
  have h1 := TyT.agg_run (P := P) (T := T) (sz := sz) (agg := true) w
  have h2 := TyT.size_run (P := P) (T := T) (sz := sz) (agg := true) w
  have h3 := loadCells_run (P := P) (w := w) (b := b) vs off 0 #[] (fun j v hv => by rw [Nat.zero_add]; exact h j v hv)
  rw [hl] at h3
  simp [Instr.loadAt, Instr.sureAddr, loadVar, h1, h2, loadCells, h3, go_sem]
theorem storeCells_run {b : Nat} {T : TypeId} : ∀ (vs : List Value) (off i : Nat) (cs : List Value) (w : World), (∀ v ∈ vs, oneB v = true) → off + i + vs.length ≤ cs.length → w.heap[b]? = some (.cells cs.toArray T (0, 0)) →
    ∃ w', (storeCells ⟨b, off, none⟩ vs i).run P w = .ok () w' ∧ w'.heap[b]? = some (.cells (splice cs (off + i) vs).toArray T (0, 0)) ∧ w'.os = w.os ∧ w'.tape = w.tape ∧ w'.output = w.output ∧ w'.heap.size = w.heap.size ∧ ∀ k, k ≠ b → w'.heap[k]? = w.heap[k]?
  | [], off, i, cs, w, _, _, h => ⟨w, rfl, h, rfl, rfl, rfl, rfl, fun _ _ => rfl⟩
  | v :: vs, off, i, cs, w, h1, hl, h => by
    simp only [List.length_cons] at hl
    have hc : w.cell? ⟨b, off + i, none⟩ = some (cs[off + i]'(by omega)) := by
      simp [World.cell?, h, List.getElem?_eq_getElem (show off + i < cs.length by omega)]
    have hf : w.frozen? ⟨b, off + i, none⟩ = false := by simp [World.frozen?, h]
    have hset : (w.setCell ⟨b, off + i, none⟩ v).heap[b]? = some (.cells (cs.set (off + i) v).toArray T (0, 0)) := by
      simp [World.setCell, Array.getElem?_modify, h]
    obtain ⟨w', r1, r2, r3, r4, r5, r6, r7⟩ := storeCells_run vs off (i + 1) (cs.set (off + i) v) (w.setCell ⟨b, off + i, none⟩ v) (fun u hu => h1 u (by simp [hu])) (by simp; omega) hset
    refine ⟨w', ?_, by rw [splice]; exact r2, r3, r4, r5, by rw [r6]; simp [World.setCell], fun k hk => by rw [r7 k hk, Below.heap_setCell _ _ _ _ hk]⟩
    rw [← r1, storeCells]
    show Sem.run P (Sem.bind (.store .plain ((⟨b, off, none⟩ : Addr).add i) v (.pure ())) _) w = _
    have hv := h1 v (by simp)
    rw [addr_add]
    cases v <;> first | (simp [oneB] at hv; done) | (simp only [Sem.bind, Sem.run, hc, hf, Bool.false_eq_true, if_false])
theorem store_run {T sz : Nat} {ag : Bool} [TyT P T sz ag] {w : World} {b off : Nat} {T' : TypeId} {cs vs : List Value} {v : Value} (hv : v.cells = vs.toArray) (hl : vs.length = sz) (h1 : ∀ v ∈ vs, oneB v = true) (hle : off + vs.length ≤ cs.length) (h : w.heap[b]? = some (.cells cs.toArray T' (0, 0))) :
    ∃ w', (Instr.storeAt T (.pointer (some ⟨b, off, none⟩)) v).run P w = .ok () w' ∧ w'.heap[b]? = some (.cells (splice cs off vs).toArray T' (0, 0)) ∧ w'.os = w.os ∧ w'.tape = w.tape ∧ w'.output = w.output ∧ w'.heap.size = w.heap.size ∧ ∀ k, k ≠ b → w'.heap[k]? = w.heap[k]? := by
  obtain ⟨w', r1, r2, r⟩ := storeCells_run (P := P) (b := b) (T := T') vs off 0 cs w h1 (by omega) h
  have h2 := TyT.size_run (P := P) (T := T) (sz := sz) (agg := ag) w
  refine ⟨w', ?_, r2, r⟩
  rw [← r1]
  show (storeVar T ⟨b, off, none⟩ v).run P w = _
  unfold storeVar
  rw [Sem.run_bind, h2]
  dsimp only [Result.andThen_ok]
  rw [if_neg (by rw [hv]; simp [hl]), hv]

/- Numbers. -/
theorem sx_add {x y : Operand} {a b : Int} {t1 t2 : TypeId} (hx : evn n (get g F) x = .int .i64 a) (hy : evn n (get g F) y = .int .i64 b) (hb : -9223372036854775808 ≤ a + b ∧ a + b ≤ 9223372036854775807) (h : SX P w0 D n q ops Q rest g ((d, .int .i64 (a + b)) :: F) L) :
    SX P w0 D n q ops Q ({ dst := some d, op := .binOp .add t1 x y t2, type := ty, pos := pos, after := af, guard := none } :: rest) g F L :=
  sx_run (.int .i64 (a + b)) rfl rfl (fun w _ => by simp only [execOp, hx, hy, eqGuard, binOp, Op.intArith, IntWalk.i64_in _ hb]; rfl) h
theorem sx_sub {x y : Operand} {a b : Int} {t1 t2 : TypeId} (hx : evn n (get g F) x = .int .i64 a) (hy : evn n (get g F) y = .int .i64 b) (hb : -9223372036854775808 ≤ a - b ∧ a - b ≤ 9223372036854775807) (h : SX P w0 D n q ops Q rest g ((d, .int .i64 (a - b)) :: F) L) :
    SX P w0 D n q ops Q ({ dst := some d, op := .binOp .sub t1 x y t2, type := ty, pos := pos, after := af, guard := none } :: rest) g F L :=
  sx_run (.int .i64 (a - b)) rfl rfl (fun w _ => by simp only [execOp, hx, hy, eqGuard, binOp, Op.intArith, IntWalk.i64_in _ hb]; rfl) h
theorem sx_mul {x y : Operand} {a b : Int} {t1 t2 : TypeId} (hx : evn n (get g F) x = .int .i64 a) (hy : evn n (get g F) y = .int .i64 b) (hb : -9223372036854775808 ≤ a * b ∧ a * b ≤ 9223372036854775807) (h : SX P w0 D n q ops Q rest g ((d, .int .i64 (a * b)) :: F) L) :
    SX P w0 D n q ops Q ({ dst := some d, op := .binOp .mul t1 x y t2, type := ty, pos := pos, after := af, guard := none } :: rest) g F L :=
  sx_run (.int .i64 (a * b)) rfl rfl (fun w _ => by simp only [execOp, hx, hy, eqGuard, binOp, Op.intArith, IntWalk.i64_in _ hb]; rfl) h
theorem sx_quo {x y : Operand} {a b : Int} {t1 t2 : TypeId} (hx : evn n (get g F) x = .int .i64 a) (hy : evn n (get g F) y = .int .i64 b) (hb : 0 ≤ a ∧ a ≤ 9223372036854775807 ∧ 0 < b) (h : SX P w0 D n q ops Q rest g ((d, .int .i64 (a / b)) :: F) L) :
    SX P w0 D n q ops Q ({ dst := some d, op := .binOp .quo t1 x y t2, type := ty, pos := pos, after := af, guard := none } :: rest) g F L :=
  sx_run (.int .i64 (a / b)) rfl rfl (fun w _ => by
    have h1 : 0 ≤ a / b := Int.ediv_nonneg hb.1 (by omega)
    have h2 : a / b ≤ a := Int.ediv_le_self _ hb.1
    have h3 : ¬ b = 0 := by omega
    simp only [execOp, hx, hy, eqGuard, binOp, Op.intDiv, if_neg h3, Int.tdiv_eq_ediv_of_nonneg hb.1, IntWalk.i64_in (a / b) ⟨by omega, by omega⟩]; rfl) h
theorem sx_rem {x y : Operand} {a b : Int} {t1 t2 : TypeId} (hx : evn n (get g F) x = .int .i64 a) (hy : evn n (get g F) y = .int .i64 b) (hb : 0 ≤ a ∧ 0 < b) (h : SX P w0 D n q ops Q rest g ((d, .int .i64 (a % b)) :: F) L) :
    SX P w0 D n q ops Q ({ dst := some d, op := .binOp .rem t1 x y t2, type := ty, pos := pos, after := af, guard := none } :: rest) g F L :=
  sx_run (.int .i64 (a % b)) rfl rfl (fun w _ => by
    have h3 : ¬ b = 0 := by omega
    simp only [execOp, hx, hy, eqGuard, binOp, Op.intDiv, if_neg h3, Int.tmod_eq_emod_of_nonneg hb.1]; rfl) h
theorem sx_cmp {op : BinOp} {x y : Operand} {k : IntKind} {a b : Int} {r : Bool} {t1 t2 : TypeId} (hx : evn n (get g F) x = .int k a) (hy : evn n (get g F) y = .int k b)
    (hr : (op = .lss ∧ r = decide (a < b)) ∨ (op = .leq ∧ r = decide (a ≤ b)) ∨ (op = .gtr ∧ r = decide (b < a)) ∨ (op = .geq ∧ r = decide (b ≤ a)) ∨ (op = .eql ∧ r = decide (a = b)) ∨ (op = .neq ∧ r = decide (¬ a = b)))
    (h : SX P w0 D n q ops Q rest g ((d, .bool r) :: F) L) :
    SX P w0 D n q ops Q ({ dst := some d, op := .binOp op t1 x y t2, type := ty, pos := pos, after := af, guard := none } :: rest) g F L :=
  sx_run (.bool r) rfl rfl (fun w _ => by
    have he : (a == b) = decide (a = b) := by by_cases e : a = b <;> simp [e]
    have hn : (a != b) = decide (¬ a = b) := by by_cases e : a = b <;> simp [e]
    rcases hr with ⟨rfl, rfl⟩ | ⟨rfl, rfl⟩ | ⟨rfl, rfl⟩ | ⟨rfl, rfl⟩ | ⟨rfl, rfl⟩ | ⟨rfl, rfl⟩ <;> simp only [execOp, hx, hy, eqGuard, binOp, Op.intCmp, he, hn] <;> simp [go_sem, -decide_not]) h
theorem sx_lss {x y : Operand} {k : IntKind} {a b : Int} {t1 t2 : TypeId} (hx : evn n (get g F) x = .int k a) (hy : evn n (get g F) y = .int k b) (h : SX P w0 D n q ops Q rest g ((d, .bool (decide (a < b))) :: F) L) :
    SX P w0 D n q ops Q ({ dst := some d, op := .binOp .lss t1 x y t2, type := ty, pos := pos, after := af, guard := none } :: rest) g F L := sx_cmp hx hy (.inl ⟨rfl, rfl⟩) h
theorem sx_leq {x y : Operand} {k : IntKind} {a b : Int} {t1 t2 : TypeId} (hx : evn n (get g F) x = .int k a) (hy : evn n (get g F) y = .int k b) (h : SX P w0 D n q ops Q rest g ((d, .bool (decide (a ≤ b))) :: F) L) :
    SX P w0 D n q ops Q ({ dst := some d, op := .binOp .leq t1 x y t2, type := ty, pos := pos, after := af, guard := none } :: rest) g F L := sx_cmp hx hy (.inr (.inl ⟨rfl, rfl⟩)) h
theorem sx_gtr {x y : Operand} {k : IntKind} {a b : Int} {t1 t2 : TypeId} (hx : evn n (get g F) x = .int k a) (hy : evn n (get g F) y = .int k b) (h : SX P w0 D n q ops Q rest g ((d, .bool (decide (b < a))) :: F) L) :
    SX P w0 D n q ops Q ({ dst := some d, op := .binOp .gtr t1 x y t2, type := ty, pos := pos, after := af, guard := none } :: rest) g F L := sx_cmp hx hy (.inr (.inr (.inl ⟨rfl, rfl⟩))) h
theorem sx_geq {x y : Operand} {k : IntKind} {a b : Int} {t1 t2 : TypeId} (hx : evn n (get g F) x = .int k a) (hy : evn n (get g F) y = .int k b) (h : SX P w0 D n q ops Q rest g ((d, .bool (decide (b ≤ a))) :: F) L) :
    SX P w0 D n q ops Q ({ dst := some d, op := .binOp .geq t1 x y t2, type := ty, pos := pos, after := af, guard := none } :: rest) g F L := sx_cmp hx hy (.inr (.inr (.inr (.inl ⟨rfl, rfl⟩)))) h
theorem sx_eql {x y : Operand} {k : IntKind} {a b : Int} {t1 t2 : TypeId} (hx : evn n (get g F) x = .int k a) (hy : evn n (get g F) y = .int k b) (h : SX P w0 D n q ops Q rest g ((d, .bool (decide (a = b))) :: F) L) :
    SX P w0 D n q ops Q ({ dst := some d, op := .binOp .eql t1 x y t2, type := ty, pos := pos, after := af, guard := none } :: rest) g F L := sx_cmp hx hy (.inr (.inr (.inr (.inr (.inl ⟨rfl, rfl⟩))))) h
theorem sx_neq {x y : Operand} {k : IntKind} {a b : Int} {t1 t2 : TypeId} (hx : evn n (get g F) x = .int k a) (hy : evn n (get g F) y = .int k b) (h : SX P w0 D n q ops Q rest g ((d, .bool (decide (¬ a = b))) :: F) L) :
    SX P w0 D n q ops Q ({ dst := some d, op := .binOp .neq t1 x y t2, type := ty, pos := pos, after := af, guard := none } :: rest) g F L := sx_cmp hx hy (.inr (.inr (.inr (.inr (.inr ⟨rfl, rfl⟩))))) h
theorem sx_not {x : Operand} {b : Bool} {t1 : TypeId} (hx : evn n (get g F) x = .bool b) (h : SX P w0 D n q ops Q rest g ((d, .bool (!b)) :: F) L) :
    SX P w0 D n q ops Q ({ dst := some d, op := .unOp .not t1 x, type := ty, pos := pos, after := af, guard := none } :: rest) g F L :=
  sx_run (.bool (!b)) rfl rfl (fun w _ => by simp only [execOp, hx, Op.unary]; rfl) h
theorem sx_pick {c x y : Operand} {b : Bool} {v u : Value} (hc : evn n (get g F) c = .bool b) (hx : evn n (get g F) x = v) (hy : evn n (get g F) y = u) (h1 : b = true → SX P w0 D n q ops Q rest g ((d, v) :: F) L) (h2 : b = false → SX P w0 D n q ops Q rest g ((d, u) :: F) L) :
    SX P w0 D n q ops Q ({ dst := some d, op := .pick c x y, type := ty, pos := pos, after := af, guard := none } :: rest) g F L := by
  cases hb : b with
  | true => exact sx_run v rfl rfl (fun w _ => by simp only [execOp, hc, hx, asBool, hb]; rfl) (h1 hb)
  | false => exact sx_run u rfl rfl (fun w _ => by simp only [execOp, hc, hy, asBool, hb]; rfl) (h2 hb)
theorem sx_pickT {c x y : Operand} {b : Bool} (v : Value) (hc : evn n (get g F) c = .bool b) (hb : b = true) (hx : evn n (get g F) x = v) (h : SX P w0 D n q ops Q rest g ((d, v) :: F) L) :
    SX P w0 D n q ops Q ({ dst := some d, op := .pick c x y, type := ty, pos := pos, after := af, guard := none } :: rest) g F L :=
  sx_run v rfl rfl (fun w _ => by simp only [execOp, hc, hx, asBool, hb]; rfl) h
theorem sx_pickF {c x y : Operand} {b : Bool} (v : Value) (hc : evn n (get g F) c = .bool b) (hb : b = false) (hx : evn n (get g F) y = v) (h : SX P w0 D n q ops Q rest g ((d, v) :: F) L) :
    SX P w0 D n q ops Q ({ dst := some d, op := .pick c x y, type := ty, pos := pos, after := af, guard := none } :: rest) g F L :=
  sx_run v rfl rfl (fun w _ => by simp only [execOp, hc, hx, asBool, hb]; rfl) h
theorem at_pick {c x y : Operand} (h : SX P w0 D n q ops Q ({ dst := some d, op := .pick c x y, type := ty, pos := pos, after := af, guard := none } :: rest) g F L) : SX P w0 D n q ops Q ({ dst := some d, op := .pick c x y, type := ty, pos := pos, after := af, guard := none } :: rest) g F L := h
theorem sx_extract {x : Operand} {vs : List Value} {i : Nat} {v : Value} (hx : evn n (get g F) x = .tuple vs.toArray) (hv : vs[i]? = some v) (h : SX P w0 D n q ops Q rest g ((d, v) :: F) L) :
    SX P w0 D n q ops Q ({ dst := some d, op := .extract x i, type := ty, pos := pos, after := af, guard := none } :: rest) g F L :=
  sx_run v rfl rfl (fun w _ => by simp only [execOp, hx, Instr.extract, List.getElem?_toArray, hv]; rfl) h

/- Memory. -/
theorem sx_fieldAddr {T i off ft : Nat} [FdT P T i off ft] {x : Operand} {b o : Nat} (hx : evn n (get g F) x = .pointer (some ⟨b, o, none⟩)) (h : SX P w0 D n q ops Q rest g ((d, .pointer (some ⟨b, o + off, none⟩)) :: F) L) :
    SX P w0 D n q ops Q ({ dst := some d, op := .fieldAddr T x i, type := ty, pos := pos, after := af, guard := none } :: rest) g F L :=
  sx_run _ rfl rfl (fun w _ => by
    have h1 := FdT.at_run (P := P) (T := T) (i := i) (off := off) (ft := ft) ⟨b, o, none⟩ w
    rw [addr_add] at h1
    show ((do pure (Next.value (← Instr.fieldAt T (evn n (get g F) x) i))) : Sem Next).run P w = _
    rw [hx]; exact run_v h1) h
theorem sx_field {T i off ft sz : Nat} [FdT P T i off ft] [TyT P ft sz false] {x : Operand} {cs : List Value} {v : Value} (hx : evn n (get g F) x = .agg cs.toArray) (hv : cs[off]? = some v) (h : SX P w0 D n q ops Q rest g ((d, v) :: F) L) :
    SX P w0 D n q ops Q ({ dst := some d, op := .field T x i, type := ty, pos := pos, after := af, guard := none } :: rest) g F L :=
  sx_run _ rfl rfl (fun w _ => by
    have h1 := FdT.val_run (P := P) (T := T) (i := i) (off := off) (ft := ft) cs.toArray w
    unfold part at h1
    rw [Sem.run_bind, TyT.agg_run (P := P) (T := ft) (sz := sz) (agg := false) w] at h1
    simp only [Result.andThen_ok, List.getElem?_toArray, hv, Bool.false_eq_true, if_false] at h1
    show ((do pure (Next.value (← Instr.field T (evn n (get g F) x) i))) : Sem Next).run P w = _
    rw [hx]; exact run_v h1) h
theorem sx_fieldA {T i off ft sz : Nat} [FdT P T i off ft] [TyT P ft sz true] {x : Operand} {cs : List Value} (hx : evn n (get g F) x = .agg cs.toArray) (h : SX P w0 D n q ops Q rest g ((d, .agg ((cs.drop off).take sz).toArray) :: F) L) :
    SX P w0 D n q ops Q ({ dst := some d, op := .field T x i, type := ty, pos := pos, after := af, guard := none } :: rest) g F L :=
  sx_run _ rfl rfl (fun w _ => by
    have h1 := FdT.val_run (P := P) (T := T) (i := i) (off := off) (ft := ft) cs.toArray w
    unfold part at h1
    rw [Sem.run_bind, TyT.agg_run (P := P) (T := ft) (sz := sz) (agg := true) w] at h1
    simp only [Result.andThen_ok, if_true, Sem.run_bind, TyT.size_run (P := P) (T := ft) (sz := sz) (agg := true) w, Sem.run_pure, List.extract_toArray, List.extract_eq_take_drop, Nat.add_sub_cancel_left] at h1
    show ((do pure (Next.value (← Instr.field T (evn n (get g F) x) i))) : Sem Next).run P w = _
    rw [hx]; exact run_v h1) h
/-- A new variable. -/
theorem sx_new {o : Oper} {c : Obj} (hg : o.guard = none) (hd : o.dst = some d) (hrun : ∀ w, Mem w0 w D L → (execOp (evn n (get g F)) o).run P w = .ok (.value (.pointer (some ⟨w.heap.size, 0, none⟩))) (w.alloc c)) (h : ∀ b, SX P w0 D n 0 ops Q rest g ((d, .pointer (some ⟨b, 0, none⟩)) :: F) ([(b, c)] :: L)) : SX P w0 D n 0 ops Q (o :: rest) g F L :=
  .mk fun w hm => wpList_plain hg fun K hK => by
    unfold Oper.wp
    rw [Fr.evn, hrun w hm, Oper.upon_value, hd, Fr.put, get_put]
    exact hK _ _ ((h w.heap.size).out _ (hm.new _))
theorem sx_box {T : Nat} {x : Operand} {cs : List Value} (hx : evn n (get g F) x = .agg cs.toArray) (h : ∀ b, SX P w0 D n 0 ops Q rest g ((d, .pointer (some ⟨b, 0, none⟩)) :: F) ([(b, .cells cs.toArray T (0, 0))] :: L)) :
    SX P w0 D n 0 ops Q ({ dst := some d, op := .box T x, type := ty, pos := pos, after := af, guard := none } :: rest) g F L :=
  sx_new rfl rfl (fun w _ => by
    show ((do pure (Next.value (← Instr.box T (evn n (get g F) x)))) : Sem Next).run P w = _
    rw [hx]; exact run_v rfl) h
theorem sx_box1 {T : Nat} {x : Operand} {v : Value} (hx : evn n (get g F) x = v) (h1 : oneB v = true) (h : ∀ b, SX P w0 D n 0 ops Q rest g ((d, .pointer (some ⟨b, 0, none⟩)) :: F) ([(b, .cells [v].toArray T (0, 0))] :: L)) :
    SX P w0 D n 0 ops Q ({ dst := some d, op := .box T x, type := ty, pos := pos, after := af, guard := none } :: rest) g F L :=
  sx_new rfl rfl (fun w _ => by
    show ((do pure (Next.value (← Instr.box T (evn n (get g F) x)))) : Sem Next).run P w = _
    rw [hx]; refine run_v ?_
    show (newVar T v >>= fun a => (pure (.pointer (some a)) : Sem Value)).run P w = _
    unfold newVar; rw [one_cells h1]; rfl) h
theorem sx_alloc {T : Nat} {cs : List Value} [ZvT P T (.agg cs.toArray)] (h : ∀ b, SX P w0 D n 0 ops Q rest g ((d, .pointer (some ⟨b, 0, none⟩)) :: F) ([(b, .cells cs.toArray T (0, 0))] :: L)) :
    SX P w0 D n 0 ops Q ({ dst := some d, op := .alloc T, type := ty, pos := pos, after := af, guard := none } :: rest) g F L :=
  sx_new rfl rfl (fun w _ => by
    have h1 := ZvT.run (P := P) (T := T) (z := .agg cs.toArray) w
    show ((do pure (Next.value (← Instr.alloc T true (.tuple #[])))) : Sem Next).run P w = _
    refine run_v ?_
    unfold Instr.alloc; rw [Sem.run_bind, h1]; rfl) h
theorem sx_alloc1 {T : Nat} {v : Value} [ZvT P T v] (h1 : oneB v = true) (h : ∀ b, SX P w0 D n 0 ops Q rest g ((d, .pointer (some ⟨b, 0, none⟩)) :: F) ([(b, .cells [v].toArray T (0, 0))] :: L)) :
    SX P w0 D n 0 ops Q ({ dst := some d, op := .alloc T, type := ty, pos := pos, after := af, guard := none } :: rest) g F L :=
  sx_new rfl rfl (fun w _ => by
    have h2 := ZvT.run (P := P) (T := T) (z := v) w
    show ((do pure (Next.value (← Instr.alloc T true (.tuple #[])))) : Sem Next).run P w = _
    refine run_v ?_
    unfold Instr.alloc; rw [Sem.run_bind, h2]
    show (newVar T v >>= fun a => (pure (.pointer (some a)) : Sem Value)).run P w = _
    unfold newVar; rw [one_cells h1]; rfl) h
theorem cell_of_cells {w : World} {b : Nat} {cs : List Value} {T : TypeId} {fr : Nat × Nat} {k : Nat} {v : Value} (h : w.heap[b]? = some (.cells cs.toArray T fr)) (hv : cs[k]? = some v) : w.cell? ⟨b, k, none⟩ = some v := by
  simp [World.cell?, h, hv]
theorem sx_load {T sz : Nat} [TyT P T sz false] (i : Nat) {x : Operand} {b off : Nat} {cs : List Value} {T' : TypeId} {fr : Nat × Nat} {v : Value} (hx : evn n (get g F) x = .pointer (some ⟨b, off, none⟩)) (hL : L[i]? = some [(b, .cells cs.toArray T' fr)]) (hv : cs[off]? = some v)
    (h : SX P w0 D n q ops Q rest g ((d, v) :: F) L) : SX P w0 D n q ops Q ({ dst := some d, op := .load T x, type := ty, pos := pos, after := af, guard := none } :: rest) g F L :=
  sx_run _ rfl rfl (fun w hm => by
    have h1 := load_one (P := P) (T := T) (sz := sz) (cell_of_cells (hm.at i hL (b, .cells cs.toArray T' fr) (by simp)) hv)
    show ((do pure (Next.value (← Instr.loadAt T (evn n (get g F) x)))) : Sem Next).run P w = _
    rw [hx]; exact run_v h1) h
/-- A whole one. -/
theorem sx_loadW {T sz : Nat} [TyT P T sz true] (i : Nat) {x : Operand} {b : Nat} {cs : List Value} {T' : TypeId} {fr : Nat × Nat} (hx : evn n (get g F) x = .pointer (some ⟨b, 0, none⟩)) (hL : L[i]? = some [(b, .cells cs.toArray T' fr)]) (hl : cs.length = sz)
    (h : SX P w0 D n q ops Q rest g ((d, .agg cs.toArray) :: F) L) : SX P w0 D n q ops Q ({ dst := some d, op := .load T x, type := ty, pos := pos, after := af, guard := none } :: rest) g F L :=
  sx_run _ rfl rfl (fun w hm => by
    have h1 := load_agg (P := P) (T := T) (w := w) (b := b) (off := 0) (vs := cs) hl (fun j v hv => by rw [Nat.zero_add]; exact cell_of_cells (hm.at i hL (b, .cells cs.toArray T' fr) (by simp)) hv)
    show ((do pure (Next.value (← Instr.loadAt T (evn n (get g F) x)))) : Sem Next).run P w = _
    rw [hx]; exact run_v h1) h
/-- A part. -/
theorem sx_loadP {T sz : Nat} [TyT P T sz true] (i : Nat) {x : Operand} {b off : Nat} {cs : List Value} {T' : TypeId} {fr : Nat × Nat} (hx : evn n (get g F) x = .pointer (some ⟨b, off, none⟩)) (hL : L[i]? = some [(b, .cells cs.toArray T' fr)]) (hl : ((cs.drop off).take sz).length = sz)
    (h : SX P w0 D n q ops Q rest g ((d, .agg ((cs.drop off).take sz).toArray) :: F) L) : SX P w0 D n q ops Q ({ dst := some d, op := .load T x, type := ty, pos := pos, after := af, guard := none } :: rest) g F L :=
  sx_run _ rfl rfl (fun w hm => by
    have h1 := load_agg (P := P) (T := T) (w := w) (b := b) (off := off) hl (fun j v hv => by
      refine cell_of_cells (hm.at i hL (b, .cells cs.toArray T' fr) (by simp)) ?_
      rw [List.getElem?_take] at hv
      split at hv
      · rwa [List.getElem?_drop] at hv
      · cases hv)
    show ((do pure (Next.value (← Instr.loadAt T (evn n (get g F) x)))) : Sem Next).run P w = _
    rw [hx]; exact run_v h1) h
/-- .. of a row that is not written out. -/
theorem sx_loadX {T sz : Nat} [TyT P T sz true] (i : Nat) {x : Operand} {b off : Nat} {cs vs : List Value} {T' : TypeId} {fr : Nat × Nat} (hx : evn n (get g F) x = .pointer (some ⟨b, off, none⟩)) (hL : L[i]? = some [(b, .cells cs.toArray T' fr)]) (hv : ∀ j v, vs[j]? = some v → cs[off + j]? = some v) (hl : vs.length = sz)
    (h : SX P w0 D n q ops Q rest g ((d, .agg vs.toArray) :: F) L) : SX P w0 D n q ops Q ({ dst := some d, op := .load T x, type := ty, pos := pos, after := af, guard := none } :: rest) g F L :=
  sx_run _ rfl rfl (fun w hm => by
    have h1 := load_agg (P := P) (T := T) (w := w) (b := b) (off := off) hl (fun j v hj => cell_of_cells (hm.at i hL (b, .cells cs.toArray T' fr) (by simp)) (hv j v hj))
    show ((do pure (Next.value (← Instr.loadAt T (evn n (get g F) x)))) : Sem Next).run P w = _
    rw [hx]; exact run_v h1) h
theorem sx_loadX1 {T sz : Nat} [TyT P T sz false] (i : Nat) {x : Operand} {b off : Nat} {cs : List Value} {T' : TypeId} {fr : Nat × Nat} {v : Value} (hx : evn n (get g F) x = .pointer (some ⟨b, off, none⟩)) (hL : L[i]? = some [(b, .cells cs.toArray T' fr)]) (hv : cs[off]? = some v)
    (h : SX P w0 D n q ops Q rest g ((d, v) :: F) L) : SX P w0 D n q ops Q ({ dst := some d, op := .load T x, type := ty, pos := pos, after := af, guard := none } :: rest) g F L := sx_load (sz := sz) i hx hL hv h
/-- What the world tells. -/
theorem sx_loadM {T sz : Nat} [TyT P T sz false] {x : Operand} {a : Addr} {v : Value} (hx : evn n (get g F) x = .pointer (some a)) (hv : ∀ w, Mem w0 w D L → w.cell? a = some v)
    (h : SX P w0 D n q ops Q rest g ((d, v) :: F) L) : SX P w0 D n q ops Q ({ dst := some d, op := .load T x, type := ty, pos := pos, after := af, guard := none } :: rest) g F L :=
  sx_run _ rfl rfl (fun w hm => by
    have h1 := load_one (P := P) (T := T) (sz := sz) (hv w hm)
    show ((do pure (Next.value (← Instr.loadAt T (evn n (get g F) x)))) : Sem Next).run P w = _
    rw [hx]; exact run_v h1) h
theorem sx_loadMA {T sz : Nat} [TyT P T sz true] {x : Operand} {b off : Nat} {vs : List Value} (hx : evn n (get g F) x = .pointer (some ⟨b, off, none⟩)) (hl : vs.length = sz) (hv : ∀ w, Mem w0 w D L → ∀ j v, vs[j]? = some v → w.cell? ⟨b, off + j, none⟩ = some v)
    (h : SX P w0 D n q ops Q rest g ((d, .agg vs.toArray) :: F) L) : SX P w0 D n q ops Q ({ dst := some d, op := .load T x, type := ty, pos := pos, after := af, guard := none } :: rest) g F L :=
  sx_run _ rfl rfl (fun w hm => by
    have h1 := load_agg (P := P) (T := T) hl (hv w hm)
    show ((do pure (Next.value (← Instr.loadAt T (evn n (get g F) x)))) : Sem Next).run P w = _
    rw [hx]; exact run_v h1) h
theorem sx_store_any {T sz : Nat} {ag : Bool} [TyT P T sz ag] {p x : Operand} {b off : Nat} {cs vs cs' : List Value} {T' : TypeId} {v : Value} (hp : evn n (get g F) p = .pointer (some ⟨b, off, none⟩)) (hx : evn n (get g F) x = v) (hv : v.cells = vs.toArray) (hl : vs.length = sz) (h1 : ∀ v ∈ vs, oneB v = true) (hle : off + vs.length ≤ cs.length) (hs : splice cs off vs = cs')
    (h : SX P w0 D n 0 ops Q rest g F ([(b, .cells cs'.toArray T' (0, 0))] :: L)) : SX P w0 D n 0 ops Q ({ dst := none, op := .store T p x, type := ty, pos := pos, after := af, guard := none } :: rest) g F ([(b, .cells cs.toArray T' (0, 0))] :: L) :=
  .mk fun w hm => wpList_plain rfl fun K hK => by
    obtain ⟨w', r1, r2, r3, r4, r5, r6, r7⟩ := store_run (P := P) (T := T) (w := w) hv hl h1 hle (hm.head (b, .cells cs.toArray T' (0, 0)) (by simp))
    unfold Oper.wp
    rw [Fr.evn]
    have hr : (execOp (evn n (get g F)) { dst := none, op := .store T p x, type := ty, pos := pos, after := af, guard := none }).run P w = .ok .skip w' := by
      show ((do Instr.storeAt T (evn n (get g F) p) (evn n (get g F) x); pure Next.skip) : Sem Next).run P w = _
      rw [hp, hx]; exact run_u r1
    rw [hr, Oper.upon_skip]
    exact hK _ _ (h.out _ (hm.upd r3 r4 r5 (by omega) (hs ▸ r2) fun k hk _ => r7 k hk))
theorem sx_store {T sz : Nat} [TyT P T sz false] {p : Operand} {b off : Nat} {cs cs' : List Value} {T' : TypeId} {v : Value} (hp : evn n (get g F) p = .pointer (some ⟨b, off, none⟩)) (h1 : oneB v = true) (hsz : Nat.beq sz 1 = true) (hle : Nat.blt off cs.length = true) (hs : cs.set off v = cs')
    (h : SX P w0 D n 0 ops Q rest g F ([(b, .cells cs'.toArray T' (0, 0))] :: L)) : SX P w0 D n 0 ops Q ({ dst := none, op := .store T p (.const v), type := ty, pos := pos, after := af, guard := none } :: rest) g F ([(b, .cells cs.toArray T' (0, 0))] :: L) :=
  sx_store_any (vs := [v]) hp rfl (one_cells h1) (Nat.eq_of_beq_eq_true hsz).symm (by simp [h1]) (Nat.le_of_ble_eq_true hle) hs h
theorem sx_storeW {T sz : Nat} [TyT P T sz true] {p : Operand} {b : Nat} {cs vs : List Value} {T' : TypeId} (hp : evn n (get g F) p = .pointer (some ⟨b, 0, none⟩)) (hl : vs.length = sz) (hle : cs.length = sz) (h1 : vs.all oneB = true)
    (h : SX P w0 D n 0 ops Q rest g F ([(b, .cells vs.toArray T' (0, 0))] :: L)) : SX P w0 D n 0 ops Q ({ dst := none, op := .store T p (.const (.agg vs.toArray)), type := ty, pos := pos, after := af, guard := none } :: rest) g F ([(b, .cells cs.toArray T' (0, 0))] :: L) :=
  sx_store_any hp rfl rfl hl (fun v hv => List.all_eq_true.1 h1 v hv) (by omega) (splice_whole vs cs (by omega)) h
theorem sx_stval {q : Nat} {T : TypeId} {p : Operand} {t : Nat} {dst : Option Nat} (v : Value) (hx : evn n (get g F) (.tmp t) = v) (h : SX P w0 D n q ops Q ({ dst := dst, op := .store T p (.const v), type := ty, pos := pos, after := af, guard := none } :: rest) g F L) :
    SX P w0 D n q ops Q ({ dst := dst, op := .store T p (.tmp t), type := ty, pos := pos, after := af, guard := none } :: rest) g F L := by
  have e : execOp (evn n (get g F)) { dst := dst, op := .store T p (.tmp t), type := ty, pos := pos, after := af, guard := none } = execOp (evn n (get g F)) { dst := dst, op := .store T p (.const v), type := ty, pos := pos, after := af, guard := none } := by
    show ((do Instr.storeAt T (evn n (get g F) p) (evn n (get g F) (.tmp t)); pure Next.skip) : Sem Next) = ((do Instr.storeAt T (evn n (get g F) p) v; pure Next.skip) : Sem Next)
    rw [hx]
  refine h.three ?_ ?_ ?_
  · intro h w hm
    have h1 := h w hm
    unfold wpList at h1 ⊢
    rw [if_pos (by simp [Region.wanted])] at h1 ⊢
    unfold Oper.wp Oper.asks at h1 ⊢
    rw [Fr.evn] at h1 ⊢
    rw [e]; exact h1
  · intro h
    unfold wpQuiet at h ⊢
    rw [if_pos (by simp [Region.wanted])] at h ⊢
    obtain ⟨u, h1, h2⟩ := h
    refine ⟨u, fun w hm => ?_, h2⟩
    have h3 := h1 w hm
    unfold Oper.quietAt at h3 ⊢
    rw [Fr.evn] at h3 ⊢
    rw [e]; exact h3
  · intro h w hm
    have h1 := h w hm
    unfold wpStill at h1 ⊢
    rw [if_pos (by simp [Region.wanted])] at h1 ⊢
    unfold Oper.still at h1 ⊢
    rw [Fr.evn] at h1 ⊢
    rw [e]; exact h1
theorem set_zero {a v : Value} {r : List Value} : (a :: r).set 0 v = v :: r := rfl
theorem set_z {a v : Value} {r : List Value} {k : Nat} (hk : Nat.beq k 0 = true) : (a :: r).set k v = v :: r := by
  obtain rfl := Nat.eq_of_beq_eq_true hk; rfl
theorem set_succ {a v : Value} {r r' : List Value} {k : Nat} (h : r.set k v = r') : (a :: r).set (k + 1) v = a :: r' := by rw [List.set_cons_succ, h]

/- Calls. -/
theorem run_call {k : Nat} [CalT P k] {la : List Operand} {ats : Array TypeId} {dst : Option Nat} {w : World} : (execOp (evn n (get g F)) { dst := dst, op := .call { callee := .value (.func k), args := la.toArray, argTypes := ats }, type := ty, pos := pos, after := af, guard := none }).run P w = .ok (.enter k (evs n (get g F) la).toArray) w := by
  have h1 := CalT.run (P := P) (k := k) (evs n (get g F) la).toArray w
  simp only [execOp, resolve]
  simp [Deferred.ofValue, evn, evs_map, invoke, h1, go_sem]
theorem sx_call {k : Nat} [CalT P k] {la : List Operand} {ats : Array TypeId} {c : Ch} {R : Value → List Ch → Prop} (hc : ∀ w, Mem w0 w D (c :: L) → Calls P k (evs n (get g F) la).toArray w (Ret w (c.map (·.1)) R)) (h : ∀ v L', R v L' → SX P w0 D n 0 ops Q rest g ((d, v) :: F) (L' ++ L)) :
    SX P w0 D n 0 ops Q ({ dst := some d, op := .call { callee := .value (.func k), args := la.toArray, argTypes := ats }, type := ty, pos := pos, after := af, guard := none } :: rest) g F (c :: L) :=
  .mk fun w hm => wpList_plain rfl fun K hK => by
    unfold Oper.wp
    rw [Fr.evn, run_call, Oper.upon_enter]
    refine (hc w hm).mono ?_
    rintro e w' ⟨v, L', rfl, hm', hR⟩
    show K ((Fr n (get g F)).put (some d) v) w'
    rw [Fr.put, get_put]
    exact hK _ _ ((h v L' hR).out _ (hm.call hm'))
theorem sx_call0 {k : Nat} [CalT P k] {la : List Operand} {ats : Array TypeId} {R : Value → List Ch → Prop} (hc : ∀ w, Mem w0 w D L → Calls P k (evs n (get g F) la).toArray w (Ret w [] R)) (h : ∀ v L', R v L' → SX P w0 D n 0 ops Q rest g ((d, v) :: F) (L' ++ L)) :
    SX P w0 D n 0 ops Q ({ dst := some d, op := .call { callee := .value (.func k), args := la.toArray, argTypes := ats }, type := ty, pos := pos, after := af, guard := none } :: rest) g F L :=
  .mk fun w hm => wpList_plain rfl fun K hK => by
    unfold Oper.wp
    rw [Fr.evn, run_call, Oper.upon_enter]
    refine (hc w hm).mono ?_
    rintro e w' ⟨v, L', rfl, hm', hR⟩
    show K ((Fr n (get g F)).put (some d) v) w'
    rw [Fr.put, get_put]
    exact hK _ _ ((h v L' hR).out _ (hm.call0 hm'))
/- What comes next? -/
theorem at_guard {o : Op} {dst : Option Nat} {j : Nat × Bool} (h : SX P w0 D n q ops Q ({ dst := dst, op := o, type := ty, pos := pos, after := af, guard := some j } :: rest) g F L) : SX P w0 D n q ops Q ({ dst := dst, op := o, type := ty, pos := pos, after := af, guard := some j } :: rest) g F L := h
theorem at_bin {o : BinOp} {t1 t2 : TypeId} {x y : Operand} (h : SX P w0 D n q ops Q ({ dst := some d, op := .binOp o t1 x y t2, type := ty, pos := pos, after := af, guard := none } :: rest) g F L) : SX P w0 D n q ops Q ({ dst := some d, op := .binOp o t1 x y t2, type := ty, pos := pos, after := af, guard := none } :: rest) g F L := h
theorem at_move {x : Operand} (h : SX P w0 D n q ops Q ({ dst := some d, op := .move x, type := ty, pos := pos, after := af, guard := none } :: rest) g F L) : SX P w0 D n q ops Q ({ dst := some d, op := .move x, type := ty, pos := pos, after := af, guard := none } :: rest) g F L := h
theorem at_assign {x : Operand} (h : SX P w0 D n q ops Q ({ dst := some d, op := .assign x, type := ty, pos := pos, after := af, guard := none } :: rest) g F L) : SX P w0 D n q ops Q ({ dst := some d, op := .assign x, type := ty, pos := pos, after := af, guard := none } :: rest) g F L := h
theorem at_load {T : TypeId} {x : Operand} (h : SX P w0 D n q ops Q ({ dst := some d, op := .load T x, type := ty, pos := pos, after := af, guard := none } :: rest) g F L) : SX P w0 D n q ops Q ({ dst := some d, op := .load T x, type := ty, pos := pos, after := af, guard := none } :: rest) g F L := h
theorem at_stores {T : TypeId} {p x : Operand} {dst : Option Nat} (h : SX P w0 D n q ops Q ({ dst := dst, op := .store T p x, type := ty, pos := pos, after := af, guard := none } :: rest) g F L) : SX P w0 D n q ops Q ({ dst := dst, op := .store T p x, type := ty, pos := pos, after := af, guard := none } :: rest) g F L := h
theorem at_iface {T : TypeId} {x : Operand} (h : SX P w0 D n q ops Q ({ dst := some d, op := .makeInterface T x, type := ty, pos := pos, after := af, guard := none } :: rest) g F L) : SX P w0 D n q ops Q ({ dst := some d, op := .makeInterface T x, type := ty, pos := pos, after := af, guard := none } :: rest) g F L := h
theorem at_conv {S T : TypeId} {x : Operand} (h : SX P w0 D n q ops Q ({ dst := some d, op := .convert S T x, type := ty, pos := pos, after := af, guard := none } :: rest) g F L) : SX P w0 D n q ops Q ({ dst := some d, op := .convert S T x, type := ty, pos := pos, after := af, guard := none } :: rest) g F L := h
theorem at_buildS {T : TypeId} {k : Nat} {ps : Array (Nat × Operand)} (h : SX P w0 D n q ops Q ({ dst := some d, op := .buildSlice T k ps, type := ty, pos := pos, after := af, guard := none } :: rest) g F L) : SX P w0 D n q ops Q ({ dst := some d, op := .buildSlice T k ps, type := ty, pos := pos, after := af, guard := none } :: rest) g F L := h
theorem at_append {x y : Operand} {ts : Array TypeId} (h : SX P w0 D n q ops Q ({ dst := some d, op := .call { callee := .builtin .append, args := #[x, y], argTypes := ts }, type := ty, pos := pos, after := af, guard := none } :: rest) g F L) : SX P w0 D n q ops Q ({ dst := some d, op := .call { callee := .builtin .append, args := #[x, y], argTypes := ts }, type := ty, pos := pos, after := af, guard := none } :: rest) g F L := h
theorem at_op {o : Oper} (h : SX P w0 D n q ops Q (o :: rest) g F L) : SX P w0 D n q ops Q (o :: rest) g F L := h
theorem at_code {c : Code} (h : CX P w0 D n Q c g F L) : CX P w0 D n Q c g F L := h
theorem at_exit {e : Exit} (h : QX w0 D n Q e g F L) : QX w0 D n Q e g F L := h
theorem at_K {K : Act → World → Prop} (h : QX w0 D n (Exit.then K Q) .normal g F L) : QX w0 D n (Exit.then K Q) .normal g F L := h
/-- To stop at a call of one function. -/
theorem at_call (k : Nat) {dst : Option Nat} {la : Array Operand} {ats : Array TypeId} {gd : Option (Nat × Bool)} (h : SX P w0 D n q ops Q ({ dst := dst, op := .call { callee := .value (.func k), args := la, argTypes := ats }, type := ty, pos := pos, after := af, guard := gd } :: rest) g F L) :
    SX P w0 D n q ops Q ({ dst := dst, op := .call { callee := .value (.func k), args := la, argTypes := ats }, type := ty, pos := pos, after := af, guard := gd } :: rest) g F L := h
theorem sx_app0 (h : SX P w0 D n q ops Q rest g F L) : SX P w0 D n q ops Q rest g F ([] ++ L) := h
theorem sx_app1 {c : Ch} (h : SX P w0 D n q ops Q rest g F (c :: L)) : SX P w0 D n q ops Q rest g F ([c] ++ L) := h
theorem sx_app2 {c c' : Ch} (h : SX P w0 D n q ops Q rest g F (c :: c' :: L)) : SX P w0 D n q ops Q rest g F ([c, c'] ++ L) := h
theorem cx_true {t : Nat} {x y : Code} (hb : evn n (get g F) (.tmp t) = .bool true) (h : CX P w0 D n Q x g F L) : CX P w0 D n Q (.cond (.tmp t) x y) g F L := cx_cond hb (fun _ => h) (fun e => by cases e)
theorem cx_false {t : Nat} {x y : Code} (hb : evn n (get g F) (.tmp t) = .bool false) (h : CX P w0 D n Q y g F L) : CX P w0 D n Q (.cond (.tmp t) x y) g F L := cx_cond hb (fun e => by cases e) (fun _ => h)
def isV (v : Value) (v' : Value) (L : List Ch) : Prop := v' = v ∧ L = []
theorem sx_callv {k : Nat} [CalT P k] {la : List Operand} {ats : Array TypeId} {v : Value} (hc : ∀ w, Mem w0 w D L → Calls P k (evs n (get g F) la).toArray w (Ret w [] (isV v))) (h : SX P w0 D n q ops Q rest g ((d, v) :: F) L) (hq : Nat.blt q 2 = true) :
    SX P w0 D n q ops Q ({ dst := some d, op := .call { callee := .value (.func k), args := la.toArray, argTypes := ats }, type := ty, pos := pos, after := af, guard := none } :: rest) g F L := by
  match q with
  | 0 => exact sx_call0 hc (by rintro _ _ ⟨rfl, rfl⟩; exact h)
  | 1 =>
    refine .mk1 ?_
    have h1 := h.out1
    unfold wpQuiet
    rw [if_pos (by simp [Region.wanted])]
    refine ⟨v, fun w hm => ?_, by rw [show (Fr n (get g F)).put (some d) v = Fr n (get g ((d, v) :: F)) by rw [Fr.put, get_put]]; exact h1⟩
    unfold Oper.quietAt
    rw [Fr.evn, run_call]
    refine ⟨rfl, (hc w hm).mono ?_⟩
    rintro e w' ⟨v', L', rfl, hm', rfl, rfl⟩
    exact ⟨rfl, hm.call0 hm'⟩
  | q + 2 => simp [Nat.blt] at hq
theorem sx_len {x : Operand} {T E sz bytes : Nat} {z : Value} [SlT P T E sz bytes z] {a : Option Addr} {len cap : Nat} (hx : evn n (get g F) x = .slice a len cap) (h : SX P w0 D n q ops Q rest g ((d, .int .i64 len) :: F) L) :
    SX P w0 D n q ops Q ({ dst := some d, op := .call { callee := .builtin .len, args := #[x], argTypes := #[T] }, type := ty, pos := pos, after := af, guard := none } :: rest) g F L :=
  sx_run _ rfl rfl (fun w _ => by
    have h1 := SlT.und (P := P) (T := T) (E := E) (sz := sz) (bytes := bytes) (z := z)
    simp only [execOp, resolve]
    simp [hx, invoke, builtin, Builtin.len_, run_underlying h1, goInt, go_sem]) h

/- Regions of any order: what only computes goes first, what alone is ready goes next. -/
def listedK (m : Nat) : Nat → Array Bool
  | 0 => Array.replicate m false
  | k + 1 => (listedK m k).setIfInBounds k true
/-- Nobody panics. -/
def np (Q : Exit → Act → World → Prop) : Exit → Act → World → Prop
  | .panic _, _, _ => False
  | e, a, w => Q e a w
def AX (P : Program) (w0 : World) (D : List Nat) (n : Nat) (ops : Array Oper) (Q : Exit → Act → World → Prop) (k : Nat) (g : Nat → Value) (F : List (Nat × Value)) (L : List Ch) : Prop :=
  ∀ w, Mem w0 w D L → wpAny P .any ops (np Q) (ops.size - k) (listedK ops.size k) (Fr n (get g F)) w
attribute [irreducible] AX
theorem AX.mk {k : Nat} (h : ∀ w, Mem w0 w D L → wpAny P .any ops (np Q) (ops.size - k) (listedK ops.size k) (Fr n (get g F)) w) : AX P w0 D n ops Q k g F L := by unfold AX; exact h
theorem AX.out {k : Nat} (h : AX P w0 D n ops Q k g F L) : ∀ w, Mem w0 w D L → wpAny P .any ops (np Q) (ops.size - k) (listedK ops.size k) (Fr n (get g F)) w := by unfold AX at h; exact h
theorem at_any {k : Nat} (h : AX P w0 D n ops Q k g F L) : AX P w0 D n ops Q k g F L := h
theorem cx_any {id : Nat} {l : List Oper} (hm : P.follows .mixedOrders = true) (h : AX P w0 D n l.toArray Q 0 g F L) : CX P w0 D n Q (.region id l.toArray true) g F L :=
  .mk fun w hw => wp_mono (wp_region_any (Q := np Q) hm (h.out _ hw.drew)) fun e a w q => by
    cases e <;> first | exact q | exact q.elim
def takeB (ops : Array Oper) (k : Nat) : Bool := Nat.blt k ops.size && Region.noSelect ops && Region.free .any ops (listedK ops.size k) k && (Region.ready .any ops (listedK ops.size k)).contains k
def loneB (ops : Array Oper) (k : Nat) : Bool := Nat.blt k ops.size && decide (Region.ready .any ops (listedK ops.size k) = [k])
def overB (ops : Array Oper) (k : Nat) : Bool := decide (Region.ready .any ops (listedK ops.size k) = [])
/-- The frame that is told. -/
def isF (n : Nat) (g : Nat → Value) (F : List (Nat × Value)) : Exit → Act → World → Prop := fun e a _ => e = .normal ∧ a = Fr n (get g F)
theorem qx_isF {w0 : World} {D : List Nat} {L : List Ch} : QX w0 D n (isF n g F) .normal g F L := .mk fun _ _ => ⟨rfl, rfl⟩
theorem ax_take {k : Nat} {o : Oper} {v : Value} (ht : takeB ops k = true) (hi : ops[k]? = some o) (hy : Yields P ops o v (Fr n (get g F))) (hd : o.dst = some d) (h : AX P w0 D n ops Q (k + 1) g ((d, v) :: F) L) : AX P w0 D n ops Q k g F L := .mk fun w hm => by
  simp only [takeB, Bool.and_eq_true] at ht
  have hlt : k < ops.size := Nat.le_of_ble_eq_true ht.1.1.1
  have h1 := h.out w hm
  have e : ops.size - k = (ops.size - (k + 1)) + 1 := by omega
  rw [e]
  refine wpAny_take hi ht.1.1.2 ht.1.2 ht.2 (fun c a w q => q.elim) hy ?_
  rw [hd, Fr.put, get_put]
  exact h1
/-- Operations that give a value, each. -/
def valOp : Op → Bool
  | .move _ | .assign _ | .pick .. | .binOp .. | .unOp .. | .convert .. | .makeInterface .. | .slice .. | .fieldAddr .. | .field .. | .indexAddr .. | .index .. | .extract .. | .build .. => true
  | _ => false
theorem andThen_value {s : Sem Value} {w : World} : (∃ v w', ((do pure (Next.value (← s))) : Sem Next).run P w = .ok (.value v) w') ∨ ∃ h w', ((do pure (Next.value (← s))) : Sem Next).run P w = .halt h w' := by
  rw [Sem.run_bind]
  cases s.run P w with
  | ok v w' => exact .inl ⟨v, w', rfl⟩
  | halt h w' => exact .inr ⟨h, w', rfl⟩
theorem valOp_run {ρ : Operand → Value} {o : Oper} (h : valOp o.op = true) (w : World) : (∃ v w', (execOp ρ o).run P w = .ok (.value v) w') ∨ ∃ h w', (execOp ρ o).run P w = .halt h w' := by
  obtain ⟨dst, op, ty, pos, af, gd⟩ := o
  cases op <;> first
    | (simp [valOp] at h; done)
    | exact .inl ⟨_, _, rfl⟩
    | exact andThen_value
    | (rename_i c a b
       show (∃ v w', ((do pure (Next.value (if ← asBool (ρ c) then ρ a else ρ b))) : Sem Next).run P w = .ok (.value v) w') ∨ ∃ h w', ((do pure (Next.value (if ← asBool (ρ c) then ρ a else ρ b))) : Sem Next).run P w = .halt h w'
       rw [Sem.run_bind]
       cases (asBool (ρ c)).run P w with
       | ok v w' => exact .inl ⟨_, w', rfl⟩
       | halt h w' => exact .inr ⟨h, w', rfl⟩)
theorem ax_pure {k : Nat} {o : Oper} (hval : valOp o.op = true) (ht : takeB ops k = true) (hi : ops[k]? = some o) (hg : o.guard = none) (hd : o.dst = some d) (hdn : Nat.blt d n = true)
    (h : ∃ v, (∀ w, SX P w [] n 2 ops (isF n g ((d, v) :: F)) [o] g F []) ∧ AX P w0 D n ops Q (k + 1) g ((d, v) :: F) L) : AX P w0 D n ops Q k g F L := by
  obtain ⟨v, h1, h2⟩ := h
  refine ax_take (v := v) ht hi (.inl ⟨by simp [Region.wanted, hg], fun w => ?_⟩) hd h2
  have h3 := (h1 w).out2 (q := 0) w (Mem.refl w)
  unfold wpStill at h3
  rw [if_pos (by simp [Region.wanted, hg])] at h3
  unfold Oper.still at h3
  have key : ∀ u, (Fr n (get g F)).put o.dst u = Fr n (get g ((d, v) :: F)) → u = v := by
    intro u hu
    rw [hd, Fr.put, get_put] at hu
    have hlt : d < n := Nat.le_of_ble_eq_true hdn
    have h4 := congrArg (fun a : Act => a.tmps.getD d undef) hu
    simp only [Fr.getD hlt] at h4
    have h5 : ∀ x, get g ((d, x) :: F) d = x := fun x => by show (bif Nat.beq d d then x else _) = x; rw [Nat.beq_refl]; rfl
    rwa [h5, h5] at h4
  rcases valOp_run (P := P) (ρ := (Fr n (get g F)).eval) hval w with ⟨u, w', hr⟩ | ⟨x, w', hr⟩
  · rw [hr] at h3 ⊢
    obtain ⟨rfl, _, h4⟩ := h3
    rw [key u h4]
  · rw [hr] at h3; exact h3.elim
theorem ax_skip {k j t : Nat} {want b : Bool} {o : Oper} (ht : takeB ops k = true) (hi : ops[k]? = some o) (hg : o.guard = some (j, want)) (hdst : o.dst = some d) (hd : (ops[j]?).bind (·.dst) = some t) (htn : Nat.blt t n = true) (hv : get g F t = .bool b) (hb : b = !want)
    (h : AX P w0 D n ops Q (k + 1) g ((d, undef) :: F) L) : AX P w0 D n ops Q k g F L :=
  ax_take ht hi (.inr ⟨wanted_no hg hd htn hv hb, rfl⟩) hdst h
theorem ax_lone {k : Nat} {o : Oper} (ht : loneB ops k = true) (hi : ops[k]? = some o) (h : SX P w0 D n 0 ops (Exit.then (fun a w => wpAny P .any ops (np Q) (ops.size - (k + 1)) (listedK ops.size (k + 1)) a w) (np Q)) [o] g F L) : AX P w0 D n ops Q k g F L := .mk fun w hm => by
  simp only [loneB, Bool.and_eq_true, decide_eq_true_eq] at ht
  have hlt : k < ops.size := Nat.le_of_ble_eq_true ht.1
  have e : ops.size - k = (ops.size - (k + 1)) + 1 := by omega
  rw [e]
  refine wpAny_all ht.2 (by simp) fun i hi' => ?_
  have : i = k := by simpa using hi'
  subst this
  have h1 := h.out w hm
  unfold wpList at h1
  unfold wpOp
  simp only [hi]
  split at h1
  · rename_i hw
    rw [if_pos hw]
    rcases h1 with h1 | ⟨h1, a, w', h2⟩
    · refine .inl ?_
      unfold Oper.wp at h1 ⊢
      generalize (execOp (Fr n (get g F)).eval o).run P w = r at h1 ⊢
      cases r with
      | ok x w' =>
        cases x <;> simp only [Oper.upon] at h1 ⊢ <;> first
          | exact h1
          | (refine Calls.mono h1 fun e w'' he => ?_
             cases e with
             | returned v => exact he
             | panicked ch => exact he
             | outgrown => obtain ⟨a, w, hh⟩ := he; exact ⟨a, w, hh⟩)
      | halt x w' => cases x <;> simp only [Oper.upon] at h1 ⊢ <;> exact h1
    · exact .inr ⟨h1, a, w', h2⟩
  · rename_i hw
    rw [if_neg hw]; exact h1
theorem qx_any {k : Nat} (h : AX P w0 D n ops Q (k + 1) g F L) : QX w0 D n (Exit.then (fun a w => wpAny P .any ops (np Q) (ops.size - (k + 1)) (listedK ops.size (k + 1)) a w) (np Q)) .normal g F L := .mk fun w hm => h.out w hm
theorem ax_over {k : Nat} (ht : overB ops k = true) (h : QX w0 D n Q .normal g F L) : AX P w0 D n ops Q k g F L := .mk fun w hm => by
  simp only [overB, decide_eq_true_eq] at ht
  exact wpAny_done (Q := np Q) ht (h.out w hm) _
end
end Go.Port
