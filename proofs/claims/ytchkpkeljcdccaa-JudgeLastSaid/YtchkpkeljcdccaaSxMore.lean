/- Steps of a call: literals of structs, places of arrays, what callers tell, signs. No program here. -/
import Derived.Test.YtchkpkeljcdccaaSxMem
set_option linter.unusedSimpArgs false
set_option linter.unusedVariables false
namespace Go.Port
open Go.RowKit

/-- A literal of a struct: where its fields are, what it holds at first. -/
class BldT (P : Program) (T : Nat) (places : outParam (List (Nat × Nat))) (zero : outParam (List Value)) : Prop where
  blt : ∀ parts, P.built T parts = Instr.fill (places.toArray[·]?) zero.toArray parts
class ArT (P : Program) (T : Nat) (len E sz : outParam Nat) : Prop where
  und : P.underlying T = some (.array len E)
  size_run : ∀ w, (sizeOf E).run P w = .ok sz w
/-- What a literal comes to. -/
def bldL (pl : List (Nat × Nat)) : List Value → List (Nat × Value) → Option (List Value)
  | cs, [] => some cs
  | cs, (i, v) :: r => match pl[i]? with
    | none => none
    | some (off, sz) => bif Nat.beq v.cells.size sz && Nat.ble (off + sz) cs.length then bldL pl (splice cs off v.cells.toList) r else none
theorem foldl_splice : ∀ (vs : List Value) (j off : Nat) (cs : List Value), (vs.zipIdx j).foldl (fun (cs : Array Value) (c, j) => cs.setIfInBounds (off + j) c) cs.toArray = (splice cs (off + j) vs).toArray
  | [], _, _, _ => rfl
  | v :: vs, j, off, cs => by
    rw [List.zipIdx_cons, List.foldl_cons, splice]
    simp only [List.setIfInBounds_toArray]
    rw [foldl_splice vs (j + 1) off]
    rfl
theorem fill_bldL (pl : List (Nat × Nat)) : ∀ (ps : List (Nat × Value)) (cs cs' : List Value), bldL pl cs ps = some cs' → Instr.fill (pl.toArray[·]?) cs.toArray ps = some cs'.toArray
  | [], cs, cs', h => by simp only [bldL, Option.some.injEq] at h; subst h; rfl
  | (i, v) :: r, cs, cs', h => by
    unfold bldL at h
    unfold Instr.fill
    rw [List.getElem?_toArray]
    cases hp : pl[i]? with
    | none => rw [hp] at h; cases h
    | some p =>
      obtain ⟨off, sz⟩ := p
      rw [hp] at h
      dsimp only at h ⊢
      cases hb : Nat.beq v.cells.size sz && Nat.ble (off + sz) cs.length with
      | false => rw [hb] at h; cases h
      | true =>
        rw [hb] at h
        simp only [Bool.and_eq_true] at hb
        have h1 : v.cells.size = sz := Nat.eq_of_beq_eq_true hb.1
        have h2 : off + sz ≤ cs.length := Nat.le_of_ble_eq_true hb.2
        rw [if_neg (by simp [h1]; omega), ← Array.foldl_toList, Array.toList_zipIdx, foldl_splice]
        exact fill_bldL pl r _ cs' h
def pvals (n : Nat) (f : Nat → Value) : List (Nat × Operand) → List (Nat × Value)
  | [] => []
  | (i, x) :: l => (i, evn n f x) :: pvals n f l
theorem pvals_eq (n : Nat) (f : Nat → Value) : ∀ l : List (Nat × Operand), l.map (fun p => (p.1, evn n f p.2)) = pvals n f l
  | [] => rfl
  | (i, x) :: l => by rw [List.map_cons, pvals_eq n f l]; rfl
theorem blk_of_cell {w : World} {b k : Nat} {v : Value} (h : w.cell? ⟨b, k, none⟩ = some v) : b < w.heap.size := by
  rcases Nat.lt_or_ge b w.heap.size with h1 | h1
  · exact h1
  · simp [World.cell?, Array.getElem?_eq_none h1] at h
/-- The bodies of the loops, in order. -/
def loopsOf : Code → List Code
  | .seq a b => loopsOf a ++ loopsOf b
  | .cond _ a b => loopsOf a ++ loopsOf b
  | .block _ a => loopsOf a
  | .loop c => c :: loopsOf c
  | _ => []
def loopAt (k : Nat) (f : Func) : Code := (loopsOf (f.body.getD .skip)).getD k .skip
/-- Pieces of memory, taken out one by one: the place of each in what is left. -/
def picks : List Ch → List Nat → List Ch
  | _, [] => []
  | L, i :: is => match L[i]? with
    | some c => c :: picks (L.eraseIdx i) is
    | none => []
theorem picks_perm : ∀ (is : List Nat) (L : List Ch), ∃ R, (picks L is ++ R).Perm L
  | [], L => ⟨L, .refl _⟩
  | i :: is, L => by
    unfold picks
    cases h : L[i]? with
    | none => exact ⟨L, .refl _⟩
    | some c =>
      obtain ⟨hi, rfl⟩ := List.getElem?_eq_some_iff.1 h
      obtain ⟨R, hR⟩ := picks_perm is (L.eraseIdx i)
      have hp : (L[i] :: L.eraseIdx i).Perm L := by
        rw [List.eraseIdx_eq_take_drop_succ]
        refine List.perm_middle.symm.trans ?_
        rw [← List.drop_eq_getElem_cons hi, List.take_append_drop]
      exact ⟨R, (List.Perm.cons _ hR).trans hp⟩
theorem Mem.picks {w0 w : World} {D : List Nat} {L : List Ch} (h : Mem w0 w D L) (is : List Nat) : Mem w0 w D (Port.picks L is) := by
  obtain ⟨R, hR⟩ := picks_perm is L
  exact (h.permL hR).drop
/-- A block that is told. -/
theorem Mem.blk {w0 w : World} {D : List Nat} {L : List Ch} (h : Mem w0 w D L) (i : Nat) {b : Nat} {o : Obj} (hL : L[i]? = some [(b, o)]) : w.heap[b]? = some o := h.at i hL (b, o) (by simp)
theorem Mem.old0 {w0 w : World} {L : List Ch} {b : Nat} {o : Obj} (h : Mem w0 w [] L) (hb : w0.heap[b]? = some o) : w.heap[b]? = some o := by
  rw [h.old b (heap_lt hb) (by simp)]; exact hb

section
variable {P : Program} {w0 : World} {D : List Nat} {n q : Nat} {ops : Array Oper} {Q : Exit → Act → World → Prop} {g : Nat → Value} {F : List (Nat × Value)} {L : List Ch}
variable {rest : List Oper} {ty : TypeId} {pos : String} {af : Array Edge} {d : Nat}
theorem sx_build {T : Nat} {places : List (Nat × Nat)} {zero : List Value} [BldT P T places zero] {ps : List (Nat × Operand)} (cs : List Value) (hc : bldL places zero (pvals n (get g F) ps) = some cs) (h : SX P w0 D n q ops Q rest g ((d, .agg cs.toArray) :: F) L) :
    SX P w0 D n q ops Q ({ dst := some d, op := .build T ps.toArray, type := ty, pos := pos, after := af, guard := none } :: rest) g F L :=
  sx_run _ rfl rfl (fun w _ => by
    show ((do pure (Next.value (← Instr.build T (ps.toArray.map fun p => (p.1, evn n (get g F) p.2))))) : Sem Next).run P w = _
    refine run_v ?_
    rw [List.map_toArray, pvals_eq]
    exact run_build w T _ _ (by rw [BldT.blt]; exact fill_bldL places _ _ cs hc)) h
theorem at_build {T : TypeId} {ps : Array (Nat × Operand)} (h : SX P w0 D n q ops Q ({ dst := some d, op := .build T ps, type := ty, pos := pos, after := af, guard := none } :: rest) g F L) : SX P w0 D n q ops Q ({ dst := some d, op := .build T ps, type := ty, pos := pos, after := af, guard := none } :: rest) g F L := h
theorem sx_nilCheck {x : Operand} {a : Addr} (hx : evn n (get g F) x = .pointer (some a)) (h : SX P w0 D n q ops Q rest g ((d, .pointer (some a)) :: F) L) :
    SX P w0 D n q ops Q ({ dst := some d, op := .nilCheck x, type := ty, pos := pos, after := af, guard := none } :: rest) g F L :=
  sx_run _ rfl rfl (fun w _ => by simp only [execOp, hx]; rfl) h
/-- What lay there from the beginning. -/
theorem sx_loadB {T sz : Nat} [TyT P T sz false] {x : Operand} {b off : Nat} {cs : List Value} {T' : TypeId} {fr : Nat × Nat} {v : Value} (hx : evn n (get g F) x = .pointer (some ⟨b, off, none⟩)) (hb : w0.heap[b]? = some (.cells cs.toArray T' fr)) (hv : cs[off]? = some v)
    (h : SX P w0 [] n q ops Q rest g ((d, v) :: F) L) : SX P w0 [] n q ops Q ({ dst := some d, op := .load T x, type := ty, pos := pos, after := af, guard := none } :: rest) g F L :=
  sx_loadM hx (fun _ hm => cell_of_cells (hm.old0 hb) hv) h
theorem sx_loadBW {T sz : Nat} [TyT P T sz true] {x : Operand} {b : Nat} {cs : List Value} {T' : TypeId} {fr : Nat × Nat} (hx : evn n (get g F) x = .pointer (some ⟨b, 0, none⟩)) (hb : w0.heap[b]? = some (.cells cs.toArray T' fr)) (hl : cs.length = sz)
    (h : SX P w0 [] n q ops Q rest g ((d, .agg cs.toArray) :: F) L) : SX P w0 [] n q ops Q ({ dst := some d, op := .load T x, type := ty, pos := pos, after := af, guard := none } :: rest) g F L :=
  sx_loadMA hx hl (fun _ hm j v hj => cell_of_cells (hm.old0 hb) (by rw [Nat.zero_add]; exact hj)) h
theorem sx_neg {x : Operand} {a : Int} {t1 : TypeId} (hx : evn n (get g F) x = .int .i64 a) (hb : -9223372036854775808 ≤ -a ∧ -a ≤ 9223372036854775807) (h : SX P w0 D n q ops Q rest g ((d, .int .i64 (-a)) :: F) L) :
    SX P w0 D n q ops Q ({ dst := some d, op := .unOp .neg t1 x, type := ty, pos := pos, after := af, guard := none } :: rest) g F L :=
  sx_run (.int .i64 (-a)) rfl rfl (fun w _ => by simp only [execOp, hx, Op.unary, Op.intArith, Int.zero_sub, IntWalk.i64_in _ hb]; rfl) h
/-- The rest, of any number. -/
theorem sx_remT {x y : Operand} {a b : Int} {t1 t2 : TypeId} (hx : evn n (get g F) x = .int .i64 a) (hy : evn n (get g F) y = .int .i64 b) (hb : 0 < b) (h : SX P w0 D n q ops Q rest g ((d, .int .i64 (a.tmod b)) :: F) L) :
    SX P w0 D n q ops Q ({ dst := some d, op := .binOp .rem t1 x y t2, type := ty, pos := pos, after := af, guard := none } :: rest) g F L :=
  sx_run (.int .i64 (a.tmod b)) rfl rfl (fun w _ => by
    have h3 : ¬ b = 0 := by omega
    simp only [execOp, hx, hy, eqGuard, binOp, Op.intDiv, if_neg h3]; rfl) h
theorem sx_min {x y : Operand} {k : IntKind} {a b : Int} {ts : Array TypeId} (hx : evn n (get g F) x = .int k a) (hy : evn n (get g F) y = .int k b) (h : SX P w0 D n q ops Q rest g ((d, .int k (min a b)) :: F) L) :
    SX P w0 D n q ops Q ({ dst := some d, op := .call { callee := .builtin .min, args := #[x, y], argTypes := ts }, type := ty, pos := pos, after := af, guard := none } :: rest) g F L :=
  sx_run _ rfl rfl (fun w _ => by
    have e : (if b < a then b else a) = min a b := by omega
    rw [← e]
    simp [execOp, resolve, hx, hy, invoke, builtin, Builtin.min_, Builtin.min2, go_sem]) h
theorem sx_max {x y : Operand} {k : IntKind} {a b : Int} {ts : Array TypeId} (hx : evn n (get g F) x = .int k a) (hy : evn n (get g F) y = .int k b) (h : SX P w0 D n q ops Q rest g ((d, .int k (max a b)) :: F) L) :
    SX P w0 D n q ops Q ({ dst := some d, op := .call { callee := .builtin .max, args := #[x, y], argTypes := ts }, type := ty, pos := pos, after := af, guard := none } :: rest) g F L :=
  sx_run _ rfl rfl (fun w _ => by
    have e : (if a < b then b else a) = max a b := by omega
    rw [← e]
    simp [execOp, resolve, hx, hy, invoke, builtin, Builtin.max_, Builtin.max2, go_sem]) h
/-- A place of an array. -/
theorem sx_place {T len E sz : Nat} [ArT P T len E sz] {x y : Operand} {b o : Nat} {i : Int} (k : Nat) (hx : evn n (get g F) x = .pointer (some ⟨b, o, none⟩)) (hy : evn n (get g F) y = .int .i64 i) (hi : 0 ≤ i ∧ i < len) (hk : o + i.toNat * sz = k)
    (h : SX P w0 D n q ops Q rest g ((d, .pointer (some ⟨b, k, none⟩)) :: F) L) :
    SX P w0 D n q ops Q ({ dst := some d, op := .indexAddr T x y, type := ty, pos := pos, after := af, guard := none } :: rest) g F L :=
  sx_run _ rfl rfl (fun w _ => by
    have h1 := ArT.und (P := P) (T := T) (len := len) (E := E) (sz := sz)
    have h2 := ArT.size_run (P := P) (T := T) (len := len) (E := E) (sz := sz) w
    show ((do pure (Next.value (← Instr.indexAt T (evn n (get g F) x) (evn n (get g F) y)))) : Sem Next).run P w = _
    rw [hx, hy]
    refine run_v ?_
    subst hk
    simp [Instr.indexAt, Instr.sureAddr, asIntOf, run_underlying h1, hi.1, hi.2, h2, addr_add, go_sem]) h
theorem at_ixaddr {T : TypeId} {x y : Operand} (h : SX P w0 D n q ops Q ({ dst := some d, op := .indexAddr T x y, type := ty, pos := pos, after := af, guard := none } :: rest) g F L) : SX P w0 D n q ops Q ({ dst := some d, op := .indexAddr T x y, type := ty, pos := pos, after := af, guard := none } :: rest) g F L := h
theorem ffr {f : Nat → Value} {l : List (Nat × Value)} (h : FF f l := by repeat (first | exact trivial | refine And.intro rfl ?_)) : FF f l := h
/-- To stop. -/
def Halt (p : Prop) : Prop := p
attribute [irreducible] Halt
theorem halt_go {p : Prop} (h : p) : Halt p := by unfold Halt; exact h
theorem halt_of {p : Prop} (h : Halt p) : p := by unfold Halt at h; exact h
/-- .. ahead of a region. -/
theorem stop_r (id : Nat) {l : Array Oper} {b : Bool} (h : Halt (CX P w0 D n Q (.region id l b) g F L)) : CX P w0 D n Q (.region id l b) g F L := halt_of h
theorem stop_rs (id : Nat) {l : Array Oper} {b : Bool} {y : Code} (h : Halt (CX P w0 D n Q (.seq (.region id l b) y) g F L)) : CX P w0 D n Q (.seq (.region id l b) y) g F L := halt_of h
theorem stop_rss (id : Nat) {l : Array Oper} {b : Bool} {y z : Code} (h : Halt (CX P w0 D n Q (.seq (.seq (.region id l b) y) z) g F L)) : CX P w0 D n Q (.seq (.seq (.region id l b) y) z) g F L := halt_of h
end
end Go.Port
