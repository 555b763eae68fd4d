/- What worlds hold: slices, rows that a call has made. No program here. -/
import Derived.Test.YtchkpkeljcdccaaPlain
import Derived.WalkKit
import Derived.Lib.Hide
set_option linter.unusedSimpArgs false
set_option linter.unusedVariables false
namespace Go.Port
open Go.RowKit

theorem ret_int {k : IntKind} {a b : Int} (h : a = b) : Ending.returned (.int k a) = .returned (.int k b) := by rw [h]
theorem ret_bool {a b : Bool} (h : a = b) : Ending.returned (.bool a) = .returned (.bool b) := by rw [h]

/-- A return, met at once. -/
theorem ret1 {P : Program} {fn : Func} {R : Ending → World → Prop} {a : Act} {w : World} (t : Tmp) (h : fn.results = #[.tmp t]) (hd : a.defers = []) (hR : R (.returned (a.tmps.getD t undef)) w) : bodyPost P fn R .ret a w :=
  bodyPost_ret (results_tmp h _ _ _) hd hR
theorem ret2 {P : Program} {fn : Func} {R : Ending → World → Prop} {a : Act} {w : World} (t u : Tmp) (h : fn.results = #[.tmp t, .tmp u]) (hd : a.defers = []) (hR : R (.returned (.tuple #[a.tmps.getD t undef, a.tmps.getD u undef])) w) : bodyPost P fn R .ret a w :=
  bodyPost_ret (results_tmp2 h _ _ _) hd hR

/-- What is left of a row of statements behind the first so many; one of them; what an if at its end does. -/
def tailOf : Nat → Code → Code
  | n + 1, .seq _ b => tailOf n b
  | _, c => c
def headOf : Code → Code
  | .seq a _ => a
  | c => c
def thenOf : Code → Code
  | .seq _ b => thenOf b
  | .cond _ a _ => a
  | c => c
def loopOf : Code → Code
  | .seq a b => match a with
    | .loop c => c
    | _ => loopOf b
  | .block _ c => loopOf c
  | .loop c => c
  | c => c

/-- Cells stand in a block, from a place on. -/
def CellsAt (w : World) (b o : Nat) (xs : List Value) : Prop := ∀ i u, xs[i]? = some u → w.cell? ⟨b, o + i, none⟩ = some u
/-- A slice of so many elements: none, or cells of a block that is there. -/
def IsSl (w : World) (sz : Nat) (a : Option Addr) (len cap : Nat) (xs : List Value) : Prop :=
  xs.length = len * sz ∧ (len = 0 ∨ ∃ b o, a = some ⟨b, o, none⟩ ∧ b < w.heap.size ∧ len ≤ cap ∧ CellsAt w b o xs)
/-- A slice of numbers. -/
def IsRow (w : World) (k : IntKind) (a : Option Addr) (len cap : Nat) (l : List Int) : Prop := IsSl w 1 a len cap (l.map (Value.int k))
/-- Numbers of a kind stand in a block, from a place on. -/
def RowAt (w : World) (k : IntKind) (b o : Nat) (l : List Int) : Prop := ∀ i, i < l.length → w.cell? ⟨b, o + i, none⟩ = some (.int k (nth l i))

theorem CellsAt.row {w : World} {k : IntKind} {b o : Nat} {l : List Int} (h : CellsAt w b o (l.map (Value.int k))) : RowAt w k b o l :=
  fun i hi => h i _ (by simp [nth, hi])
theorem RowAt.cells {w : World} {k : IntKind} {b o : Nat} {l : List Int} (h : RowAt w k b o l) : CellsAt w b o (l.map (Value.int k)) := by
  intro i u hu
  simp only [List.getElem?_map, Option.map_eq_some_iff] at hu
  obtain ⟨x, hx, rfl⟩ := hu
  have hi : i < l.length := by rcases Nat.lt_or_ge i l.length with h | h; exact h; rw [List.getElem?_eq_none h] at hx; cases hx
  rw [h i hi, nth_of hi]
  rw [List.getElem?_eq_getElem hi] at hx
  injection hx with hx; rw [hx]
theorem IsRow.len {w : World} {k : IntKind} {a : Option Addr} {len cap : Nat} {l : List Int} (h : IsRow w k a len cap l) : len = l.length := by
  have := h.1; simp at this; omega
theorem CellsAt.below {B : Nat} {w w' : World} {b o : Nat} {xs : List Value} (h : CellsAt w b o xs) (hb : Below B w w') (hB : b < B) : CellsAt w' b o xs :=
  fun i u hu => (hb.cell (p := ⟨b, o + i, none⟩) hB).trans (h i u hu)
theorem IsSl.below {w w' : World} {sz : Nat} {a : Option Addr} {len cap : Nat} {xs : List Value} (h : IsSl w sz a len cap xs) {B : Nat} (hb : Below B w w') (hB : w.heap.size ≤ B) : IsSl w' sz a len cap xs := by
  obtain ⟨h1, h2⟩ := h
  refine ⟨h1, ?_⟩
  rcases h2 with h2 | ⟨b, o, h3, h4, h5, h6⟩
  · exact .inl h2
  · exact .inr ⟨b, o, h3, Nat.lt_of_lt_of_le h4 hb.size, h5, h6.below hb (by omega)⟩
theorem IsRow.below {w w' : World} {k : IntKind} {a : Option Addr} {len cap : Nat} {l : List Int} (h : IsRow w k a len cap l) {B : Nat} (hb : Below B w w') (hB : w.heap.size ≤ B) : IsRow w' k a len cap l := IsSl.below h hb hB
theorem IsRow.nil {w : World} {k : IntKind} : IsRow w k none 0 0 [] := ⟨rfl, .inl rfl⟩
/-- The cell of an element. -/
theorem IsRow.at_ {w : World} {k : IntKind} {a : Option Addr} {len cap : Nat} {l : List Int} (h : IsRow w k a len cap l) {i : Nat} (hi : i < len) :
    ∃ b o, a = some ⟨b, o, none⟩ ∧ b < w.heap.size ∧ w.cell? ⟨b, o + i, none⟩ = some (.int k (nth l i)) := by
  have hl := h.len
  rcases h.2 with h0 | ⟨b, o, h3, h4, _, h6⟩
  · omega
  · exact ⟨b, o, h3, h4, h6.row i (by omega)⟩
/-- A slice in the world behind one more block. -/
theorem below_alloc (w : World) (o : Obj) : Below w.heap.size w (w.alloc o) := (Below.refl _ _).alloc (Nat.le_refl _) o
theorem IsRow.alloc {w : World} {k : IntKind} {a : Option Addr} {len cap : Nat} {l : List Int} (h : IsRow w k a len cap l) (o : Obj) : IsRow (w.alloc o) k a len cap l := h.below (below_alloc w o) (Nat.le_refl _)

/-- A literal's row. -/
theorem isRow_new (w : World) (k : IntKind) (e : TypeId) (l : List Int) : IsRow (w.alloc (.cells (l.map (Value.int k)).toArray e)) k (some ⟨w.heap.size, 0, none⟩) l.length l.length l := by
  refine ⟨by simp, .inr ⟨w.heap.size, 0, rfl, by simp, Nat.le_refl _, ?_⟩⟩
  intro i u hu
  rw [cell_of_row _ _ _ _ e (0, 0) (heap_alloc_new w _), Nat.zero_add]
  simpa using hu

theorem isRow_new' (w : World) (k : IntKind) (e : TypeId) (l : List Int) {b : Nat} (hb : b = w.heap.size) : IsRow (w.alloc (.cells (l.map (Value.int k)).toArray e)) k (some ⟨b, 0, none⟩) l.length l.length l := by
  subst hb; exact isRow_new w k e l

/-- A row of numbers that the call has made, in a block from B on. -/
def Own (w : World) (e : TypeId) (k : IntKind) (B : Nat) (v : Value) (l : List Int) : Prop := w.ownsRow B e 1 v l.length (l.map (Value.int k))
section
variable {w w' : World} {e : TypeId} {k : IntKind} {B : Nat} {v : Value} {l : List Int}
theorem Own.nil : Own w e k B (.slice none 0 0) [] := World.ownsRow_nil w B e 1
/-- What it looks like where it is not empty. -/
theorem Own.form (h : Own w e k B v l) (hl : 0 < l.length) : ∃ g cap, v = .slice (some ⟨g, 0, none⟩) l.length cap ∧ B ≤ g ∧ g < w.heap.size := by
  rcases h.2 with ⟨_, h0⟩ | ⟨g, cap, cur, h1, h2, h3, _⟩
  · omega
  · exact ⟨g, cap, h1, h2, (Array.getElem?_eq_some_iff.1 h3).1⟩
theorem Own.slice (h : Own w e k B v l) : ∃ a cap, v = .slice a l.length cap ∧ IsRow w k a l.length cap l := by
  rcases h.2 with ⟨h1, h0⟩ | ⟨g, cap, cur, h1, h2, h3, h4, h5, h6, h7⟩
  · have : l = [] := List.eq_nil_of_length_eq_zero h0
    subst this
    exact ⟨none, 0, by simpa using h1, IsRow.nil⟩
  · refine ⟨some ⟨g, 0, none⟩, cap, h1, by simp, .inr ⟨g, 0, rfl, (Array.getElem?_eq_some_iff.1 h3).1, h4, ?_⟩⟩
    intro i u hu
    rw [Nat.zero_add, cell_of_row w g i cur e (0, 0) h3]
    rw [← h7, List.getElem?_take] at hu
    split at hu
    · simpa using hu
    · cases hu
theorem Own.below (h : Own w e k B v l) {B' : Nat} (hb : Below B' w w') (hB : w.heap.size ≤ B') : Own w' e k B v l := by
  refine ⟨h.1, ?_⟩
  rcases h.2 with h1 | ⟨g, cap, cur, h1, h2, h3, h4⟩
  · exact .inl h1
  · have := (Array.getElem?_eq_some_iff.1 h3).1
    exact .inr ⟨g, cap, cur, h1, h2, (hb.block g (by omega)).trans h3, h4⟩
theorem Own.len {a : Option Addr} {n cap : Nat} (h : Own w e k B (.slice a n cap) l) : n = l.length := by
  rcases h.2 with ⟨h1, h2⟩ | ⟨g', c', cur, h1, _⟩
  · simp at h1; omega
  · simp at h1; omega
theorem Own.cell {g n cap : Nat} (h : Own w e k B (.slice (some ⟨g, 0, none⟩) n cap) l) {i : Nat} (hi : i < l.length) : w.cell? ⟨g, i, none⟩ = some (.int k (nth l i)) := by
  obtain rfl := h.len
  rw [World.ownsRow.cellAt h i (by omega)]
  simp [nth, hi]
theorem Own.frozen {g n cap : Nat} (h : Own w e k B (.slice (some ⟨g, 0, none⟩) n cap) l) (i : Nat) : w.frozen? ⟨g, i, none⟩ = false := by
  obtain rfl := h.len
  exact World.ownsRow.frozenAt h i
theorem Own.row {a : Option Addr} {n cap : Nat} (h : Own w e k B (.slice a n cap) l) : IsRow w k a n cap l := by
  obtain ⟨a', c, h1, h2⟩ := h.slice
  simp only [Value.slice.injEq] at h1
  obtain ⟨rfl, h3, rfl⟩ := h1
  rw [h3]; exact h2
theorem Own.set {g cap n : Nat} (h : Own w e k B (.slice (some ⟨g, 0, none⟩) n cap) l) (i : Nat) (x : Int) :
    Own (w.setCell ⟨g, i, none⟩ (.int k x)) e k B (.slice (some ⟨g, 0, none⟩) n cap) (l.set i x) := by
  have hn : n = l.length := by
    rcases h.2 with ⟨h1, _⟩ | ⟨g', c', cur, h1, _⟩
    · simp at h1
    · simp at h1; omega
  subst hn
  have := (World.ownsRow.stored h i (.int k x)).1
  unfold Own
  rw [List.map_set, List.length_set]
  exact this
theorem below_grown {B : Nat} {w w' : World} {v : Value} (hg : w.grownBy w' v.ownBlock) (hB : B ≤ w.heap.size) (hr : ∀ g, v.ownBlock = some g → B ≤ g) : Below B w w' := (Below.refl B w).grown hg hB hr
end

/-- append(s, x...): onto a row of the call's own, whatever slice of numbers. -/
theorem wp_append {P : Program} {w : World} {ops : Array Oper} {rest : List Oper} {o : Oper} {a : Act} {Q : Exit → Act → World → Prop} (hgd : o.guard = none) (s x : Operand) (t e : TypeId) (k : IntKind) (bytes : Nat)
    (ho : o.op = .call { callee := .builtin .append, args := #[s, x], argTypes := #[t, t] })
    (ht : P.underlying t = some (.slice e)) (hi : (P.info? e).map (fun i => (i.zero, i.size, i.bytes)) = some (some (.int k 0), 1, bytes))
    (B : Nat) (v : Value) (l : List Int) (hs : a.eval s = v) (hown : Own w e k B v l)
    (A : Option Addr) (len cap : Nat) (m : List Int) (hx : a.eval x = .slice A len cap) (hr : IsRow w k A len cap m)
    (hbytes : (l.length + m.length) * bytes ≤ 140737488355328) (hby : 0 < bytes) (hB : B ≤ w.heap.size)
    (h : ∀ v' w', Own w' e k B v' (l ++ m) → Below B w w' → wpList P ops Q rest (a.put o.dst v') w') : wpList P ops Q (o :: rest) a w := by
  obtain ⟨i, hi, hz, hsz, hb⟩ := info_parts hi
  have hlen := hr.len
  subst hlen
  rcases hr.2 with h0 | ⟨b, of, rfl, hlt, hle, hc⟩
  · have hm : m = [] := List.eq_nil_of_length_eq_zero h0
    subst hm
    cases A with
    | none =>
      have hrun : (Builtin.append_ #[t, t] o.type #[v, .slice none 0 cap]).run P w = .ok v w := by
        rcases hown.2 with ⟨rfl, _⟩ | ⟨g, c, cur, rfl, _, _, hnc, _⟩
        · simp [Builtin.append_, run_underlying ht, sizeOf, typeInfo, hi, Builtin.lenOf, Builtin.firstCells]
        · simp [Builtin.append_, run_underlying ht, sizeOf, typeInfo, hi, Builtin.lenOf, Builtin.firstCells, hnc, storeCells]
      refine wpList_plain hgd fun K hK => ?_
      unfold Oper.wp execOp
      simp only [ho, resolve, invoke, builtin, Sem.run_bind, Sem.run_pure, Result.andThen_ok, List.map_toArray, List.map_cons, List.map_nil, hs, hx, List.length_nil, hrun]
      exact hK _ _ (h v w (by rw [List.append_nil]; exact hown) (Below.refl _ _))
    | some ad =>
      have hmax : l.length + 0 ≤ maxLen := by
        have : l.length ≤ l.length * bytes := Nat.le_mul_of_pos_right _ hby
        simp only [List.length_nil, Nat.add_zero] at hbytes
        unfold maxLen; omega
      refine wpList_append_own w hgd s x t ho B e i (.int k 0) 1 bytes ht hi hz hsz hb rfl (by decide) v l.length _ hs hown ad 0 cap [] hx rfl (by intro j u hu; simp at hu) (by intro u hu; simp at hu) hmax hbytes hB ?_
      intro v' w' h1 h2 _
      refine h v' w' ?_ (below_grown h2 hB fun g hg => (World.ownsRow.lt hown g hg).1)
      unfold Own
      rw [List.append_nil]
      simpa using h1
  · have hnews : ∀ j u, (m.map (Value.int k))[j]? = some u → w.cell? ((⟨b, of, none⟩ : Addr).add j) = some u := by
      intro j u hu
      have e : (⟨b, of, none⟩ : Addr).add j = ⟨b, of + j, none⟩ := by unfold Addr.add; split <;> simp_all
      rw [e]; exact hc j u hu
    have hmax : l.length + m.length ≤ maxLen := by
      have : l.length + m.length ≤ (l.length + m.length) * bytes := Nat.le_mul_of_pos_right _ hby
      unfold maxLen; omega
    refine wpList_append_own w hgd s x t ho B e i (.int k 0) 1 bytes ht hi hz hsz hb rfl (by decide) v l.length _ hs hown ⟨b, of, none⟩ m.length cap (m.map (Value.int k)) hx (by simp) hnews
      (by intro u hu; simp at hu; obtain ⟨x, _, rfl⟩ := hu; rfl) hmax hbytes hB ?_
    intro v' w' h1 h2 _
    refine h v' w' ?_ (below_grown h2 hB fun g hg => (World.ownsRow.lt hown g hg).1)
    unfold Own
    rw [List.map_append, List.length_append]
    exact h1

/-- To stop a walk at a store. -/
theorem at_store {P : Program} {w : World} {ops : Array Oper} {rest : List Oper} {a : Act} {Q : Exit → Act → World → Prop} (p x : Operand) {dst : Option Tmp} {t ty : TypeId} {pos : String} {af : Array Edge} {gd : Option (Nat × Bool)}
    (h : Hid (wpList P ops Q ({ dst := dst, op := .store t p x, type := ty, pos := pos, after := af, guard := gd } :: rest) a w)) :
    wpList P ops Q ({ dst := dst, op := .store t p x, type := ty, pos := pos, after := af, guard := gd } :: rest) a w := h
/-- A store into a row of the call's own. -/
theorem wp_store {P : Program} {w : World} {ops : Array Oper} {rest : List Oper} {a : Act} {Q : Exit → Act → World → Prop} (p x : Operand) {t ty : TypeId} {pos : String} {af : Array Edge} {e : TypeId} {k : IntKind}
    {B g cap n : Nat} {l : List Int} (hown : Own w e k B (.slice (some ⟨g, 0, none⟩) n cap) l) (i : Nat) (y : Int) (hc1 : (P.info? t).map (·.size) = some 1) (hi : i < n) (hp : a.eval p = .pointer (some ⟨g, i, none⟩)) (hx : a.eval x = .int k y)
    (h : ∀ w', Own w' e k B (.slice (some ⟨g, 0, none⟩) n cap) (l.set i y) → Below B w w' → w'.heap.size = w.heap.size → wpList P ops Q rest a w') :
    wpList P ops Q ({ dst := none, op := .store t p x, type := ty, pos := pos, after := af, guard := none } :: rest) a w := by
  obtain rfl := hown.len
  have hcell := hown.cell hi
  have hfr := hown.frozen i
  have hBg : B ≤ g := (World.ownsRow.lt hown g rfl).1
  have hset := hown.set i y
  cases hq : P.info? t with
  | none => simp [hq] at hc1
  | some inf =>
    have hs : inf.size = 1 := by simpa [hq] using hc1
    refine wpList_plain rfl fun K hK => ?_
    unfold Oper.wp execOp
    simp only [hp, hx]
    simp [Instr.storeAt, Instr.sureAddr, storeVar, sizeOf, typeInfo, hq, hs, Value.cells, storeCells, hcell, hfr, go_sem]
    exact hK _ _ (h _ hset ((Below.refl _ _).setCell hBg _) (by simp [World.setCell]))
end Go.Port
