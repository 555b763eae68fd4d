/- Several texts in one: Plain Base Frame Mem Sx SxOps. -/
import Derived.WalkKit
import Derived.Lib.Hide
import Derived.Deep.LoopGhost
import Derived.IntWalk
import Derived.WalkLawsBesides
import Derived.Deep.Quiet
import Derived.StillTail
/- Plain laws of sums: no program here. -/
set_option linter.unusedSimpArgs false
set_option linter.unusedVariables false
namespace Go.Port
open Go.RowKit

/-- Entry i of a list of numbers, 0 behind its end. -/
def nth (l : List Int) (i : Nat) : Int := l.getD i 0
/-- All numbers of a list are bytes. -/
def Octets (l : List Int) : Prop := ∀ x ∈ l, 0 ≤ x ∧ x ≤ 255
theorem nth_of {l : List Int} {i : Nat} (h : i < l.length) : nth l i = l[i] := by simp [nth, h]
theorem nth_out {l : List Int} {i : Nat} (h : l.length ≤ i) : nth l i = 0 := by simp [nth, h]
theorem Octets.nth {l : List Int} (h : Octets l) (i : Nat) : 0 ≤ Port.nth l i ∧ Port.nth l i ≤ 255 := by
  by_cases hi : i < l.length
  · rw [nth_of hi]; exact h _ (List.getElem_mem hi)
  · rw [nth_out (by omega)]; omega
/-- Two numbers of 16 bits, added as sums are. -/
def addW (a b : Int) : Int := if 65535 < a + b then a + b - 65535 else a + b
/-- What a sum tells of a great number. -/
def tot (s : Int) : Int := if s = 0 then 0 else (s - 1) % 65535 + 1
/-- The words of bytes, added as numbers: the first so many. -/
def words (l : List Int) : Nat → Int
  | 0 => 0
  | j + 1 => words l j + 256 * nth l (2 * j) + nth l (2 * j + 1)
/-- All of them. -/
def wsum (l : List Int) : Int := words l ((l.length + 1) / 2)
/-- The total of bytes. -/
def total (l : List Int) : Int := tot (wsum l)

/-- 'or' and 'and' of numbers that are not below 0. -/
theorem or_i64 (a b : Nat) (ha : a < 9223372036854775808) (hb : b < 9223372036854775808) : bits .or .i64 (a : Int) (b : Int) = ((a ||| b : Nat) : Int) := by
  have hx : a ||| b < 2 ^ 63 := Nat.or_lt_two_pow (by omega) (by omega)
  have h1 : (BitVec.ofInt 64 (a : Int)).toNat = a := by
    rw [BitVec.ofInt_natCast, BitVec.toNat_ofNat]; exact Nat.mod_eq_of_lt (by omega)
  have h2 : (BitVec.ofInt 64 (b : Int)).toNat = b := by
    rw [BitVec.ofInt_natCast, BitVec.toNat_ofNat]; exact Nat.mod_eq_of_lt (by omega)
  show IntKind.i64.wrap ((BitVec.ofInt 64 (a : Int) ||| BitVec.ofInt 64 (b : Int)).toNat : Int) = _
  rw [BitVec.toNat_or, h1, h2, IntKind.wrap_i64]
  omega
theorem and_i64 (a b : Nat) (ha : a < 9223372036854775808) (hb : b < 9223372036854775808) : bits .and .i64 (a : Int) (b : Int) = ((a &&& b : Nat) : Int) := by
  have hx : a &&& b < 2 ^ 63 := Nat.and_lt_two_pow _ (by omega)
  have h1 : (BitVec.ofInt 64 (a : Int)).toNat = a := by
    rw [BitVec.ofInt_natCast, BitVec.toNat_ofNat]; exact Nat.mod_eq_of_lt (by omega)
  have h2 : (BitVec.ofInt 64 (b : Int)).toNat = b := by
    rw [BitVec.ofInt_natCast, BitVec.toNat_ofNat]; exact Nat.mod_eq_of_lt (by omega)
  show IntKind.i64.wrap ((BitVec.ofInt 64 (a : Int) &&& BitVec.ofInt 64 (b : Int)).toNat : Int) = _
  rw [BitVec.toNat_and, h1, h2, IntKind.wrap_i64]
  omega
/-- A number ahead of a byte, or-ed. -/
theorem or_byte (a b : Int) (ha : 0 ≤ a) (ha' : a ≤ 36028797018963967) (hb : 0 ≤ b) (hb' : b ≤ 255) : bits BinOp.or IntKind.i64 (a * 256) b = a * 256 + b := by
  obtain ⟨m, rfl⟩ := Int.eq_ofNat_of_zero_le ha
  obtain ⟨n, rfl⟩ := Int.eq_ofNat_of_zero_le hb
  have e : ((m : Int) * 256) = ((m * 256 : Nat) : Int) := by omega
  rw [e, or_i64 _ _ (by omega) (by omega), nat_join8 _ _ (by omega) (by omega)]
  omega
theorem Octets.set {l : List Int} (h : Octets l) {p : Nat} {x : Int} (h0 : 0 ≤ x) (h1 : x ≤ 255) : Octets (l.set p x) := by
  intro y hy
  rcases List.mem_or_eq_of_mem_set hy with h2 | h2
  · exact h y h2
  · omega
theorem Octets.cons {l : List Int} (h : Octets l) {x : Int} (h0 : 0 ≤ x) (h1 : x ≤ 255) : Octets (x :: l) := by
  intro y hy
  rcases List.mem_cons.1 hy with h2 | h2
  · omega
  · exact h y h2
theorem Octets.append {a b : List Int} (h : Octets a) (h' : Octets b) : Octets (a ++ b) := by
  intro y hy
  rcases List.mem_append.1 hy with h2 | h2
  · exact h y h2
  · exact h' y h2
/-- The word at a place. -/
def wordAt (l : List Int) (j : Nat) : Int := nth l (j - j % 2) * 256 + nth l (j - j % 2 + 1)
/-- Is a number one of 16 bits? -/
def isWord (n : Int) : Bool := decide (0 ≤ n) && decide (n ≤ 65535)
end Go.Port
/- What worlds hold: slices, rows that a call has made. No program here. -/
set_option linter.unusedSimpArgs false
set_option linter.unusedVariables false
namespace Go.Port
open Go.RowKit

/-- What is left of a row of statements behind the first so many; one of them; what an if at its end does. -/
def tailOf : Nat → Code → Code
  | n + 1, .seq _ b => tailOf n b
  | _, c => c
def headOf : Code → Code
  | .seq a _ => a
  | c => c
def thenOf : Code → Code
  | .seq _ b => thenOf b
  | .cond _ a _ => a
  | c => c
def loopOf : Code → Code
  | .seq a b => match a with
    | .loop c => c
    | _ => loopOf b
  | .block _ c => loopOf c
  | .loop c => c
  | c => c

/-- Cells stand in a block, from a place on. -/
def CellsAt (w : World) (b o : Nat) (xs : List Value) : Prop := ∀ i u, xs[i]? = some u → w.cell? ⟨b, o + i, none⟩ = some u
/-- A slice of so many elements: none, or cells of a block that is there. -/
def IsSl (w : World) (sz : Nat) (a : Option Addr) (len cap : Nat) (xs : List Value) : Prop :=
  xs.length = len * sz ∧ (len = 0 ∨ ∃ b o, a = some ⟨b, o, none⟩ ∧ b < w.heap.size ∧ len ≤ cap ∧ CellsAt w b o xs)
/-- A slice of numbers. -/
def IsRow (w : World) (k : IntKind) (a : Option Addr) (len cap : Nat) (l : List Int) : Prop := IsSl w 1 a len cap (l.map (Value.int k))
/-- Numbers of a kind stand in a block, from a place on. -/
def RowAt (w : World) (k : IntKind) (b o : Nat) (l : List Int) : Prop := ∀ i, i < l.length → w.cell? ⟨b, o + i, none⟩ = some (.int k (nth l i))

theorem CellsAt.row {w : World} {k : IntKind} {b o : Nat} {l : List Int} (h : CellsAt w b o (l.map (Value.int k))) : RowAt w k b o l :=
  fun i hi => h i _ (by simp [nth, hi])
theorem RowAt.cells {w : World} {k : IntKind} {b o : Nat} {l : List Int} (h : RowAt w k b o l) : CellsAt w b o (l.map (Value.int k)) := by
  intro i u hu
  simp only [List.getElem?_map, Option.map_eq_some_iff] at hu
  obtain ⟨x, hx, rfl⟩ := hu
  have hi : i < l.length := by rcases Nat.lt_or_ge i l.length with h | h; exact h; rw [List.getElem?_eq_none h] at hx; cases hx
  rw [h i hi, nth_of hi]
  rw [List.getElem?_eq_getElem hi] at hx
  injection hx with hx; rw [hx]
theorem IsRow.len {w : World} {k : IntKind} {a : Option Addr} {len cap : Nat} {l : List Int} (h : IsRow w k a len cap l) : len = l.length := by
  have := h.1; simp at this; omega
theorem CellsAt.below {B : Nat} {w w' : World} {b o : Nat} {xs : List Value} (h : CellsAt w b o xs) (hb : Below B w w') (hB : b < B) : CellsAt w' b o xs :=
  fun i u hu => (hb.cell (p := ⟨b, o + i, none⟩) hB).trans (h i u hu)
theorem IsSl.below {w w' : World} {sz : Nat} {a : Option Addr} {len cap : Nat} {xs : List Value} (h : IsSl w sz a len cap xs) {B : Nat} (hb : Below B w w') (hB : w.heap.size ≤ B) : IsSl w' sz a len cap xs := by
  obtain ⟨h1, h2⟩ := h
  refine ⟨h1, ?_⟩
  rcases h2 with h2 | ⟨b, o, h3, h4, h5, h6⟩
  · exact .inl h2
  · exact .inr ⟨b, o, h3, Nat.lt_of_lt_of_le h4 hb.size, h5, h6.below hb (by omega)⟩
theorem IsRow.below {w w' : World} {k : IntKind} {a : Option Addr} {len cap : Nat} {l : List Int} (h : IsRow w k a len cap l) {B : Nat} (hb : Below B w w') (hB : w.heap.size ≤ B) : IsRow w' k a len cap l := IsSl.below h hb hB
theorem IsRow.nil {w : World} {k : IntKind} : IsRow w k none 0 0 [] := ⟨rfl, .inl rfl⟩
/-- The cell of an element. -/
theorem IsRow.at_ {w : World} {k : IntKind} {a : Option Addr} {len cap : Nat} {l : List Int} (h : IsRow w k a len cap l) {i : Nat} (hi : i < len) :
    ∃ b o, a = some ⟨b, o, none⟩ ∧ b < w.heap.size ∧ w.cell? ⟨b, o + i, none⟩ = some (.int k (nth l i)) := by
  have hl := h.len
  rcases h.2 with h0 | ⟨b, o, h3, h4, _, h6⟩
  · omega
  · exact ⟨b, o, h3, h4, h6.row i (by omega)⟩
/-- A slice in the world behind one more block. -/
theorem below_alloc (w : World) (o : Obj) : Below w.heap.size w (w.alloc o) := (Below.refl _ _).alloc (Nat.le_refl _) o
theorem IsRow.alloc {w : World} {k : IntKind} {a : Option Addr} {len cap : Nat} {l : List Int} (h : IsRow w k a len cap l) (o : Obj) : IsRow (w.alloc o) k a len cap l := h.below (below_alloc w o) (Nat.le_refl _)

/-- A row of numbers that the call has made, in a block from B on. -/
def Own (w : World) (e : TypeId) (k : IntKind) (B : Nat) (v : Value) (l : List Int) : Prop := w.ownsRow B e 1 v l.length (l.map (Value.int k))
section
variable {w w' : World} {e : TypeId} {k : IntKind} {B : Nat} {v : Value} {l : List Int}
theorem Own.nil : Own w e k B (.slice none 0 0) [] := World.ownsRow_nil w B e 1
/-- What it looks like where it is not empty. -/
theorem Own.form (h : Own w e k B v l) (hl : 0 < l.length) : ∃ g cap, v = .slice (some ⟨g, 0, none⟩) l.length cap ∧ B ≤ g ∧ g < w.heap.size := by
  rcases h.2 with ⟨_, h0⟩ | ⟨g, cap, cur, h1, h2, h3, _⟩
  · omega
  · exact ⟨g, cap, h1, h2, (Array.getElem?_eq_some_iff.1 h3).1⟩
theorem Own.slice (h : Own w e k B v l) : ∃ a cap, v = .slice a l.length cap ∧ IsRow w k a l.length cap l := by
  rcases h.2 with ⟨h1, h0⟩ | ⟨g, cap, cur, h1, h2, h3, h4, h5, h6, h7⟩
  · have : l = [] := List.eq_nil_of_length_eq_zero h0
    subst this
    exact ⟨none, 0, by simpa using h1, IsRow.nil⟩
  · refine ⟨some ⟨g, 0, none⟩, cap, h1, by simp, .inr ⟨g, 0, rfl, (Array.getElem?_eq_some_iff.1 h3).1, h4, ?_⟩⟩
    intro i u hu
    rw [Nat.zero_add, cell_of_row w g i cur e (0, 0) h3]
    rw [← h7, List.getElem?_take] at hu
    split at hu
    · simpa using hu
    · cases hu
theorem Own.below (h : Own w e k B v l) {B' : Nat} (hb : Below B' w w') (hB : w.heap.size ≤ B') : Own w' e k B v l := by
  refine ⟨h.1, ?_⟩
  rcases h.2 with h1 | ⟨g, cap, cur, h1, h2, h3, h4⟩
  · exact .inl h1
  · have := (Array.getElem?_eq_some_iff.1 h3).1
    exact .inr ⟨g, cap, cur, h1, h2, (hb.block g (by omega)).trans h3, h4⟩
theorem Own.len {a : Option Addr} {n cap : Nat} (h : Own w e k B (.slice a n cap) l) : n = l.length := by
  rcases h.2 with ⟨h1, h2⟩ | ⟨g', c', cur, h1, _⟩
  · simp at h1; omega
  · simp at h1; omega
theorem Own.cell {g n cap : Nat} (h : Own w e k B (.slice (some ⟨g, 0, none⟩) n cap) l) {i : Nat} (hi : i < l.length) : w.cell? ⟨g, i, none⟩ = some (.int k (nth l i)) := by
  obtain rfl := h.len
  rw [World.ownsRow.cellAt h i (by omega)]
  simp [nth, hi]
theorem Own.frozen {g n cap : Nat} (h : Own w e k B (.slice (some ⟨g, 0, none⟩) n cap) l) (i : Nat) : w.frozen? ⟨g, i, none⟩ = false := by
  obtain rfl := h.len
  exact World.ownsRow.frozenAt h i
theorem Own.row {a : Option Addr} {n cap : Nat} (h : Own w e k B (.slice a n cap) l) : IsRow w k a n cap l := by
  obtain ⟨a', c, h1, h2⟩ := h.slice
  simp only [Value.slice.injEq] at h1
  obtain ⟨rfl, h3, rfl⟩ := h1
  rw [h3]; exact h2
theorem Own.set {g cap n : Nat} (h : Own w e k B (.slice (some ⟨g, 0, none⟩) n cap) l) (i : Nat) (x : Int) :
    Own (w.setCell ⟨g, i, none⟩ (.int k x)) e k B (.slice (some ⟨g, 0, none⟩) n cap) (l.set i x) := by
  have hn : n = l.length := by
    rcases h.2 with ⟨h1, _⟩ | ⟨g', c', cur, h1, _⟩
    · simp at h1
    · simp at h1; omega
  subst hn
  have := (World.ownsRow.stored h i (.int k x)).1
  unfold Own
  rw [List.map_set, List.length_set]
  exact this
end

end Go.Port
/- Frames told by a function of the slot: small goals for functions with many slots. No program here. -/
set_option linter.unusedSimpArgs false
set_option linter.unusedVariables false
namespace Go.Port
open Go.RowKit

/-- A slot that holds nothing: so that a guard on it is seen to say no. -/
@[go_sem] theorem undef_is : undef = .tuple #[] := rfl
/-- Slot d set. -/
def upd (f : Nat → Value) (d : Nat) (v : Value) : Nat → Value := fun t => if t = d then v else f t
@[go_sem] theorem upd_at (f : Nat → Value) (d : Nat) (v : Value) (t : Nat) : upd f d v t = if t = d then v else f t := rfl

theorem Fr.there (n : Nat) (f : Nat → Value) : ∃ a : Act, a = ⟨Array.ofFn (n := n) fun i => f i.val, []⟩ := ⟨_, rfl⟩
/-- A frame of n slots that holds f i in slot i. (Chosen, so that nobody unfolds it.) -/
noncomputable def Fr (n : Nat) (f : Nat → Value) : Act := Classical.choose (Fr.there n f)
theorem Fr.is (n : Nat) (f : Nat → Value) : Fr n f = ⟨Array.ofFn (n := n) fun i => f i.val, []⟩ := Classical.choose_spec (Fr.there n f)

section
variable {n : Nat} {f : Nat → Value} {t d : Nat} {v : Value}
@[go_sem] theorem Fr.get (h : t < n) : (Fr n f).tmps[t]? = some (f t) := by
  rw [Fr.is]; simp [h]
@[go_sem ↓] theorem Fr.getD (h : t < n) : (Fr n f).tmps.getD t undef = f t := by
  rw [Fr.is]; simp [h]
@[go_sem ↓] theorem Fr.eval (h : t < n) : (Fr n f).eval (.tmp t) = f t := Fr.getD h
@[go_sem ↓] theorem Fr.put : (Fr n f).put (some d) v = Fr n (upd f d v) := by
  rw [Fr.is, Fr.is]
  simp only [Act.put, Act.mk.injEq, and_true]
  apply Array.ext
  · simp
  · intro i h1 h2
    simp only [Array.getElem_ofFn, upd]
    rw [Array.getElem_setIfInBounds]
    by_cases h : d = i
    · subst h; simp
    · rw [if_neg h, if_neg (Ne.symm h), Array.getElem_ofFn]
    · simpa using h2
@[go_sem] theorem Fr.defers : (Fr n f).defers = [] := by rw [Fr.is]
@[go_sem ↓] theorem Fr.set : (Fr n f).tmps.setIfInBounds d v = (Fr n (upd f d v)).tmps := congrArg Act.tmps (Fr.put (n := n) (f := f) (d := d) (v := v))
@[go_sem ↓] theorem Fr.eta : (⟨(Fr n f).tmps, []⟩ : Act) = Fr n f := by rw [Fr.is]
@[go_sem] theorem Fr.size : (Fr n f).tmps.size = n := by rw [Fr.is]; simp
@[go_sem] theorem Fr.elem (h : t < (Fr n f).tmps.size) : (Fr n f).tmps[t] = f t := by
  have h' : t < n := by rw [Fr.size] at h; exact h
  have e := Fr.get (n := n) (f := f) h'
  rw [Array.getElem?_eq_getElem h] at e
  exact Option.some.inj e
end
theorem Fr.of_array (arr : Array Value) : (⟨arr, []⟩ : Act) = Fr arr.size fun i => arr.getD i undef := by
  rw [Fr.is]
  simp only [Act.mk.injEq, and_true]
  apply Array.ext
  · simp
  · intro i h1 h2; simp [h1]

section
variable {P : Program} {n : Nat} {f : Nat → Value} {w : World} {Q : Exit → Act → World → Prop} {ops : Array Oper} {rest : List Oper}

/-- Where a piece of code has come to its end: the walk stops there. -/
def Done (p : Prop) : Prop := p
theorem done {p : Prop} (h : p) : Done p := h
end
/-- A call is entered. -/
theorem fr_enter {P : Program} {k : FuncId} {fn : Func} {c : Code} {args : Array Value} {w : World} {R : Ending → World → Prop} (n : Nat)
    (hf : P.funcs[k]? = some fn) (hb : fn.body = some c) (hn : fn.ntmps = n) (ha : args.size ≤ n)
    (h : ∀ f : Nat → Value, (∀ i, i < n → f i = args.getD i undef) → c.wp P (bodyPost P fn R) (Fr n f) w) : Calls P k args w R := by
  refine calls_of_wp hf hb ?_
  rw [Fr.of_array]
  have hs : (args ++ Array.replicate (fn.ntmps - args.size) undef).size = n := by simp; omega
  rw [hs]
  refine h _ fun i hi => ?_
  simp only [Array.getD_eq_getD_getElem?]
  by_cases h1 : i < args.size
  · rw [Array.getElem?_append_left h1]
  · rw [Array.getElem?_append_right (by omega), Array.getElem?_eq_none (xs := args) (by omega), Array.getElem?_replicate]
    split <;> rfl
end Go.Port
/- What a call does to memory: a world that is another one's, but for blocks that are told. No program here. -/
set_option linter.unusedSimpArgs false
set_option linter.unusedVariables false
namespace Go.Port
open Go.RowKit

/-- A piece of memory: blocks, and what they hold. -/
abbrev Ch := List (Nat × Obj)
/-- w is w0, but for the blocks of D, and for new ones; what L tells is there. -/
structure Mem (w0 w : World) (D : List Nat) (L : List Ch) : Prop where
  os : w.os = w0.os
  tape : w.tape = w0.tape
  output : w.output = w0.output
  size : w0.heap.size ≤ w.heap.size
  old : ∀ k, k < w0.heap.size → k ∉ D → w.heap[k]? = w0.heap[k]?
  has : ∀ e ∈ L.flatten, w.heap[e.1]? = some e.2
  own : ∀ e ∈ L.flatten, w0.heap.size ≤ e.1 ∨ e.1 ∈ D
  nodup : (L.flatten.map (·.1)).Nodup
/-- What a piece tells is there. -/
def Has (w : World) (c : Ch) : Prop := ∀ e ∈ c, w.heap[e.1]? = some e.2
/-- A call returns: a value, pieces of memory. -/
def Ret (w : World) (D : List Nat) (R : Value → List Ch → Prop) (e : Ending) (w' : World) : Prop := ∃ v L, e = .returned v ∧ Mem w w' D L ∧ R v L

theorem heap_lt {w : World} {b : Nat} {o : Obj} (h : w.heap[b]? = some o) : b < w.heap.size := (Array.getElem?_eq_some_iff.1 h).1
section
variable {w0 w w' : World} {D : List Nat} {L L' : List Ch} {c c' : Ch}
theorem Mem.refl (w : World) : Mem w w [] [] := ⟨rfl, rfl, rfl, Nat.le_refl _, fun _ _ _ => rfl, fun _ h => (by cases h), fun _ h => (by cases h), List.nodup_nil⟩
theorem Mem.start {w : World} {L : List Ch} (h : ∀ e ∈ L.flatten, w.heap[e.1]? = some e.2) (hn : (L.flatten.map (·.1)).Nodup) : Mem w w (L.flatten.map (·.1)) L :=
  ⟨rfl, rfl, rfl, Nat.le_refl _, fun _ _ _ => rfl, h, fun e he => .inr (List.mem_map_of_mem he), hn⟩
theorem Mem.lt (h : Mem w0 w D L) {e : Nat × Obj} (he : e ∈ L.flatten) : e.1 < w.heap.size := heap_lt (h.has e he)
theorem Mem.drew (h : Mem w0 w D L) : Mem w0 w.drew D L := ⟨h.os, h.tape, h.output, h.size, h.old, h.has, h.own, h.nodup⟩
theorem Mem.drawn (h : Mem w0 w D L) (n : Nat) : Mem w0 { w with drawn := n } D L := ⟨h.os, h.tape, h.output, h.size, h.old, h.has, h.own, h.nodup⟩
theorem Mem.perm (h : Mem w0 w D L) (hp : L'.flatten.Perm L.flatten) : Mem w0 w D L' :=
  ⟨h.os, h.tape, h.output, h.size, h.old, fun e he => h.has e (hp.mem_iff.1 he), fun e he => h.own e (hp.mem_iff.1 he), (hp.map _).nodup_iff.2 h.nodup⟩
theorem Mem.permL (h : Mem w0 w D L) (hp : L'.Perm L) : Mem w0 w D L' := h.perm hp.flatten
theorem Mem.sub (h : Mem w0 w D L) (hp : L'.flatten.Sublist L.flatten) : Mem w0 w D L' :=
  ⟨h.os, h.tape, h.output, h.size, h.old, fun e he => h.has e (hp.subset he), fun e he => h.own e (hp.subset he), h.nodup.sublist (hp.map _)⟩
theorem Mem.drop (h : Mem w0 w D (L' ++ L)) : Mem w0 w D L' := h.sub (by rw [List.flatten_append]; exact List.sublist_append_left _ _)
theorem Mem.dropl (h : Mem w0 w D (L' ++ L)) : Mem w0 w D L := h.sub (by rw [List.flatten_append]; exact List.sublist_append_right _ _)
theorem Mem.tail (h : Mem w0 w D (c :: L)) : Mem w0 w D L := h.dropl (L' := [c])
theorem Mem.nil (h : Mem w0 w D L) : Mem w0 w D [] := h.sub (List.nil_sublist _)
theorem Mem.head (h : Mem w0 w D (c :: L)) : Has w c := fun e he => h.has e (by simp [he])
theorem Mem.at (h : Mem w0 w D L) (i : Nat) (hc : L[i]? = some c) : Has w c := fun e he => h.has e (List.mem_flatten.2 ⟨c, List.mem_of_getElem? hc, he⟩)
theorem Mem.new (h : Mem w0 w D L) (o : Obj) : Mem w0 (w.alloc o) D ([(w.heap.size, o)] :: L) := by
  refine ⟨h.os, h.tape, h.output, Nat.le_trans h.size (by simp), fun k hk hD => ?_, fun e he => ?_, fun e he => ?_, ?_⟩
  · rw [Below.heap_alloc _ _ _ (Nat.lt_of_lt_of_le hk h.size)]; exact h.old k hk hD
  · simp only [List.flatten_cons, List.singleton_append, List.mem_cons] at he
    rcases he with rfl | he
    · exact heap_alloc_new w o
    · rw [Below.heap_alloc _ _ _ (h.lt he)]; exact h.has e he
  · simp only [List.flatten_cons, List.singleton_append, List.mem_cons] at he
    rcases he with rfl | he
    · exact .inl h.size
    · exact h.own e he
  · simp only [List.flatten_cons, List.singleton_append, List.map_cons, List.nodup_cons]
    refine ⟨fun hm => ?_, h.nodup⟩
    obtain ⟨e, he, heq⟩ := List.mem_map.1 hm
    have := h.lt he
    omega
theorem Mem.upd {b : Nat} {o o' : Obj} (h : Mem w0 w D ([(b, o)] :: L)) (hos : w'.os = w.os) (ht : w'.tape = w.tape) (hu : w'.output = w.output) (hs : w.heap.size ≤ w'.heap.size) (hb : w'.heap[b]? = some o') (ho : ∀ k, k ≠ b → k < w.heap.size → w'.heap[k]? = w.heap[k]?) :
    Mem w0 w' D ([(b, o')] :: L) := by
  have hnd := h.nodup
  simp only [List.flatten_cons, List.singleton_append, List.map_cons, List.nodup_cons] at hnd
  refine ⟨hos.trans h.os, ht.trans h.tape, hu.trans h.output, Nat.le_trans h.size hs, fun k hk hD => ?_, fun e he => ?_, fun e he => ?_, ?_⟩
  · rw [ho k (fun e => ?_) (Nat.lt_of_lt_of_le hk h.size)]
    · exact h.old k hk hD
    · subst e
      rcases h.own (k, o) (by simp) with h1 | h1
      · simp at h1; omega
      · exact hD h1
  · simp only [List.flatten_cons, List.singleton_append, List.mem_cons] at he
    rcases he with rfl | he
    · exact hb
    · rw [ho e.1 (fun x => hnd.1 (x ▸ List.mem_map_of_mem he)) (h.lt (by simp [he]))]
      exact h.has e (by simp [he])
  · simp only [List.flatten_cons, List.singleton_append, List.mem_cons] at he
    rcases he with rfl | he
    · exact h.own (b, o) (by simp)
    · exact h.own e (by simp [he])
  · simp only [List.flatten_cons, List.singleton_append, List.map_cons, List.nodup_cons]
    exact hnd
/-- Behind a call. -/
theorem Mem.call {c : Ch} (h : Mem w0 w D (c :: L)) (h' : Mem w w' (c.map (·.1)) L') : Mem w0 w' D (L' ++ L) := by
  have hnd := h.nodup
  simp only [List.flatten_cons, List.map_append] at hnd
  have hdis : ∀ e ∈ L.flatten, e.1 ∉ c.map (·.1) := fun e he hm => (List.nodup_append.1 hnd).2.2 _ hm _ (List.mem_map_of_mem he) rfl
  refine ⟨h'.os.trans h.os, h'.tape.trans h.tape, h'.output.trans h.output, Nat.le_trans h.size h'.size, fun k hk hD => ?_, fun e he => ?_, fun e he => ?_, ?_⟩
  · rw [h'.old k (Nat.lt_of_lt_of_le hk h.size) (fun hm => ?_)]
    · exact h.old k hk hD
    · obtain ⟨e, he, rfl⟩ := List.mem_map.1 hm
      rcases h.own e (by simp [he]) with h1 | h1
      · omega
      · exact hD h1
  · simp only [List.flatten_append, List.mem_append] at he
    rcases he with he | he
    · exact h'.has e he
    · rw [h'.old e.1 (h.tail.lt he) (hdis e he)]; exact h.tail.has e he
  · simp only [List.flatten_append, List.mem_append] at he
    rcases he with he | he
    · rcases h'.own e he with h1 | h1
      · exact .inl (Nat.le_trans h.size h1)
      · obtain ⟨e', he', heq⟩ := List.mem_map.1 h1
        have := h.own e' (by simp [he'])
        rw [← heq]; exact this
    · exact h.tail.own e he
  · simp only [List.flatten_append, List.map_append]
    refine List.nodup_append.2 ⟨h'.nodup, h.tail.nodup, fun x hx y hy hxy => ?_⟩
    subst hxy
    obtain ⟨e, he, rfl⟩ := List.mem_map.1 hx
    obtain ⟨e', he', heq⟩ := List.mem_map.1 hy
    rcases h'.own e he with h1 | h1
    · have := h.tail.lt he'; omega
    · exact hdis e' he' (heq ▸ h1)
theorem Mem.call0 (h : Mem w0 w D L) (h' : Mem w w' [] L') : Mem w0 w' D (L' ++ L) := Mem.call (c := []) (h.sub (by simp)) h'
theorem Mem.below (h : Mem w0 w [] L) : Below w0.heap.size w0 w := ⟨h.os, h.tape, h.output, h.size, fun k hk => h.old k hk (by simp)⟩
theorem Mem.of_below (h : Below w0.heap.size w0 w) : Mem w0 w [] [] := ⟨h.os, h.tape, h.output, h.size, fun k hk _ => h.block k hk, fun _ h => (by cases h), fun _ h => (by cases h), List.nodup_nil⟩
theorem Mem.cell (h : Mem w0 w D L) {p : Addr} (hp : p.block < w0.heap.size) (hD : p.block ∉ D) : w.cell? p = w0.cell? p := World.cell?_of_block (w := w0) (h.old p.block hp hD)
theorem IsSl.mem {sz : Nat} {a : Option Addr} {len cap : Nat} {xs : List Value} (h : IsSl w0 sz a len cap xs) (hm : Mem w0 w [] L) : IsSl w sz a len cap xs := h.below hm.below (Nat.le_refl _)
theorem IsRow.mem {k : IntKind} {a : Option Addr} {len cap : Nat} {l : List Int} (h : IsRow w0 k a len cap l) (hm : Mem w0 w [] L) : IsRow w k a len cap l := IsSl.mem h hm
end
theorem Ret.mono {w w' : World} {D : List Nat} {R R' : Value → List Ch → Prop} {e : Ending} (h : Ret w D R e w') (hr : ∀ v L, R v L → R' v L) : Ret w D R' e w' :=
  let ⟨v, L, h1, h2, h3⟩ := h; ⟨v, L, h1, h2, hr _ _ h3⟩
/-- What only computes. -/
theorem ret_of_same {w : World} {e : Ending} {w' : World} {v : Value} (h : e = .returned v ∧ w = w') : Ret w [] (fun v' L => v' = v ∧ L = []) e w' :=
  ⟨v, [], h.1, h.2 ▸ Mem.refl w, rfl, rfl⟩
theorem ret_of_below {w : World} {e : Ending} {w' : World} {v : Value} (h : e = .returned v ∧ Below w.heap.size w w') : Ret w [] (fun v' L => v' = v ∧ L = []) e w' :=
  ⟨v, [], h.1, Mem.of_below h.2, rfl, rfl⟩
theorem Calls.same {P : Program} {f : FuncId} {args : Array Value} {w : World} {v : Value} (h : Calls P f args w fun e w' => e = .returned v ∧ w = w') : Calls P f args w (Ret w [] fun v' L => v' = v ∧ L = []) :=
  h.mono fun _ _ => ret_of_same
theorem Calls.belowR {P : Program} {f : FuncId} {args : Array Value} {w : World} {v : Value} (h : Calls P f args w fun e w' => e = .returned v ∧ Below w.heap.size w w') : Calls P f args w (Ret w [] fun v' L => v' = v ∧ L = []) :=
  h.mono fun _ _ => ret_of_below
end Go.Port
/- Steps of a call, told over slots and pieces of memory. No program here. -/
set_option linter.unusedSimpArgs false
set_option linter.unusedVariables false
namespace Go.Port
open Go.RowKit

/-- What a slot holds. -/
def get (g : Nat → Value) : List (Nat × Value) → Nat → Value
  | [], t => g t
  | (d, v) :: F, t => bif Nat.beq t d then v else get g F t
/-- What an operand is. -/
def evn (n : Nat) (f : Nat → Value) : Operand → Value
  | .tmp t => bif Nat.blt t n then f t else undef
  | .const v => v
  | .global k => .pointer (some ⟨k, 0, none⟩)
  | .func k => .func (.func k) #[] #[]
def evs (n : Nat) (f : Nat → Value) : List Operand → List Value
  | [] => []
  | x :: l => evn n f x :: evs n f l
theorem evs_map (n : Nat) (f : Nat → Value) (l : List Operand) : l.map (evn n f) = evs n f l := by
  induction l with
  | nil => rfl
  | cons x l ih => rw [List.map_cons, ih]; rfl
theorem Fr.evn {n : Nat} {f : Nat → Value} : (Fr n f).eval = Port.evn n f := by
  funext x
  cases x with
  | tmp t =>
    show (Fr n f).tmps.getD t undef = bif Nat.blt t n then f t else undef
    by_cases h : t < n
    · have : Nat.blt t n = true := by rw [Nat.blt]; exact Nat.ble_eq_true_of_le h
      rw [Fr.getD h, this]; rfl
    · have : Nat.blt t n = false := by
        cases hb : Nat.blt t n with
        | false => rfl
        | true => exact absurd (Nat.le_of_ble_eq_true hb) h
      rw [this, Fr.is]; simp [h]
  | const v => rfl
  | global k => rfl
  | func k => rfl
theorem get_put (g : Nat → Value) (F : List (Nat × Value)) (d : Nat) (v : Value) : upd (get g F) d v = get g ((d, v) :: F) := by
  funext t
  show (if t = d then v else get g F t) = bif Nat.beq t d then v else get g F t
  by_cases h : t = d
  · subst h; simp
  · have : Nat.beq t d = false := by
      cases hb : Nat.beq t d with
      | false => rfl
      | true => exact absurd (Nat.eq_of_beq_eq_true hb) h
    rw [if_neg h, this]; rfl

section
variable (P : Program) (w0 : World) (D : List Nat) (n : Nat)
/-- The rest of a region. q: 0: as it stands; 1: a region of any order that only looks; 2: its head, ahead of a row. -/
def SX (q : Nat) (ops : Array Oper) (Q : Exit → Act → World → Prop) (l : List Oper) (g : Nat → Value) (F : List (Nat × Value)) (L : List Ch) : Prop := match q with
  | 0 => ∀ w, Mem w0 w D L → wpList P ops Q l (Fr n (get g F)) w
  | 1 => wpQuiet P ops (fun w => Mem w0 w D L) (fun a' => ∀ w', Mem w0 w' D L → Q .normal a' w') l (Fr n (get g F))
  | _ => ∀ w, Mem w0 w D L → wpStill P ops w (fun a' => Q .normal a' w) l (Fr n (get g F))
/-- A piece of code. -/
def CX (Q : Exit → Act → World → Prop) (c : Code) (g : Nat → Value) (F : List (Nat × Value)) (L : List Ch) : Prop := ∀ w, Mem w0 w D L → c.wp P Q (Fr n (get g F)) w
/-- An exit. -/
def QX (Q : Exit → Act → World → Prop) (e : Exit) (g : Nat → Value) (F : List (Nat × Value)) (L : List Ch) : Prop := ∀ w, Mem w0 w D L → Q e (Fr n (get g F)) w
end
attribute [irreducible] SX CX QX

section
variable {P : Program} {w0 : World} {D : List Nat} {n q : Nat} {ops : Array Oper} {Q : Exit → Act → World → Prop} {g : Nat → Value} {F : List (Nat × Value)} {L : List Ch}
theorem SX.mk {l : List Oper} (h : ∀ w, Mem w0 w D L → wpList P ops Q l (Fr n (get g F)) w) : SX P w0 D n 0 ops Q l g F L := by unfold SX; exact h
theorem SX.out {l : List Oper} (h : SX P w0 D n 0 ops Q l g F L) : ∀ w, Mem w0 w D L → wpList P ops Q l (Fr n (get g F)) w := by unfold SX at h; exact h
theorem SX.mk1 {l : List Oper} (h : wpQuiet P ops (fun w => Mem w0 w D L) (fun a' => ∀ w', Mem w0 w' D L → Q .normal a' w') l (Fr n (get g F))) : SX P w0 D n 1 ops Q l g F L := by unfold SX; exact h
theorem SX.out1 {l : List Oper} (h : SX P w0 D n 1 ops Q l g F L) : wpQuiet P ops (fun w => Mem w0 w D L) (fun a' => ∀ w', Mem w0 w' D L → Q .normal a' w') l (Fr n (get g F)) := by unfold SX at h; exact h
theorem SX.mk2 {l : List Oper} {q : Nat} (h : ∀ w, Mem w0 w D L → wpStill P ops w (fun a' => Q .normal a' w) l (Fr n (get g F))) : SX P w0 D n (q + 2) ops Q l g F L := by unfold SX; exact h
theorem SX.out2 {l : List Oper} {q : Nat} (h : SX P w0 D n (q + 2) ops Q l g F L) : ∀ w, Mem w0 w D L → wpStill P ops w (fun a' => Q .normal a' w) l (Fr n (get g F)) := by unfold SX at h; exact h
/-- Three ways, each proved. -/
theorem SX.three {l : List Oper} {g' : Nat → Value} {F' : List (Nat × Value)} {l' : List Oper} (h : SX P w0 D n q ops Q l' g' F' L)
    (h0 : (∀ w, Mem w0 w D L → wpList P ops Q l' (Fr n (get g' F')) w) → ∀ w, Mem w0 w D L → wpList P ops Q l (Fr n (get g F)) w)
    (h1 : wpQuiet P ops (fun w => Mem w0 w D L) (fun a' => ∀ w', Mem w0 w' D L → Q .normal a' w') l' (Fr n (get g' F')) → wpQuiet P ops (fun w => Mem w0 w D L) (fun a' => ∀ w', Mem w0 w' D L → Q .normal a' w') l (Fr n (get g F)))
    (h2 : (∀ w, Mem w0 w D L → wpStill P ops w (fun a' => Q .normal a' w) l' (Fr n (get g' F'))) → ∀ w, Mem w0 w D L → wpStill P ops w (fun a' => Q .normal a' w) l (Fr n (get g F))) : SX P w0 D n q ops Q l g F L := by
  match q with
  | 0 => exact .mk (h0 h.out)
  | 1 => exact .mk1 (h1 h.out1)
  | q + 2 => exact .mk2 (h2 h.out2)
theorem CX.mk {c : Code} (h : ∀ w, Mem w0 w D L → c.wp P Q (Fr n (get g F)) w) : CX P w0 D n Q c g F L := by unfold CX; exact h
theorem CX.out {c : Code} (h : CX P w0 D n Q c g F L) : ∀ w, Mem w0 w D L → c.wp P Q (Fr n (get g F)) w := by unfold CX at h; exact h
theorem QX.mk {e : Exit} (h : ∀ w, Mem w0 w D L → Q e (Fr n (get g F)) w) : QX w0 D n Q e g F L := by unfold QX; exact h
theorem QX.out {e : Exit} (h : QX w0 D n Q e g F L) : ∀ w, Mem w0 w D L → Q e (Fr n (get g F)) w := by unfold QX at h; exact h

/- Code. -/
theorem cx_seq {x y : Code} (h : CX P w0 D n (Exit.then (y.wp P Q) Q) x g F L) : CX P w0 D n Q (.seq x y) g F L := .mk fun w hm => wp_seq (h.out w hm)
theorem cx_region {id : Nat} {l : List Oper} (h : SX P w0 D n 0 l.toArray Q l g F L) : CX P w0 D n Q (.region id l.toArray false) g F L := .mk fun w hm => wp_region_lit (h.out w hm)
theorem cx_skip (h : QX w0 D n Q .normal g F L) : CX P w0 D n Q .skip g F L := .mk fun w hm => wp_skip (h.out w hm)
theorem cx_ret (h : QX w0 D n Q .ret g F L) : CX P w0 D n Q .ret g F L := .mk fun w hm => wp_ret (h.out w hm)
theorem cx_exit {i : Nat} (h : QX w0 D n Q (.exit i) g F L) : CX P w0 D n Q (.exit i) g F L := .mk fun w hm => wp_exit (h.out w hm)
theorem cx_block {i : Nat} {c : Code} (h : CX P w0 D n (Exit.inBlock i Q) c g F L) : CX P w0 D n Q (.block i c) g F L := .mk fun w hm => wp_block (h.out w hm)
theorem cx_cond {t : Nat} {x y : Code} {b : Bool} (hb : evn n (get g F) (.tmp t) = .bool b) (h1 : b = true → CX P w0 D n Q x g F L) (h2 : b = false → CX P w0 D n Q y g F L) : CX P w0 D n Q (.cond (.tmp t) x y) g F L :=
  .mk fun w hm => wp_cond_split (t := b) (by rw [Fr.evn]; exact hb) (fun h => (h1 h).out w hm) (fun h => (h2 h).out w hm)
theorem sx_nil (h : QX w0 D n Q .normal g F L) : SX P w0 D n q ops Q [] g F L := by
  match q with
  | 0 => exact .mk fun w hm => h.out w hm
  | 1 => exact .mk1 fun w hm => h.out w hm
  | q + 2 => exact .mk2 fun w hm => h.out w hm
/-- Operations that only look. -/
def looks : List Oper → Bool
  | [] => true
  | o :: l => match o.op with
    | .store .. | .alloc .. | .box .. | .buildSlice .. | .makeMap .. | .makeSlice .. | .mapUpdate .. | .insert .. | .mapEntry .. | .entryStore .. | .panic .. | .defer .. => false
    | .call c => match c.callee with
      | .builtin b => match b with
        | .len | .cap | .min | .max => looks l
        | _ => false
      | _ => looks l
    | _ => looks l
/-- A region of any order that only looks. -/
theorem cx_quiet {id : Nat} {l : List Oper} (_ : looks l = true) (hm : P.follows .mixedOrders = true) (hB : Region.lexB .any l.toArray = true) (h : SX P w0 D n 1 l.toArray Q l g F L) : CX P w0 D n Q (.region id l.toArray true) g F L :=
  .mk fun w hw => wp_region_quiet (C := fun w => Mem w0 w D L) hm hB hw.drew (by simpa using h.out1)
theorem qx_then {y : Code} {Q' : Exit → Act → World → Prop} (h : CX P w0 D n Q y g F L) : QX w0 D n (Exit.then (y.wp P Q) Q') .normal g F L := .mk fun w hm => h.out w hm
theorem qx_then_exit {i : Nat} {K : Act → World → Prop} (h : QX w0 D n Q (.exit i) g F L) : QX w0 D n (Exit.then K Q) (.exit i) g F L := .mk fun w hm => h.out w hm
theorem qx_then_ret {K : Act → World → Prop} (h : QX w0 D n Q .ret g F L) : QX w0 D n (Exit.then K Q) .ret g F L := .mk fun w hm => h.out w hm
theorem qx_in_normal {i : Nat} (h : QX w0 D n Q .normal g F L) : QX w0 D n (Exit.inBlock i Q) .normal g F L := .mk fun w hm => h.out w hm
theorem qx_in_ret {i : Nat} (h : QX w0 D n Q .ret g F L) : QX w0 D n (Exit.inBlock i Q) .ret g F L := .mk fun w hm => h.out w hm
theorem qx_in_here {i : Nat} (h : QX w0 D n Q .normal g F L) : QX w0 D n (Exit.inBlock i Q) (.exit i) g F L := .mk fun w hm => by simp only [Exit.inBlock, if_true]; exact h.out w hm
theorem qx_in_out {i j : Nat} (hne : Nat.beq j i = false) (h : QX w0 D n Q (.exit j) g F L) : QX w0 D n (Exit.inBlock i Q) (.exit j) g F L := .mk fun w hm => by
  have : ¬ j = i := fun e => by subst e; simp at hne
  simp only [Exit.inBlock, if_neg this]; exact h.out w hm
/-- What slots hold. -/
def FF (f : Nat → Value) : List (Nat × Value) → Prop
  | [] => True
  | (t, v) :: l => f t = v ∧ FF f l
theorem FF.get {f : Nat → Value} : ∀ {l : List (Nat × Value)}, FF f l → f = Port.get f l
  | [], _ => rfl
  | (t, v) :: l, h => by
    rw [← get_put, ← FF.get h.2]
    funext s
    simp only [upd]
    split
    · rename_i e; rw [e]; exact h.1
    · rfl
theorem cx_use {f : Nat → Value} {c : Code} {F : List (Nat × Value)} (hf : FF f F) (h : ∀ g, CX P w0 D n Q c g F L) : CX P w0 D n Q c f [] L := by
  have h1 := h f
  refine .mk fun w hm => ?_
  have h2 := h1.out w hm
  rw [← hf.get] at h2
  exact h2
/-- Pieces of memory in another order; or forgotten. -/
theorem cx_mem {c : Code} {L' : List Ch} (h : CX P w0 D n Q c g F L') (hL : ∀ w, Mem w0 w D L → Mem w0 w D L') : CX P w0 D n Q c g F L := .mk fun w hm => h.out w (hL w hm)
theorem sx_mem {l : List Oper} {L' : List Ch} (h : SX P w0 D n 0 ops Q l g F L') (hL : ∀ w, Mem w0 w D L → Mem w0 w D L') : SX P w0 D n 0 ops Q l g F L := .mk fun w hm => h.out w (hL w hm)
theorem qx_mem {e : Exit} {L' : List Ch} (h : QX w0 D n Q e g F L') (hL : ∀ w, Mem w0 w D L → Mem w0 w D L') : QX w0 D n Q e g F L := .mk fun w hm => h.out w (hL w hm)
/-- Pieces of memory in another order. -/
def Rot (L L' : List Ch) : Prop := L'.flatten.Perm L.flatten
theorem Rot.mem {L' : List Ch} {w : World} (h : Rot L L') (hm : Mem w0 w D L) : Mem w0 w D L' := hm.perm h
theorem rot0 : Rot L L := .refl _
theorem rotN : Rot L ([] :: L) := .refl _
theorem rot1 {c0 c1 : Ch} : Rot (c0 :: c1 :: L) (c1 :: c0 :: L) := (List.perm_middle (l₁ := [c0])).symm.flatten
theorem rot2 {c0 c1 c2 : Ch} : Rot (c0 :: c1 :: c2 :: L) (c2 :: c0 :: c1 :: L) := (List.perm_middle (l₁ := [c0, c1])).symm.flatten
theorem rot3 {c0 c1 c2 c3 : Ch} : Rot (c0 :: c1 :: c2 :: c3 :: L) (c3 :: c0 :: c1 :: c2 :: L) := (List.perm_middle (l₁ := [c0, c1, c2])).symm.flatten
theorem rot4 {c0 c1 c2 c3 c4 : Ch} : Rot (c0 :: c1 :: c2 :: c3 :: c4 :: L) (c4 :: c0 :: c1 :: c2 :: c3 :: L) := (List.perm_middle (l₁ := [c0, c1, c2, c3])).symm.flatten
theorem rot5 {c0 c1 c2 c3 c4 c5 : Ch} : Rot (c0 :: c1 :: c2 :: c3 :: c4 :: c5 :: L) (c5 :: c0 :: c1 :: c2 :: c3 :: c4 :: L) := (List.perm_middle (l₁ := [c0, c1, c2, c3, c4])).symm.flatten
theorem rot6 {c0 c1 c2 c3 c4 c5 c6 : Ch} : Rot (c0 :: c1 :: c2 :: c3 :: c4 :: c5 :: c6 :: L) (c6 :: c0 :: c1 :: c2 :: c3 :: c4 :: c5 :: L) := (List.perm_middle (l₁ := [c0, c1, c2, c3, c4, c5])).symm.flatten
theorem rot7 {c0 c1 c2 c3 c4 c5 c6 c7 : Ch} : Rot (c0 :: c1 :: c2 :: c3 :: c4 :: c5 :: c6 :: c7 :: L) (c7 :: c0 :: c1 :: c2 :: c3 :: c4 :: c5 :: c6 :: L) := (List.perm_middle (l₁ := [c0, c1, c2, c3, c4, c5, c6])).symm.flatten
theorem rot8 {c0 c1 c2 c3 c4 c5 c6 c7 c8 : Ch} : Rot (c0 :: c1 :: c2 :: c3 :: c4 :: c5 :: c6 :: c7 :: c8 :: L) (c8 :: c0 :: c1 :: c2 :: c3 :: c4 :: c5 :: c6 :: c7 :: L) := (List.perm_middle (l₁ := [c0, c1, c2, c3, c4, c5, c6, c7])).symm.flatten
theorem mem_drop1 {c0 c1 : Ch} {w : World} (h : Mem w0 w D (c0 :: c1 :: L)) : Mem w0 w D (c0 :: L) := (rot1.mem h).tail
theorem sx_rot {l : List Oper} {L' : List Ch} (hr : Rot L L') (h : SX P w0 D n 0 ops Q l g F L') : SX P w0 D n 0 ops Q l g F L := sx_mem h fun _ hm => hr.mem hm
/-- A loop. -/
theorem cx_loop {c : Code} (I : Nat → (Nat → Value) → List Ch → Prop) (m : Nat) (h0 : I m (get g F) L)
    (round : ∀ m f L, I m f L → ∀ K : Act → World → Prop, (∀ m' g F L, m' < m → I m' (get g F) L → QX w0 D n (Exit.then K Q) .normal g F L) → CX P w0 D n (Exit.then K Q) c f [] L) : CX P w0 D n Q (.loop c) g F L := by
  refine .mk fun w hm => ?_
  refine wp_loop_ghost (fun m a w => ∃ f L, a = Fr n f ∧ Mem w0 w D L ∧ I m f L) m ⟨get g F, L, rfl, hm, h0⟩ ?_
  rintro m a w ⟨f, L, rfl, hm, hI⟩
  exact (round m f L hI (fun a w => ∃ m', m' < m ∧ ∃ f L, a = Fr n f ∧ Mem w0 w D L ∧ I m' f L) fun m' g F L' hlt hI' => .mk fun w' hm' => ⟨m', hlt, _, L', rfl, hm', hI'⟩).out w hm
/-- A cut: what follows sees only what is told. -/
theorem cx_cut {x y : Code} (R : (Nat → Value) → List Ch → Prop)
    (h1 : ∀ K : Act → World → Prop, (∀ g F L, R (get g F) L → QX w0 D n (Exit.then K Q) .normal g F L) → CX P w0 D n (Exit.then K Q) x g F L) (h2 : ∀ f L, R f L → CX P w0 D n Q y f [] L) : CX P w0 D n Q (.seq x y) g F L :=
  .mk fun w hm => wp_seq (wp_mono ((h1 (fun a w => ∃ f L, a = Fr n f ∧ Mem w0 w D L ∧ R f L) fun g F L hR => .mk fun w hm => ⟨_, L, rfl, hm, hR⟩).out w hm) fun e a w q => by
    cases e with
    | normal => obtain ⟨f, L, rfl, hm, hR⟩ := q; exact (h2 f L hR).out w hm
    | exit id => exact q
    | goto l => exact q
    | ret => exact q
    | panic ch => exact q
    | outgrown => exact q)
/- A call begins; it ends. -/
theorem cx_enter {k : FuncId} {fn : Func} {c : Code} {args : List Value} {F : List (Nat × Value)} {w : World} {R : Value → List Ch → Prop} (n : Nat) (L : List Ch)
    (hf : P.funcs[k]? = some fn) (hb : fn.body = some c) (hn : fn.ntmps = n) (ha : args.length ≤ n) (hF : (List.range args.length).zip args = F) (hm : Mem w w D L)
    (h : ∀ g, CX P w D n (bodyPost P fn (Ret w D R)) c g F L) : Calls P k args.toArray w (Ret w D R) := by
  subst hF
  refine fr_enter n hf hb hn (by simpa using ha) fun f hf => ?_
  have hFF : FF f ((List.range args.length).zip args) := by
    have key : ∀ (l : List Value) (i : Nat), (∀ j, j < l.length → f (i + j) = l.getD j undef) → FF f ((List.range' i l.length).zip l) := by
      intro l
      induction l with
      | nil => intro i _; exact trivial
      | cons v l ih =>
        intro i hi
        rw [List.length_cons, List.range'_succ, List.zip_cons_cons]
        refine ⟨by simpa using hi 0 (by simp), ih (i + 1) fun j hj => ?_⟩
        have := hi (j + 1) (by simp; omega)
        rw [show i + 1 + j = i + (j + 1) by omega, this]
        simp
    rw [List.range_eq_range']
    refine key args 0 fun j hj => ?_
    rw [Nat.zero_add, hf j (by omega)]
    simp
  have h1 := (h f).out w hm
  rw [← hFF.get] at h1
  exact h1
theorem qx_ret0 {fn : Func} {R : Value → List Ch → Prop} (L' : List Ch) (h : fn.results = #[]) (hR : R (.tuple #[]) L') (hL : ∀ w, Mem w0 w D L → Mem w0 w D L') : QX w0 D n (bodyPost P fn (Ret w0 D R)) .ret g F L :=
  .mk fun w hm => bodyPost_ret (results_none h _ _ _) Fr.defers ⟨_, L', rfl, hL w hm, hR⟩
theorem qx_end0 {fn : Func} {R : Value → List Ch → Prop} (L' : List Ch) (h : fn.results = #[]) (hR : R (.tuple #[]) L') (hL : ∀ w, Mem w0 w D L → Mem w0 w D L') : QX w0 D n (bodyPost P fn (Ret w0 D R)) .normal g F L :=
  .mk fun w hm => bodyPost_end (results_none h _ _ _) Fr.defers ⟨_, L', rfl, hL w hm, hR⟩
theorem qx_ret1 {fn : Func} {R : Value → List Ch → Prop} {t : Nat} {v : Value} (L' : List Ch) (h : fn.results = #[.tmp t]) (hv : evn n (get g F) (.tmp t) = v) (hR : R v L') (hL : ∀ w, Mem w0 w D L → Mem w0 w D L') : QX w0 D n (bodyPost P fn (Ret w0 D R)) .ret g F L :=
  .mk fun w hm => bodyPost_ret (results_tmp h _ _ _) Fr.defers ⟨_, L', rfl, hL w hm, by
    have : (Fr n (get g F)).tmps.getD t undef = v := by rw [← hv, ← Fr.evn]; rfl
    rw [this]; exact hR⟩
theorem qx_ret2 {fn : Func} {R : Value → List Ch → Prop} {t u : Nat} {v x : Value} (L' : List Ch) (h : fn.results = #[.tmp t, .tmp u]) (hv : evn n (get g F) (.tmp t) = v) (hx : evn n (get g F) (.tmp u) = x) (hR : R (.tuple #[v, x]) L') (hL : ∀ w, Mem w0 w D L → Mem w0 w D L') : QX w0 D n (bodyPost P fn (Ret w0 D R)) .ret g F L :=
  .mk fun w hm => bodyPost_ret (results_tmp2 h _ _ _) Fr.defers ⟨_, L', rfl, hL w hm, by
    have h1 : (Fr n (get g F)).tmps.getD t undef = v := by rw [← hv, ← Fr.evn]; rfl
    have h2 : (Fr n (get g F)).tmps.getD u undef = x := by rw [← hx, ← Fr.evn]; rfl
    rw [h1, h2]; exact hR⟩
/- Operations: their guards. -/
variable {rest : List Oper} {op : Op} {ty : TypeId} {pos : String} {af : Array Edge} {d : Nat}
theorem yielded_fr {f : Nat → Value} {j t : Nat} (hd : (ops[j]?).bind (·.dst) = some t) (ht : Nat.blt t n = true) : yielded ops (Fr n f).tmps j = match f t with | .bool b => some b | _ => none := by
  unfold yielded
  rw [hd, Option.bind_some, Fr.get (Nat.le_of_ble_eq_true ht)]
  cases f t <;> rfl
theorem sx_pass {o : Oper} (hd : o.dst = some d) (hw : Region.wanted o (yielded ops (Fr n (get g F)).tmps) = false) (h : SX P w0 D n q ops Q rest g ((d, undef) :: F) L) : SX P w0 D n q ops Q (o :: rest) g F L := by
  have e : (Fr n (get g F)).put o.dst undef = Fr n (get g ((d, undef) :: F)) := by rw [hd, Fr.put, get_put]
  refine h.three ?_ ?_ ?_
  · intro h w hm
    unfold wpList
    rw [if_neg (by simp [hw]), e]
    exact h w hm
  · intro h
    unfold wpQuiet
    rw [if_neg (by simp [hw]), e]
    exact h
  · intro h w hm
    unfold wpStill
    rw [if_neg (by simp [hw]), e]
    exact h w hm
theorem sx_pass' {o : Oper} (hd : o.dst = none) (hw : Region.wanted o (yielded ops (Fr n (get g F)).tmps) = false) (h : SX P w0 D n q ops Q rest g F L) : SX P w0 D n q ops Q (o :: rest) g F L := by
  have e : (Fr n (get g F)).put o.dst undef = Fr n (get g F) := by rw [hd]; rfl
  refine h.three ?_ ?_ ?_
  · intro h w hm
    unfold wpList
    rw [if_neg (by simp [hw]), e]
    exact h w hm
  · intro h
    unfold wpQuiet
    rw [if_neg (by simp [hw]), e]
    exact h
  · intro h w hm
    unfold wpStill
    rw [if_neg (by simp [hw]), e]
    exact h w hm
theorem wanted_no {o : Oper} {j t : Nat} {want b : Bool} (hg : o.guard = some (j, want)) (hd : (ops[j]?).bind (·.dst) = some t) (ht : Nat.blt t n = true) (hv : get g F t = .bool b) (hb : b = !want) : Region.wanted o (yielded ops (Fr n (get g F)).tmps) = false := by
  simp only [Region.wanted, hg, yielded_fr hd ht, hv, hb]; cases want <;> rfl
theorem wanted_un {o : Oper} {j t : Nat} {want : Bool} (hg : o.guard = some (j, want)) (hd : (ops[j]?).bind (·.dst) = some t) (ht : Nat.blt t n = true) (hv : get g F t = undef) : Region.wanted o (yielded ops (Fr n (get g F)).tmps) = false := by
  simp only [Region.wanted, hg, yielded_fr hd ht, hv]; rfl
theorem sx_skip {j t : Nat} {want b : Bool} (hd : (ops[j]?).bind (·.dst) = some t) (ht : Nat.blt t n = true) (hv : get g F t = .bool b) (hb : b = !want) (h : SX P w0 D n q ops Q rest g ((d, undef) :: F) L) :
    SX P w0 D n q ops Q ({ dst := some d, op := op, type := ty, pos := pos, after := af, guard := some (j, want) } :: rest) g F L := sx_pass rfl (wanted_no rfl hd ht hv hb) h
theorem sx_skip' {j t : Nat} {want b : Bool} (hd : (ops[j]?).bind (·.dst) = some t) (ht : Nat.blt t n = true) (hv : get g F t = .bool b) (hb : b = !want) (h : SX P w0 D n q ops Q rest g F L) :
    SX P w0 D n q ops Q ({ dst := none, op := op, type := ty, pos := pos, after := af, guard := some (j, want) } :: rest) g F L := sx_pass' rfl (wanted_no rfl hd ht hv hb) h
theorem sx_skipu {j t : Nat} {want : Bool} (hd : (ops[j]?).bind (·.dst) = some t) (ht : Nat.blt t n = true) (hv : get g F t = undef) (h : SX P w0 D n q ops Q rest g ((d, undef) :: F) L) :
    SX P w0 D n q ops Q ({ dst := some d, op := op, type := ty, pos := pos, after := af, guard := some (j, want) } :: rest) g F L := sx_pass rfl (wanted_un rfl hd ht hv) h
theorem sx_want {j t : Nat} {want b : Bool} {dst : Option Nat} (hd : (ops[j]?).bind (·.dst) = some t) (ht : Nat.blt t n = true) (hv : get g F t = .bool b) (hb : b = want)
    (h : SX P w0 D n q ops Q ({ dst := dst, op := op, type := ty, pos := pos, after := af, guard := none } :: rest) g F L) :
    SX P w0 D n q ops Q ({ dst := dst, op := op, type := ty, pos := pos, after := af, guard := some (j, want) } :: rest) g F L := by
  have hw : Region.wanted { dst := dst, op := op, type := ty, pos := pos, after := af, guard := some (j, want) } (yielded ops (Fr n (get g F)).tmps) = true := by
    simp only [Region.wanted, yielded_fr hd ht, hv, hb]; cases want <;> rfl
  refine h.three ?_ ?_ ?_
  · intro h w hm
    have := h w hm
    unfold wpList at this ⊢
    rw [if_pos (by simp [Region.wanted])] at this
    rw [if_pos hw]
    exact this
  · intro h
    unfold wpQuiet at h ⊢
    rw [if_pos (by simp [Region.wanted])] at h
    rw [if_pos hw]
    exact h
  · intro h w hm
    have := h w hm
    unfold wpStill at this ⊢
    rw [if_pos (by simp [Region.wanted])] at this
    rw [if_pos hw]
    exact this
theorem get_again {t : Nat} {v : Value} (h : get g F t = v) : get g ((t, v) :: F) = get g F := by
  funext s
  show (bif Nat.beq s t then v else get g F s) = _
  cases hb : Nat.beq s t with
  | true => have : s = t := Nat.eq_of_beq_eq_true hb; subst this; exact h.symm
  | false => rfl
/-- A guard that is known. -/
theorem sx_lit {o : Oper} {j t : Nat} {want b : Bool} (b' : Bool) (hg : o.guard = some (j, want)) (hd : (ops[j]?).bind (·.dst) = some t) (hv : get g F t = .bool b) (hb : b = b') (h : SX P w0 D n q ops Q (o :: rest) g ((t, .bool b') :: F) L) :
    SX P w0 D n q ops Q (o :: rest) g F L := by
  have e : get g ((t, .bool b') :: F) = get g F := get_again (by rw [hv, hb])
  refine h.three ?_ ?_ ?_ <;> rw [e] <;> exact fun h => h

theorem wpList_append {P : Program} {ops : Array Oper} {Q : Exit → Act → World → Prop} (l2 : List Oper) : ∀ (l1 : List Oper) (a : Act) (w : World), wpList P ops (Exit.then (wpList P ops Q l2) Q) l1 a w → wpList P ops Q (l1 ++ l2) a w
  | [], a, w, h => h
  | o :: l1, a, w, h => by
    unfold wpList at h
    rw [List.cons_append]
    unfold wpList
    split at h
    · rename_i hw
      rw [if_pos hw]
      rcases h with h | ⟨h1, h2⟩
      · refine .inl ?_
        have h' := Oper.wp_mono (K' := wpList P ops Q (l1 ++ l2)) (fun a w hh => wpList_append l2 l1 a w hh) h
        unfold Oper.wp at h' ⊢
        generalize (execOp a.eval o).run P w = r at h' ⊢
        cases r with
        | ok x w' =>
          cases x <;> simp only [Oper.upon] at h' ⊢ <;> first
            | exact h'
            | (refine Calls.mono h' fun e w'' he => ?_
               cases e with
               | returned v => exact he
               | panicked ch => exact he
               | outgrown => obtain ⟨a, w, hh⟩ := he; exact ⟨a, w, hh⟩)
        | halt x w' => cases x <;> simp only [Oper.upon] at h' ⊢ <;> exact h'
      · obtain ⟨a', w', hh⟩ := h2
        exact .inr ⟨h1, a', w', hh⟩
    · rename_i hw
      rw [if_neg hw]
      exact wpList_append l2 l1 _ w h

def clash (s : List (Nat × Value)) : Nat → Bool
  | t => match s with
    | [] => false
    | (d, _) :: r => Nat.beq t d || clash r t
def clashes (s : List (Nat × Value)) : List (Nat × Value) → Bool
  | [] => false
  | (t, _) :: r => clash s t || clashes s r
/-- F' is F, and slots beside. -/
def Beside (F' F : List (Nat × Value)) : Prop := F'.drop (F'.length - F.length) = F ∧ clashes (F'.take (F'.length - F.length)) F = false
theorem get_beside_aux (g : Nat → Value) (F : List (Nat × Value)) : ∀ s, clashes s F = false → get g (s ++ F) = get (get g s) F := by
  have h2 : ∀ (s : List (Nat × Value)) (t : Nat), clash s t = false → ∀ F, get g (s ++ F) t = get g F t := by
    intro s
    induction s with
    | nil => intro t _ F; rfl
    | cons e s ih =>
      intro t ht F
      obtain ⟨d, v⟩ := e
      simp only [clash, Bool.or_eq_false_iff] at ht
      show (bif Nat.beq t d then v else get g (s ++ F) t) = _
      rw [ht.1]; exact ih t ht.2 F
  intro s hs
  funext t
  have key : ∀ F : List (Nat × Value), clashes s F = false → get g (s ++ F) t = get (get g s) F t := by
    intro F
    induction F with
    | nil => intro _; rw [List.append_nil]; rfl
    | cons e F ih =>
      intro hc
      obtain ⟨d, v⟩ := e
      simp only [clashes, Bool.or_eq_false_iff] at hc
      show _ = bif Nat.beq t d then v else get (get g s) F t
      cases hb : Nat.beq t d with
      | true =>
        have : t = d := Nat.eq_of_beq_eq_true hb
        subst this
        rw [h2 s t hc.1]
        show (bif Nat.beq t t then v else _) = _
        rw [hb]; rfl
      | false =>
        rw [show (bif false then v else get (get g s) F t) = get (get g s) F t from rfl, ← ih hc.2]
        have : ∀ s : List (Nat × Value), get g (s ++ (d, v) :: F) t = get g (s ++ F) t := by
          intro s
          induction s with
          | nil => show (bif Nat.beq t d then v else get g F t) = _; rw [hb]; rfl
          | cons e s ih => obtain ⟨d', v'⟩ := e; show (bif Nat.beq t d' then v' else get g (s ++ (d, v) :: F) t) = bif Nat.beq t d' then v' else get g (s ++ F) t; rw [ih]
        exact this s
  exact key F hs
theorem Beside.get {F' F : List (Nat × Value)} (h : Beside F' F) (g : Nat → Value) : Port.get g F' = Port.get (Port.get g (F'.take (F'.length - F.length))) F := by
  have h1 := get_beside_aux g F _ h.2
  have h2 : F'.take (F'.length - F.length) ++ F = F' := by
    have := List.take_append_drop (F'.length - F.length) F'
    rw [h.1] at this; exact this
  rw [h2] at h1; exact h1
/-- One more operation at the same guard. -/
theorem wpList_alike {o o' : Oper} {a : Act} {w : World} {v : Value} (hgd : o.guard = o'.guard) (hdst : o.dst = o'.dst) (h1 : (execOp a.eval o).run P w = .ok (.value v) w) (h2 : (execOp a.eval o').run P w = .ok (.value v) w) (hno : ¬ o.asks P a w) (h : wpList P ops Q (o :: rest) a w) : wpList P ops Q (o' :: rest) a w := by
  unfold wpList at h ⊢
  have hw : Region.wanted o' (yielded ops a.tmps) = Region.wanted o (yielded ops a.tmps) := by simp only [Region.wanted, hgd]
  rw [hw, ← hdst]
  split at h
  · rename_i hx
    rw [if_pos hx]
    rcases h with h | h
    · refine .inl ?_
      unfold Oper.wp at h ⊢
      rw [h1, Oper.upon_value] at h
      rw [h2, Oper.upon_value, ← hdst]
      exact h
    · exact absurd h.1 hno
  · rename_i hx
    rw [if_neg hx]; exact h
/-- Operations that hang on a guard that is not known, and what is picked behind them: or. -/
theorem sx_or {o : Oper} {j t d x : Nat} {b : Bool} {gd : Option (Nat × Bool)} {l : List Oper} (grp : List Oper) (hg : o.guard = some (j, false)) (hd : (ops[j]?).bind (·.dst) = some t) (hv : get g F t = .bool b)
    (hl : o :: rest = grp ++ { dst := some d, op := .pick (.tmp t) (.const (.bool true)) (.tmp x), type := ty, pos := pos, after := af, guard := gd } :: l) (htn : Nat.blt t n = true) (hxn : Nat.blt x n = true)
    (h : ∃ c : Bool, (b = false → ∀ K : Act → World → Prop, (∀ g F' L', get g F' t = .bool b → get g F' x = .bool c → Beside F' F → L'.drop (L'.length - L.length) = L → QX w0 D n (Exit.then K Q) .normal g F' L') → SX P w0 D n 0 ops (Exit.then K Q) grp g F L) ∧
      (∀ g, SX P w0 D n 0 ops Q ({ dst := some d, op := .move (.const (.bool (b || c))), type := ty, pos := pos, after := af, guard := gd } :: l) g F L))
    (hno : b = true → ∀ K : Act → World → Prop, (∀ g F' L', get g F' t = .bool b → Beside F' F → L'.drop (L'.length - L.length) = L → QX w0 D n (Exit.then K Q) .normal g F' L') → SX P w0 D n 0 ops (Exit.then K Q) grp g F L) : SX P w0 D n 0 ops Q (o :: rest) g F L := by
  obtain ⟨c, hdo, hrest⟩ := h
  have hev : ∀ f, Port.evn n f (.tmp t) = f t := fun f => by show (bif Nat.blt t n then f t else undef) = _; rw [htn]; rfl
  have hex : ∀ f, Port.evn n f (.tmp x) = f x := fun f => by show (bif Nat.blt x n then f x else undef) = _; rw [hxn]; rfl
  have hmem : ∀ {w : World} {L' : List Ch}, L'.drop (L'.length - L.length) = L → Mem w0 w D L' → Mem w0 w D L := fun {w L'} hL hm => by
    rw [← hL]; exact Mem.dropl (L' := L'.take (L'.length - L.length)) (by rw [List.take_append_drop]; exact hm)
  have hnasks : ∀ (a : Act) (w : World) (v : Value), ¬ Oper.asks P { dst := some d, op := .move (.const v), type := ty, pos := pos, after := af, guard := gd } a w := fun a w v hh => by
    have h1 := hh.1
    have h2 : ((execOp a.eval { dst := some d, op := .move (.const v), type := ty, pos := pos, after := af, guard := gd }).runT P w #[]).2 = #[] := rfl
    rw [h2] at h1
    simp at h1
  have key : ∀ (g : Nat → Value) (F' : List (Nat × Value)) (L' : List Ch), get g F' t = .bool b → (b = false → get g F' x = .bool c) → Beside F' F → L'.drop (L'.length - L.length) = L → QX w0 D n (Exit.then (wpList P ops Q ({ dst := some d, op := .pick (.tmp t) (.const (.bool true)) (.tmp x), type := ty, pos := pos, after := af, guard := gd } :: l)) Q) .normal g F' L' := by
    intro g F' L' ht hx hF hL
    refine .mk fun w hm => ?_
    have h1 := (hrest (get g (F'.take (F'.length - F.length)))).out w (hmem hL hm)
    rw [← hF.get] at h1
    refine wpList_alike (o := { dst := some d, op := .move (.const (.bool (b || c))), type := ty, pos := pos, after := af, guard := gd }) (v := .bool (b || c)) rfl rfl rfl ?_ (hnasks _ _ _) h1
    rw [Fr.evn]
    simp only [execOp, hev, hex, ht]
    cases hb : b with
    | false => simp [asBool, hx hb, Port.evn, go_sem]
    | true => simp [asBool, Port.evn, go_sem]
  refine .mk fun w hm => ?_
  rw [hl]
  refine wpList_append _ _ _ _ ?_
  cases hb : b with
  | false => exact (hdo hb _ fun g F' L' ht hx hF hL => key g F' L' ht (fun _ => hx) hF hL).out w hm
  | true => exact (hno hb _ fun g F' L' ht hF hL => key g F' L' ht (fun e => by rw [hb] at e; cases e) hF hL).out w hm
/-- .. and. -/
theorem sx_and {o : Oper} {j t d x : Nat} {b : Bool} {gd : Option (Nat × Bool)} {l : List Oper} (grp : List Oper) (hg : o.guard = some (j, true)) (hd : (ops[j]?).bind (·.dst) = some t) (hv : get g F t = .bool b)
    (hl : o :: rest = grp ++ { dst := some d, op := .pick (.tmp t) (.tmp x) (.const (.bool false)), type := ty, pos := pos, after := af, guard := gd } :: l) (htn : Nat.blt t n = true) (hxn : Nat.blt x n = true)
    (h : ∃ c : Bool, (b = true → ∀ K : Act → World → Prop, (∀ g F' L', get g F' t = .bool b → get g F' x = .bool c → Beside F' F → L'.drop (L'.length - L.length) = L → QX w0 D n (Exit.then K Q) .normal g F' L') → SX P w0 D n 0 ops (Exit.then K Q) grp g F L) ∧
      (∀ g, SX P w0 D n 0 ops Q ({ dst := some d, op := .move (.const (.bool (b && c))), type := ty, pos := pos, after := af, guard := gd } :: l) g F L))
    (hno : b = false → ∀ K : Act → World → Prop, (∀ g F' L', get g F' t = .bool b → Beside F' F → L'.drop (L'.length - L.length) = L → QX w0 D n (Exit.then K Q) .normal g F' L') → SX P w0 D n 0 ops (Exit.then K Q) grp g F L) : SX P w0 D n 0 ops Q (o :: rest) g F L := by
  obtain ⟨c, hdo, hrest⟩ := h
  have hev : ∀ f, Port.evn n f (.tmp t) = f t := fun f => by show (bif Nat.blt t n then f t else undef) = _; rw [htn]; rfl
  have hex : ∀ f, Port.evn n f (.tmp x) = f x := fun f => by show (bif Nat.blt x n then f x else undef) = _; rw [hxn]; rfl
  have hmem : ∀ {w : World} {L' : List Ch}, L'.drop (L'.length - L.length) = L → Mem w0 w D L' → Mem w0 w D L := fun {w L'} hL hm => by
    rw [← hL]; exact Mem.dropl (L' := L'.take (L'.length - L.length)) (by rw [List.take_append_drop]; exact hm)
  have hnasks : ∀ (a : Act) (w : World) (v : Value), ¬ Oper.asks P { dst := some d, op := .move (.const v), type := ty, pos := pos, after := af, guard := gd } a w := fun a w v hh => by
    have h1 := hh.1
    have h2 : ((execOp a.eval { dst := some d, op := .move (.const v), type := ty, pos := pos, after := af, guard := gd }).runT P w #[]).2 = #[] := rfl
    rw [h2] at h1
    simp at h1
  have key : ∀ (g : Nat → Value) (F' : List (Nat × Value)) (L' : List Ch), get g F' t = .bool b → (b = true → get g F' x = .bool c) → Beside F' F → L'.drop (L'.length - L.length) = L → QX w0 D n (Exit.then (wpList P ops Q ({ dst := some d, op := .pick (.tmp t) (.tmp x) (.const (.bool false)), type := ty, pos := pos, after := af, guard := gd } :: l)) Q) .normal g F' L' := by
    intro g F' L' ht hx hF hL
    refine .mk fun w hm => ?_
    have h1 := (hrest (get g (F'.take (F'.length - F.length)))).out w (hmem hL hm)
    rw [← hF.get] at h1
    refine wpList_alike (o := { dst := some d, op := .move (.const (.bool (b && c))), type := ty, pos := pos, after := af, guard := gd }) (v := .bool (b && c)) rfl rfl rfl ?_ (hnasks _ _ _) h1
    rw [Fr.evn]
    simp only [execOp, hev, hex, ht]
    cases hb : b with
    | true => simp [asBool, hx hb, Port.evn, go_sem]
    | false => simp [asBool, Port.evn, go_sem]
  refine .mk fun w hm => ?_
  rw [hl]
  refine wpList_append _ _ _ _ ?_
  cases hb : b with
  | true => exact (hdo hb _ fun g F' L' ht hx hF hL => key g F' L' ht (fun _ => hx) hF hL).out w hm
  | false => exact (hno hb _ fun g F' L' ht hF hL => key g F' L' ht (fun e => by rw [hb] at e; cases e) hF hL).out w hm

/- Operations: what they give. -/
theorem sx_run {o : Oper} (v : Value) (hg : o.guard = none) (hd : o.dst = some d) (hrun : ∀ w, Mem w0 w D L → (execOp (evn n (get g F)) o).run P w = .ok (.value v) w) (h : SX P w0 D n q ops Q rest g ((d, v) :: F) L) : SX P w0 D n q ops Q (o :: rest) g F L := by
  have e : (Fr n (get g F)).put o.dst v = Fr n (get g ((d, v) :: F)) := by rw [hd, Fr.put, get_put]
  refine h.three ?_ ?_ ?_
  · intro h w hm
    refine wpList_plain hg fun K hK => ?_
    unfold Oper.wp
    rw [Fr.evn, hrun w hm, Oper.upon_value, e]
    exact hK _ _ (h w hm)
  · intro h
    unfold wpQuiet
    rw [if_pos (by simp [Region.wanted, hg])]
    refine ⟨v, fun w hm => ?_, by rw [e]; exact h⟩
    unfold Oper.quietAt
    rw [Fr.evn, hrun w hm]
    exact ⟨rfl, rfl⟩
  · intro h w hm
    unfold wpStill
    rw [if_pos (by simp [Region.wanted, hg])]
    unfold Oper.still
    rw [Fr.evn, hrun w hm]
    exact ⟨rfl, by rw [e]; exact h w hm⟩
/-- What is told without a look at the memory. -/
def Semc {α : Type} (P : Program) : Sem α → Option α
  | .pure a => some a
  | .program k => Semc P (k P)
  | _ => none
theorem semc_run {α : Type} {P : Program} : ∀ {s : Sem α} {a : α}, Semc P s = some a → ∀ w, s.run P w = .ok a w
  | .pure a, b, h, w => by simp [Semc] at h; subst h; rfl
  | .program k, b, h, w => by
    show (k P).run P w = _
    exact semc_run (by simpa [Semc] using h) w
  | .load .., _, h, _ => by simp [Semc] at h
  | .store .., _, h, _ => by simp [Semc] at h
  | .new .., _, h, _ => by simp [Semc] at h
  | .shape .., _, h, _ => by simp [Semc] at h
  | .freeze .., _, h, _ => by simp [Semc] at h
  | .frozen .., _, h, _ => by simp [Semc] at h
  | .getObj .., _, h, _ => by simp [Semc] at h
  | .setObj .., _, h, _ => by simp [Semc] at h
  | .choose .., _, h, _ => by simp [Semc] at h
  | .sys .., _, h, _ => by simp [Semc] at h
  | .mark .., _, h, _ => by simp [Semc] at h
  | .halt .., _, h, _ => by simp [Semc] at h
theorem sx_pure {v : Value} (hc : Semc P (execOp (evn n (get g F)) { dst := some d, op := op, type := ty, pos := pos, after := af, guard := none }) = some (.value v)) (h : SX P w0 D n q ops Q rest g ((d, v) :: F) L) :
    SX P w0 D n q ops Q ({ dst := some d, op := op, type := ty, pos := pos, after := af, guard := none } :: rest) g F L := sx_run v rfl rfl (fun w _ => semc_run hc w) h
theorem sx_move {x : Operand} (v : Value) (hx : evn n (get g F) x = v) (h : SX P w0 D n q ops Q rest g ((d, v) :: F) L) : SX P w0 D n q ops Q ({ dst := some d, op := .move x, type := ty, pos := pos, after := af, guard := none } :: rest) g F L :=
  sx_run v rfl rfl (fun w _ => by rw [← hx]; rfl) h
theorem sx_assign {x : Operand} (v : Value) (hx : evn n (get g F) x = v) (h : SX P w0 D n q ops Q rest g ((d, v) :: F) L) : SX P w0 D n q ops Q ({ dst := some d, op := .assign x, type := ty, pos := pos, after := af, guard := none } :: rest) g F L :=
  sx_run v rfl rfl (fun w _ => by rw [← hx]; rfl) h
end
end Go.Port
/- Steps of a call: what each operation does. No program here. -/
set_option linter.unusedSimpArgs false
set_option linter.unusedVariables false
namespace Go.Port
open Go.RowKit

/- Facts on types, found as instances. -/
class TyT (P : Program) (T : Nat) (sz : outParam Nat) (agg : outParam Bool) : Prop where
  agg_run : ∀ w, (isAgg T).run P w = .ok agg w
  size_run : ∀ w, (sizeOf T).run P w = .ok sz w
class FdT (P : Program) (T i : Nat) (off ft : outParam Nat) : Prop where
  at_run : ∀ a w, (Instr.fieldAt T (.pointer (some a)) i).run P w = .ok (.pointer (some (a.add off))) w
  val_run : ∀ cs w, (Instr.field T (.agg cs) i).run P w = (part ft cs off).run P w
class ZvT (P : Program) (T : Nat) (z : outParam Value) : Prop where
  run : ∀ w, (zeroValue T).run P w = .ok z w
class CalT (P : Program) (k : Nat) : Prop where
  run : ∀ args w, (callFunc k args).run P w = .ok (.enter k args) w
class SlT (P : Program) (T : Nat) (E sz bytes : outParam Nat) (z : outParam Value) : Prop where
  und : P.underlying T = some (.slice E)
  info : (P.info? E).map (fun i => (i.zero, i.size, i.bytes)) = some (some z, sz, bytes)
  zs : z.cells.size = sz
  szp : 0 < sz
  byp : 0 < bytes

theorem run_v {P : Program} {s : Sem Value} {v : Value} {w w' : World} (h : s.run P w = .ok v w') : ((do pure (Next.value (← s))) : Sem Next).run P w = .ok (.value v) w' := by
  rw [Sem.run_bind, h]; rfl
theorem run_u {P : Program} {s : Sem Unit} {w w' : World} (h : s.run P w = .ok () w') : ((do s; pure Next.skip) : Sem Next).run P w = .ok .skip w' := by
  rw [Sem.run_bind, h]; rfl
theorem addr_add (b o k : Nat) : (⟨b, o, none⟩ : Addr).add k = ⟨b, o + k, none⟩ := by unfold Addr.add; split <;> simp_all
def oneB : Value → Bool
  | .agg _ => false
  | .tuple _ => false
  | _ => true
theorem one_cells {v : Value} (h : oneB v = true) : v.cells = #[v] := by cases v <;> simp_all [oneB, Value.cells]

/-- Cells written one behind the other. -/
def splice : List Value → Nat → List Value → List Value
  | l, _, [] => l
  | l, k, v :: vs => splice (l.set k v) (k + 1) vs
theorem splice_get : ∀ (vs l : List Value) (k : Nat), k + vs.length ≤ l.length → splice l k vs = l.take k ++ (vs ++ l.drop (k + vs.length))
  | [], l, k, _ => by simp [splice]
  | v :: vs, l, k, h => by
    simp only [List.length_cons] at h
    rw [splice, splice_get vs _ _ (by simp; omega)]
    have h1 : (l.set k v).take (k + 1) = l.take k ++ [v] := by
      rw [List.take_set, List.take_succ_eq_append_getElem (by omega)]
      have hk : (l.take k).length = k := by simp; omega
      rw [List.set_append_right _ _ (by omega), hk]; simp
    have h2 : (l.set k v).drop (k + 1 + vs.length) = l.drop (k + 1 + vs.length) := by rw [List.drop_set_of_lt]; omega
    rw [h1, h2, List.length_cons]
    simp [Nat.add_assoc, Nat.add_comm 1]
theorem splice_whole (vs l : List Value) (h : vs.length = l.length) : splice l 0 vs = vs := by
  rw [splice_get vs l 0 (by omega), h]; simp

section
variable {P : Program} {w0 : World} {D : List Nat} {n q : Nat} {ops : Array Oper} {Q : Exit → Act → World → Prop} {g : Nat → Value} {F : List (Nat × Value)} {L : List Ch}
variable {rest : List Oper} {ty : TypeId} {pos : String} {af : Array Edge} {d : Nat}

theorem loadCells_run {w : World} {b : Nat} : ∀ (vs : List Value) (off i : Nat) (acc : Array Value), (∀ j v, vs[j]? = some v → w.cell? ⟨b, off + (i + j), none⟩ = some v) →
    (loadCellsFrom ⟨b, off, none⟩ i vs.length acc).run P w = .ok (acc ++ vs.toArray) w
  | [], off, i, acc, _ => by simp [loadCellsFrom, pure, Sem.run]
  | v :: vs, off, i, acc, h => by
    have h0 := h 0 v rfl
    simp only [List.length_cons, loadCellsFrom, load]
    show Sem.run P (Sem.bind (.load .plain ((⟨b, off, none⟩ : Addr).add i) .pure) _) w = _
    simp only [Sem.bind, Sem.run, addr_add]
    rw [show off + i = off + (i + 0) from rfl, h0]
    show (loadCellsFrom ⟨b, off, none⟩ (i + 1) vs.length (acc.push v)).run P w = _
    rw [loadCells_run vs off (i + 1) (acc.push v) (fun j u hu => by have := h (j + 1) u hu; rw [show i + 1 + j = i + (j + 1) by omega]; exact this)]
    congr 1
    rw [← Array.toList_inj]; simp
theorem load_one {T : Nat} {sz : Nat} [TyT P T sz false] {w : World} {a : Addr} {v : Value} (h : w.cell? a = some v) : (Instr.loadAt T (.pointer (some a))).run P w = .ok v w := by
  have h1 := TyT.agg_run (P := P) (T := T) (sz := sz) (agg := false) w
  simp [Instr.loadAt, Instr.sureAddr, loadVar, h1, load, Sem.run, h, go_sem]
theorem load_agg {T sz : Nat} [TyT P T sz true] {w : World} {b off : Nat} {vs : List Value} (hl : vs.length = sz) (h : ∀ j v, vs[j]? = some v → w.cell? ⟨b, off + j, none⟩ = some v) : (Instr.loadAt T (.pointer (some ⟨b, off, none⟩))).run P w = .ok (.agg vs.toArray) w := by
  have h1 := TyT.agg_run (P := P) (T := T) (sz := sz) (agg := true) w
  have h2 := TyT.size_run (P := P) (T := T) (sz := sz) (agg := true) w
  have h3 := loadCells_run (P := P) (w := w) (b := b) vs off 0 #[] (fun j v hv => by rw [Nat.zero_add]; exact h j v hv)
  rw [hl] at h3
  simp [Instr.loadAt, Instr.sureAddr, loadVar, h1, h2, loadCells, h3, go_sem]
theorem storeCells_run {b : Nat} {T : TypeId} : ∀ (vs : List Value) (off i : Nat) (cs : List Value) (w : World), (∀ v ∈ vs, oneB v = true) → off + i + vs.length ≤ cs.length → w.heap[b]? = some (.cells cs.toArray T (0, 0)) →
    ∃ w', (storeCells ⟨b, off, none⟩ vs i).run P w = .ok () w' ∧ w'.heap[b]? = some (.cells (splice cs (off + i) vs).toArray T (0, 0)) ∧ w'.os = w.os ∧ w'.tape = w.tape ∧ w'.output = w.output ∧ w'.heap.size = w.heap.size ∧ ∀ k, k ≠ b → w'.heap[k]? = w.heap[k]?
  | [], off, i, cs, w, _, _, h => ⟨w, rfl, h, rfl, rfl, rfl, rfl, fun _ _ => rfl⟩
  | v :: vs, off, i, cs, w, h1, hl, h => by
    simp only [List.length_cons] at hl
    have hc : w.cell? ⟨b, off + i, none⟩ = some (cs[off + i]'(by omega)) := by
      simp [World.cell?, h, List.getElem?_eq_getElem (show off + i < cs.length by omega)]
    have hf : w.frozen? ⟨b, off + i, none⟩ = false := by simp [World.frozen?, h]
    have hset : (w.setCell ⟨b, off + i, none⟩ v).heap[b]? = some (.cells (cs.set (off + i) v).toArray T (0, 0)) := by
      simp [World.setCell, Array.getElem?_modify, h]
    obtain ⟨w', r1, r2, r3, r4, r5, r6, r7⟩ := storeCells_run vs off (i + 1) (cs.set (off + i) v) (w.setCell ⟨b, off + i, none⟩ v) (fun u hu => h1 u (by simp [hu])) (by simp; omega) hset
    refine ⟨w', ?_, by rw [splice]; exact r2, r3, r4, r5, by rw [r6]; simp [World.setCell], fun k hk => by rw [r7 k hk, Below.heap_setCell _ _ _ _ hk]⟩
    rw [← r1, storeCells]
    show Sem.run P (Sem.bind (.store .plain ((⟨b, off, none⟩ : Addr).add i) v (.pure ())) _) w = _
    have hv := h1 v (by simp)
    rw [addr_add]
    cases v <;> first | (simp [oneB] at hv; done) | (simp only [Sem.bind, Sem.run, hc, hf, Bool.false_eq_true, if_false])
theorem store_run {T sz : Nat} {ag : Bool} [TyT P T sz ag] {w : World} {b off : Nat} {T' : TypeId} {cs vs : List Value} {v : Value} (hv : v.cells = vs.toArray) (hl : vs.length = sz) (h1 : ∀ v ∈ vs, oneB v = true) (hle : off + vs.length ≤ cs.length) (h : w.heap[b]? = some (.cells cs.toArray T' (0, 0))) :
    ∃ w', (Instr.storeAt T (.pointer (some ⟨b, off, none⟩)) v).run P w = .ok () w' ∧ w'.heap[b]? = some (.cells (splice cs off vs).toArray T' (0, 0)) ∧ w'.os = w.os ∧ w'.tape = w.tape ∧ w'.output = w.output ∧ w'.heap.size = w.heap.size ∧ ∀ k, k ≠ b → w'.heap[k]? = w.heap[k]? := by
  obtain ⟨w', r1, r2, r⟩ := storeCells_run (P := P) (b := b) (T := T') vs off 0 cs w h1 (by omega) h
  have h2 := TyT.size_run (P := P) (T := T) (sz := sz) (agg := ag) w
  refine ⟨w', ?_, r2, r⟩
  rw [← r1]
  show (storeVar T ⟨b, off, none⟩ v).run P w = _
  unfold storeVar
  rw [Sem.run_bind, h2]
  dsimp only [Result.andThen_ok]
  rw [if_neg (by rw [hv]; simp [hl]), hv]

/- Numbers. -/
theorem sx_add {x y : Operand} {a b : Int} {t1 t2 : TypeId} (hx : evn n (get g F) x = .int .i64 a) (hy : evn n (get g F) y = .int .i64 b) (hb : -9223372036854775808 ≤ a + b ∧ a + b ≤ 9223372036854775807) (h : SX P w0 D n q ops Q rest g ((d, .int .i64 (a + b)) :: F) L) :
    SX P w0 D n q ops Q ({ dst := some d, op := .binOp .add t1 x y t2, type := ty, pos := pos, after := af, guard := none } :: rest) g F L :=
  sx_run (.int .i64 (a + b)) rfl rfl (fun w _ => by simp only [execOp, hx, hy, eqGuard, binOp, Op.intArith, IntWalk.i64_in _ hb]; rfl) h
theorem sx_sub {x y : Operand} {a b : Int} {t1 t2 : TypeId} (hx : evn n (get g F) x = .int .i64 a) (hy : evn n (get g F) y = .int .i64 b) (hb : -9223372036854775808 ≤ a - b ∧ a - b ≤ 9223372036854775807) (h : SX P w0 D n q ops Q rest g ((d, .int .i64 (a - b)) :: F) L) :
    SX P w0 D n q ops Q ({ dst := some d, op := .binOp .sub t1 x y t2, type := ty, pos := pos, after := af, guard := none } :: rest) g F L :=
  sx_run (.int .i64 (a - b)) rfl rfl (fun w _ => by simp only [execOp, hx, hy, eqGuard, binOp, Op.intArith, IntWalk.i64_in _ hb]; rfl) h
theorem sx_mul {x y : Operand} {a b : Int} {t1 t2 : TypeId} (hx : evn n (get g F) x = .int .i64 a) (hy : evn n (get g F) y = .int .i64 b) (hb : -9223372036854775808 ≤ a * b ∧ a * b ≤ 9223372036854775807) (h : SX P w0 D n q ops Q rest g ((d, .int .i64 (a * b)) :: F) L) :
    SX P w0 D n q ops Q ({ dst := some d, op := .binOp .mul t1 x y t2, type := ty, pos := pos, after := af, guard := none } :: rest) g F L :=
  sx_run (.int .i64 (a * b)) rfl rfl (fun w _ => by simp only [execOp, hx, hy, eqGuard, binOp, Op.intArith, IntWalk.i64_in _ hb]; rfl) h
theorem sx_quo {x y : Operand} {a b : Int} {t1 t2 : TypeId} (hx : evn n (get g F) x = .int .i64 a) (hy : evn n (get g F) y = .int .i64 b) (hb : 0 ≤ a ∧ a ≤ 9223372036854775807 ∧ 0 < b) (h : SX P w0 D n q ops Q rest g ((d, .int .i64 (a / b)) :: F) L) :
    SX P w0 D n q ops Q ({ dst := some d, op := .binOp .quo t1 x y t2, type := ty, pos := pos, after := af, guard := none } :: rest) g F L :=
  sx_run (.int .i64 (a / b)) rfl rfl (fun w _ => by
    have h1 : 0 ≤ a / b := Int.ediv_nonneg hb.1 (by omega)
    have h2 : a / b ≤ a := Int.ediv_le_self _ hb.1
    have h3 : ¬ b = 0 := by omega
    simp only [execOp, hx, hy, eqGuard, binOp, Op.intDiv, if_neg h3, Int.tdiv_eq_ediv_of_nonneg hb.1, IntWalk.i64_in (a / b) ⟨by omega, by omega⟩]; rfl) h
theorem sx_rem {x y : Operand} {a b : Int} {t1 t2 : TypeId} (hx : evn n (get g F) x = .int .i64 a) (hy : evn n (get g F) y = .int .i64 b) (hb : 0 ≤ a ∧ 0 < b) (h : SX P w0 D n q ops Q rest g ((d, .int .i64 (a % b)) :: F) L) :
    SX P w0 D n q ops Q ({ dst := some d, op := .binOp .rem t1 x y t2, type := ty, pos := pos, after := af, guard := none } :: rest) g F L :=
  sx_run (.int .i64 (a % b)) rfl rfl (fun w _ => by
    have h3 : ¬ b = 0 := by omega
    simp only [execOp, hx, hy, eqGuard, binOp, Op.intDiv, if_neg h3, Int.tmod_eq_emod_of_nonneg hb.1]; rfl) h
theorem sx_cmp {op : BinOp} {x y : Operand} {k : IntKind} {a b : Int} {r : Bool} {t1 t2 : TypeId} (hx : evn n (get g F) x = .int k a) (hy : evn n (get g F) y = .int k b)
    (hr : (op = .lss ∧ r = decide (a < b)) ∨ (op = .leq ∧ r = decide (a ≤ b)) ∨ (op = .gtr ∧ r = decide (b < a)) ∨ (op = .geq ∧ r = decide (b ≤ a)) ∨ (op = .eql ∧ r = decide (a = b)) ∨ (op = .neq ∧ r = decide (¬ a = b)))
    (h : SX P w0 D n q ops Q rest g ((d, .bool r) :: F) L) :
    SX P w0 D n q ops Q ({ dst := some d, op := .binOp op t1 x y t2, type := ty, pos := pos, after := af, guard := none } :: rest) g F L :=
  sx_run (.bool r) rfl rfl (fun w _ => by
    have he : (a == b) = decide (a = b) := by by_cases e : a = b <;> simp [e]
    have hn : (a != b) = decide (¬ a = b) := by by_cases e : a = b <;> simp [e]
    rcases hr with ⟨rfl, rfl⟩ | ⟨rfl, rfl⟩ | ⟨rfl, rfl⟩ | ⟨rfl, rfl⟩ | ⟨rfl, rfl⟩ | ⟨rfl, rfl⟩ <;> simp only [execOp, hx, hy, eqGuard, binOp, Op.intCmp, he, hn] <;> simp [go_sem, -decide_not]) h
theorem sx_lss {x y : Operand} {k : IntKind} {a b : Int} {t1 t2 : TypeId} (hx : evn n (get g F) x = .int k a) (hy : evn n (get g F) y = .int k b) (h : SX P w0 D n q ops Q rest g ((d, .bool (decide (a < b))) :: F) L) :
    SX P w0 D n q ops Q ({ dst := some d, op := .binOp .lss t1 x y t2, type := ty, pos := pos, after := af, guard := none } :: rest) g F L := sx_cmp hx hy (.inl ⟨rfl, rfl⟩) h
theorem sx_leq {x y : Operand} {k : IntKind} {a b : Int} {t1 t2 : TypeId} (hx : evn n (get g F) x = .int k a) (hy : evn n (get g F) y = .int k b) (h : SX P w0 D n q ops Q rest g ((d, .bool (decide (a ≤ b))) :: F) L) :
    SX P w0 D n q ops Q ({ dst := some d, op := .binOp .leq t1 x y t2, type := ty, pos := pos, after := af, guard := none } :: rest) g F L := sx_cmp hx hy (.inr (.inl ⟨rfl, rfl⟩)) h
theorem sx_gtr {x y : Operand} {k : IntKind} {a b : Int} {t1 t2 : TypeId} (hx : evn n (get g F) x = .int k a) (hy : evn n (get g F) y = .int k b) (h : SX P w0 D n q ops Q rest g ((d, .bool (decide (b < a))) :: F) L) :
    SX P w0 D n q ops Q ({ dst := some d, op := .binOp .gtr t1 x y t2, type := ty, pos := pos, after := af, guard := none } :: rest) g F L := sx_cmp hx hy (.inr (.inr (.inl ⟨rfl, rfl⟩))) h
theorem sx_geq {x y : Operand} {k : IntKind} {a b : Int} {t1 t2 : TypeId} (hx : evn n (get g F) x = .int k a) (hy : evn n (get g F) y = .int k b) (h : SX P w0 D n q ops Q rest g ((d, .bool (decide (b ≤ a))) :: F) L) :
    SX P w0 D n q ops Q ({ dst := some d, op := .binOp .geq t1 x y t2, type := ty, pos := pos, after := af, guard := none } :: rest) g F L := sx_cmp hx hy (.inr (.inr (.inr (.inl ⟨rfl, rfl⟩)))) h
theorem sx_eql {x y : Operand} {k : IntKind} {a b : Int} {t1 t2 : TypeId} (hx : evn n (get g F) x = .int k a) (hy : evn n (get g F) y = .int k b) (h : SX P w0 D n q ops Q rest g ((d, .bool (decide (a = b))) :: F) L) :
    SX P w0 D n q ops Q ({ dst := some d, op := .binOp .eql t1 x y t2, type := ty, pos := pos, after := af, guard := none } :: rest) g F L := sx_cmp hx hy (.inr (.inr (.inr (.inr (.inl ⟨rfl, rfl⟩))))) h
theorem sx_neq {x y : Operand} {k : IntKind} {a b : Int} {t1 t2 : TypeId} (hx : evn n (get g F) x = .int k a) (hy : evn n (get g F) y = .int k b) (h : SX P w0 D n q ops Q rest g ((d, .bool (decide (¬ a = b))) :: F) L) :
    SX P w0 D n q ops Q ({ dst := some d, op := .binOp .neq t1 x y t2, type := ty, pos := pos, after := af, guard := none } :: rest) g F L := sx_cmp hx hy (.inr (.inr (.inr (.inr (.inr ⟨rfl, rfl⟩))))) h
theorem sx_not {x : Operand} {b : Bool} {t1 : TypeId} (hx : evn n (get g F) x = .bool b) (h : SX P w0 D n q ops Q rest g ((d, .bool (!b)) :: F) L) :
    SX P w0 D n q ops Q ({ dst := some d, op := .unOp .not t1 x, type := ty, pos := pos, after := af, guard := none } :: rest) g F L :=
  sx_run (.bool (!b)) rfl rfl (fun w _ => by simp only [execOp, hx, Op.unary]; rfl) h
theorem sx_pickT {c x y : Operand} {b : Bool} (v : Value) (hc : evn n (get g F) c = .bool b) (hb : b = true) (hx : evn n (get g F) x = v) (h : SX P w0 D n q ops Q rest g ((d, v) :: F) L) :
    SX P w0 D n q ops Q ({ dst := some d, op := .pick c x y, type := ty, pos := pos, after := af, guard := none } :: rest) g F L :=
  sx_run v rfl rfl (fun w _ => by simp only [execOp, hc, hx, asBool, hb]; rfl) h
theorem sx_pickF {c x y : Operand} {b : Bool} (v : Value) (hc : evn n (get g F) c = .bool b) (hb : b = false) (hx : evn n (get g F) y = v) (h : SX P w0 D n q ops Q rest g ((d, v) :: F) L) :
    SX P w0 D n q ops Q ({ dst := some d, op := .pick c x y, type := ty, pos := pos, after := af, guard := none } :: rest) g F L :=
  sx_run v rfl rfl (fun w _ => by simp only [execOp, hc, hx, asBool, hb]; rfl) h
theorem at_pick {c x y : Operand} (h : SX P w0 D n q ops Q ({ dst := some d, op := .pick c x y, type := ty, pos := pos, after := af, guard := none } :: rest) g F L) : SX P w0 D n q ops Q ({ dst := some d, op := .pick c x y, type := ty, pos := pos, after := af, guard := none } :: rest) g F L := h
theorem sx_extract {x : Operand} {vs : List Value} {i : Nat} {v : Value} (hx : evn n (get g F) x = .tuple vs.toArray) (hv : vs[i]? = some v) (h : SX P w0 D n q ops Q rest g ((d, v) :: F) L) :
    SX P w0 D n q ops Q ({ dst := some d, op := .extract x i, type := ty, pos := pos, after := af, guard := none } :: rest) g F L :=
  sx_run v rfl rfl (fun w _ => by simp only [execOp, hx, Instr.extract, List.getElem?_toArray, hv]; rfl) h

/- Memory. -/
theorem sx_fieldAddr {T i off ft : Nat} [FdT P T i off ft] {x : Operand} {b o : Nat} (hx : evn n (get g F) x = .pointer (some ⟨b, o, none⟩)) (h : SX P w0 D n q ops Q rest g ((d, .pointer (some ⟨b, o + off, none⟩)) :: F) L) :
    SX P w0 D n q ops Q ({ dst := some d, op := .fieldAddr T x i, type := ty, pos := pos, after := af, guard := none } :: rest) g F L :=
  sx_run _ rfl rfl (fun w _ => by
    have h1 := FdT.at_run (P := P) (T := T) (i := i) (off := off) (ft := ft) ⟨b, o, none⟩ w
    rw [addr_add] at h1
    show ((do pure (Next.value (← Instr.fieldAt T (evn n (get g F) x) i))) : Sem Next).run P w = _
    rw [hx]; exact run_v h1) h
theorem sx_field {T i off ft sz : Nat} [FdT P T i off ft] [TyT P ft sz false] {x : Operand} {cs : List Value} {v : Value} (hx : evn n (get g F) x = .agg cs.toArray) (hv : cs[off]? = some v) (h : SX P w0 D n q ops Q rest g ((d, v) :: F) L) :
    SX P w0 D n q ops Q ({ dst := some d, op := .field T x i, type := ty, pos := pos, after := af, guard := none } :: rest) g F L :=
  sx_run _ rfl rfl (fun w _ => by
    have h1 := FdT.val_run (P := P) (T := T) (i := i) (off := off) (ft := ft) cs.toArray w
    unfold part at h1
    rw [Sem.run_bind, TyT.agg_run (P := P) (T := ft) (sz := sz) (agg := false) w] at h1
    simp only [Result.andThen_ok, List.getElem?_toArray, hv, Bool.false_eq_true, if_false] at h1
    show ((do pure (Next.value (← Instr.field T (evn n (get g F) x) i))) : Sem Next).run P w = _
    rw [hx]; exact run_v h1) h
/-- A new variable. -/
theorem sx_new {o : Oper} {c : Obj} (hg : o.guard = none) (hd : o.dst = some d) (hrun : ∀ w, Mem w0 w D L → (execOp (evn n (get g F)) o).run P w = .ok (.value (.pointer (some ⟨w.heap.size, 0, none⟩))) (w.alloc c)) (h : ∀ b, SX P w0 D n 0 ops Q rest g ((d, .pointer (some ⟨b, 0, none⟩)) :: F) ([(b, c)] :: L)) : SX P w0 D n 0 ops Q (o :: rest) g F L :=
  .mk fun w hm => wpList_plain hg fun K hK => by
    unfold Oper.wp
    rw [Fr.evn, hrun w hm, Oper.upon_value, hd, Fr.put, get_put]
    exact hK _ _ ((h w.heap.size).out _ (hm.new _))
theorem sx_box {T : Nat} {x : Operand} {cs : List Value} (hx : evn n (get g F) x = .agg cs.toArray) (h : ∀ b, SX P w0 D n 0 ops Q rest g ((d, .pointer (some ⟨b, 0, none⟩)) :: F) ([(b, .cells cs.toArray T (0, 0))] :: L)) :
    SX P w0 D n 0 ops Q ({ dst := some d, op := .box T x, type := ty, pos := pos, after := af, guard := none } :: rest) g F L :=
  sx_new rfl rfl (fun w _ => by
    show ((do pure (Next.value (← Instr.box T (evn n (get g F) x)))) : Sem Next).run P w = _
    rw [hx]; exact run_v rfl) h
theorem sx_box1 {T : Nat} {x : Operand} {v : Value} (hx : evn n (get g F) x = v) (h1 : oneB v = true) (h : ∀ b, SX P w0 D n 0 ops Q rest g ((d, .pointer (some ⟨b, 0, none⟩)) :: F) ([(b, .cells [v].toArray T (0, 0))] :: L)) :
    SX P w0 D n 0 ops Q ({ dst := some d, op := .box T x, type := ty, pos := pos, after := af, guard := none } :: rest) g F L :=
  sx_new rfl rfl (fun w _ => by
    show ((do pure (Next.value (← Instr.box T (evn n (get g F) x)))) : Sem Next).run P w = _
    rw [hx]; refine run_v ?_
    show (newVar T v >>= fun a => (pure (.pointer (some a)) : Sem Value)).run P w = _
    unfold newVar; rw [one_cells h1]; rfl) h
theorem sx_alloc {T : Nat} {cs : List Value} [ZvT P T (.agg cs.toArray)] (h : ∀ b, SX P w0 D n 0 ops Q rest g ((d, .pointer (some ⟨b, 0, none⟩)) :: F) ([(b, .cells cs.toArray T (0, 0))] :: L)) :
    SX P w0 D n 0 ops Q ({ dst := some d, op := .alloc T, type := ty, pos := pos, after := af, guard := none } :: rest) g F L :=
  sx_new rfl rfl (fun w _ => by
    have h1 := ZvT.run (P := P) (T := T) (z := .agg cs.toArray) w
    show ((do pure (Next.value (← Instr.alloc T true (.tuple #[])))) : Sem Next).run P w = _
    refine run_v ?_
    unfold Instr.alloc; rw [Sem.run_bind, h1]; rfl) h
theorem sx_alloc1 {T : Nat} {v : Value} [ZvT P T v] (h1 : oneB v = true) (h : ∀ b, SX P w0 D n 0 ops Q rest g ((d, .pointer (some ⟨b, 0, none⟩)) :: F) ([(b, .cells [v].toArray T (0, 0))] :: L)) :
    SX P w0 D n 0 ops Q ({ dst := some d, op := .alloc T, type := ty, pos := pos, after := af, guard := none } :: rest) g F L :=
  sx_new rfl rfl (fun w _ => by
    have h2 := ZvT.run (P := P) (T := T) (z := v) w
    show ((do pure (Next.value (← Instr.alloc T true (.tuple #[])))) : Sem Next).run P w = _
    refine run_v ?_
    unfold Instr.alloc; rw [Sem.run_bind, h2]
    show (newVar T v >>= fun a => (pure (.pointer (some a)) : Sem Value)).run P w = _
    unfold newVar; rw [one_cells h1]; rfl) h
theorem cell_of_cells {w : World} {b : Nat} {cs : List Value} {T : TypeId} {fr : Nat × Nat} {k : Nat} {v : Value} (h : w.heap[b]? = some (.cells cs.toArray T fr)) (hv : cs[k]? = some v) : w.cell? ⟨b, k, none⟩ = some v := by
  simp [World.cell?, h, hv]
theorem sx_load {T sz : Nat} [TyT P T sz false] (i : Nat) {x : Operand} {b off : Nat} {cs : List Value} {T' : TypeId} {fr : Nat × Nat} {v : Value} (hx : evn n (get g F) x = .pointer (some ⟨b, off, none⟩)) (hL : L[i]? = some [(b, .cells cs.toArray T' fr)]) (hv : cs[off]? = some v)
    (h : SX P w0 D n q ops Q rest g ((d, v) :: F) L) : SX P w0 D n q ops Q ({ dst := some d, op := .load T x, type := ty, pos := pos, after := af, guard := none } :: rest) g F L :=
  sx_run _ rfl rfl (fun w hm => by
    have h1 := load_one (P := P) (T := T) (sz := sz) (cell_of_cells (hm.at i hL (b, .cells cs.toArray T' fr) (by simp)) hv)
    show ((do pure (Next.value (← Instr.loadAt T (evn n (get g F) x)))) : Sem Next).run P w = _
    rw [hx]; exact run_v h1) h
/-- A whole one. -/
theorem sx_loadW {T sz : Nat} [TyT P T sz true] (i : Nat) {x : Operand} {b : Nat} {cs : List Value} {T' : TypeId} {fr : Nat × Nat} (hx : evn n (get g F) x = .pointer (some ⟨b, 0, none⟩)) (hL : L[i]? = some [(b, .cells cs.toArray T' fr)]) (hl : cs.length = sz)
    (h : SX P w0 D n q ops Q rest g ((d, .agg cs.toArray) :: F) L) : SX P w0 D n q ops Q ({ dst := some d, op := .load T x, type := ty, pos := pos, after := af, guard := none } :: rest) g F L :=
  sx_run _ rfl rfl (fun w hm => by
    have h1 := load_agg (P := P) (T := T) (w := w) (b := b) (off := 0) (vs := cs) hl (fun j v hv => by rw [Nat.zero_add]; exact cell_of_cells (hm.at i hL (b, .cells cs.toArray T' fr) (by simp)) hv)
    show ((do pure (Next.value (← Instr.loadAt T (evn n (get g F) x)))) : Sem Next).run P w = _
    rw [hx]; exact run_v h1) h
/-- A part. -/
theorem sx_loadP {T sz : Nat} [TyT P T sz true] (i : Nat) {x : Operand} {b off : Nat} {cs : List Value} {T' : TypeId} {fr : Nat × Nat} (hx : evn n (get g F) x = .pointer (some ⟨b, off, none⟩)) (hL : L[i]? = some [(b, .cells cs.toArray T' fr)]) (hl : ((cs.drop off).take sz).length = sz)
    (h : SX P w0 D n q ops Q rest g ((d, .agg ((cs.drop off).take sz).toArray) :: F) L) : SX P w0 D n q ops Q ({ dst := some d, op := .load T x, type := ty, pos := pos, after := af, guard := none } :: rest) g F L :=
  sx_run _ rfl rfl (fun w hm => by
    have h1 := load_agg (P := P) (T := T) (w := w) (b := b) (off := off) hl (fun j v hv => by
      refine cell_of_cells (hm.at i hL (b, .cells cs.toArray T' fr) (by simp)) ?_
      rw [List.getElem?_take] at hv
      split at hv
      · rwa [List.getElem?_drop] at hv
      · cases hv)
    show ((do pure (Next.value (← Instr.loadAt T (evn n (get g F) x)))) : Sem Next).run P w = _
    rw [hx]; exact run_v h1) h
/-- .. of a row that is not written out. -/
theorem sx_loadX {T sz : Nat} [TyT P T sz true] (i : Nat) {x : Operand} {b off : Nat} {cs vs : List Value} {T' : TypeId} {fr : Nat × Nat} (hx : evn n (get g F) x = .pointer (some ⟨b, off, none⟩)) (hL : L[i]? = some [(b, .cells cs.toArray T' fr)]) (hv : ∀ j v, vs[j]? = some v → cs[off + j]? = some v) (hl : vs.length = sz)
    (h : SX P w0 D n q ops Q rest g ((d, .agg vs.toArray) :: F) L) : SX P w0 D n q ops Q ({ dst := some d, op := .load T x, type := ty, pos := pos, after := af, guard := none } :: rest) g F L :=
  sx_run _ rfl rfl (fun w hm => by
    have h1 := load_agg (P := P) (T := T) (w := w) (b := b) (off := off) hl (fun j v hj => cell_of_cells (hm.at i hL (b, .cells cs.toArray T' fr) (by simp)) (hv j v hj))
    show ((do pure (Next.value (← Instr.loadAt T (evn n (get g F) x)))) : Sem Next).run P w = _
    rw [hx]; exact run_v h1) h
theorem sx_loadX1 {T sz : Nat} [TyT P T sz false] (i : Nat) {x : Operand} {b off : Nat} {cs : List Value} {T' : TypeId} {fr : Nat × Nat} {v : Value} (hx : evn n (get g F) x = .pointer (some ⟨b, off, none⟩)) (hL : L[i]? = some [(b, .cells cs.toArray T' fr)]) (hv : cs[off]? = some v)
    (h : SX P w0 D n q ops Q rest g ((d, v) :: F) L) : SX P w0 D n q ops Q ({ dst := some d, op := .load T x, type := ty, pos := pos, after := af, guard := none } :: rest) g F L := sx_load (sz := sz) i hx hL hv h
/-- What the world tells. -/
theorem sx_loadM {T sz : Nat} [TyT P T sz false] {x : Operand} {a : Addr} {v : Value} (hx : evn n (get g F) x = .pointer (some a)) (hv : ∀ w, Mem w0 w D L → w.cell? a = some v)
    (h : SX P w0 D n q ops Q rest g ((d, v) :: F) L) : SX P w0 D n q ops Q ({ dst := some d, op := .load T x, type := ty, pos := pos, after := af, guard := none } :: rest) g F L :=
  sx_run _ rfl rfl (fun w hm => by
    have h1 := load_one (P := P) (T := T) (sz := sz) (hv w hm)
    show ((do pure (Next.value (← Instr.loadAt T (evn n (get g F) x)))) : Sem Next).run P w = _
    rw [hx]; exact run_v h1) h
theorem sx_loadMA {T sz : Nat} [TyT P T sz true] {x : Operand} {b off : Nat} {vs : List Value} (hx : evn n (get g F) x = .pointer (some ⟨b, off, none⟩)) (hl : vs.length = sz) (hv : ∀ w, Mem w0 w D L → ∀ j v, vs[j]? = some v → w.cell? ⟨b, off + j, none⟩ = some v)
    (h : SX P w0 D n q ops Q rest g ((d, .agg vs.toArray) :: F) L) : SX P w0 D n q ops Q ({ dst := some d, op := .load T x, type := ty, pos := pos, after := af, guard := none } :: rest) g F L :=
  sx_run _ rfl rfl (fun w hm => by
    have h1 := load_agg (P := P) (T := T) hl (hv w hm)
    show ((do pure (Next.value (← Instr.loadAt T (evn n (get g F) x)))) : Sem Next).run P w = _
    rw [hx]; exact run_v h1) h
theorem sx_store_any {T sz : Nat} {ag : Bool} [TyT P T sz ag] {p x : Operand} {b off : Nat} {cs vs cs' : List Value} {T' : TypeId} {v : Value} (hp : evn n (get g F) p = .pointer (some ⟨b, off, none⟩)) (hx : evn n (get g F) x = v) (hv : v.cells = vs.toArray) (hl : vs.length = sz) (h1 : ∀ v ∈ vs, oneB v = true) (hle : off + vs.length ≤ cs.length) (hs : splice cs off vs = cs')
    (h : SX P w0 D n 0 ops Q rest g F ([(b, .cells cs'.toArray T' (0, 0))] :: L)) : SX P w0 D n 0 ops Q ({ dst := none, op := .store T p x, type := ty, pos := pos, after := af, guard := none } :: rest) g F ([(b, .cells cs.toArray T' (0, 0))] :: L) :=
  .mk fun w hm => wpList_plain rfl fun K hK => by
    obtain ⟨w', r1, r2, r3, r4, r5, r6, r7⟩ := store_run (P := P) (T := T) (w := w) hv hl h1 hle (hm.head (b, .cells cs.toArray T' (0, 0)) (by simp))
    unfold Oper.wp
    rw [Fr.evn]
    have hr : (execOp (evn n (get g F)) { dst := none, op := .store T p x, type := ty, pos := pos, after := af, guard := none }).run P w = .ok .skip w' := by
      show ((do Instr.storeAt T (evn n (get g F) p) (evn n (get g F) x); pure Next.skip) : Sem Next).run P w = _
      rw [hp, hx]; exact run_u r1
    rw [hr, Oper.upon_skip]
    exact hK _ _ (h.out _ (hm.upd r3 r4 r5 (by omega) (hs ▸ r2) fun k hk _ => r7 k hk))
theorem sx_store {T sz : Nat} [TyT P T sz false] {p : Operand} {b off : Nat} {cs cs' : List Value} {T' : TypeId} {v : Value} (hp : evn n (get g F) p = .pointer (some ⟨b, off, none⟩)) (h1 : oneB v = true) (hsz : Nat.beq sz 1 = true) (hle : Nat.blt off cs.length = true) (hs : cs.set off v = cs')
    (h : SX P w0 D n 0 ops Q rest g F ([(b, .cells cs'.toArray T' (0, 0))] :: L)) : SX P w0 D n 0 ops Q ({ dst := none, op := .store T p (.const v), type := ty, pos := pos, after := af, guard := none } :: rest) g F ([(b, .cells cs.toArray T' (0, 0))] :: L) :=
  sx_store_any (vs := [v]) hp rfl (one_cells h1) (Nat.eq_of_beq_eq_true hsz).symm (by simp [h1]) (Nat.le_of_ble_eq_true hle) hs h
theorem sx_storeW {T sz : Nat} [TyT P T sz true] {p : Operand} {b : Nat} {cs vs : List Value} {T' : TypeId} (hp : evn n (get g F) p = .pointer (some ⟨b, 0, none⟩)) (hl : vs.length = sz) (hle : cs.length = sz) (h1 : vs.all oneB = true)
    (h : SX P w0 D n 0 ops Q rest g F ([(b, .cells vs.toArray T' (0, 0))] :: L)) : SX P w0 D n 0 ops Q ({ dst := none, op := .store T p (.const (.agg vs.toArray)), type := ty, pos := pos, after := af, guard := none } :: rest) g F ([(b, .cells cs.toArray T' (0, 0))] :: L) :=
  sx_store_any hp rfl rfl hl (fun v hv => List.all_eq_true.1 h1 v hv) (by omega) (splice_whole vs cs (by omega)) h
theorem sx_stval {q : Nat} {T : TypeId} {p : Operand} {t : Nat} {dst : Option Nat} (v : Value) (hx : evn n (get g F) (.tmp t) = v) (h : SX P w0 D n q ops Q ({ dst := dst, op := .store T p (.const v), type := ty, pos := pos, after := af, guard := none } :: rest) g F L) :
    SX P w0 D n q ops Q ({ dst := dst, op := .store T p (.tmp t), type := ty, pos := pos, after := af, guard := none } :: rest) g F L := by
  have e : execOp (evn n (get g F)) { dst := dst, op := .store T p (.tmp t), type := ty, pos := pos, after := af, guard := none } = execOp (evn n (get g F)) { dst := dst, op := .store T p (.const v), type := ty, pos := pos, after := af, guard := none } := by
    show ((do Instr.storeAt T (evn n (get g F) p) (evn n (get g F) (.tmp t)); pure Next.skip) : Sem Next) = ((do Instr.storeAt T (evn n (get g F) p) v; pure Next.skip) : Sem Next)
    rw [hx]
  refine h.three ?_ ?_ ?_
  · intro h w hm
    have h1 := h w hm
    unfold wpList at h1 ⊢
    rw [if_pos (by simp [Region.wanted])] at h1 ⊢
    unfold Oper.wp Oper.asks at h1 ⊢
    rw [Fr.evn] at h1 ⊢
    rw [e]; exact h1
  · intro h
    unfold wpQuiet at h ⊢
    rw [if_pos (by simp [Region.wanted])] at h ⊢
    obtain ⟨u, h1, h2⟩ := h
    refine ⟨u, fun w hm => ?_, h2⟩
    have h3 := h1 w hm
    unfold Oper.quietAt at h3 ⊢
    rw [Fr.evn] at h3 ⊢
    rw [e]; exact h3
  · intro h w hm
    have h1 := h w hm
    unfold wpStill at h1 ⊢
    rw [if_pos (by simp [Region.wanted])] at h1 ⊢
    unfold Oper.still at h1 ⊢
    rw [Fr.evn] at h1 ⊢
    rw [e]; exact h1
theorem set_z {a v : Value} {r : List Value} {k : Nat} (hk : Nat.beq k 0 = true) : (a :: r).set k v = v :: r := by
  obtain rfl := Nat.eq_of_beq_eq_true hk; rfl
theorem set_succ {a v : Value} {r r' : List Value} {k : Nat} (h : r.set k v = r') : (a :: r).set (k + 1) v = a :: r' := by rw [List.set_cons_succ, h]

/- Calls. -/
theorem run_call {k : Nat} [CalT P k] {la : List Operand} {ats : Array TypeId} {dst : Option Nat} {w : World} : (execOp (evn n (get g F)) { dst := dst, op := .call { callee := .value (.func k), args := la.toArray, argTypes := ats }, type := ty, pos := pos, after := af, guard := none }).run P w = .ok (.enter k (evs n (get g F) la).toArray) w := by
  have h1 := CalT.run (P := P) (k := k) (evs n (get g F) la).toArray w
  simp only [execOp, resolve]
  simp [Deferred.ofValue, evn, evs_map, invoke, h1, go_sem]
theorem sx_call {k : Nat} [CalT P k] {la : List Operand} {ats : Array TypeId} {c : Ch} {R : Value → List Ch → Prop} (hc : ∀ w, Mem w0 w D (c :: L) → Calls P k (evs n (get g F) la).toArray w (Ret w (c.map (·.1)) R)) (h : ∀ v L', R v L' → SX P w0 D n 0 ops Q rest g ((d, v) :: F) (L' ++ L)) :
    SX P w0 D n 0 ops Q ({ dst := some d, op := .call { callee := .value (.func k), args := la.toArray, argTypes := ats }, type := ty, pos := pos, after := af, guard := none } :: rest) g F (c :: L) :=
  .mk fun w hm => wpList_plain rfl fun K hK => by
    unfold Oper.wp
    rw [Fr.evn, run_call, Oper.upon_enter]
    refine (hc w hm).mono ?_
    rintro e w' ⟨v, L', rfl, hm', hR⟩
    show K ((Fr n (get g F)).put (some d) v) w'
    rw [Fr.put, get_put]
    exact hK _ _ ((h v L' hR).out _ (hm.call hm'))
theorem sx_call0 {k : Nat} [CalT P k] {la : List Operand} {ats : Array TypeId} {R : Value → List Ch → Prop} (hc : ∀ w, Mem w0 w D L → Calls P k (evs n (get g F) la).toArray w (Ret w [] R)) (h : ∀ v L', R v L' → SX P w0 D n 0 ops Q rest g ((d, v) :: F) (L' ++ L)) :
    SX P w0 D n 0 ops Q ({ dst := some d, op := .call { callee := .value (.func k), args := la.toArray, argTypes := ats }, type := ty, pos := pos, after := af, guard := none } :: rest) g F L :=
  .mk fun w hm => wpList_plain rfl fun K hK => by
    unfold Oper.wp
    rw [Fr.evn, run_call, Oper.upon_enter]
    refine (hc w hm).mono ?_
    rintro e w' ⟨v, L', rfl, hm', hR⟩
    show K ((Fr n (get g F)).put (some d) v) w'
    rw [Fr.put, get_put]
    exact hK _ _ ((h v L' hR).out _ (hm.call0 hm'))
/- What comes next? -/
theorem at_guard {o : Op} {dst : Option Nat} {j : Nat × Bool} (h : SX P w0 D n q ops Q ({ dst := dst, op := o, type := ty, pos := pos, after := af, guard := some j } :: rest) g F L) : SX P w0 D n q ops Q ({ dst := dst, op := o, type := ty, pos := pos, after := af, guard := some j } :: rest) g F L := h
theorem at_bin {o : BinOp} {t1 t2 : TypeId} {x y : Operand} (h : SX P w0 D n q ops Q ({ dst := some d, op := .binOp o t1 x y t2, type := ty, pos := pos, after := af, guard := none } :: rest) g F L) : SX P w0 D n q ops Q ({ dst := some d, op := .binOp o t1 x y t2, type := ty, pos := pos, after := af, guard := none } :: rest) g F L := h
theorem at_move {x : Operand} (h : SX P w0 D n q ops Q ({ dst := some d, op := .move x, type := ty, pos := pos, after := af, guard := none } :: rest) g F L) : SX P w0 D n q ops Q ({ dst := some d, op := .move x, type := ty, pos := pos, after := af, guard := none } :: rest) g F L := h
theorem at_assign {x : Operand} (h : SX P w0 D n q ops Q ({ dst := some d, op := .assign x, type := ty, pos := pos, after := af, guard := none } :: rest) g F L) : SX P w0 D n q ops Q ({ dst := some d, op := .assign x, type := ty, pos := pos, after := af, guard := none } :: rest) g F L := h
theorem at_load {T : TypeId} {x : Operand} (h : SX P w0 D n q ops Q ({ dst := some d, op := .load T x, type := ty, pos := pos, after := af, guard := none } :: rest) g F L) : SX P w0 D n q ops Q ({ dst := some d, op := .load T x, type := ty, pos := pos, after := af, guard := none } :: rest) g F L := h
theorem at_stores {T : TypeId} {p x : Operand} {dst : Option Nat} (h : SX P w0 D n q ops Q ({ dst := dst, op := .store T p x, type := ty, pos := pos, after := af, guard := none } :: rest) g F L) : SX P w0 D n q ops Q ({ dst := dst, op := .store T p x, type := ty, pos := pos, after := af, guard := none } :: rest) g F L := h
theorem at_iface {T : TypeId} {x : Operand} (h : SX P w0 D n q ops Q ({ dst := some d, op := .makeInterface T x, type := ty, pos := pos, after := af, guard := none } :: rest) g F L) : SX P w0 D n q ops Q ({ dst := some d, op := .makeInterface T x, type := ty, pos := pos, after := af, guard := none } :: rest) g F L := h
theorem at_conv {S T : TypeId} {x : Operand} (h : SX P w0 D n q ops Q ({ dst := some d, op := .convert S T x, type := ty, pos := pos, after := af, guard := none } :: rest) g F L) : SX P w0 D n q ops Q ({ dst := some d, op := .convert S T x, type := ty, pos := pos, after := af, guard := none } :: rest) g F L := h
theorem at_buildS {T : TypeId} {k : Nat} {ps : Array (Nat × Operand)} (h : SX P w0 D n q ops Q ({ dst := some d, op := .buildSlice T k ps, type := ty, pos := pos, after := af, guard := none } :: rest) g F L) : SX P w0 D n q ops Q ({ dst := some d, op := .buildSlice T k ps, type := ty, pos := pos, after := af, guard := none } :: rest) g F L := h
theorem at_append {x y : Operand} {ts : Array TypeId} (h : SX P w0 D n q ops Q ({ dst := some d, op := .call { callee := .builtin .append, args := #[x, y], argTypes := ts }, type := ty, pos := pos, after := af, guard := none } :: rest) g F L) : SX P w0 D n q ops Q ({ dst := some d, op := .call { callee := .builtin .append, args := #[x, y], argTypes := ts }, type := ty, pos := pos, after := af, guard := none } :: rest) g F L := h
theorem at_op {o : Oper} (h : SX P w0 D n q ops Q (o :: rest) g F L) : SX P w0 D n q ops Q (o :: rest) g F L := h
theorem at_code {c : Code} (h : CX P w0 D n Q c g F L) : CX P w0 D n Q c g F L := h
theorem at_exit {e : Exit} (h : QX w0 D n Q e g F L) : QX w0 D n Q e g F L := h
theorem at_K {K : Act → World → Prop} (h : QX w0 D n (Exit.then K Q) .normal g F L) : QX w0 D n (Exit.then K Q) .normal g F L := h
/-- To stop at a call of one function. -/
theorem at_call (k : Nat) {dst : Option Nat} {la : Array Operand} {ats : Array TypeId} {gd : Option (Nat × Bool)} (h : SX P w0 D n q ops Q ({ dst := dst, op := .call { callee := .value (.func k), args := la, argTypes := ats }, type := ty, pos := pos, after := af, guard := gd } :: rest) g F L) :
    SX P w0 D n q ops Q ({ dst := dst, op := .call { callee := .value (.func k), args := la, argTypes := ats }, type := ty, pos := pos, after := af, guard := gd } :: rest) g F L := h
theorem sx_app0 (h : SX P w0 D n q ops Q rest g F L) : SX P w0 D n q ops Q rest g F ([] ++ L) := h
theorem sx_app1 {c : Ch} (h : SX P w0 D n q ops Q rest g F (c :: L)) : SX P w0 D n q ops Q rest g F ([c] ++ L) := h
theorem sx_app2 {c c' : Ch} (h : SX P w0 D n q ops Q rest g F (c :: c' :: L)) : SX P w0 D n q ops Q rest g F ([c, c'] ++ L) := h
theorem cx_true {t : Nat} {x y : Code} (hb : evn n (get g F) (.tmp t) = .bool true) (h : CX P w0 D n Q x g F L) : CX P w0 D n Q (.cond (.tmp t) x y) g F L := cx_cond hb (fun _ => h) (fun e => by cases e)
theorem cx_false {t : Nat} {x y : Code} (hb : evn n (get g F) (.tmp t) = .bool false) (h : CX P w0 D n Q y g F L) : CX P w0 D n Q (.cond (.tmp t) x y) g F L := cx_cond hb (fun e => by cases e) (fun _ => h)
def isV (v : Value) (v' : Value) (L : List Ch) : Prop := v' = v ∧ L = []
theorem sx_callv {k : Nat} [CalT P k] {la : List Operand} {ats : Array TypeId} {v : Value} (hc : ∀ w, Mem w0 w D L → Calls P k (evs n (get g F) la).toArray w (Ret w [] (isV v))) (h : SX P w0 D n q ops Q rest g ((d, v) :: F) L) (hq : Nat.blt q 2 = true) :
    SX P w0 D n q ops Q ({ dst := some d, op := .call { callee := .value (.func k), args := la.toArray, argTypes := ats }, type := ty, pos := pos, after := af, guard := none } :: rest) g F L := by
  match q with
  | 0 => exact sx_call0 hc (by rintro _ _ ⟨rfl, rfl⟩; exact h)
  | 1 =>
    refine .mk1 ?_
    have h1 := h.out1
    unfold wpQuiet
    rw [if_pos (by simp [Region.wanted])]
    refine ⟨v, fun w hm => ?_, by rw [show (Fr n (get g F)).put (some d) v = Fr n (get g ((d, v) :: F)) by rw [Fr.put, get_put]]; exact h1⟩
    unfold Oper.quietAt
    rw [Fr.evn, run_call]
    refine ⟨rfl, (hc w hm).mono ?_⟩
    rintro e w' ⟨v', L', rfl, hm', rfl, rfl⟩
    exact ⟨rfl, hm.call0 hm'⟩
  | q + 2 => simp [Nat.blt] at hq
theorem sx_len {x : Operand} {T E sz bytes : Nat} {z : Value} [SlT P T E sz bytes z] {a : Option Addr} {len cap : Nat} (hx : evn n (get g F) x = .slice a len cap) (h : SX P w0 D n q ops Q rest g ((d, .int .i64 len) :: F) L) :
    SX P w0 D n q ops Q ({ dst := some d, op := .call { callee := .builtin .len, args := #[x], argTypes := #[T] }, type := ty, pos := pos, after := af, guard := none } :: rest) g F L :=
  sx_run _ rfl rfl (fun w _ => by
    have h1 := SlT.und (P := P) (T := T) (E := E) (sz := sz) (bytes := bytes) (z := z)
    simp only [execOp, resolve]
    simp [hx, invoke, builtin, Builtin.len_, run_underlying h1, goInt, go_sem]) h

/- Regions of any order: what only computes goes first, what alone is ready goes next. -/
def listedK (m : Nat) : Nat → Array Bool
  | 0 => Array.replicate m false
  | k + 1 => (listedK m k).setIfInBounds k true
/-- Nobody panics. -/
def np (Q : Exit → Act → World → Prop) : Exit → Act → World → Prop
  | .panic _, _, _ => False
  | e, a, w => Q e a w
def AX (P : Program) (w0 : World) (D : List Nat) (n : Nat) (ops : Array Oper) (Q : Exit → Act → World → Prop) (k : Nat) (g : Nat → Value) (F : List (Nat × Value)) (L : List Ch) : Prop :=
  ∀ w, Mem w0 w D L → wpAny P .any ops (np Q) (ops.size - k) (listedK ops.size k) (Fr n (get g F)) w
attribute [irreducible] AX
theorem AX.mk {k : Nat} (h : ∀ w, Mem w0 w D L → wpAny P .any ops (np Q) (ops.size - k) (listedK ops.size k) (Fr n (get g F)) w) : AX P w0 D n ops Q k g F L := by unfold AX; exact h
theorem AX.out {k : Nat} (h : AX P w0 D n ops Q k g F L) : ∀ w, Mem w0 w D L → wpAny P .any ops (np Q) (ops.size - k) (listedK ops.size k) (Fr n (get g F)) w := by unfold AX at h; exact h
theorem at_any {k : Nat} (h : AX P w0 D n ops Q k g F L) : AX P w0 D n ops Q k g F L := h
theorem cx_any {id : Nat} {l : List Oper} (hm : P.follows .mixedOrders = true) (h : AX P w0 D n l.toArray Q 0 g F L) : CX P w0 D n Q (.region id l.toArray true) g F L :=
  .mk fun w hw => wp_mono (wp_region_any (Q := np Q) hm (h.out _ hw.drew)) fun e a w q => by
    cases e <;> first | exact q | exact q.elim
def takeB (ops : Array Oper) (k : Nat) : Bool := Nat.blt k ops.size && Region.noSelect ops && Region.free .any ops (listedK ops.size k) k && (Region.ready .any ops (listedK ops.size k)).contains k
def loneB (ops : Array Oper) (k : Nat) : Bool := Nat.blt k ops.size && decide (Region.ready .any ops (listedK ops.size k) = [k])
def overB (ops : Array Oper) (k : Nat) : Bool := decide (Region.ready .any ops (listedK ops.size k) = [])
/-- The frame that is told. -/
def isF (n : Nat) (g : Nat → Value) (F : List (Nat × Value)) : Exit → Act → World → Prop := fun e a _ => e = .normal ∧ a = Fr n (get g F)
theorem qx_isF {w0 : World} {D : List Nat} {L : List Ch} : QX w0 D n (isF n g F) .normal g F L := .mk fun _ _ => ⟨rfl, rfl⟩
theorem ax_take {k : Nat} {o : Oper} {v : Value} (ht : takeB ops k = true) (hi : ops[k]? = some o) (hy : Yields P ops o v (Fr n (get g F))) (hd : o.dst = some d) (h : AX P w0 D n ops Q (k + 1) g ((d, v) :: F) L) : AX P w0 D n ops Q k g F L := .mk fun w hm => by
  simp only [takeB, Bool.and_eq_true] at ht
  have hlt : k < ops.size := Nat.le_of_ble_eq_true ht.1.1.1
  have h1 := h.out w hm
  have e : ops.size - k = (ops.size - (k + 1)) + 1 := by omega
  rw [e]
  refine wpAny_take hi ht.1.1.2 ht.1.2 ht.2 (fun c a w q => q.elim) hy ?_
  rw [hd, Fr.put, get_put]
  exact h1
/-- Operations that give a value, each. -/
def valOp : Op → Bool
  | .move _ | .assign _ | .pick .. | .binOp .. | .unOp .. | .convert .. | .makeInterface .. | .slice .. | .fieldAddr .. | .field .. | .indexAddr .. | .index .. | .extract .. | .build .. => true
  | _ => false
theorem andThen_value {s : Sem Value} {w : World} : (∃ v w', ((do pure (Next.value (← s))) : Sem Next).run P w = .ok (.value v) w') ∨ ∃ h w', ((do pure (Next.value (← s))) : Sem Next).run P w = .halt h w' := by
  rw [Sem.run_bind]
  cases s.run P w with
  | ok v w' => exact .inl ⟨v, w', rfl⟩
  | halt h w' => exact .inr ⟨h, w', rfl⟩
theorem valOp_run {ρ : Operand → Value} {o : Oper} (h : valOp o.op = true) (w : World) : (∃ v w', (execOp ρ o).run P w = .ok (.value v) w') ∨ ∃ h w', (execOp ρ o).run P w = .halt h w' := by
  obtain ⟨dst, op, ty, pos, af, gd⟩ := o
  cases op <;> first
    | (simp [valOp] at h; done)
    | exact .inl ⟨_, _, rfl⟩
    | exact andThen_value
    | (rename_i c a b
       show (∃ v w', ((do pure (Next.value (if ← asBool (ρ c) then ρ a else ρ b))) : Sem Next).run P w = .ok (.value v) w') ∨ ∃ h w', ((do pure (Next.value (if ← asBool (ρ c) then ρ a else ρ b))) : Sem Next).run P w = .halt h w'
       rw [Sem.run_bind]
       cases (asBool (ρ c)).run P w with
       | ok v w' => exact .inl ⟨_, w', rfl⟩
       | halt h w' => exact .inr ⟨h, w', rfl⟩)
theorem ax_pure {k : Nat} {o : Oper} (hval : valOp o.op = true) (ht : takeB ops k = true) (hi : ops[k]? = some o) (hg : o.guard = none) (hd : o.dst = some d) (hdn : Nat.blt d n = true)
    (h : ∃ v, (∀ w, SX P w [] n 2 ops (isF n g ((d, v) :: F)) [o] g F []) ∧ AX P w0 D n ops Q (k + 1) g ((d, v) :: F) L) : AX P w0 D n ops Q k g F L := by
  obtain ⟨v, h1, h2⟩ := h
  refine ax_take (v := v) ht hi (.inl ⟨by simp [Region.wanted, hg], fun w => ?_⟩) hd h2
  have h3 := (h1 w).out2 (q := 0) w (Mem.refl w)
  unfold wpStill at h3
  rw [if_pos (by simp [Region.wanted, hg])] at h3
  unfold Oper.still at h3
  have key : ∀ u, (Fr n (get g F)).put o.dst u = Fr n (get g ((d, v) :: F)) → u = v := by
    intro u hu
    rw [hd, Fr.put, get_put] at hu
    have hlt : d < n := Nat.le_of_ble_eq_true hdn
    have h4 := congrArg (fun a : Act => a.tmps.getD d undef) hu
    simp only [Fr.getD hlt] at h4
    have h5 : ∀ x, get g ((d, x) :: F) d = x := fun x => by show (bif Nat.beq d d then x else _) = x; rw [Nat.beq_refl]; rfl
    rwa [h5, h5] at h4
  rcases valOp_run (P := P) (ρ := (Fr n (get g F)).eval) hval w with ⟨u, w', hr⟩ | ⟨x, w', hr⟩
  · rw [hr] at h3 ⊢
    obtain ⟨rfl, _, h4⟩ := h3
    rw [key u h4]
  · rw [hr] at h3; exact h3.elim
theorem ax_skip {k j t : Nat} {want b : Bool} {o : Oper} (ht : takeB ops k = true) (hi : ops[k]? = some o) (hg : o.guard = some (j, want)) (hdst : o.dst = some d) (hd : (ops[j]?).bind (·.dst) = some t) (htn : Nat.blt t n = true) (hv : get g F t = .bool b) (hb : b = !want)
    (h : AX P w0 D n ops Q (k + 1) g ((d, undef) :: F) L) : AX P w0 D n ops Q k g F L :=
  ax_take ht hi (.inr ⟨wanted_no hg hd htn hv hb, rfl⟩) hdst h
theorem ax_lone {k : Nat} {o : Oper} (ht : loneB ops k = true) (hi : ops[k]? = some o) (h : SX P w0 D n 0 ops (Exit.then (fun a w => wpAny P .any ops (np Q) (ops.size - (k + 1)) (listedK ops.size (k + 1)) a w) (np Q)) [o] g F L) : AX P w0 D n ops Q k g F L := .mk fun w hm => by
  simp only [loneB, Bool.and_eq_true, decide_eq_true_eq] at ht
  have hlt : k < ops.size := Nat.le_of_ble_eq_true ht.1
  have e : ops.size - k = (ops.size - (k + 1)) + 1 := by omega
  rw [e]
  refine wpAny_all ht.2 (by simp) fun i hi' => ?_
  have : i = k := by simpa using hi'
  subst this
  have h1 := h.out w hm
  unfold wpList at h1
  unfold wpOp
  simp only [hi]
  split at h1
  · rename_i hw
    rw [if_pos hw]
    rcases h1 with h1 | ⟨h1, a, w', h2⟩
    · refine .inl ?_
      unfold Oper.wp at h1 ⊢
      generalize (execOp (Fr n (get g F)).eval o).run P w = r at h1 ⊢
      cases r with
      | ok x w' =>
        cases x <;> simp only [Oper.upon] at h1 ⊢ <;> first
          | exact h1
          | (refine Calls.mono h1 fun e w'' he => ?_
             cases e with
             | returned v => exact he
             | panicked ch => exact he
             | outgrown => obtain ⟨a, w, hh⟩ := he; exact ⟨a, w, hh⟩)
      | halt x w' => cases x <;> simp only [Oper.upon] at h1 ⊢ <;> exact h1
    · exact .inr ⟨h1, a, w', h2⟩
  · rename_i hw
    rw [if_neg hw]; exact h1
theorem qx_any {k : Nat} (h : AX P w0 D n ops Q (k + 1) g F L) : QX w0 D n (Exit.then (fun a w => wpAny P .any ops (np Q) (ops.size - (k + 1)) (listedK ops.size (k + 1)) a w) (np Q)) .normal g F L := .mk fun w hm => h.out w hm
theorem ax_over {k : Nat} (ht : overB ops k = true) (h : QX w0 D n Q .normal g F L) : AX P w0 D n ops Q k g F L := .mk fun w hm => by
  simp only [overB, decide_eq_true_eq] at ht
  exact wpAny_done (Q := np Q) ht (h.out w hm) _
end
end Go.Port
