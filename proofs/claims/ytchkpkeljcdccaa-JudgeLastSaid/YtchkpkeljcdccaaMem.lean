/- What a call does to memory: a world that is another one's, but for blocks that are told. No program here. -/
import Derived.Test.YtchkpkeljcdccaaFrame
set_option linter.unusedSimpArgs false
set_option linter.unusedVariables false
namespace Go.Port
open Go.RowKit

/-- A piece of memory: blocks, and what they hold. -/
abbrev Ch := List (Nat × Obj)
/-- w is w0, but for the blocks of D, and for new ones; what L tells is there. -/
structure Mem (w0 w : World) (D : List Nat) (L : List Ch) : Prop where
  os : w.os = w0.os
  tape : w.tape = w0.tape
  output : w.output = w0.output
  size : w0.heap.size ≤ w.heap.size
  old : ∀ k, k < w0.heap.size → k ∉ D → w.heap[k]? = w0.heap[k]?
  has : ∀ e ∈ L.flatten, w.heap[e.1]? = some e.2
  own : ∀ e ∈ L.flatten, w0.heap.size ≤ e.1 ∨ e.1 ∈ D
  nodup : (L.flatten.map (·.1)).Nodup
/-- What a piece tells is there. -/
def Has (w : World) (c : Ch) : Prop := ∀ e ∈ c, w.heap[e.1]? = some e.2
/-- A call returns: a value, pieces of memory. -/
def Ret (w : World) (D : List Nat) (R : Value → List Ch → Prop) (e : Ending) (w' : World) : Prop := ∃ v L, e = .returned v ∧ Mem w w' D L ∧ R v L

theorem heap_lt {w : World} {b : Nat} {o : Obj} (h : w.heap[b]? = some o) : b < w.heap.size := (Array.getElem?_eq_some_iff.1 h).1
section
variable {w0 w w' : World} {D : List Nat} {L L' : List Ch} {c c' : Ch}
theorem Mem.refl (w : World) : Mem w w [] [] := ⟨rfl, rfl, rfl, Nat.le_refl _, fun _ _ _ => rfl, fun _ h => (by cases h), fun _ h => (by cases h), List.nodup_nil⟩
theorem Mem.start {w : World} {L : List Ch} (h : ∀ e ∈ L.flatten, w.heap[e.1]? = some e.2) (hn : (L.flatten.map (·.1)).Nodup) : Mem w w (L.flatten.map (·.1)) L :=
  ⟨rfl, rfl, rfl, Nat.le_refl _, fun _ _ _ => rfl, h, fun e he => .inr (List.mem_map_of_mem he), hn⟩
theorem Mem.start1 {w : World} {b : Nat} {o : Obj} (h : w.heap[b]? = some o) : Mem w w [b] [[(b, o)]] := by
  refine ⟨rfl, rfl, rfl, Nat.le_refl _, fun _ _ _ => rfl, fun e he => ?_, fun e he => ?_, ?_⟩
  · simp at he; subst he; exact h
  · simp at he; subst he; simp
  · simp
theorem Mem.lt (h : Mem w0 w D L) {e : Nat × Obj} (he : e ∈ L.flatten) : e.1 < w.heap.size := heap_lt (h.has e he)
theorem Mem.drew (h : Mem w0 w D L) : Mem w0 w.drew D L := ⟨h.os, h.tape, h.output, h.size, h.old, h.has, h.own, h.nodup⟩
theorem Mem.drawn (h : Mem w0 w D L) (n : Nat) : Mem w0 { w with drawn := n } D L := ⟨h.os, h.tape, h.output, h.size, h.old, h.has, h.own, h.nodup⟩
theorem Mem.perm (h : Mem w0 w D L) (hp : L'.flatten.Perm L.flatten) : Mem w0 w D L' :=
  ⟨h.os, h.tape, h.output, h.size, h.old, fun e he => h.has e (hp.mem_iff.1 he), fun e he => h.own e (hp.mem_iff.1 he), (hp.map _).nodup_iff.2 h.nodup⟩
theorem Mem.permL (h : Mem w0 w D L) (hp : L'.Perm L) : Mem w0 w D L' := h.perm hp.flatten
theorem Mem.sub (h : Mem w0 w D L) (hp : L'.flatten.Sublist L.flatten) : Mem w0 w D L' :=
  ⟨h.os, h.tape, h.output, h.size, h.old, fun e he => h.has e (hp.subset he), fun e he => h.own e (hp.subset he), h.nodup.sublist (hp.map _)⟩
theorem Mem.drop (h : Mem w0 w D (L' ++ L)) : Mem w0 w D L' := h.sub (by rw [List.flatten_append]; exact List.sublist_append_left _ _)
theorem Mem.dropl (h : Mem w0 w D (L' ++ L)) : Mem w0 w D L := h.sub (by rw [List.flatten_append]; exact List.sublist_append_right _ _)
theorem Mem.tail (h : Mem w0 w D (c :: L)) : Mem w0 w D L := h.dropl (L' := [c])
theorem Mem.nil (h : Mem w0 w D L) : Mem w0 w D [] := h.sub (List.nil_sublist _)
theorem Mem.head (h : Mem w0 w D (c :: L)) : Has w c := fun e he => h.has e (by simp [he])
theorem Mem.at (h : Mem w0 w D L) (i : Nat) (hc : L[i]? = some c) : Has w c := fun e he => h.has e (List.mem_flatten.2 ⟨c, List.mem_of_getElem? hc, he⟩)
theorem Mem.new (h : Mem w0 w D L) (o : Obj) : Mem w0 (w.alloc o) D ([(w.heap.size, o)] :: L) := by
  refine ⟨h.os, h.tape, h.output, Nat.le_trans h.size (by simp), fun k hk hD => ?_, fun e he => ?_, fun e he => ?_, ?_⟩
  · rw [Below.heap_alloc _ _ _ (Nat.lt_of_lt_of_le hk h.size)]; exact h.old k hk hD
  · simp only [List.flatten_cons, List.singleton_append, List.mem_cons] at he
    rcases he with rfl | he
    · exact heap_alloc_new w o
    · rw [Below.heap_alloc _ _ _ (h.lt he)]; exact h.has e he
  · simp only [List.flatten_cons, List.singleton_append, List.mem_cons] at he
    rcases he with rfl | he
    · exact .inl h.size
    · exact h.own e he
  · simp only [List.flatten_cons, List.singleton_append, List.map_cons, List.nodup_cons]
    refine ⟨fun hm => ?_, h.nodup⟩
    obtain ⟨e, he, heq⟩ := List.mem_map.1 hm
    have := h.lt he
    omega
theorem Mem.upd {b : Nat} {o o' : Obj} (h : Mem w0 w D ([(b, o)] :: L)) (hos : w'.os = w.os) (ht : w'.tape = w.tape) (hu : w'.output = w.output) (hs : w.heap.size ≤ w'.heap.size) (hb : w'.heap[b]? = some o') (ho : ∀ k, k ≠ b → k < w.heap.size → w'.heap[k]? = w.heap[k]?) :
    Mem w0 w' D ([(b, o')] :: L) := by
  have hnd := h.nodup
  simp only [List.flatten_cons, List.singleton_append, List.map_cons, List.nodup_cons] at hnd
  refine ⟨hos.trans h.os, ht.trans h.tape, hu.trans h.output, Nat.le_trans h.size hs, fun k hk hD => ?_, fun e he => ?_, fun e he => ?_, ?_⟩
  · rw [ho k (fun e => ?_) (Nat.lt_of_lt_of_le hk h.size)]
    · exact h.old k hk hD
    · subst e
      rcases h.own (k, o) (by simp) with h1 | h1
      · simp at h1; omega
      · exact hD h1
  · simp only [List.flatten_cons, List.singleton_append, List.mem_cons] at he
    rcases he with rfl | he
    · exact hb
    · rw [ho e.1 (fun x => hnd.1 (x ▸ List.mem_map_of_mem he)) (h.lt (by simp [he]))]
      exact h.has e (by simp [he])
  · simp only [List.flatten_cons, List.singleton_append, List.mem_cons] at he
    rcases he with rfl | he
    · exact h.own (b, o) (by simp)
    · exact h.own e (by simp [he])
  · simp only [List.flatten_cons, List.singleton_append, List.map_cons, List.nodup_cons]
    exact hnd
/-- Behind a call. -/
theorem Mem.call {c : Ch} (h : Mem w0 w D (c :: L)) (h' : Mem w w' (c.map (·.1)) L') : Mem w0 w' D (L' ++ L) := by
  have hnd := h.nodup
  simp only [List.flatten_cons, List.map_append] at hnd
  have hdis : ∀ e ∈ L.flatten, e.1 ∉ c.map (·.1) := fun e he hm => (List.nodup_append.1 hnd).2.2 _ hm _ (List.mem_map_of_mem he) rfl
  refine ⟨h'.os.trans h.os, h'.tape.trans h.tape, h'.output.trans h.output, Nat.le_trans h.size h'.size, fun k hk hD => ?_, fun e he => ?_, fun e he => ?_, ?_⟩
  · rw [h'.old k (Nat.lt_of_lt_of_le hk h.size) (fun hm => ?_)]
    · exact h.old k hk hD
    · obtain ⟨e, he, rfl⟩ := List.mem_map.1 hm
      rcases h.own e (by simp [he]) with h1 | h1
      · omega
      · exact hD h1
  · simp only [List.flatten_append, List.mem_append] at he
    rcases he with he | he
    · exact h'.has e he
    · rw [h'.old e.1 (h.tail.lt he) (hdis e he)]; exact h.tail.has e he
  · simp only [List.flatten_append, List.mem_append] at he
    rcases he with he | he
    · rcases h'.own e he with h1 | h1
      · exact .inl (Nat.le_trans h.size h1)
      · obtain ⟨e', he', heq⟩ := List.mem_map.1 h1
        have := h.own e' (by simp [he'])
        rw [← heq]; exact this
    · exact h.tail.own e he
  · simp only [List.flatten_append, List.map_append]
    refine List.nodup_append.2 ⟨h'.nodup, h.tail.nodup, fun x hx y hy hxy => ?_⟩
    subst hxy
    obtain ⟨e, he, rfl⟩ := List.mem_map.1 hx
    obtain ⟨e', he', heq⟩ := List.mem_map.1 hy
    rcases h'.own e he with h1 | h1
    · have := h.tail.lt he'; omega
    · exact hdis e' he' (heq ▸ h1)
theorem Mem.call0 (h : Mem w0 w D L) (h' : Mem w w' [] L') : Mem w0 w' D (L' ++ L) := Mem.call (c := []) (h.sub (by simp)) h'
theorem Mem.below (h : Mem w0 w [] L) : Below w0.heap.size w0 w := ⟨h.os, h.tape, h.output, h.size, fun k hk => h.old k hk (by simp)⟩
theorem Mem.of_below (h : Below w0.heap.size w0 w) : Mem w0 w [] [] := ⟨h.os, h.tape, h.output, h.size, fun k hk _ => h.block k hk, fun _ h => (by cases h), fun _ h => (by cases h), List.nodup_nil⟩
theorem Mem.cell (h : Mem w0 w D L) {p : Addr} (hp : p.block < w0.heap.size) (hD : p.block ∉ D) : w.cell? p = w0.cell? p := World.cell?_of_block (w := w0) (h.old p.block hp hD)
theorem IsSl.mem {sz : Nat} {a : Option Addr} {len cap : Nat} {xs : List Value} (h : IsSl w0 sz a len cap xs) (hm : Mem w0 w [] L) : IsSl w sz a len cap xs := h.below hm.below (Nat.le_refl _)
theorem IsRow.mem {k : IntKind} {a : Option Addr} {len cap : Nat} {l : List Int} (h : IsRow w0 k a len cap l) (hm : Mem w0 w [] L) : IsRow w k a len cap l := IsSl.mem h hm
end
theorem Ret.mono {w w' : World} {D : List Nat} {R R' : Value → List Ch → Prop} {e : Ending} (h : Ret w D R e w') (hr : ∀ v L, R v L → R' v L) : Ret w D R' e w' :=
  let ⟨v, L, h1, h2, h3⟩ := h; ⟨v, L, h1, h2, hr _ _ h3⟩
/-- What only computes. -/
theorem ret_of_same {w : World} {e : Ending} {w' : World} {v : Value} (h : e = .returned v ∧ w = w') : Ret w [] (fun v' L => v' = v ∧ L = []) e w' :=
  ⟨v, [], h.1, h.2 ▸ Mem.refl w, rfl, rfl⟩
theorem ret_of_below {w : World} {e : Ending} {w' : World} {v : Value} (h : e = .returned v ∧ Below w.heap.size w w') : Ret w [] (fun v' L => v' = v ∧ L = []) e w' :=
  ⟨v, [], h.1, Mem.of_below h.2, rfl, rfl⟩
theorem Calls.same {P : Program} {f : FuncId} {args : Array Value} {w : World} {v : Value} (h : Calls P f args w fun e w' => e = .returned v ∧ w = w') : Calls P f args w (Ret w [] fun v' L => v' = v ∧ L = []) :=
  h.mono fun _ _ => ret_of_same
theorem Calls.belowR {P : Program} {f : FuncId} {args : Array Value} {w : World} {v : Value} (h : Calls P f args w fun e w' => e = .returned v ∧ Below w.heap.size w w') : Calls P f args w (Ret w [] fun v' L => v' = v ∧ L = []) :=
  h.mono fun _ _ => ret_of_below
theorem Calls.toBelow {P : Program} {f : FuncId} {args : Array Value} {w : World} {v : Value} (h : Calls P f args w (Ret w [] fun v' _ => v' = v)) : Calls P f args w fun e w' => e = .returned v ∧ Below w.heap.size w w' :=
  h.mono fun _ _ ⟨v', L, h1, h2, h3⟩ => ⟨by rw [h1, h3], h2.below⟩
end Go.Port
