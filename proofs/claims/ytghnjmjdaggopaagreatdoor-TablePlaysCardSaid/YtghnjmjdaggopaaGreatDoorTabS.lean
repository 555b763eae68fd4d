/- table: the sort of flows. -/
import Derived.Test.YtghnjmjdaggopaaGreatDoorFuC
import Derived.Test.YtghnjmjdaggopaaGreatDoorFuA
import Derived.Test.YtghnjmjdaggopaaGreatDoorFuB
import Derived.Deep.RegionHeld3
set_option linter.unusedSimpArgs false
set_option linter.unusedVariables false
set_option maxRecDepth 100000
namespace Go.Proofs.YtghnjmjdaggopaaGreatDoor
open Go.RowKit Go.Port Go.Shelf Go.Sort Go.Lib
open Go.Proofs (sortWorldK ltOf)
/-- New blocks, draws: nothing else. -/
def GF (W w : World) : Prop := ∃ q os, w = grow (W.drewN q) os
theorem GF.refl (W : World) : GF W W := ⟨0, #[], by rw [grow_empty]; rfl⟩
theorem GF.alloc {W w : World} (h : GF W w) (o : Obj) : GF W (w.alloc o) := by
  obtain ⟨q, os, rfl⟩ := h
  exact ⟨q, os ++ #[o], by rw [alloc_eq_grow, grow_grow]⟩
theorem GF.trans {W w w' : World} (h : GF W w) (h' : GF w w') : GF W w' := by
  obtain ⟨q, os, rfl⟩ := h
  obtain ⟨q', os', rfl⟩ := h'
  refine ⟨q + q', os ++ os', ?_⟩
  rw [← grow_grow]
  unfold grow World.drewN
  simp [Nat.add_assoc]
theorem GF.drew {W w w' : World} (h : GF W w) (h' : GF w.drew w') : GF W w' := h.trans (GF.trans (W := w) ⟨1, #[], by rw [grow_empty]; rfl⟩ h')
theorem GF.heap {W w : World} (h : GF W w) {b : Nat} {o : Obj} (hb : W.heap[b]? = some o) : w.heap[b]? = some o := by
  obtain ⟨q, os, rfl⟩ := h
  rw [heap_grow_old _ _ (show b < (W.drewN q).heap.size from heap_lt hb)]
  exact hb
theorem GF.size {W w : World} (h : GF W w) : W.heap.size ≤ w.heap.size := by
  obtain ⟨q, os, rfl⟩ := h
  rw [size_grow]
  exact Nat.le_add_right _ _
theorem GF.setCell {W w : World} (h : GF W w) {a : Addr} (v : Value) (ha : W.heap.size ≤ a.block) : GF W (w.setCell a v) := by
  obtain ⟨q, os, rfl⟩ := h
  unfold GF World.setCell grow
  dsimp only [World.drewN]
  rw [modify_append_right _ _ _ _ ha]
  exact ⟨q, _, rfl⟩
theorem alloc_old {w : World} {b : Nat} {o o' : Obj} (hb : w.heap[b]? = some o) : (w.alloc o').heap[b]? = some o := by
  rw [Below.heap_alloc _ _ _ (heap_lt hb)]
  exact hb
theorem results_cells {P : Program} {fn : Func} {t b : Nat} {T sz : Nat} [TyT P T sz true] {cs : List Value} {tm : Array Value} {w : World} (h : fn.results = #[.cell t T]) (h1 : tm.getD t undef = .pointer (some ⟨b, 0, none⟩)) (hb : ∀ j v, cs[j]? = some v → w.cell? ⟨b, 0 + j, none⟩ = some v) (hl : cs.length = sz) : (results fn tm).run P w = .ok (.agg cs.toArray) w := by
  have h4 := loadVar_agg (P := P) (T := T) (w := w) (b := b) (off := 0) hl hb
  simp [results, h, h1, h4, asAddr, -Array.getD_eq_getD_getElem?]
theorem results_cell1 {P : Program} {fn : Func} {t b : Nat} {T sz : Nat} [TyT P T sz true] {cs : List Value} {T' : TypeId} {fr : Nat × Nat} {tm : Array Value} {w : World} (h : fn.results = #[.cell t T]) (h1 : tm.getD t undef = .pointer (some ⟨b, 0, none⟩)) (hb : w.heap[b]? = some (.cells cs.toArray T' fr)) (hl : cs.length = sz) : (results fn tm).run P w = .ok (.agg cs.toArray) w := by
  have h4 := loadVar_agg (P := P) (T := T) (w := w) (b := b) (off := 0) hl (fun j v hj => cell_of_cells hb (by rw [Nat.zero_add]; exact hj))
  simp [results, h, h1, h4, asAddr, -Array.getD_eq_getD_getElem?]
set_option maxRecDepth 100000 in
set_option maxHeartbeats 2000000 in
theorem turn_ex (x : K5) (W : World) : Calls Tryz.prog 58 #[kv5 x] W fun e w' => e = .returned (kv5 x.turn) ∧ ∃ q os', w' = grow (W.drewN q) os' := by
  unfold kv5
  go_enter Tryz.func58, Tryz.ntmps58
  go_wp2
  refine bodyPost_ret (results_cell1 (T := 37) (T' := 37) (fr := (0, 0)) (cs := [.int .i64 x.k, .int .i64 x.d, .int .i64 x.t, .int .i64 x.s, .int .i64 x.f]) rfl rfl ?_ rfl) rfl ?_
  · have := heap_alloc_new (W.alloc (Obj.cells #[.int .i64 x.k, .int .i64 x.s, .int .i64 x.f, .int .i64 x.d, .int .i64 x.t] 37)) (Obj.cells #[.int .i64 x.k, .int .i64 x.d, .int .i64 x.t, .int .i64 x.s, .int .i64 x.f] 37)
    rwa [show (W.alloc (Obj.cells #[.int .i64 x.k, .int .i64 x.s, .int .i64 x.f, .int .i64 x.d, .int .i64 x.t] 37)).heap.size = W.heap.size + 1 from Array.size_push _] at this
  exact ⟨rfl, ((GF.refl W).alloc _).alloc _⟩
set_option maxRecDepth 100000 in
set_option maxHeartbeats 2000000 in
theorem first_ex (x : K5) (W : World) : Calls Tryz.prog 32 #[kv5 x] W fun e w' => e = .returned (kv5 x.first) ∧ ∃ q os', w' = grow (W.drewN q) os' := by
  unfold kv5
  go_enter Tryz.func32, Tryz.ntmps32
  go_upto_region 1 with fail
  have hh0 : ((W.alloc (Obj.cells #[.int .i64 x.k, .int .i64 x.s, .int .i64 x.f, .int .i64 x.d, .int .i64 x.t] 37)).alloc (Obj.cells #[.int .i64 0, .int .i64 0, .int .i64 0, .int .i64 0, .int .i64 0] 37)).heap[W.heap.size]? = some (Obj.cells #[.int .i64 x.k, .int .i64 x.s, .int .i64 x.f, .int .i64 x.d, .int .i64 x.t] 37) := alloc_old (heap_alloc_new _ _)
  have hh1 : ((W.alloc (Obj.cells #[.int .i64 x.k, .int .i64 x.s, .int .i64 x.f, .int .i64 x.d, .int .i64 x.t] 37)).alloc (Obj.cells #[.int .i64 0, .int .i64 0, .int .i64 0, .int .i64 0, .int .i64 0] 37)).heap[W.heap.size + 1]? = some (Obj.cells #[.int .i64 0, .int .i64 0, .int .i64 0, .int .i64 0, .int .i64 0] 37) := by
    have := heap_alloc_new (W.alloc (Obj.cells #[.int .i64 x.k, .int .i64 x.s, .int .i64 x.f, .int .i64 x.d, .int .i64 x.t] 37)) (Obj.cells #[.int .i64 0, .int .i64 0, .int .i64 0, .int .i64 0, .int .i64 0] 37)
    rwa [show (W.alloc (Obj.cells #[.int .i64 x.k, .int .i64 x.s, .int .i64 x.f, .int .i64 x.d, .int .i64 x.t] 37)).heap.size = W.heap.size + 1 from Array.size_push _] at this
  have hg : GF W ((W.alloc (Obj.cells #[.int .i64 x.k, .int .i64 x.s, .int .i64 x.f, .int .i64 x.d, .int .i64 x.t] 37)).alloc (Obj.cells #[.int .i64 0, .int .i64 0, .int .i64 0, .int .i64 0, .int .i64 0] 37)) := ((GF.refl W).alloc _).alloc _
  generalize ((W.alloc (Obj.cells #[.int .i64 x.k, .int .i64 x.s, .int .i64 x.f, .int .i64 x.d, .int .i64 x.t] 37)).alloc (Obj.cells #[.int .i64 0, .int .i64 0, .int .i64 0, .int .i64 0, .int .i64 0] 37)) = W1 at hh0 hh1 hg ⊢
  have d0 : W1.cell? ⟨W.heap.size, 0, none⟩ = some (.int .i64 x.k) := cell_of_cells (T := 37) (cs := [.int .i64 x.k, .int .i64 x.s, .int .i64 x.f, .int .i64 x.d, .int .i64 x.t]) hh0 rfl
  have d1 : W1.cell? ⟨W.heap.size, 1, none⟩ = some (.int .i64 x.s) := cell_of_cells (T := 37) (cs := [.int .i64 x.k, .int .i64 x.s, .int .i64 x.f, .int .i64 x.d, .int .i64 x.t]) hh0 rfl
  have d2 : W1.cell? ⟨W.heap.size, 2, none⟩ = some (.int .i64 x.f) := cell_of_cells (T := 37) (cs := [.int .i64 x.k, .int .i64 x.s, .int .i64 x.f, .int .i64 x.d, .int .i64 x.t]) hh0 rfl
  have d3 : W1.cell? ⟨W.heap.size, 3, none⟩ = some (.int .i64 x.d) := cell_of_cells (T := 37) (cs := [.int .i64 x.k, .int .i64 x.s, .int .i64 x.f, .int .i64 x.d, .int .i64 x.t]) hh0 rfl
  have d4 : W1.cell? ⟨W.heap.size, 4, none⟩ = some (.int .i64 x.t) := cell_of_cells (T := 37) (cs := [.int .i64 x.k, .int .i64 x.s, .int .i64 x.f, .int .i64 x.d, .int .i64 x.t]) hh0 rfl
  go_upto_region 2 with (go_at_call 58; refine (turn_ex x _).mono ?_; rintro e w2 ⟨rfl, hw2⟩; unfold kv5)
  have hw2' : GF W1 w2 := hw2
  have i0 := alloc_old (o' := (Obj.cells #[.int .i64 x.turn.k, .int .i64 x.turn.s, .int .i64 x.turn.f, .int .i64 x.turn.d, .int .i64 x.turn.t] 37)) (hw2'.heap hh0)
  have i1 := alloc_old (o' := (Obj.cells #[.int .i64 x.turn.k, .int .i64 x.turn.s, .int .i64 x.turn.f, .int .i64 x.turn.d, .int .i64 x.turn.t] 37)) (hw2'.heap hh1)
  have i2 := heap_alloc_new w2 (Obj.cells #[.int .i64 x.turn.k, .int .i64 x.turn.s, .int .i64 x.turn.f, .int .i64 x.turn.d, .int .i64 x.turn.t] 37)
  have ig : GF W (w2.alloc (Obj.cells #[.int .i64 x.turn.k, .int .i64 x.turn.s, .int .i64 x.turn.f, .int .i64 x.turn.d, .int .i64 x.turn.t] 37)) := (hg.trans hw2').alloc _
  have i3 : W.heap.size + 1 < w2.heap.size := heap_lt (hw2'.heap hh1)
  generalize hn3 : w2.heap.size = n3 at i2 i3 ⊢
  generalize (w2.alloc (Obj.cells #[.int .i64 x.turn.k, .int .i64 x.turn.s, .int .i64 x.turn.f, .int .i64 x.turn.d, .int .i64 x.turn.t] 37)) = W3 at i0 i1 i2 ig ⊢
  clear hn3 hw2' hw2 hh0 hh1 hg d0 d1 d2 d3 d4
  have d0 : W3.cell? ⟨W.heap.size, 0, none⟩ = some (.int .i64 x.k) := cell_of_cells (T := 37) (cs := [.int .i64 x.k, .int .i64 x.s, .int .i64 x.f, .int .i64 x.d, .int .i64 x.t]) i0 rfl
  have d1 : W3.cell? ⟨W.heap.size, 1, none⟩ = some (.int .i64 x.s) := cell_of_cells (T := 37) (cs := [.int .i64 x.k, .int .i64 x.s, .int .i64 x.f, .int .i64 x.d, .int .i64 x.t]) i0 rfl
  have d2 : W3.cell? ⟨W.heap.size, 2, none⟩ = some (.int .i64 x.f) := cell_of_cells (T := 37) (cs := [.int .i64 x.k, .int .i64 x.s, .int .i64 x.f, .int .i64 x.d, .int .i64 x.t]) i0 rfl
  have d3 : W3.cell? ⟨W.heap.size, 3, none⟩ = some (.int .i64 x.d) := cell_of_cells (T := 37) (cs := [.int .i64 x.k, .int .i64 x.s, .int .i64 x.f, .int .i64 x.d, .int .i64 x.t]) i0 rfl
  have d4 : W3.cell? ⟨W.heap.size, 4, none⟩ = some (.int .i64 x.t) := cell_of_cells (T := 37) (cs := [.int .i64 x.k, .int .i64 x.s, .int .i64 x.f, .int .i64 x.d, .int .i64 x.t]) i0 rfl
  have e0 : W3.cell? ⟨n3, 0, none⟩ = some (.int .i64 x.turn.k) := cell_of_cells (T := 37) (cs := [.int .i64 x.turn.k, .int .i64 x.turn.s, .int .i64 x.turn.f, .int .i64 x.turn.d, .int .i64 x.turn.t]) i2 rfl
  have e1 : W3.cell? ⟨n3, 1, none⟩ = some (.int .i64 x.turn.s) := cell_of_cells (T := 37) (cs := [.int .i64 x.turn.k, .int .i64 x.turn.s, .int .i64 x.turn.f, .int .i64 x.turn.d, .int .i64 x.turn.t]) i2 rfl
  have e2 : W3.cell? ⟨n3, 2, none⟩ = some (.int .i64 x.turn.f) := cell_of_cells (T := 37) (cs := [.int .i64 x.turn.k, .int .i64 x.turn.s, .int .i64 x.turn.f, .int .i64 x.turn.d, .int .i64 x.turn.t]) i2 rfl
  have e3 : W3.cell? ⟨n3, 3, none⟩ = some (.int .i64 x.turn.d) := cell_of_cells (T := 37) (cs := [.int .i64 x.turn.k, .int .i64 x.turn.s, .int .i64 x.turn.f, .int .i64 x.turn.d, .int .i64 x.turn.t]) i2 rfl
  have e4 : W3.cell? ⟨n3, 4, none⟩ = some (.int .i64 x.turn.t) := cell_of_cells (T := 37) (cs := [.int .i64 x.turn.k, .int .i64 x.turn.s, .int .i64 x.turn.f, .int .i64 x.turn.d, .int .i64 x.turn.t]) i2 rfl
  go_upto_if 9 with (go_at_call 41; refine (key_less x.turn x _).mono ?_; rintro e w4 ⟨rfl, hw4⟩)
  have hw4' : GF W3 w4 := hw4
  have j0 := hw4'.heap i0
  have j1 := hw4'.heap i1
  have j2 := hw4'.heap i2
  have jg : GF W w4 := ig.trans hw4'
  clear hw4 hw4' i0 i1 i2 ig d0 d1 d2 d3 d4 e0 e1 e2 e3 e4
  have d0 : w4.cell? ⟨W.heap.size, 0, none⟩ = some (.int .i64 x.k) := cell_of_cells (T := 37) (cs := [.int .i64 x.k, .int .i64 x.s, .int .i64 x.f, .int .i64 x.d, .int .i64 x.t]) j0 rfl
  have d1 : w4.cell? ⟨W.heap.size, 1, none⟩ = some (.int .i64 x.s) := cell_of_cells (T := 37) (cs := [.int .i64 x.k, .int .i64 x.s, .int .i64 x.f, .int .i64 x.d, .int .i64 x.t]) j0 rfl
  have d2 : w4.cell? ⟨W.heap.size, 2, none⟩ = some (.int .i64 x.f) := cell_of_cells (T := 37) (cs := [.int .i64 x.k, .int .i64 x.s, .int .i64 x.f, .int .i64 x.d, .int .i64 x.t]) j0 rfl
  have d3 : w4.cell? ⟨W.heap.size, 3, none⟩ = some (.int .i64 x.d) := cell_of_cells (T := 37) (cs := [.int .i64 x.k, .int .i64 x.s, .int .i64 x.f, .int .i64 x.d, .int .i64 x.t]) j0 rfl
  have d4 : w4.cell? ⟨W.heap.size, 4, none⟩ = some (.int .i64 x.t) := cell_of_cells (T := 37) (cs := [.int .i64 x.k, .int .i64 x.s, .int .i64 x.f, .int .i64 x.d, .int .i64 x.t]) j0 rfl
  have e0 : w4.cell? ⟨n3, 0, none⟩ = some (.int .i64 x.turn.k) := cell_of_cells (T := 37) (cs := [.int .i64 x.turn.k, .int .i64 x.turn.s, .int .i64 x.turn.f, .int .i64 x.turn.d, .int .i64 x.turn.t]) j2 rfl
  have e1 : w4.cell? ⟨n3, 1, none⟩ = some (.int .i64 x.turn.s) := cell_of_cells (T := 37) (cs := [.int .i64 x.turn.k, .int .i64 x.turn.s, .int .i64 x.turn.f, .int .i64 x.turn.d, .int .i64 x.turn.t]) j2 rfl
  have e2 : w4.cell? ⟨n3, 2, none⟩ = some (.int .i64 x.turn.f) := cell_of_cells (T := 37) (cs := [.int .i64 x.turn.k, .int .i64 x.turn.s, .int .i64 x.turn.f, .int .i64 x.turn.d, .int .i64 x.turn.t]) j2 rfl
  have e3 : w4.cell? ⟨n3, 3, none⟩ = some (.int .i64 x.turn.d) := cell_of_cells (T := 37) (cs := [.int .i64 x.turn.k, .int .i64 x.turn.s, .int .i64 x.turn.f, .int .i64 x.turn.d, .int .i64 x.turn.t]) j2 rfl
  have e4 : w4.cell? ⟨n3, 4, none⟩ = some (.int .i64 x.turn.t) := cell_of_cells (T := 37) (cs := [.int .i64 x.turn.k, .int .i64 x.turn.s, .int .i64 x.turn.f, .int .i64 x.turn.d, .int .i64 x.turn.t]) j2 rfl
  have z0 : w4.cell? ⟨W.heap.size + 1, 0, none⟩ = some (.int .i64 0) := cell_of_cells (T := 37) (cs := [.int .i64 0, .int .i64 0, .int .i64 0, .int .i64 0, .int .i64 0]) j1 rfl
  have f0 : w4.frozen? ⟨W.heap.size + 1, 0, none⟩ = false := by simp [World.frozen?, j1]
  have z1 : w4.cell? ⟨W.heap.size + 1, 1, none⟩ = some (.int .i64 0) := cell_of_cells (T := 37) (cs := [.int .i64 0, .int .i64 0, .int .i64 0, .int .i64 0, .int .i64 0]) j1 rfl
  have f1 : w4.frozen? ⟨W.heap.size + 1, 1, none⟩ = false := by simp [World.frozen?, j1]
  have z2 : w4.cell? ⟨W.heap.size + 1, 2, none⟩ = some (.int .i64 0) := cell_of_cells (T := 37) (cs := [.int .i64 0, .int .i64 0, .int .i64 0, .int .i64 0, .int .i64 0]) j1 rfl
  have f2 : w4.frozen? ⟨W.heap.size + 1, 2, none⟩ = false := by simp [World.frozen?, j1]
  have z3 : w4.cell? ⟨W.heap.size + 1, 3, none⟩ = some (.int .i64 0) := cell_of_cells (T := 37) (cs := [.int .i64 0, .int .i64 0, .int .i64 0, .int .i64 0, .int .i64 0]) j1 rfl
  have f3 : w4.frozen? ⟨W.heap.size + 1, 3, none⟩ = false := by simp [World.frozen?, j1]
  have z4 : w4.cell? ⟨W.heap.size + 1, 4, none⟩ = some (.int .i64 0) := cell_of_cells (T := 37) (cs := [.int .i64 0, .int .i64 0, .int .i64 0, .int .i64 0, .int .i64 0]) j1 rfl
  have f4 : w4.frozen? ⟨W.heap.size + 1, 4, none⟩ = false := by simp [World.frozen?, j1]
  by_cases hlt : x.turn.cmp x < 0
  · have hd : decide (x.turn.cmp x < 0) = true := decide_eq_true hlt
    have hfst : x.first = x.turn := if_pos hlt
    go_wp2
    refine bodyPost_ret (results_cells (T := 37) (cs := [.int .i64 x.turn.k, .int .i64 x.turn.s, .int .i64 x.turn.f, .int .i64 x.turn.d, .int .i64 x.turn.t]) rfl rfl (fun j v hj => ?_) rfl) rfl ⟨by first | rfl | rw [hfst], (((((jg.setCell _ (Nat.le_succ _)).setCell _ (Nat.le_succ _)).setCell _ (Nat.le_succ _)).setCell _ (Nat.le_succ _)).setCell _ (Nat.le_succ _))⟩
    rcases j with _ | _ | _ | _ | _ | j
    all_goals simp at hj
    all_goals (subst hj; simp [go_sem, z0, z1, z2, z3, z4])
  · have hd : decide (x.turn.cmp x < 0) = false := decide_eq_false hlt
    have hfst : x.first = x := if_neg hlt
    go_wp2
    refine bodyPost_ret (results_cells (T := 37) (cs := [.int .i64 x.k, .int .i64 x.s, .int .i64 x.f, .int .i64 x.d, .int .i64 x.t]) rfl rfl (fun j v hj => ?_) rfl) rfl ⟨by first | rfl | rw [hfst], (((((jg.setCell _ (Nat.le_succ _)).setCell _ (Nat.le_succ _)).setCell _ (Nat.le_succ _)).setCell _ (Nat.le_succ _)).setCell _ (Nat.le_succ _))⟩
    rcases j with _ | _ | _ | _ | _ | j
    all_goals simp at hj
    all_goals (subst hj; simp [go_sem, z0, z1, z2, z3, z4])
/-- The cells of a key, at the head of a flow. -/
def KeyAt (w : World) (b : Nat) (x : Fl) : Prop := w.cell? ⟨b, 0, none⟩ = some (.int .i64 x.k) ∧ w.cell? ⟨b, 1, none⟩ = some (.int .i64 x.s) ∧ w.cell? ⟨b, 2, none⟩ = some (.int .i64 x.f) ∧ w.cell? ⟨b, 3, none⟩ = some (.int .i64 x.d) ∧ w.cell? ⟨b, 4, none⟩ = some (.int .i64 x.t)
theorem keyAt_of {w : World} {b : Nat} {x : Fl} (h : w.heap[b]? = some (Obj.cells x.row.toArray 45)) : KeyAt w b x := ⟨cell_of_cells (T := 45) (cs := x.row) h rfl, cell_of_cells (T := 45) (cs := x.row) h rfl, cell_of_cells (T := 45) (cs := x.row) h rfl, cell_of_cells (T := 45) (cs := x.row) h rfl, cell_of_cells (T := 45) (cs := x.row) h rfl⟩
/-- Both flows lie there still; new blocks, draws: nothing else. -/
structure Both (W : World) (x y : Fl) (w : World) : Prop where
  hX : w.heap[W.heap.size]? = some (Obj.cells x.row.toArray 45)
  hY : w.heap[W.heap.size + 1]? = some (Obj.cells y.row.toArray 45)
  hg : GF W w
theorem Both.step {W w w' : World} {x y : Fl} (h : Both W x y w) (h' : GF w w') : Both W x y w' := ⟨h'.heap h.hX, h'.heap h.hY, h.hg.trans h'⟩
theorem Both.drew {W w : World} {x y : Fl} (h : Both W x y w) : Both W x y w.drew := ⟨h.hX, h.hY, h.hg.trans ⟨1, #[], by rw [grow_empty]; rfl⟩⟩
attribute [local irreducible] Calls
set_option maxRecDepth 100000 in
set_option maxHeartbeats 400000 in
theorem fl_less (x y : Fl) (W : World) : Calls Tryz.prog 43 #[.agg x.row.toArray, .agg y.row.toArray] W fun e w' => e = .returned (.int .i64 (K5.cmp x.fk y.fk)) ∧ GF W w' := by
  go_enter Tryz.func43, Tryz.ntmps43
  go_upto_region 1 with fail
  have hX : ((W.alloc (Obj.cells x.row.toArray 45)).alloc (Obj.cells y.row.toArray 45)).heap[W.heap.size]? = some (Obj.cells x.row.toArray 45) := alloc_old (heap_alloc_new _ _)
  have hY : ((W.alloc (Obj.cells x.row.toArray 45)).alloc (Obj.cells y.row.toArray 45)).heap[W.heap.size + 1]? = some (Obj.cells y.row.toArray 45) := by
    have := heap_alloc_new (W.alloc (Obj.cells x.row.toArray 45)) (Obj.cells y.row.toArray 45)
    rwa [show (W.alloc (Obj.cells x.row.toArray 45)).heap.size = W.heap.size + 1 from Array.size_push _] at this
  have hg : GF W ((W.alloc (Obj.cells x.row.toArray 45)).alloc (Obj.cells y.row.toArray 45)) := ((GF.refl W).alloc _).alloc _
  have hB : Both W x y ((W.alloc (Obj.cells x.row.toArray 45)).alloc (Obj.cells y.row.toArray 45)) := ⟨hX, hY, hg⟩
  clear hX hY hg
  generalize ((W.alloc (Obj.cells x.row.toArray 45)).alloc (Obj.cells y.row.toArray 45)) = W1 at hB ⊢
  obtain ⟨d0, d1, d2, d3, d4⟩ := keyAt_of hB.hX
  obtain ⟨e0, e1, e2, e3, e4⟩ := keyAt_of hB.hY
  go_region_held3 (fun w' => w'.cell? ⟨W.heap.size, 0, none⟩ = some (.int .i64 x.k) ∧ w'.cell? ⟨W.heap.size, 1, none⟩ = some (.int .i64 x.s) ∧ w'.cell? ⟨W.heap.size, 2, none⟩ = some (.int .i64 x.f) ∧ w'.cell? ⟨W.heap.size, 3, none⟩ = some (.int .i64 x.d) ∧ w'.cell? ⟨W.heap.size, 4, none⟩ = some (.int .i64 x.t) ∧ w'.cell? ⟨W.heap.size + 1, 0, none⟩ = some (.int .i64 y.k) ∧ w'.cell? ⟨W.heap.size + 1, 1, none⟩ = some (.int .i64 y.s) ∧ w'.cell? ⟨W.heap.size + 1, 2, none⟩ = some (.int .i64 y.f) ∧ w'.cell? ⟨W.heap.size + 1, 3, none⟩ = some (.int .i64 y.d) ∧ w'.cell? ⟨W.heap.size + 1, 4, none⟩ = some (.int .i64 y.t))
    (first | exact ⟨d0, d1, d2, d3, d4, e0, e1, e2, e3, e4⟩ | exact ⟨p0, p1, p2, p3, p4, q0, q1, q2, q3, q4⟩ | exact ⟨r0, r1, r2, r3, r4, s0, s1, s2, s3, s4⟩ | exact ⟨t0, t1, t2, t3, t4, u0, u1, u2, u3, u4⟩)
    (first
    | (go_at_call 32; refine (first_ex x.key _).mono ?_; rintro e w2 ⟨rfl, hw2⟩; have hB2 : Both W x y w2 := hB.drew.step hw2; clear hw2; obtain ⟨p0, p1, p2, p3, p4⟩ := keyAt_of hB2.hX; obtain ⟨q0, q1, q2, q3, q4⟩ := keyAt_of hB2.hY; unfold kv5)
    | (go_at_call 32; refine (first_ex y.key _).mono ?_; rintro e w3 ⟨rfl, hw3⟩; have hB3 : Both W x y w3 := hB2.step hw3; clear hw3; obtain ⟨r0, r1, r2, r3, r4⟩ := keyAt_of hB3.hX; obtain ⟨s0, s1, s2, s3, s4⟩ := keyAt_of hB3.hY; unfold kv5)
    | (go_at_call 41; refine (key_less x.key.first y.key.first _).mono ?_; rintro e w4 ⟨rfl, hw4⟩; have hB4 : Both W x y w4 := hB3.step hw4; clear hw4; obtain ⟨t0, t1, t2, t3, t4⟩ := keyAt_of hB4.hX; obtain ⟨u0, u1, u2, u3, u4⟩ := keyAt_of hB4.hY))
  all_goals
    go_wp2
    go_ret
    exact ⟨rfl, hB4.hg⟩
noncomputable def cfF (x y : Fl) : Int := K5.cmp x.fk y.fk
theorem cfF_swo : SWO (ltOf cfF) where
  irrefl x := decide_eq_false (k5_irr x.fk)
  trans x y z h1 h2 := decide_eq_true (k5_trans (of_decide_eq_true h1) (of_decide_eq_true h2))
  ntrans x y z h1 h2 := decide_eq_false fun h3 => by
    have g1 : ¬ K5.cmp x.fk y.fk < 0 := of_decide_eq_false h1
    have g2 : ¬ K5.cmp y.fk z.fk < 0 := of_decide_eq_false h2
    have g3 : K5.cmp x.fk z.fk < 0 := h3
    by_cases h4 : K5.cmp y.fk x.fk < 0
    · exact g2 (k5_trans h4 g3)
    · have h5 := k5_tot g1 h4
      rw [h5] at g3
      exact g2 g3
theorem insF_0 (A : Option Addr) (cap : Nat) (w : World) : Calls Tryz.prog 96 #[.slice A 0 cap, .int .i64 0, .int .i64 0, .func (.func 43) #[] #[]] w (Ret w [] (isV (.tuple #[]))) := by
  refine cx_enter (args := [.slice A 0 cap, .int .i64 0, .int .i64 0, .func (.func 43) #[] #[]]) (F := [(0, .slice A 0 cap), (1, .int .i64 0), (2, .int .i64 0), (3, .func (.func 43) #[] #[])]) _ [] Tryz.func96 rfl Tryz.ntmps96 (by simp) rfl (Mem.refl _) (fun g => ?_)
  repeat' (first | ((with_reducible refine at_op ?_); first | ((with_reducible refine at_move ?_); refine sx_move _ vf ?_) | ((with_reducible refine at_bin ?_); refine sx_add rfl rfl bnd ?_) | ((with_reducible refine at_assign ?_); refine sx_assign _ vf ?_)) | refine sx_nil ?_ | ((with_reducible refine at_code ?_); first | refine cx_seq ?_ | refine cx_region ?_ | refine cx_block ?_) | ((with_reducible refine at_exit ?_); refine qx_then ?_))
  refine cx_loop (fun mm fr L => FF fr [(2, .int .i64 0), (8, .int .i64 1)]) 0 ffr ?_
  rintro mm fr L hF K hK
  refine cx_use hF fun g => ?_
  clear hF
  repeat' (first | ((with_reducible refine at_op ?_); first | ((with_reducible refine at_move ?_); refine sx_move _ vf ?_) | ((with_reducible refine at_bin ?_); refine sx_lss rfl rfl ?_)) | refine sx_nil ?_ | ((with_reducible refine at_code ?_); first | refine cx_seq ?_ | refine cx_region ?_ | refine cx_exit ?_ | refine cx_false rfl ?_) | ((with_reducible refine at_exit ?_); first | refine qx_then ?_ | refine qx_in_here ?_ | refine qx_then_exit ?_))
  all_goals first
    | (exfalso; omega)
    | exact qx_end0 [] rfl ⟨rfl, rfl⟩ (fun w hm => hm.nil)
    | exact qx_ret0 [] rfl ⟨rfl, rfl⟩ (fun w hm => hm.nil)
theorem pdqF_0 (A : Option Addr) (cap : Nat) (w : World) : Calls Tryz.prog 71 #[.slice A 0 cap, .int .i64 0, .int .i64 0, .int .i64 0, .func (.func 43) #[] #[]] w (Ret w [] (isV (.tuple #[]))) := by
  refine cx_enter (args := [.slice A 0 cap, .int .i64 0, .int .i64 0, .int .i64 0, .func (.func 43) #[] #[]]) (F := [(0, .slice A 0 cap), (1, .int .i64 0), (2, .int .i64 0), (3, .int .i64 0), (4, .func (.func 43) #[] #[])]) _ [] Tryz.func71 rfl Tryz.ntmps71 (by simp) rfl (Mem.refl _) (fun g => ?_)
  repeat' (first | ((with_reducible refine at_op ?_); ((with_reducible refine at_assign ?_); refine sx_assign _ vf ?_)) | refine sx_nil ?_ | ((with_reducible refine at_code ?_); first | refine cx_seq ?_ | refine cx_region ?_ | refine cx_block ?_) | ((with_reducible refine at_exit ?_); refine qx_then ?_))
  refine cx_loop (fun mm fr L => FF fr [(0, .slice A 0 cap), (1, .int .i64 0), (2, .int .i64 0), (3, .int .i64 0), (4, .func (.func 43) #[] #[])]) 0 ffr ?_
  rintro mm fr L hF K hK
  refine cx_use hF fun g => ?_
  clear hF
  repeat' (first | ((with_reducible refine at_call 96 ?_); refine sx_callv (fun w hm => insF_0 _ _ _) ?_ rfl) | ((with_reducible refine at_op ?_); first | ((with_reducible refine at_move ?_); refine sx_move _ vf ?_) | ((with_reducible refine at_bin ?_); first | refine sx_leq rfl rfl ?_ | refine sx_sub rfl rfl bnd ?_) | ((with_reducible refine at_assign ?_); refine sx_assign _ vf ?_)) | refine sx_nil ?_ | ((with_reducible refine at_code ?_); first | refine cx_seq ?_ | refine cx_region ?_ | refine cx_ret ?_ | refine cx_block ?_ | refine cx_true rfl ?_) | ((with_reducible refine at_exit ?_); first | refine qx_then ?_ | refine qx_in_ret ?_ | refine qx_then_ret ?_))
  all_goals first
    | (exfalso; omega)
    | exact qx_ret0 [] rfl ⟨rfl, rfl⟩ (fun w hm => hm.nil)
theorem sortF_0 (A : Option Addr) (cap : Nat) (w : World) : Calls Tryz.prog 42 #[.slice A 0 cap, .func (.func 43) #[] #[]] w (Ret w [] (isV (.tuple #[]))) := by
  refine cx_enter (args := [.slice A 0 cap, .func (.func 43) #[] #[]]) (F := [(0, .slice A 0 cap), (1, .func (.func 43) #[] #[])]) _ [] Tryz.func42 rfl Tryz.ntmps42 (by simp) rfl (Mem.refl _) (fun g => ?_)
  repeat' (first | ((with_reducible refine at_call 68 ?_); refine sx_callv (fun w hm => bits_0 _) ?_ rfl) | ((with_reducible refine at_call 71 ?_); refine sx_callv (fun w hm => pdqF_0 _ _ _) ?_ rfl) | ((with_reducible refine at_op ?_); first | ((with_reducible refine at_move ?_); refine sx_move _ vf ?_) | ((with_reducible refine at_assign ?_); refine sx_assign _ vf ?_) | ((with_reducible refine at_conv ?_); refine sx_convU64m rfl ?_) | refine sx_len rfl ?_) | refine sx_nil ?_ | ((with_reducible refine at_code ?_); first | refine cx_seq ?_ | refine cx_region ?_) | ((with_reducible refine at_exit ?_); refine qx_then ?_))
  first
    | exact qx_end0 [] rfl ⟨rfl, rfl⟩ (fun w hm => hm.nil)
    | exact qx_ret0 [] rfl ⟨rfl, rfl⟩ (fun w hm => hm.nil)
instance : Inhabited Fl := ⟨Fl.zero⟩
/-- The sort of a row of the call's own. -/
theorem sort_flows {A : Option Addr} {m cap : Nat} {l : List Fl} {c : Ch} {w : World} (hM : Mem w w (c.map (·.1)) [c]) (ho : OwnS 45 15 (.slice A m cap) m (rowsG Fl.row l) c) (hml : m = l.length) (hm : m ≤ 100000) :
    Calls Tryz.prog 42 #[.slice A m cap, .func (.func 43) #[] #[]] w (Ret w (c.map (·.1)) (fun v L => v = .tuple #[] ∧ ∃ (d : List Fl) (c' : Ch), L = [c'] ∧ OwnS 45 15 (.slice A m cap) m (rowsG Fl.row d) c' ∧ d.Perm l ∧ d.Pairwise (fun x y => ltOf cfF y x = false))) := by
  have hk3 : ∀ x : Fl, x.row.length = 15 := fun _ => rfl
  subst hml
  by_cases h0 : l.length = 0
  · have hl : l = [] := List.eq_nil_of_length_eq_zero h0
    subst hl
    refine (sortF_0 A cap w).mono fun e w' h => ?_
    obtain ⟨v, L, rfl, hm', rfl, rfl⟩ := h
    refine ⟨_, [c], rfl, ?_, rfl, [], c, rfl, ho, List.Perm.refl _, List.Pairwise.nil⟩
    have hk := hM.call0 (w' := w') hm'
    exact hk
  have hf : ∃ b ext, A = some ⟨b, 0, none⟩ ∧ c = [(b, .cells (rowsG Fl.row l ++ ext).toArray 45 (0, 0))] ∧ l.length ≤ cap ∧ cap ≤ maxLen ∧ (rowsG Fl.row l ++ ext).length = cap * 15 := by
    rcases ho.2 with ⟨_, h0', _⟩ | ⟨b, cap', ext, hv, h1, h2, h3, hc⟩
    · omega
    · simp only [Value.slice.injEq] at hv
      obtain ⟨rfl, _, rfl⟩ := hv
      exact ⟨b, ext, rfl, hc, h1, h2, h3⟩
  obtain ⟨b, ext, rfl, rfl, hcap, hmax, hcl⟩ := hf
  have hb : w.heap[b]? = some (.cells (rowsG Fl.row l ++ ext).toArray 45 (0, 0)) := hM.head (b, _) (List.Mem.head _)
  have eg : ∀ args w, (callFunc 43 args).run Tryz.prog w = .ok (.enter 43 args) w := enters_of Tryz.func43 (by kernel_rfl) rfl
  have hcon := Tryz.slices_SortFunc_f42 (α := Fl) 15 Tryz.isAgg45 Tryz.sizeOf45 Fl.row hk3 (fun x v hv => by simp [Fl.row] at hv; rcases hv with rfl | rfl | rfl | rfl | rfl | rfl | rfl | rfl | rfl | rfl | rfl | rfl | rfl | rfl | rfl <;> rfl) cfF cfF_swo 43 #[] b 0 cap l.toArray w eg (fun _ _ _ _ x y => fl_less x y _) (holdsG_rows hk3 (by decide) (l := l) hb) (heap_lt hb) (by simp; omega)
  rw [List.size_toArray] at hcon
  refine hcon.mono fun e w' h => ?_
  obtain ⟨rfl, d', n, os, hp, hs, hw⟩ := h
  obtain ⟨hsz, hperm⟩ := permG_of (d := l.toArray) (d' := d') (by simpa using hp)
  have hmem := sortedG_mem hk3 (by decide) (d := l.toArray) (d' := d') (ext := ext) hb hw hsz
  have hdl : d'.toList.length = l.length := by rw [Array.length_toList, hsz]; simp
  refine ⟨_, [[(b, .cells (rowsG Fl.row d'.toList ++ ext).toArray 45 (0, 0))]], rfl, hmem, rfl, d'.toList, _, rfl, ⟨by rw [rowsG_len hk3, hdl], .inr ⟨b, cap, ext, rfl, hcap, hmax, ?_, rfl⟩⟩, by simpa using hperm, ?_⟩
  · rw [List.length_append, rowsG_len hk3] at hcl ⊢
    rw [hdl]; exact hcl
  · exact sortedG_pair (by rw [hsz]; simpa using hs)
end Go.Proofs.YtghnjmjdaggopaaGreatDoor
