/- frag: what the walk of FragBack needs besides: where a piece lies; ticks of a bad heap. -/
import Derived.Test.YtlpdapfihgpheaaDoorFragG
set_option linter.unusedSimpArgs false
set_option linter.unusedVariables false
namespace Go.Port
open Go.RowKit
/-- Where a piece lies: not in what is held ahead. -/
theorem piece_at {w0 w : World} {D : List Nat} {c cb : Ch} {L : List Ch} {A : Option Addr} {n cp i : Nat} {l : List Int} (hm : Mem w0 w D (c :: L)) (hi : L[i]? = some cb) (h : ∀ w, Has w cb → IsRow w .u8 A n cp l) :
    ∃ z o, 0 < n → A = some ⟨z, o, none⟩ ∧ z < w.heap.size ∧ z ∉ c.map (·.1) ∧ CellsAt w z o (l.map (Value.int .u8)) := by
  have hcb : Has w cb := hm.at (i + 1) hi
  obtain ⟨h1, h0 | ⟨z, o, rfl, hz, hc, hx⟩⟩ := h w hcb
  · exact ⟨0, 0, fun h => absurd h (by omega)⟩
  · refine ⟨z, o, fun hn => ⟨rfl, hz, fun hzc => ?_, hx⟩⟩
    have hnd := hm.nodup
    rw [List.flatten_cons, List.map_append, List.nodup_append] at hnd
    have hzb : z ∉ cb.map (·.1) := fun h2 => hnd.2.2 z hzc z (by
      obtain ⟨e, he, hez⟩ := List.mem_map.1 h2
      exact List.mem_map.2 ⟨e, List.mem_flatten.2 ⟨cb, List.mem_of_getElem? hi, he⟩, hez⟩) rfl
    have hcb' : Has { w with heap := w.heap.setIfInBounds z (.map #[] 0) } cb := fun e he => by
      show (w.heap.setIfInBounds z (.map #[] 0))[e.1]? = some e.2
      rw [Array.getElem?_setIfInBounds, if_neg (fun h3 : z = e.1 => hzb (h3 ▸ List.mem_map_of_mem (f := fun x : Nat × Obj => x.1) he))]
      exact hcb e he
    obtain ⟨h1', h0 | ⟨z', o', he, _, _, hx'⟩⟩ := h _ hcb'
    · omega
    · obtain ⟨rfl, rfl⟩ : z = z' ∧ o = o' := by simpa using he
      have hlen : 0 < (l.map (Value.int .u8)).length := by rw [h1']; omega
      have h4 := hx' 0 _ (List.getElem?_eq_getElem hlen)
      unfold World.cell? at h4
      rw [show ({ w with heap := w.heap.setIfInBounds z (.map #[] 0) } : World).heap[z]? = some (.map #[] 0) from Array.getElem?_setIfInBounds_self_of_lt hz] at h4
      cases h4
theorem row_cap {w : World} {A : Option Addr} {n cp : Nat} {l : List Int} (h : IsRow w .u8 A n cp l) (hn : 0 < n) : n ≤ cp := by
  obtain ⟨_, h0 | ⟨_, _, _, _, hc, _⟩⟩ := h
  · omega
  · exact hc
/-- How many are left. -/
theorem count_set : ∀ {bs : List Bool} {x : Nat}, bs[x]? = some false → bs.count false = (bs.set x true).count false + 1
  | [], x, h => by cases h
  | b :: bs, 0, h => by
    obtain rfl : b = false := by simpa using h
    simp
  | b :: bs, x + 1, h => by
    have h1 : bs[x]? = some false := by simpa using h
    rw [List.set_cons_succ, List.count_cons, List.count_cons, count_set h1]
    omega
theorem left_none {bs : List Bool} : bs.count false = 0 ↔ false ∉ bs := List.count_eq_zero
/-- The body that is told of a whole packet. -/
theorem done_row {w : World} {T : TypeId} {fr : Nat × Nat} {bb : Nat} {zs l : List Int} (h : Has w [(bb, .cells (zs.map (Value.int .u8)).toArray T fr)]) (hz : zs.take l.length = l) : IsRow w .u8 (some ⟨bb, 0, none⟩) l.length l.length l := by
  refine ⟨by simp, .inr ⟨bb, 0, rfl, heap_lt (h _ (List.Mem.head _)), Nat.le_refl _, fun i u hu => ?_⟩⟩
  refine cell_of_cells (k := 0 + i) (h _ (List.Mem.head _)) ?_
  rw [Nat.zero_add, List.getElem?_map]
  rw [List.getElem?_map] at hu
  have h1 : l[i]? = zs[i]? := by
    have hi : i < l.length := by
      rcases Nat.lt_or_ge i l.length with h | h
      · exact h
      · rw [List.getElem?_eq_none h] at hu; cases hu
    have h2 : (zs.take l.length)[i]? = l[i]? := by rw [hz]
    rw [List.getElem?_take, if_pos hi] at h2
    exact h2.symm
  rw [← h1]
  exact hu
end Go.Port
namespace Go.Proofs.YtlpdapfihgpheaaDoor
open Go.RowKit Go.Port
attribute [local irreducible] Calls
section
variable {w0 : World} {D : List Nat} {n q : Nat} {ops : Array Oper} {Q : Exit → Act → World → Prop} {g : Nat → Value} {F : List (Nat × Value)} {L : List Ch}
variable {rest : List Oper} {ty : TypeId} {pos : String} {af : Array Edge} {d : Nat}
theorem sx_neqB {x y : Operand} {a b : Bool} {t2 : TypeId} (hx : evn n (get g F) x = .bool a) (hy : evn n (get g F) y = .bool b) (h : SX Tryd.prog w0 D n q ops Q rest g ((d, .bool (!(a == b))) :: F) L) :
    SX Tryd.prog w0 D n q ops Q ({ dst := some d, op := .binOp .neq 4 x y t2, type := ty, pos := pos, after := af, guard := none } :: rest) g F L :=
  sx_run (.bool (!(a == b))) rfl rfl (fun w _ => by
    have h1 : (Op.equalIn 10000 4 (.bool a) (.bool b)).run Tryd.prog w = .ok (a == b) w := by
      rw [show (10000 : Nat) = 9999 + 1 from rfl]; exact run_equalIn_bool (P := Tryd.prog) w 9999 4 a b Tryd.underlying4
    have h2 : (binOp .neq 4 (.bool a) (.bool b)).run Tryd.prog w = .ok (.bool (!(a == b))) w := by
      show (do pure (Value.bool !(← Op.equalIn 10000 4 (.bool a) (.bool b))) : Sem Value).run Tryd.prog w = _
      rw [Sem.run_bind, h1]; rfl
    have h3 : (eqGuard .neq 4 x y (.bool a) (.bool b)).run Tryd.prog w = .ok () w := rfl
    simp only [execOp, hx, hy, Sem.run_bind, h3, Result.andThen_ok, h2]
    rfl) h
end
theorem tick_60 {pb r ck : Nat} {y : He Nm} {w : World} {D : List Nat} (hE : PoolOk [y] ck) (hbg : y.h.began = 1) (hD : D = (poolP 60 3 pb r ck [y]).map (·.1)) (hM : Mem w w D [poolP 60 3 pb r ck [y]]) :
    Calls Tryd.prog 12 #[.pointer (some ⟨pb, 0, none⟩), .int .i64 60] w (Ret w D (fun v L => v = .tuple #[.int .i64 0, .nilIface] ∧ L = [poolP 60 60 pb r ck [y]])) := by
  subst hD
  refine (frag_Tick (life := 60) (t := 60) (hs := [y].flatMap heapCh) hE (by simp) (by omega) (by omega) (fun z hz => by obtain rfl : z = y := (by simpa using hz); omega) (fun w' h' z hz => heap_cell h' z hz) hM).mono fun e W' hR => hR.mono fun v L h => ?_
  have hl : liveH 60 60 [y] = [y] := live_all fun z hz => by
    obtain rfl : z = y := (by simpa using hz)
    omega
  rw [live_is, hl] at h
  rcases h with ⟨e, h1, _⟩ | ⟨_, rfl, rfl⟩
  · omega
  · exact ⟨by simp, rfl⟩
theorem tick_61 {pb r ck : Nat} {y : He Nm} {w : World} {D : List Nat} (hE : PoolOk [y] ck) (hbg : y.h.began = 1) (hD : D = (poolP 60 60 pb r ck [y]).map (·.1)) (hM : Mem w w D [poolP 60 60 pb r ck [y]]) :
    Calls Tryd.prog 12 #[.pointer (some ⟨pb, 0, none⟩), .int .i64 61] w (Ret w D (fun v L => v = .tuple #[.int .i64 1, .nilIface] ∧ ∃ c, L = [c])) := by
  subst hD
  refine (frag_Tick (life := 60) (t := 61) (hs := [y].flatMap heapCh) hE (by simp) (by omega) (by omega) (fun z hz => by obtain rfl : z = y := (by simpa using hz); omega) (fun w' h' z hz => heap_cell h' z hz) hM).mono fun e W' hR => hR.mono fun v L h => ?_
  have hl : liveH 60 61 [y] = [] := by
    unfold liveH
    rw [List.filter_cons, hbg, if_neg (by decide)]
    rfl
  rw [live_is, hl] at h
  rcases h with ⟨e, h1, _⟩ | ⟨_, rfl, rfl⟩
  · omega
  · exact ⟨by simp, _, rfl⟩
end Go.Proofs.YtlpdapfihgpheaaDoor
