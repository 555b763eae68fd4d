/- Steps of a call: make of a row, clear, appends of a make onto a row, appends in place, copies; slices with three bounds. No program here. -/
import Derived.Test.YtlpdapfihgpheaaDoorSxTx
import Derived.Lib.AppendZerosOnto
import Derived.Laws.MakeOwn
import Derived.Lib.Overlaps
set_option linter.unusedSimpArgs false
set_option linter.unusedVariables false
namespace Go.Port
open Go.RowKit Go.Lib
theorem zeros_one (z : Value) (c : Nat) : (madeCells #[z] (c * 1)) = (List.replicate c z).toArray := by
  apply Array.ext
  · simp [madeCells]
  · intro i h1 h2
    simp [madeCells, Nat.mod_one]
theorem zero_cells_mem {zc : Array Value} {n : Nat} (h0 : 0 < zc.size) (h : ∀ v ∈ zc.toList, oneB v = true) : ∀ v ∈ (Builtin.zeroCells zc n).toList, oneB v = true := by
  intro v hv
  simp only [Builtin.zeroCells, Array.toList_map, List.mem_map, Array.toList_range, List.mem_range] at hv
  obtain ⟨i, _, rfl⟩ := hv
  have hlt : i % zc.size < zc.size := Nat.mod_lt _ h0
  refine h _ ?_
  rw [getElem!_pos zc (i % zc.size) hlt]
  exact Array.getElem_mem_toList hlt
section
variable {P : Program} {w0 : World} {D : List Nat} {n q : Nat} {ops : Array Oper} {Q : Exit → Act → World → Prop} {g : Nat → Value} {F : List (Nat × Value)} {L : List Ch}
variable {rest : List Oper} {ty : TypeId} {pos : String} {af : Array Edge} {d : Nat}
/-- make([]T, m, c): parts of one cell. -/
theorem sx_makeSlice {T E bytes : Nat} {z : Value} [SlT P T E 1 bytes z] {x y : Operand} {m c : Nat} {a b : Int} (hx : evn n (get g F) x = .int .i64 a) (hy : evn n (get g F) y = .int .i64 b) (ha : a = m) (hb : b = c) (hmc : m ≤ c) (hz : oneB z = true) (hc : c * bytes ≤ 140737488355328) (hc' : c ≤ 140737488355328)
    (h : ∀ k, SX P w0 D n 0 ops Q rest g ((d, .slice (some ⟨k, 0, none⟩) m c) :: F) ([(k, .cells (List.replicate c z).toArray E (0, 0))] :: L)) :
    SX P w0 D n 0 ops Q ({ dst := some d, op := .makeSlice T x y, type := ty, pos := pos, after := af, guard := none } :: rest) g F L :=
  .mk fun w hm => wpList_plain rfl fun K hK => by
    subst ha hb
    have ht := SlT.und (P := P) (T := T) (E := E) (sz := 1) (bytes := bytes) (z := z)
    obtain ⟨i, hi, hzz, hsize, hbytes⟩ := info_parts (SlT.info (P := P) (T := T) (E := E) (sz := 1) (bytes := bytes) (z := z))
    subst hbytes
    have hb2 : (i.bytes : Int) * (c : Int) ≤ 281474976710656 := by
      rw [← Int.natCast_mul, Nat.mul_comm]; omega
    have hr := run_make (P := P) w T E i z ht hi hzz .i64 .i64 (m : Int) (c : Int) (by omega) (by omega) hb2 (by omega)
    rw [Int.toNat_natCast, Int.toNat_natCast, hsize, one_cells hz, zeros_one] at hr
    unfold Oper.wp
    rw [Fr.evn]
    have he : (execOp (evn n (get g F)) { dst := some d, op := .makeSlice T x y, type := ty, pos := pos, after := af, guard := none }).run P w = .ok (.value (.slice (some ⟨w.heap.size, 0, none⟩) m c)) (w.alloc (.cells (List.replicate c z).toArray E)) := by
      show ((do pure (Next.value (← Instr.makeSlice T (evn n (get g F) x) (evn n (get g F) y)))) : Sem Next).run P w = _
      rw [hx, hy]
      exact run_v hr
    rw [he]
    show K ((Fr n (get g F)).put (some d) _) _
    rw [Fr.put, get_put]
    exact hK _ _ ((h w.heap.size).out _ (hm.new _))
/-- clear(s) -/
theorem sx_clear {T E sz bytes : Nat} {z : Value} [SlT P T E sz bytes z] {x : Operand} {b off len cap : Nat} {cs : List Value} {T' : TypeId} (hx : evn n (get g F) x = .slice (some ⟨b, off, none⟩) len cap) (hle : off + len * sz ≤ cs.length) (hz : ∀ v ∈ z.cells.toList, oneB v = true)
    (h : ∀ zs : List Value, zs.length = len * sz → SX P w0 D n 0 ops Q rest g F ([(b, .cells (splice cs off zs).toArray T' (0, 0))] :: L)) :
    SX P w0 D n 0 ops Q ({ dst := none, op := .call { callee := .builtin .clear, args := #[x], argTypes := #[T] }, type := ty, pos := pos, after := af, guard := none } :: rest) g F ([(b, .cells cs.toArray T' (0, 0))] :: L) :=
  .mk fun w hm => wpList_plain rfl fun K hK => by
    have ht := SlT.und (P := P) (T := T) (E := E) (sz := sz) (bytes := bytes) (z := z)
    have hzs := SlT.zs (P := P) (T := T) (E := E) (sz := sz) (bytes := bytes) (z := z)
    have hsz := SlT.szp (P := P) (T := T) (E := E) (sz := sz) (bytes := bytes) (z := z)
    obtain ⟨i, hi, hzz, hsize, hbytes⟩ := info_parts (SlT.info (P := P) (T := T) (E := E) (sz := sz) (bytes := bytes) (z := z))
    have hlen : (Builtin.zeroCells z.cells len).toList.length = len * sz := by rw [Array.length_toList, size_zeroCells, hzs]
    obtain ⟨w', r1, r2, r3, r4, r5, r6, r7⟩ := storeCells_run (P := P) (b := b) (T := T') (Builtin.zeroCells z.cells len).toList off 0 cs w (zero_cells_mem (by omega) hz) (by rw [hlen]; omega) (hm.head (b, .cells cs.toArray T' (0, 0)) (by simp))
    rw [Nat.add_zero] at r2
    have hr : (Builtin.clear_ #[T] ty #[.slice (some ⟨b, off, none⟩) len cap]).run P w = .ok (.tuple #[]) (if len = 0 then w else w') := by
      cases len with
      | zero => simp [Builtin.clear_, run_underlying ht]
      | succ k => simp [Builtin.clear_, run_underlying ht, zeroValue, typeInfo, hi, hzz, r1]
    unfold Oper.wp
    rw [Fr.evn]
    have he : (execOp (evn n (get g F)) { dst := none, op := .call { callee := .builtin .clear, args := #[x], argTypes := #[T] }, type := ty, pos := pos, after := af, guard := none }).run P w = .ok (.value (.tuple #[])) (if len = 0 then w else w') := by
      simp only [execOp, resolve, invoke, builtin, Sem.run_bind, Sem.run_pure, Result.andThen_ok, List.map_toArray, List.map_cons, List.map_nil, hx, hr]
    rw [he]
    show K ((Fr n (get g F)).put none _) _
    have hp : (Fr n (get g F)).put none (.tuple #[]) = Fr n (get g F) := rfl
    rw [hp]
    have hS := h (Builtin.zeroCells z.cells len).toList hlen
    by_cases h0 : len = 0
    · rw [if_pos h0]
      have e0 : (Builtin.zeroCells z.cells len).toList = [] := List.eq_nil_of_length_eq_zero (by rw [hlen, h0, Nat.zero_mul])
      rw [e0] at hS
      exact hK _ _ (hS.out _ hm)
    · rw [if_neg h0]
      exact hK _ _ (hS.out _ (hm.upd r3 r4 r5 (by omega) r2 fun k hk _ => r7 k hk))
/-- append(s, make([]T, k)...) where s has no room: a new row. -/
theorem sx_appendZO {T Tn E sz bytes : Nat} {z : Value} [SlT P T E sz bytes z] {s x : Operand} {b m k cap : Nat} {a : Int} {kn : IntKind} {cs : List Value} {T' : TypeId} {fr : Nat × Nat} (htn : P.underlying Tn = some (.int kn)) (hs : evn n (get g F) s = .slice (some ⟨b, 0, none⟩) m cap) (hx : evn n (get g F) x = .int .i64 a) (ha : a = k) (h0 : 0 < k) (hg : cap < m + k) (hk : m + k ≤ 1000000) (hby : bytes ≤ 100000)
    (hblk : ∀ w, Mem w0 w D L → w.heap[b]? = some (.cells cs.toArray T' fr)) (hle : m * sz ≤ cs.length)
    (h : ∀ b' cap' (zs : List Value), m + k ≤ cap' → cap' ≤ maxLen → zs.length = (cap' - m) * sz → SX P w0 D n 0 ops Q rest g ((d, .slice (some ⟨b', 0, none⟩) (m + k) cap') :: F) ([(b', .cells (cs.take (m * sz) ++ zs).toArray E (0, 0))] :: L)) :
    SX P w0 D n 0 ops Q ({ dst := some d, op := .call { callee := .builtin .append, args := #[s, x], argTypes := #[T, Tn] }, type := ty, pos := pos, after := af, guard := none } :: rest) g F L :=
  .mk fun w hm => wpList_plain rfl fun K hK => by
    subst ha
    have ht := SlT.und (P := P) (T := T) (E := E) (sz := sz) (bytes := bytes) (z := z)
    have hsz := SlT.szp (P := P) (T := T) (E := E) (sz := sz) (bytes := bytes) (z := z)
    obtain ⟨i, hi, hz, hsize, hbytes⟩ := info_parts (SlT.info (P := P) (T := T) (E := E) (sz := sz) (bytes := bytes) (z := z))
    have hzs : z.cells.size = sz := SlT.zs (P := P) (T := T) (E := E) (bytes := bytes)
    subst hsize hbytes
    have hold : (Builtin.firstCells i.size m (.slice (some ⟨b, 0, none⟩) m cap)).run P w.drew = .ok (cs.take (m * i.size)).toArray w.drew := by
      refine run_firstCells_some (P := P) w.drew i.size m ⟨b, 0, none⟩ m cap (cs.take (m * i.size)) (by rw [List.length_take]; omega) fun j v hv => ?_
      rw [addr_add, Nat.zero_add]
      refine cell_of_cells (hblk w hm) ?_
      rw [List.getElem?_take] at hv
      split at hv
      · exact hv
      · cases hv
    have hkb : (m + k) * i.bytes ≤ 1000000 * 100000 := Nat.mul_le_mul hk hby
    have hkb2 : k * i.bytes ≤ 1000000 * 100000 := Nat.mul_le_mul (by omega) hby
    have hr := run_append_grow_zeros (P := P) w T Tn ty E i z .i64 kn ht htn hi hz (some ⟨b, 0, none⟩) m cap (cs.take (m * i.size)) hold k h0 hsz hg (by omega) (by omega) (growslice_fits hg (by omega))
    have ge := grownCap_ge w (m + k) cap E
    have gl := grownCap_le_maxLen w (m + k) cap E (by unfold maxLen; omega)
    unfold Oper.wp
    rw [Fr.evn]
    have he : (execOp (evn n (get g F)) { dst := some d, op := .call { callee := .builtin .append, args := #[s, x], argTypes := #[T, Tn] }, type := ty, pos := pos, after := af, guard := none }).run P w = ((Builtin.append_ #[T, Tn] ty #[evn n (get g F) s, evn n (get g F) x]).run P w).andThen fun v w => .ok (.value v) w := by
      simp only [execOp, resolve, invoke, builtin, Sem.run_bind, Sem.run_pure, Result.andThen_ok, List.map_toArray, List.map_cons, List.map_nil]
    rw [he, hs, hx, hr]
    show K ((Fr n (get g F)).put (some d) _) _
    rw [Fr.put, get_put]
    have hl : ((Builtin.zeroCells z.cells k ++ Builtin.zeroCells z.cells (grownCap w (m + k) cap E - (m + k))) : Array Value).toList.length = (grownCap w (m + k) cap E - m) * i.size := by
      rw [Array.length_toList, Array.size_append, size_zeroCells, size_zeroCells, hzs, ← Nat.add_mul]
      congr 1
      omega
    have := h w.heap.size (grownCap w (m + k) cap E) (Builtin.zeroCells z.cells k ++ Builtin.zeroCells z.cells (grownCap w (m + k) cap E - (m + k))).toList ge gl hl
    rw [show (cs.take (m * i.size) ++ (Builtin.zeroCells z.cells k ++ Builtin.zeroCells z.cells (grownCap w (m + k) cap E - (m + k))).toList).toArray = (cs.take (m * i.size)).toArray ++ Builtin.zeroCells z.cells k ++ Builtin.zeroCells z.cells (grownCap w (m + k) cap E - (m + k)) by
      apply Array.toList_inj.1
      simp only [Array.toList_append, List.append_assoc]] at this
    exact hK _ _ (this.out _ (hm.drew.new _))
/-- append(s, t...) where s has room: in place. -/
theorem sx_appendIn {T E sz bytes : Nat} {z : Value} [SlT P T E sz bytes z] {s x : Operand} {b m k cap cap2 : Nat} {A : Option Addr} {cs ys : List Value} (hs : evn n (get g F) s = .slice (some ⟨b, 0, none⟩) m cap) (hx : evn n (get g F) x = .slice A k cap2)
    (hr : ∀ w, Mem w0 w D ([(b, .cells cs.toArray E (0, 0))] :: L) → IsSl w sz A k cap2 ys) (h1 : ∀ u ∈ ys, u.oneCell' = true) (hroom : m + k ≤ cap) (hfit : (m + k) * sz ≤ cs.length)
    (h : SX P w0 D n 0 ops Q rest g ((d, .slice (some ⟨b, 0, none⟩) (m + k) cap) :: F) ([(b, .cells (cs.take (m * sz) ++ ys ++ cs.drop (m * sz + ys.length)).toArray E (0, 0))] :: L)) :
    SX P w0 D n 0 ops Q ({ dst := some d, op := .call { callee := .builtin .append, args := #[s, x], argTypes := #[T, T] }, type := ty, pos := pos, after := af, guard := none } :: rest) g F ([(b, .cells cs.toArray E (0, 0))] :: L) :=
  .mk fun w hm => wpList_plain rfl fun K hK => by
    have ht := SlT.und (P := P) (T := T) (E := E) (sz := sz) (bytes := bytes) (z := z)
    obtain ⟨i, hi, hz, hsize, hbytes⟩ := info_parts (SlT.info (P := P) (T := T) (E := E) (sz := sz) (bytes := bytes) (z := z))
    subst hsize hbytes
    have hsl := hr w hm
    have hblk : w.heap[b]? = some (.cells cs.toArray E (0, 0)) := hm.head (b, .cells cs.toArray E (0, 0)) (by simp)
    unfold Oper.wp
    rcases hsl.2 with h0 | ⟨b2, o2, rfl, hlt, hle, hc⟩
    · subst h0
      have hy : ys = [] := List.eq_nil_of_length_eq_zero (by simpa using hsl.1)
      subst hy
      have e1 : (Builtin.append_ #[T, T] ty #[.slice (some ⟨b, 0, none⟩) m cap, .slice A 0 cap2]).run P w = .ok (.slice (some ⟨b, 0, none⟩) (m + 0) cap) w := by
        have hn : m ≤ cap := hroom
        cases A <;> simp [Builtin.append_, run_underlying ht, sizeOf, typeInfo, hi, Builtin.lenOf, Builtin.firstCells, loadCells, loadCellsFrom, hn, storeCells]
      rw [Fr.evn, append_exec (r := .ok _ w) (by rw [hs, hx]; exact e1)]
      show K ((Fr n (get g F)).put (some d) _) _
      rw [Fr.put, get_put]
      simp only [List.append_nil, List.length_nil, Nat.add_zero, List.take_append_drop] at h
      exact hK _ _ (h.out _ hm)
    · have hnews : ∀ j u, ys[j]? = some u → w.cell? ((⟨b2, o2, none⟩ : Addr).add j) = some u := fun j u hu => by rw [addr_add]; exact hc j u hu
      have hf2 : m * i.size + ys.length ≤ cs.toArray.size := by rw [List.size_toArray, hsl.1, ← Nat.add_mul]; exact hfit
      have e1 := run_append_room (P := P) w T ty E i ht hi b m cap _ hblk ⟨b2, o2, none⟩ k cap2 ys hsl.1 hnews h1 hroom hf2
      rw [Fr.evn, append_exec (r := .ok _ _) (by rw [hs, hx]; exact e1)]
      show K ((Fr n (get g F)).put (some d) _) _
      rw [Fr.put, get_put]
      exact hK _ _ (h.out _ (hm.upd rfl rfl rfl (by simp [World.setRow]) (setRow_heap w b _ _ E _ hblk) fun j hj _ => setRow_other w b j _ hj))
/-- Of what is copied, only what fits. -/
theorem sx_copyT {T E sz bytes : Nat} {z : Value} [SlT P T E sz bytes z] {T2 : TypeId} {x y : Operand} {b off dl cp sl scap : Nat} {A : Option Addr} {cs xs : List Value} {T' : TypeId}
    (hx : evn n (get g F) x = .slice (some ⟨b, off, none⟩) dl cp) (hy : evn n (get g F) y = .slice A sl scap) (hs : ∀ w, Mem w0 w D ([(b, .cells cs.toArray T' (0, 0))] :: L) → IsSl w sz A sl scap xs) (h1 : ∀ v ∈ xs.take (min sl dl * sz), oneB v = true) (hle : off + dl * sz ≤ cs.length)
    (h : SX P w0 D n 0 ops Q rest g ((d, .int .i64 (min sl dl : Nat)) :: F) ([(b, .cells (splice cs off (xs.take (min sl dl * sz))).toArray T' (0, 0))] :: L)) :
    SX P w0 D n 0 ops Q ({ dst := some d, op := .call { callee := .builtin .copy, args := #[x, y], argTypes := #[T, T2] }, type := ty, pos := pos, after := af, guard := none } :: rest) g F ([(b, .cells cs.toArray T' (0, 0))] :: L) :=
  .mk fun w hm => wpList_plain rfl fun K hK => by
    have hu := SlT.und (P := P) (T := T) (E := E) (sz := sz) (bytes := bytes) (z := z)
    obtain ⟨inf, hinf, _, hsz, _⟩ := info_parts (SlT.info (P := P) (T := T) (E := E) (sz := sz) (bytes := bytes) (z := z))
    have h2 : (sizeOf E).run P w = .ok sz w := by simp [sizeOf, typeInfo, hinf, hsz, go_sem]
    have hmul : min sl dl * sz ≤ dl * sz := Nat.mul_le_mul_right _ (Nat.min_le_right _ _)
    obtain ⟨w', r1, r2, r3, r4, r5, r6, r7⟩ := storeCells_run (P := P) (b := b) (T := T') (xs.take (min sl dl * sz)) off 0 cs w h1 (by rw [List.length_take, Nat.add_zero]; omega) (hm.head (b, .cells cs.toArray T' (0, 0)) (by simp))
    rw [Nat.add_zero] at r2
    have h3 := run_cells (P := P) (hs w hm) (Nat.min_le_left sl dl)
    have hc : (Builtin.copy_ #[T, T2] ty #[.slice (some ⟨b, off, none⟩) dl cp, .slice A sl scap]).run P w = .ok (.int .i64 (min sl dl : Nat)) w' := by
      unfold Builtin.copy_
      simp only [List.getElem?_toArray, List.getElem?_cons_zero, List.getElem?_cons_succ]
      simp only [Builtin.lenOf, Sem.run_bind, Sem.run_pure, Result.andThen_ok, run_underlying hu, h2, show Nat.min sl dl = min sl dl from rfl]
      rw [h3]
      simp only [Result.andThen_ok, Sem.run_bind, r1]
      rfl
    unfold Oper.wp
    have hr : (execOp (evn n (get g F)) { dst := some d, op := .call { callee := .builtin .copy, args := #[x, y], argTypes := #[T, T2] }, type := ty, pos := pos, after := af, guard := none }).run P w = .ok (.value (.int .i64 (min sl dl : Nat))) w' := by
      simp only [execOp, resolve, invoke, builtin, Sem.run_bind, Sem.run_pure, Result.andThen_ok, List.map_toArray, List.map_cons, List.map_nil, hx, hy, hc]
    rw [Fr.evn, hr]
    show K ((Fr n (get g F)).put (some d) _) w'
    rw [Fr.put, get_put]
    exact hK _ _ (h.out _ (hm.upd r3 r4 r5 (by omega) r2 fun k hk _ => r7 k hk))
/-- s[j:k:l] -/
theorem sx_slice3 {T E sz bytes : Nat} {z : Value} [SlT P T E sz bytes z] {x y u v : Operand} {A : Option Addr} {len cap : Nat} {j k l : Int} (hx : evn n (get g F) x = .slice A len cap) (hy : evn n (get g F) y = .int .i64 j) (hu : evn n (get g F) u = .int .i64 k) (hv : evn n (get g F) v = .int .i64 l) (hk : 0 ≤ j ∧ j ≤ k ∧ k ≤ l ∧ l ≤ cap)
    (h : SX P w0 D n q ops Q rest g ((d, .slice (shift A l.toNat j.toNat sz) (k.toNat - j.toNat) (l.toNat - j.toNat)) :: F) L) :
    SX P w0 D n q ops Q ({ dst := some d, op := .slice T x (some y) (some u) (some v), type := ty, pos := pos, after := af, guard := none } :: rest) g F L :=
  sx_run _ rfl rfl (fun w _ => by
    show ((do pure (Next.value (← Instr.sliceAt T (evn n (get g F) x) (some (evn n (get g F) y)) (some (evn n (get g F) u)) (some (evn n (get g F) v))))) : Sem Next).run P w = _
    rw [hx, hy, hu, hv]
    refine run_v (slice_run (T := T) ?_)
    have h0 : 0 ≤ l ∧ l ≤ (cap : Int) := ⟨by omega, hk.2.2.2⟩
    have h1 : 0 ≤ k ∧ k ≤ (l.toNat : Int) := ⟨by omega, by omega⟩
    have h2 : 0 ≤ j ∧ j ≤ (k.toNat : Int) := ⟨hk.1, by omega⟩
    unfold Instr.sliceBounds
    simp only [Sem.run_bind, Sem.run_pure, Result.andThen_ok, bound_run (y := 0) h0, bound_run (y := 0) h1, bound_run (y := 0) h2]) h
theorem sx_sliceBothP {T E sz bytes : Nat} {z : Value} [SlT P T E sz bytes z] {x y u : Operand} {b o len cap : Nat} {j k : Int} (hx : evn n (get g F) x = .slice (some ⟨b, o, none⟩) len cap) (hy : evn n (get g F) y = .int .i64 j) (hu : evn n (get g F) u = .int .i64 k) (hk : 0 ≤ j ∧ j ≤ k ∧ k ≤ cap ∧ j < cap)
    (h : SX P w0 D n q ops Q rest g ((d, .slice (some ⟨b, o + j.toNat * sz, none⟩) (k.toNat - j.toNat) (cap - j.toNat)) :: F) L) :
    SX P w0 D n q ops Q ({ dst := some d, op := .slice T x (some y) (some u) none, type := ty, pos := pos, after := af, guard := none } :: rest) g F L := by
  have e : shift (some ⟨b, o, none⟩) cap j.toNat sz = some ⟨b, o + j.toNat * sz, none⟩ := by
    unfold shift
    rw [if_neg (by omega), Option.map_some, addr_add]
  exact sx_sliceBoth hx hy hu ⟨hk.1, hk.2.1, hk.2.2.1⟩ (by rw [e]; exact h)
theorem sx_sliceToP {T E sz bytes : Nat} {z : Value} [SlT P T E sz bytes z] {x y : Operand} {A : Option Addr} {len cap : Nat} {k : Int} (hx : evn n (get g F) x = .slice A len cap) (hy : evn n (get g F) y = .int .i64 k) (hk : 0 ≤ k ∧ k ≤ cap)
    (h : SX P w0 D n q ops Q rest g ((d, .slice A k.toNat cap) :: F) L) :
    SX P w0 D n q ops Q ({ dst := some d, op := .slice T x none (some y) none, type := ty, pos := pos, after := af, guard := none } :: rest) g F L :=
  sx_sliceTo hx hy hk (by rw [shift_zero]; exact h)
end
/-- What is put into a row: a new block; in place. -/
theorem ins_grow (X R zs : List Value) (p : Nat) (hp : p ≤ X.length) (hz : R.length + (X.length - p) ≤ zs.length) : splice (splice (X.take p ++ zs) p R) (p + R.length) (X.drop p) = X.take p ++ R ++ X.drop p ++ zs.drop (R.length + (X.length - p)) := by
  have ht : (X.take p).length = p := by rw [List.length_take]; omega
  have e0 : splice (X.take p ++ zs) p R = X.take p ++ R ++ zs.drop R.length := by
    rw [splice_get R (X.take p ++ zs) p (by rw [List.length_append, ht]; omega), List.take_left' ht, List.drop_append, ht, List.drop_of_length_le (by omega), List.nil_append, Nat.add_sub_cancel_left, ← List.append_assoc]
  have hl : (X.take p ++ R).length = p + R.length := by rw [List.length_append, ht]
  have e2 : (X.take p ++ R ++ zs.drop R.length).drop (p + R.length + (X.length - p)) = zs.drop (R.length + (X.length - p)) := by
    have e3 : p + R.length + (X.length - p) = (X.take p ++ R).length + (X.length - p) := by rw [hl]
    rw [e3, ← List.drop_drop, List.drop_left, List.drop_drop]
  rw [e0, splice_get (X.drop p) _ (p + R.length) (by rw [List.length_append, hl, List.length_drop, List.length_drop]; omega), List.take_left' hl, List.length_drop, e2]
  simp only [List.append_assoc]
theorem ins_room (X R ext : List Value) (p : Nat) (hp : p ≤ X.length) (he : R.length ≤ ext.length) : splice (splice (X ++ ext) (p + R.length) (X.drop p)) p R = X.take p ++ R ++ X.drop p ++ ext.drop R.length := by
  have hlen : (X.drop p).length = X.length - p := List.length_drop
  rw [splice_get _ _ (p + R.length) (by rw [List.length_append, hlen]; omega)]
  have ht : ((X ++ ext).take (p + R.length)).length = p + R.length := by rw [List.length_take, List.length_append]; omega
  rw [splice_get _ _ p (by rw [List.length_append, ht]; omega)]
  rw [List.take_append_of_le_length (by rw [ht]; omega), List.take_take, Nat.min_eq_left (by omega), List.take_append_of_le_length hp]
  rw [List.drop_left' ht, hlen]
  have e2 : (X ++ ext).drop (p + R.length + (X.length - p)) = ext.drop R.length := by
    rw [List.drop_append, List.drop_of_length_le (by omega), List.nil_append]
    congr 1
    omega
  rw [e2]
  simp only [List.append_assoc]
end Go.Port
