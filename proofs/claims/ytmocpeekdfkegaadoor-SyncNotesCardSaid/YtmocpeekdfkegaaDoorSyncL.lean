/- sync: lists of notes that were told; rows taken from ahead: reads and stores. No program here. -/
import Derived.Test.YtmocpeekdfkegaaDoorSyncP
import Derived.Test.YtmocpeekdfkegaaDoorStep
import Derived.Test.YtmocpeekdfkegaaDoorRead
set_option linter.unusedSimpArgs false
set_option linter.unusedVariables false
namespace Go.Port
open Go.RowKit
/-- A row of the call's own that may begin anywhere in its block. -/
def OwnQ (E sz : Nat) (v : Value) (n : Nat) (xs : List Value) (c : Ch) : Prop :=
  xs.length = n * sz ∧ ((∃ A, v = .slice A 0 0 ∧ n = 0) ∨ ∃ b cap pre ext, v = .slice (some ⟨b, List.length pre, none⟩) n cap ∧ n ≤ cap ∧ cap ≤ maxLen ∧ (xs ++ ext).length = cap * sz ∧ c = [(b, .cells (pre ++ (xs ++ ext)).toArray E (0, 0))])
section
variable {E sz n m cap b o : Nat} {v : Value} {A : Option Addr} {xs : List Value} {c : Ch} {w : World}
theorem OwnQ.nil (E sz : Nat) (A : Option Addr) (c : Ch) : OwnQ E sz (.slice A 0 0) 0 [] c := ⟨by simp, .inl ⟨A, rfl, rfl⟩⟩
theorem OwnQ.len (h : OwnQ E sz v n xs c) : ∃ A cap, v = .slice A n cap ∧ n ≤ cap := by
  rcases h.2 with ⟨A, rfl, rfl⟩ | ⟨b, cap, pre, ext, rfl, h1, _⟩
  · exact ⟨_, _, rfl, Nat.le_refl _⟩
  · exact ⟨_, _, rfl, h1⟩
theorem OwnQ.base (h : OwnQ E sz (.slice A n cap) n xs c) : ∃ b o, 0 < n → A = some ⟨b, o, none⟩ := by
  rcases h.2 with ⟨A, _, rfl⟩ | ⟨b, cap, pre, ext, hv, h1, _⟩
  · exact ⟨0, 0, fun h => by omega⟩
  · simp only [Value.slice.injEq] at hv
    exact ⟨b, pre.length, fun _ => hv.1⟩
theorem OwnQ.cell {k : Nat} {u : Value} (h : OwnQ E sz (.slice A n cap) n xs c) (hA : A = some ⟨b, o, none⟩) (hn : 0 < n) (hc : Has w c) (hv : xs[k]? = some u) : w.cell? ⟨b, o + k, none⟩ = some u := by
  subst hA
  rcases h.2 with ⟨A, _, rfl⟩ | ⟨b', cap', pre, ext, hv', h1, _, _, rfl⟩
  · omega
  · simp only [Value.slice.injEq, Option.some.injEq, Addr.mk.injEq] at hv'
    obtain ⟨⟨rfl, rfl, _⟩, _, rfl⟩ := hv'
    have hb := hc (b, .cells (pre ++ (xs ++ ext)).toArray E (0, 0)) (by simp)
    refine cell_of_cells hb ?_
    rw [List.getElem?_append_right (by omega), Nat.add_sub_cancel_left, List.getElem?_append_left (by
      rcases Nat.lt_or_ge k xs.length with h | h
      · exact h
      · rw [List.getElem?_eq_none h] at hv; cases hv)]
    exact hv
theorem OwnQ.from1 (h : OwnQ E sz (.slice A n cap) n xs c) (hn : 0 < n) : OwnQ E sz (.slice (shift A cap 1 sz) (n - 1) (cap - 1)) (n - 1) (xs.drop sz) c := by
  have h0 := h.1
  refine ⟨by rw [List.length_drop, h0, Nat.sub_mul, Nat.one_mul], ?_⟩
  rcases h.2 with ⟨A, _, rfl⟩ | ⟨b', cap', pre, ext, hv', h1, h2, h3, rfl⟩
  · omega
  · simp only [Value.slice.injEq] at hv'
    obtain ⟨rfl, _, rfl⟩ := hv'
    by_cases h4 : cap = 1
    · subst h4
      exact .inl ⟨_, by rw [show n - 1 = 0 by omega], by omega⟩
    · have hle : sz ≤ xs.length := by rw [h0]; exact Nat.le_mul_of_pos_left _ hn
      refine .inr ⟨b', cap - 1, pre ++ xs.take sz, ext, ?_, by omega, by omega, ?_, ?_⟩
      · unfold shift
        rw [if_neg h4]
        simp only [Option.map_some, addr_add, Nat.one_mul, List.length_append, List.length_take, Nat.min_eq_left hle]
      · rw [List.length_append, List.length_drop, Nat.sub_mul, Nat.one_mul, ← h3, List.length_append]; omega
      · rw [List.append_assoc, ← List.append_assoc (List.take sz xs), List.take_append_drop]
end
section
variable {P : Program} {w0 : World} {D : List Nat} {n q : Nat} {ops : Array Oper} {Q : Exit → Act → World → Prop} {g : Nat → Value} {F : List (Nat × Value)} {L : List Ch}
variable {rest : List Oper} {ty : TypeId} {pos : String} {af : Array Edge} {d : Nat}
theorem append_q {T E sz bytes : Nat} {z : Value} [SlT P T E sz bytes z] {w : World} {v : Value} {m k : Nat} {xs ys : List Value} {c : Ch} {A : Option Addr} {cap : Nat}
    (hown : OwnQ E sz v m xs c) (hm : Mem w0 w D (c :: L)) (hs : IsSl w sz A k cap ys) (hk : 0 < k) (h1 : ∀ u ∈ ys, u.oneCell' = true) (h2 : ∀ u ∈ ys, oneB u = true) (hb : (m + k) * bytes ≤ 140737488355328) :
    ∃ v' w' c', (Builtin.append_ #[T, T] ty #[v, .slice A k cap]).run P w = .ok v' w' ∧ OwnQ E sz v' (m + k) (xs ++ ys) c' ∧ Mem w0 w' D (c' :: L) := by
  have ht := SlT.und (P := P) (T := T) (E := E) (sz := sz) (bytes := bytes) (z := z)
  have hzs := SlT.zs (P := P) (T := T) (E := E) (sz := sz) (bytes := bytes) (z := z)
  have hsz := SlT.szp (P := P) (T := T) (E := E) (sz := sz) (bytes := bytes) (z := z)
  have hby := SlT.byp (P := P) (T := T) (E := E) (sz := sz) (bytes := bytes) (z := z)
  obtain ⟨i, hi, hz, hsize, hbytes⟩ := info_parts (SlT.info (P := P) (T := T) (E := E) (sz := sz) (bytes := bytes) (z := z))
  subst hsize hbytes
  have hlen : (xs ++ ys).length = (m + k) * i.size := by rw [List.length_append, hown.1, hs.1, Nat.add_mul]
  have hmax : m + k ≤ maxLen := by
    have : m + k ≤ (m + k) * i.bytes := Nat.le_mul_of_pos_right _ hby
    unfold maxLen; omega
  have hsmall : m + k ≤ 9223372036854775807 := by unfold maxLen at hmax; omega
  rcases hs.2 with h0 | ⟨b, o, rfl, hlt, hle, hc⟩
  · omega
  · have hnews : ∀ j u, ys[j]? = some u → w.cell? ((⟨b, o, none⟩ : Addr).add j) = some u := fun j u hu => by rw [addr_add]; exact hc j u hu
    have grown : ∀ (cap' : Nat) (r : Array Value), r.toList.take ((m + k) * i.size) = xs ++ ys → r.size = cap' * i.size → m + k ≤ cap' → cap' ≤ maxLen →
        OwnQ E i.size (.slice (some ⟨w.heap.size, 0, none⟩) (m + k) cap') (m + k) (xs ++ ys) [(w.heap.size, .cells r E (0, 0))] ∧ Mem w0 (w.drew.alloc (.cells r E (0, 0))) D ([(w.heap.size, .cells r E (0, 0))] :: L) := by
      intro cap' r hr hrs hc1 hc2
      have e : xs ++ ys ++ r.toList.drop ((m + k) * i.size) = r.toList := by rw [← hr, List.take_append_drop]
      refine ⟨⟨hlen, .inr ⟨_, cap', [], r.toList.drop ((m + k) * i.size), rfl, hc1, hc2, by rw [e]; simpa using hrs, by rw [e, List.nil_append]⟩⟩, ?_⟩
      exact hm.tail.drew.new _
    rcases hown.2 with ⟨A', rfl, rfl⟩ | ⟨b', cap', pre, ext, rfl, hn, hcm, hcs, rfl⟩
    · have hx : xs = [] := List.eq_nil_of_length_eq_zero (by simpa using hown.1)
      subst hx
      have hg := grown (grownCap w k 0 E) (ys.toArray ++ Builtin.zeroCells z.cells (grownCap w k 0 E - k)) (by
          simp only [Array.toList_append, Nat.zero_add, List.nil_append]; rw [← hs.1]; exact List.take_left) (by
          have := grownCap_ge w k 0 E
          simp only [Array.size_append, List.size_toArray, size_zeroCells, hzs, hs.1, ← Nat.add_mul]; congr 1; omega) (by have := grownCap_ge w k 0 E; omega) (grownCap_le_maxLen w k 0 E (by omega))
      cases A' with
      | none =>
        have hr := run_append_nil (P := P) w T ty E i z ht hi hz ⟨b, o, none⟩ k cap ys hs.1 hnews (by omega) (by omega) (by have hb := hb; simp only [Nat.zero_add] at hb; omega)
        rw [Nat.zero_add] at hg ⊢
        exact ⟨_, _, _, hr, hg.1, hg.2⟩
      | some a =>
        have hr := run_append_grow (P := P) w T ty E i z ht hi hz a 0 0 [] (by simp) (fun j u hu => by simp at hu) ⟨b, o, none⟩ k cap ys hs.1 hnews (by omega) (by omega) (growslice_fits (by omega) hb)
        simp only [Nat.zero_add, List.nil_append, Array.empty_append] at hr hg ⊢
        exact ⟨_, _, _, hr, hg.1, hg.2⟩
    · have hblk : w.heap[b']? = some (.cells (pre ++ (xs ++ ext)).toArray E (0, 0)) := hm.head (b', .cells (pre ++ (xs ++ ext)).toArray E (0, 0)) (by simp)
      by_cases hroom : m + k ≤ cap'
      · have hfit : xs.length + ys.length ≤ (xs ++ ext).length := by
          rw [hcs, hs.1, hown.1, ← Nat.add_mul]; exact Nat.mul_le_mul_right _ hroom
        obtain ⟨w', r1, r2, r3, r4, r5, r6, r7⟩ := storeCells_run (P := P) (b := b') (T := E) ys (pre.length + m * i.size) 0 (pre ++ (xs ++ ext)) w h2 (by rw [List.length_append, ← hown.1]; omega) hblk
        rw [Nat.add_zero, ← hown.1, splice_get _ _ _ (by rw [List.length_append]; omega)] at r2
        have e : (pre ++ (xs ++ ext)).take (pre.length + xs.length) ++ (ys ++ (pre ++ (xs ++ ext)).drop (pre.length + xs.length + ys.length)) = pre ++ (xs ++ ys ++ ext.drop ys.length) := by
          rw [List.take_append, List.take_of_length_le (by omega), Nat.add_sub_cancel_left, List.take_left, List.drop_append, List.drop_eq_nil_of_le (by omega), List.nil_append, Nat.add_assoc, Nat.add_sub_cancel_left, List.drop_append, List.drop_eq_nil_of_le (by omega), List.nil_append, Nat.add_sub_cancel_left]
          simp only [List.append_assoc]
        rw [e] at r2
        have hf := run_firstCells_some (P := P) w i.size k ⟨b, o, none⟩ k cap ys hs.1 hnews
        have hr : (Builtin.append_ #[T, T] ty #[.slice (some ⟨b', pre.length, none⟩) m cap', .slice (some ⟨b, o, none⟩) k cap]).run P w = .ok (.slice (some ⟨b', pre.length, none⟩) (m + k) cap') w' := by
          simp [Builtin.append_, run_underlying ht, sizeOf, typeInfo, hi, Builtin.lenOf, hroom, hf, Addr.add_lit, r1]
        refine ⟨_, _, [(b', .cells (pre ++ (xs ++ ys ++ ext.drop ys.length)).toArray E (0, 0))], hr, ⟨hlen, .inr ⟨b', cap', pre, ext.drop ys.length, rfl, hroom, hcm, ?_, rfl⟩⟩, ?_⟩
        · simp only [List.length_append, List.length_drop] at hcs hfit ⊢
          omega
        · exact hm.upd r3 r4 r5 (by omega) r2 fun j hj _ => r7 j hj
      · have holds : ∀ j u, xs[j]? = some u → w.cell? ((⟨b', pre.length, none⟩ : Addr).add j) = some u := fun j u hu => by
          rw [addr_add]
          refine cell_of_cells hblk ?_
          rw [List.getElem?_append_right (by omega), Nat.add_sub_cancel_left, List.getElem?_append_left (by
            rcases Nat.lt_or_ge j xs.length with h | h
            · exact h
            · rw [List.getElem?_eq_none h] at hu; cases hu)]
          exact hu
        have hr := run_append_grow (P := P) w T ty E i z ht hi hz ⟨b', pre.length, none⟩ m cap' xs hown.1 holds ⟨b, o, none⟩ k cap ys hs.1 hnews (by omega) (by omega) (growslice_fits (by omega) hb)
        have hg := grown (grownCap w (m + k) cap' E) (xs.toArray ++ ys.toArray ++ Builtin.zeroCells z.cells (grownCap w (m + k) cap' E - (m + k))) (by
          simp only [Array.toList_append]; rw [← hlen]; exact List.take_left) (by
          have := grownCap_ge w (m + k) cap' E
          simp only [Array.size_append, List.size_toArray, size_zeroCells, hzs, hown.1, hs.1, ← Nat.add_mul]; congr 1; omega) (grownCap_ge w (m + k) cap' E) (grownCap_le_maxLen w (m + k) cap' E hmax)
        exact ⟨_, _, _, hr, hg.1, hg.2⟩
theorem sx_appendQ {T E sz bytes : Nat} {z : Value} [SlT P T E sz bytes z] {s x : Operand} {v : Value} {m k cap : Nat} {xs ys : List Value} {c : Ch} {A : Option Addr} {L' : List Ch}
    (hs : evn n (get g F) s = v) (hx : evn n (get g F) x = .slice A k cap) (hrot : Rot L (c :: L')) (hown : OwnQ E sz v m xs c) (hr : ∀ w, Mem w0 w D (c :: L') → IsSl w sz A k cap ys) (hk : 0 < k) (h1 : ∀ u ∈ ys, u.oneCell' = true) (h2 : ∀ u ∈ ys, oneB u = true) (hb : (m + k) * bytes ≤ 140737488355328)
    (h : ∀ v' c', OwnQ E sz v' (m + k) (xs ++ ys) c' → SX P w0 D n 0 ops Q rest g ((d, v') :: F) (c' :: L')) :
    SX P w0 D n 0 ops Q ({ dst := some d, op := .call { callee := .builtin .append, args := #[s, x], argTypes := #[T, T] }, type := ty, pos := pos, after := af, guard := none } :: rest) g F L :=
  .mk fun w hm => wpList_plain rfl fun K hK => by
    obtain ⟨v', w', c', e1, e2, e3⟩ := append_q (P := P) (T := T) (E := E) (sz := sz) (bytes := bytes) (z := z) (ty := ty) hown (hrot.mem hm) (hr w (hrot.mem hm)) hk h1 h2 hb
    unfold Oper.wp
    rw [Fr.evn, append_exec (r := .ok v' w') (by rw [hs, hx]; exact e1)]
    show K ((Fr n (get g F)).put (some d) v') w'
    rw [Fr.put, get_put]
    exact hK _ _ ((h v' c' e2).out _ e3)
/-- .. one thing, which lies in a new piece of memory, which is forgotten then. -/
theorem sx_appendQ1 {T E sz bytes : Nat} {z : Value} [SlT P T E sz bytes z] {s x : Operand} {v : Value} {m cap b : Nat} {xs ys : List Value} {c : Ch} {T' : TypeId} {fr : Nat × Nat} {L' : List Ch}
    (hs : evn n (get g F) s = v) (hx : evn n (get g F) x = .slice (some ⟨b, 0, none⟩) 1 cap) (hrot : Rot L (c :: L')) (hown : OwnQ E sz v m xs c) (hl : ys.length = 1 * sz) (hc : 1 ≤ cap) (h1 : ys.all Value.oneCell' = true) (h2 : ys.all oneB = true) (hb : (m + 1) * bytes ≤ 140737488355328)
    (h : ∀ v' c', OwnQ E sz v' (m + 1) (xs ++ ys) c' → SX P w0 D n 0 ops Q rest g ((d, v') :: F) (c' :: L')) :
    SX P w0 D n 0 ops Q ({ dst := some d, op := .call { callee := .builtin .append, args := #[s, x], argTypes := #[T, T] }, type := ty, pos := pos, after := af, guard := none } :: rest) g F ([(b, .cells ys.toArray T' fr)] :: L) :=
  sx_appendQ (L' := [(b, .cells ys.toArray T' fr)] :: L') hs hx (by
      refine List.Perm.trans (List.Perm.flatten (List.Perm.swap _ _ _)) ?_
      show ([(b, Obj.cells ys.toArray T' fr)] ++ (c :: L').flatten).Perm ([(b, Obj.cells ys.toArray T' fr)] ++ L.flatten)
      exact hrot.append_left _) hown (fun w hm => by
      have hb := (rot1.mem hm).head (b, .cells ys.toArray T' fr) (by simp)
      exact ⟨hl, .inr ⟨b, 0, rfl, heap_lt hb, hc, fun i u hu => by rw [Nat.zero_add]; exact cell_of_cells hb hu⟩⟩) (by decide) (fun u hu => List.all_eq_true.1 h1 u hu) (fun u hu => List.all_eq_true.1 h2 u hu) hb fun v' c' ho => sx_mem (h v' c' ho) fun w hm => mem_drop1 hm
/-- A store into a row of the call's own. -/
theorem sx_storeQ {T sz E z : Nat} [TyT P T sz false] {p : Operand} {b o k m cap : Nat} {A : Option Addr} {xs : List Value} {c : Ch} {v : Value} (ho : OwnQ E z (.slice A m cap) m xs c) (hA : A = some ⟨b, o, none⟩) (hm0 : 0 < m) (hp : evn n (get g F) p = .pointer (some ⟨b, o + k, none⟩)) (hk : k < xs.length) (h1 : oneB v = true) (hsz : Nat.beq sz 1 = true)
    (h : ∀ c', OwnQ E z (.slice A m cap) m (xs.set k v) c' → SX P w0 D n 0 ops Q rest g F (c' :: L)) : SX P w0 D n 0 ops Q ({ dst := none, op := .store T p (.const v), type := ty, pos := pos, after := af, guard := none } :: rest) g F (c :: L) := by
  subst hA
  have h0 := ho.1
  rcases ho.2 with ⟨A, _, rfl⟩ | ⟨b', cap', pre, ext, hv', h3, h4, h5, rfl⟩
  · omega
  · simp only [Value.slice.injEq, Option.some.injEq, Addr.mk.injEq] at hv'
    obtain ⟨⟨rfl, rfl, _⟩, _, rfl⟩ := hv'
    refine sx_store (cs' := pre ++ (xs.set k v ++ ext)) hp h1 hsz (Nat.ble_eq_true_of_le (by show pre.length + k + 1 ≤ _; simp only [List.length_append]; omega)) ?_ (h _ ⟨by rw [List.length_set, h0], .inr ⟨b, cap, pre, ext, rfl, h3, h4, by simpa using h5, rfl⟩⟩)
    rw [List.set_append_right _ _ (by omega), Nat.add_sub_cancel_left, List.set_append_left _ _ hk]
end
end Go.Port
namespace Go.Port
open Go.RowKit
theorem flatMap_set {α : Type} {f : α → List Value} {sz j : Nat} {x y : α} {v : Value} (hf : ∀ x, (f x).length = sz) (hj : j < sz) (hy : (f x).set j v = f y) : ∀ (l : List α) (i : Nat), l[i]? = some x → (l.flatMap f).set (i * sz + j) v = (l.set i y).flatMap f
  | [], i, h => by cases h
  | a :: l, 0, h => by
    obtain rfl : a = x := Option.some.inj h
    rw [Nat.zero_mul, Nat.zero_add, List.flatMap_cons, List.set_append_left _ _ (by rw [hf]; exact hj), hy]; rfl
  | a :: l, i + 1, h => by
    rw [List.flatMap_cons, List.set_append_right _ _ (by rw [hf, Nat.add_mul]; omega), hf, show (i + 1) * sz + j - sz = i * sz + j by rw [Nat.add_mul]; omega, flatMap_set hf hj hy l i h]; rfl
theorem Td.row_len (x : Td) : x.row.length = 18 := rfl
theorem Nt.row_len (x : Nt) : x.row.length = 17 := rfl
theorem td_at {l : List Td} {i : Nat} {x : Td} (h : l[i]? = some x) (z : Nat) (hz : z = i * 18) (j : Nat) (v : Value) (hv : (Td.row x)[j]? = some v) : (l.flatMap Td.row)[z + j]? = some v := by
  subst hz
  have := flatMap_at (f := Td.row) (sz := 18) (fun _ => rfl) l i j x v h hv
  exact this
theorem nt_at {l : List Nt} {i : Nat} {x : Nt} (h : l[i]? = some x) (z : Nat) (hz : z = i * 17) (j : Nat) (v : Value) (hv : (Nt.row x)[j]? = some v) : (l.flatMap Nt.row)[z + j]? = some v := by
  subst hz
  have := flatMap_at (f := Nt.row) (sz := 17) (fun _ => rfl) l i j x v h hv
  exact this
theorem mid_at {α : Type} {f : α → α} {l : List α} {i : Nat} {x : α} (h : l[i]? = some x) : ((l.take i).map f ++ l.drop i)[i]? = some x := by
  obtain ⟨hi, rfl⟩ := List.getElem?_eq_some_iff.1 h
  rw [List.getElem?_append_right (by simp; omega)]
  simp [List.getElem?_drop, show min i l.length = i by omega]
theorem mid_set {α : Type} {f : α → α} {l : List α} {i : Nat} {x : α} (h : l[i]? = some x) : ((l.take i).map f ++ l.drop i).set i (f x) = (l.take (i + 1)).map f ++ l.drop (i + 1) := by
  obtain ⟨hi, rfl⟩ := List.getElem?_eq_some_iff.1 h
  rw [List.set_append_right _ _ (by simp; omega), List.length_map, List.length_take, Nat.min_eq_left (by omega), Nat.sub_self, List.drop_eq_getElem_cons hi, List.set_cons_zero, List.take_succ_eq_append_getElem hi, List.map_append, List.append_assoc]; rfl
theorem mid_same {α : Type} {f : α → α} {l : List α} {i : Nat} {x : α} (h : l[i]? = some x) (hf : f x = x) : (l.take i).map f ++ l.drop i = (l.take (i + 1)).map f ++ l.drop (i + 1) := by
  obtain ⟨hi, rfl⟩ := List.getElem?_eq_some_iff.1 h
  rw [List.take_succ_eq_append_getElem hi, List.drop_eq_getElem_cons hi, List.map_append, List.append_assoc, List.map_singleton, hf]; rfl
theorem due_snoc {now again : Int} {l : List Td} {i : Nat} {x : Td} (h : l[i]? = some x) : dueN now again (l.take (i + 1)) = dueN now again (l.take i) ++ (if x.due now again = true then [x.n] else []) := by
  obtain ⟨hi, rfl⟩ := List.getElem?_eq_some_iff.1 h
  unfold dueN
  rw [List.take_succ_eq_append_getElem hi, List.filter_append, List.map_append]
  congr 1
  by_cases hd : (l[i]).due now again = true
  · rw [if_pos hd]; simp [hd]
  · rw [if_neg hd]; simp [hd]
theorem heard_cons {s : Int} {x : Td} {l : List Td} (h : x.n.seq ≤ s) : heardL s (x :: l) = heardL s l := by
  unfold heardL; rw [List.dropWhile_cons]; simp [h]
theorem heard_stop {s : Int} {x : Td} {l : List Td} (h : ¬ x.n.seq ≤ s) : heardL s (x :: l) = x :: l := by
  unfold heardL; rw [List.dropWhile_cons]; simp [h]
section
variable {P : Program} {w0 : World} {D : List Nat} {n q : Nat} {ops : Array Oper} {Q : Exit → Act → World → Prop} {g : Nat → Value} {F : List (Nat × Value)} {L : List Ch}
variable {rest : List Oper} {ty : TypeId} {pos : String} {af : Array Edge} {d : Nat}
theorem sx_loadQA {T sz E z : Nat} [TyT P T sz true] (j k : Nat) (vs : List Value) {x : Operand} {b o p m cap : Nat} {A : Option Addr} {xs : List Value} {c : Ch} (hx : evn n (get g F) x = .pointer (some ⟨b, p, none⟩)) (ho : OwnQ E z (.slice A m cap) m xs c) (hA : A = some ⟨b, o, none⟩) (hp : p = o + k) (hm0 : 0 < m) (hL : L[j]? = some c) (hl : vs.length = sz) (hv : ∀ i v, vs[i]? = some v → xs[k + i]? = some v)
    (h : SX P w0 D n q ops Q rest g ((d, .agg vs.toArray) :: F) L) : SX P w0 D n q ops Q ({ dst := some d, op := .load T x, type := ty, pos := pos, after := af, guard := none } :: rest) g F L := by
  subst hp
  exact sx_loadMA hx hl (fun w hm i v hi => by rw [Nat.add_assoc]; exact ho.cell hA hm0 (hm.at j hL) (hv i v hi)) h
theorem sx_loadQ1 {T sz E z : Nat} [TyT P T sz false] (j k : Nat) {v : Value} {x : Operand} {b o p m cap : Nat} {A : Option Addr} {xs : List Value} {c : Ch} (hx : evn n (get g F) x = .pointer (some ⟨b, p, none⟩)) (ho : OwnQ E z (.slice A m cap) m xs c) (hA : A = some ⟨b, o, none⟩) (hp : p = o + k) (hm0 : 0 < m) (hL : L[j]? = some c) (hv : xs[k]? = some v)
    (h : SX P w0 D n q ops Q rest g ((d, v) :: F) L) : SX P w0 D n q ops Q ({ dst := some d, op := .load T x, type := ty, pos := pos, after := af, guard := none } :: rest) g F L := by
  subst hp
  exact sx_loadM hx (fun w hm => ho.cell hA hm0 (hm.at j hL) hv) h
theorem sx_storeQF {T sz E z : Nat} [TyT P T sz false] (k : Nat) {p : Operand} {b o a m cap : Nat} {A : Option Addr} {xs : List Value} {c : Ch} {v : Value} (hp : evn n (get g F) p = .pointer (some ⟨b, a, none⟩)) (ho : OwnQ E z (.slice A m cap) m xs c) (hA : A = some ⟨b, o, none⟩) (ha : a = o + k) (hm0 : 0 < m) (hk : k < xs.length) (h1 : oneB v = true) (hsz : Nat.beq sz 1 = true)
    (h : ∀ c', OwnQ E z (.slice A m cap) m (xs.set k v) c' → SX P w0 D n 0 ops Q rest g F (c' :: L)) : SX P w0 D n 0 ops Q ({ dst := none, op := .store T p (.const v), type := ty, pos := pos, after := af, guard := none } :: rest) g F (c :: L) := by
  subst ha
  exact sx_storeQ ho hA hm0 hp hk h1 hsz h
end
end Go.Port
