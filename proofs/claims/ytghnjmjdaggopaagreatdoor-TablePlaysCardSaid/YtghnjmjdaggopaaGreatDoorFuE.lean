/- Several texts in one: Read RowP OpenK OpenS OpenSg OpenF OpenFl. -/
import Derived.Test.YtghnjmjdaggopaaGreatDoorEngB
import Derived.ProofKit
import Derived.OpenShut
import Derived.SizedLaws
import Derived.Test.YtghnjmjdaggopaaGreatDoorEngA
import Derived.ShutString
import Derived.ChangeOld
import Derived.Test.YtghnjmjdaggopaaGreatDoorProg
import Derived.Test.YtghnjmjdaggopaaGreatDoorFuC
import Derived.Test.YtghnjmjdaggopaaGreatDoorFuA
set_option linter.unusedSimpArgs false
set_option linter.unusedVariables false
namespace Go.Port
open Go.RowKit Go.ChangeShapes Go.WideShapes

section
variable {H : Type} {enc : TypeId × Value → H} {P : Program} {w : World}
/-- Cells that are read as a type's. -/
def Rd (enc : TypeId × Value → H) (P : Program) (w : World) (t : TypeId) (cs : List Value) : Prop := ∃ fuel x, DataW.trod enc P w 0 (fun _ => true) true fuel t cs = some x ∧ ∀ n ∈ x.1.weights P t, n ≤ reachBytes
theorem Rd.of {t : TypeId} {v : Value} {d : DataW H} {p : List MemPlace} {ts : List TypeId} {ds : List (DataW H)} (hsz : (DataW.weightsEach P ts ds).all (· ≤ reachBytes) = true) (j : Nat) (h : DataW.Trod enc P w 0 (fun _ => true) true t v d p) (ht : ts[j]? = some t) (hd : ds[j]? = some d) : Rd enc P w t v.cells.toList :=
  let ⟨f, h⟩ := h; ⟨f, _, h, fun n hn => by simpa using List.all_eq_true.1 hsz n (DataW.weights_mem_each ht hd n hn)⟩
theorem weights_mem_all {e : TypeId} : ∀ {ds : List (DataW H)} {d : DataW H}, d ∈ ds → ∀ n ∈ d.weights P e, n ∈ DataW.weightsAll P e ds
  | _ :: _, d, hd, n, hn => by
    rcases List.mem_cons.1 hd with rfl | hd
    · simp only [DataW.weightsAll, List.mem_append]; exact .inl hn
    · simp only [DataW.weightsAll, List.mem_append]; exact .inr (weights_mem_all hd n hn)
theorem Rd.int {t : TypeId} {k : IntKind} {cs : List Value} (h : Rd enc P w t cs) (ht : P.underlying t = some (.int k)) : ∃ n, cs = [.int k n] ∧ (Lit.int k n).wf = true := by
  obtain ⟨f, x, h, _⟩ := h; obtain ⟨n, h1, _, h3⟩ := DataW.trod_int ht h; exact ⟨n, h1, h3⟩
theorem wf_i64 {n : Int} (h : (Lit.int .i64 n).wf = true) : -9223372036854775808 ≤ n ∧ n ≤ 9223372036854775807 := by
  simp [Lit.wf, IntKind.min, IntKind.max, IntKind.signed, IntKind.bits] at h; omega
theorem wf_u8 {n : Int} (h : (Lit.int .u8 n).wf = true) : 0 ≤ n ∧ n ≤ 255 := by
  simp [Lit.wf, IntKind.min, IntKind.max, IntKind.signed, IntKind.bits] at h; omega
theorem Rd.i64 {t : TypeId} {cs : List Value} (h : Rd enc P w t cs) (ht : P.underlying t = some (.int .i64)) : ∃ n, cs = [.int .i64 n] ∧ -9223372036854775808 ≤ n ∧ n ≤ 9223372036854775807 := by
  obtain ⟨n, h1, h2⟩ := h.int ht; exact ⟨n, h1, wf_i64 h2⟩
theorem Rd.u8 {t : TypeId} {cs : List Value} (h : Rd enc P w t cs) (ht : P.underlying t = some (.int .u8)) : ∃ n, cs = [.int .u8 n] ∧ 0 ≤ n ∧ n ≤ 255 := by
  obtain ⟨n, h1, h2⟩ := h.int ht; exact ⟨n, h1, wf_u8 h2⟩
theorem Rd.bool {t : TypeId} {cs : List Value} (h : Rd enc P w t cs) (ht : P.underlying t = some .bool) : ∃ b, cs = [.bool b] := by
  obtain ⟨f, x, h, _⟩ := h; obtain ⟨b, h1, _⟩ := DataW.trod_bool ht h; exact ⟨b, h1⟩
theorem Rd.string {t : TypeId} {cs : List Value} (h : Rd enc P w t cs) (ht : P.underlying t = some .string) : ∃ s : ByteArray, cs = [.string s] ∧ s.size ≤ reachBytes := by
  obtain ⟨f, x, h, hz⟩ := h; obtain ⟨s, h1, rfl, h3⟩ := DataW.trod_string ht h; exact ⟨s, h1, hz s.size (by show s.data.size ∈ [s.data.toList.length]; rw [Array.length_toList]; exact List.mem_singleton.2 rfl)⟩
theorem Rd.struct {t : TypeId} {fs : Array Field} {cs : List Value} (h : Rd enc P w t cs) (ht : P.underlying t = some (.struct fs)) : cs.length = P.cellsOf t ∧ ∀ (i : Nat) (f : Field), fs[i]? = some f → Rd enc P w f.type ((cs.drop f.offset).take (P.cellsOf f.type)) := by
  obtain ⟨f, x, h, hz⟩ := h
  obtain ⟨xs, n, _, rfl, h1, h2, h3⟩ := DataW.trod_struct ht h
  refine ⟨h1, fun i f hf => ?_⟩
  have h4 := h3 i f hf
  have hlt : i < xs.length := by rw [h2]; exact (Array.getElem?_eq_some_iff.1 hf).1
  rw [List.getElem?_eq_getElem hlt] at h4
  refine ⟨n, _, h4, fun m hm => hz m ?_⟩
  simp only [DataW.weights, ht]
  refine DataW.weights_mem_each (j := i) (t := f.type) (d := (xs[i]).1) ?_ ?_ m hm
  · rw [List.getElem?_map, Array.getElem?_toList, hf]; rfl
  · rw [List.getElem?_map, List.getElem?_eq_getElem hlt]; rfl
/-- One field. -/
theorem Rd.field {t : TypeId} {cs : List Value} (h : Rd enc P w t cs) {fs : Array Field} (ht : P.underlying t = some (.struct fs)) (i off sz ft : Nat) (hf : (fs[i]?).map (fun f => (f.type, f.offset)) = some (ft, off)) (hs : P.cellsOf ft = sz) : Rd enc P w ft ((cs.drop off).take sz) := by
  cases e : fs[i]? with
  | none => rw [e] at hf; cases hf
  | some f =>
    rw [e] at hf
    simp only [Option.map_some, Option.some.injEq, Prod.mk.injEq] at hf
    have := (h.struct ht).2 i f e
    rw [hf.1, hf.2, hs] at this
    exact this
theorem Rd.array {t e : TypeId} {n : Nat} {cs : List Value} (h : Rd enc P w t cs) (ht : P.underlying t = some (.array n e)) : cs.length = P.cellsOf t ∧ ∀ i, i < n → Rd enc P w e ((cs.drop (i * P.cellsOf e)).take (P.cellsOf e)) := by
  obtain ⟨f, x, h, hz⟩ := h
  obtain ⟨xs, m, _, rfl, h1, h2, h3⟩ := DataW.trod_array ht h
  refine ⟨h1, fun i hi => ?_⟩
  have h4 := h3 i hi
  rw [List.getElem?_eq_getElem (by omega)] at h4
  refine ⟨m, _, h4, fun k hk => hz k ?_⟩
  simp only [DataW.weights, ht]
  exact weights_mem_all (List.mem_map_of_mem (List.getElem_mem _)) k hk
theorem list_of {α : Type} {Q : Nat → α → Prop} : ∀ n, (∀ i, i < n → ∃ a, Q i a) → ∃ l : List α, l.length = n ∧ ∀ i a, l[i]? = some a → Q i a
  | 0, _ => ⟨[], rfl, fun i a h => by cases h⟩
  | n + 1, h => by
    obtain ⟨l, h1, h2⟩ := list_of n fun i hi => h i (by omega)
    obtain ⟨a, ha⟩ := h n (by omega)
    refine ⟨l ++ [a], by simp [h1], fun i b hb => ?_⟩
    by_cases hi : i < n
    · rw [List.getElem?_append_left (by omega)] at hb; exact h2 i b hb
    · rw [List.getElem?_append_right (by omega)] at hb
      have : i - l.length = 0 := by
        rcases Nat.eq_zero_or_pos (i - l.length) with h | h
        · exact h
        · rw [List.getElem?_eq_none (by simp; omega)] at hb; cases hb
      rw [this] at hb
      simp at hb; subst hb
      have : i = n := by omega
      rw [this]; exact ha
theorem flatMap_get {α : Type} {f : α → List Value} {sz : Nat} (hf : ∀ a, (f a).length = sz) : ∀ (l : List α) (i : Nat) (v : Value), (l.flatMap f)[i]? = some v → ∃ a, l[i / sz]? = some a ∧ (f a)[i % sz]? = some v
  | [], i, v, h => by cases h
  | a :: l, i, v, h => by
    rw [List.flatMap_cons] at h
    by_cases hi : i < sz
    · rw [List.getElem?_append_left (by rw [hf]; exact hi)] at h
      exact ⟨a, by rw [Nat.div_eq_of_lt hi]; rfl, by rw [Nat.mod_eq_of_lt hi]; exact h⟩
    · rw [List.getElem?_append_right (by rw [hf]; omega), hf] at h
      obtain ⟨b, h1, h2⟩ := flatMap_get hf l (i - sz) v h
      have hsz : 0 < sz := by
        rcases Nat.eq_zero_or_pos sz with h0 | h0
        · subst h0; rw [Nat.mod_zero] at h2
          have := hf b
          rw [List.eq_nil_of_length_eq_zero this] at h2; cases h2
        · exact h0
      refine ⟨b, ?_, ?_⟩
      · rw [Nat.div_eq_sub_div hsz (by omega)]; exact h1
      · rw [Nat.mod_eq_sub_mod (by omega)]; exact h2
theorem flatMap_one {α : Type} (f : α → Value) (l : List α) : l.flatMap (fun n => [f n]) = l.map f := by
  induction l with
  | nil => rfl
  | cons a l ih => rw [List.flatMap_cons, ih]; rfl
theorem flatMap_len {α : Type} {f : α → List Value} {sz : Nat} (hf : ∀ a, (f a).length = sz) (l : List α) : (l.flatMap f).length = l.length * sz := by
  induction l with
  | nil => simp
  | cons a l ih => rw [List.flatMap_cons, List.length_append, ih, hf, List.length_cons, Nat.add_mul]; omega
theorem Rd.slice {t e : TypeId} {cs : List Value} (h : Rd enc P w t cs) (ht : P.underlying t = some (.slice e)) {α : Type} {f : α → List Value} {ok : α → Prop} {sz : Nat} (hsz : P.cellsOf e = sz) (h0 : 0 < sz) (hf : ∀ a, (f a).length = sz)
    (ho : ∀ cs, Rd enc P w e cs → ∃ a, cs = f a ∧ ok a) : ∃ A len cap, ∃ l : List α, cs = [.slice A len cap] ∧ IsSl w sz A len cap (l.flatMap f) ∧ len = l.length ∧ len ≤ cap ∧ cap ≤ maxLen ∧ len * P.bytesOf e ≤ reachBytes ∧ ∀ a ∈ l, ok a := by
  obtain ⟨fuel, x, h, hz⟩ := h
  rcases DataW.trod_slice ht h with ⟨rfl, _⟩ | ⟨a, len, cap, elems, rest, n, _, rfl, rfl, _, hl, hm, hlen, hel, _⟩
  · exact ⟨none, 0, 0, [], rfl, ⟨by simp, .inl rfl⟩, rfl, Nat.le_refl _, by unfold maxLen; omega, by unfold reachBytes; omega, fun a h => by cases h⟩
  · have each : ∀ i, i < len → ∃ b, (∀ j v, (f b)[j]? = some v → w.cell? (a.add (i * sz + j)) = some v) ∧ ok b := by
      intro i hi
      have h1 := hel i hi
      rw [List.getElem?_eq_getElem (by omega), Option.bind_eq_some_iff, hsz] at h1
      obtain ⟨cs, hcs, h2⟩ := h1
      obtain ⟨b, rfl, hok⟩ := ho cs ⟨n, _, h2, fun m hm => hz m (by
        simp only [DataW.weights, ht, List.mem_cons, List.mem_append]
        exact .inr (.inl (weights_mem_all (List.mem_map_of_mem (List.getElem_mem _)) m hm)))⟩
      refine ⟨b, fun j v hv => ?_, hok⟩
      have hj : j < sz := by
        rcases Nat.lt_or_ge j (f b).length with h | h
        · rw [hf] at h; exact h
        · rw [List.getElem?_eq_none h] at hv; cases hv
      have h3 := (World.cells?_some hcs).2.2 j hj
      rw [hv] at h3
      rw [← h3]
      congr 1
      unfold Addr.add
      split <;> split <;> split <;> simp_all <;> omega
    obtain ⟨l, h1, h2⟩ := list_of len each
    have hw : len * P.bytesOf e ≤ reachBytes := by
      have := hz ((elems.length + (rest.map (·.1)).length) * P.bytesOf e) (by simp [DataW.weights, ht])
      exact Nat.le_trans (Nat.mul_le_mul_right _ (by omega)) this
    refine ⟨some a, len, cap, l, rfl, ?_, h1.symm, hl, hm, hw, fun b hb => ?_⟩
    · refine ⟨by rw [flatMap_len hf, h1], ?_⟩
      by_cases h0' : len = 0
      · exact .inl h0'
      · obtain ⟨b0, hb0⟩ : ∃ b, l[0]? = some b := ⟨l[0]'(by omega), List.getElem?_eq_getElem (by omega)⟩
        obtain ⟨v0, hv0⟩ : ∃ v, (f b0)[0]? = some v := ⟨(f b0)[0]'(by rw [hf]; omega), List.getElem?_eq_getElem (by rw [hf]; omega)⟩
        have hc0 := (h2 0 b0 hb0).1 0 v0 hv0
        rw [Nat.zero_mul, Nat.zero_add] at hc0
        have ha0 : a.add 0 = a := by unfold Addr.add; rw [if_pos rfl]
        rw [ha0] at hc0
        obtain ⟨bl, o, spot⟩ := a
        have hspot : spot = none := by simpa using World.cell?_spot hc0
        subst hspot
        refine .inr ⟨bl, o, rfl, World.block_lt_of_cell? w ⟨bl, o, none⟩ hc0, hl, fun i v hv => ?_⟩
        obtain ⟨b, hb, hbv⟩ := flatMap_get hf l i v hv
        have := (h2 _ b hb).1 _ v hbv
        rw [addr_add, Nat.mul_comm, Nat.div_add_mod] at this
        exact this
    · obtain ⟨i, hi⟩ := List.getElem?_of_mem hb
      exact (h2 i b hi).2
theorem Rd.bytes {t e : TypeId} {cs : List Value} (h : Rd enc P w t cs) (ht : P.underlying t = some (.slice e)) (he : P.underlying e = some (.int .u8)) (hsz : P.cellsOf e = 1) (hby : P.bytesOf e = 1) : ∃ A len cap l, cs = [.slice A len cap] ∧ IsRow w .u8 A len cap l ∧ Octets l ∧ len ≤ cap ∧ cap ≤ maxLen ∧ len ≤ 140737488351232 := by
  obtain ⟨A, len, cap, l, h1, h2, h3, h4, h5, h7, h6⟩ := h.slice ht (f := fun n => [.int .u8 n]) (ok := fun n => 0 ≤ n ∧ n ≤ 255) hsz (by decide) (fun _ => rfl) (fun cs hc => by obtain ⟨n, h1, h2⟩ := hc.u8 he; exact ⟨n, h1, h2⟩)
  rw [hby] at h7
  refine ⟨A, len, cap, l, h1, ?_, fun x hx => h6 x hx, h4, h5, by unfold reachBytes at h7; omega⟩
  unfold IsRow
  rw [← flatMap_one]; exact h2
theorem Rd.ints {t e : TypeId} {cs : List Value} (h : Rd enc P w t cs) (ht : P.underlying t = some (.slice e)) (he : P.underlying e = some (.int .i64)) (hsz : P.cellsOf e = 1) (hby : P.bytesOf e = 8) : ∃ A len cap l, cs = [.slice A len cap] ∧ IsRow w .i64 A len cap l ∧ (∀ x ∈ l, -9223372036854775808 ≤ x ∧ x ≤ 9223372036854775807) ∧ len ≤ cap ∧ cap ≤ maxLen ∧ len ≤ 17592186043904 := by
  obtain ⟨A, len, cap, l, h1, h2, h3, h4, h5, h7, h6⟩ := h.slice ht (f := fun n => [.int .i64 n]) (ok := fun n => -9223372036854775808 ≤ n ∧ n ≤ 9223372036854775807) hsz (by decide) (fun _ => rfl) (fun cs hc => by obtain ⟨n, h1, h2⟩ := hc.i64 he; exact ⟨n, h1, h2⟩)
  rw [hby] at h7
  refine ⟨A, len, cap, l, h1, ?_, fun x hx => h6 x hx, h4, h5, by unfold reachBytes at h7; omega⟩
  unfold IsRow
  rw [← flatMap_one]; exact h2
/-- A row as a slice: where it lies, its numbers. -/
abbrev RowL := Option Addr × Nat × Nat × List Int
def RowL.val (r : RowL) : Value := .slice r.1 r.2.1 r.2.2.1
theorem Rd.rows {t e i : TypeId} {cs : List Value} (h : Rd enc P w t cs) (ht : P.underlying t = some (.slice e)) (he : P.underlying e = some (.slice i)) (hi : P.underlying i = some (.int .i64)) (hse : P.cellsOf e = 1) (hbe : P.bytesOf e = 24) (hsi : P.cellsOf i = 1) (hbi : P.bytesOf i = 8) :
    ∃ A len cap, ∃ ls : List RowL, cs = [.slice A len cap] ∧ IsSl w 1 A len cap (ls.map RowL.val) ∧ len = ls.length ∧ len ≤ cap ∧ cap ≤ maxLen ∧ len ≤ 5864062014634 ∧
      ∀ r ∈ ls, IsRow w .i64 r.1 r.2.1 r.2.2.1 r.2.2.2 ∧ (∀ x ∈ r.2.2.2, -9223372036854775808 ≤ x ∧ x ≤ 9223372036854775807) ∧ r.2.1 ≤ r.2.2.1 ∧ r.2.2.1 ≤ maxLen ∧ r.2.1 ≤ 17592186043904 := by
  obtain ⟨A, len, cap, l, h1, h2, h3, h4, h5, h7, h6⟩ := h.slice ht (f := fun r : RowL => [r.val]) (ok := fun r => IsRow w .i64 r.1 r.2.1 r.2.2.1 r.2.2.2 ∧ (∀ x ∈ r.2.2.2, -9223372036854775808 ≤ x ∧ x ≤ 9223372036854775807) ∧ r.2.1 ≤ r.2.2.1 ∧ r.2.2.1 ≤ maxLen ∧ r.2.1 ≤ 17592186043904) hse (by decide) (fun _ => rfl) (fun cs hc => by
    obtain ⟨A, len, cap, l, h1, h2⟩ := hc.ints he hi hsi hbi
    exact ⟨(A, len, cap, l), h1, h2⟩)
  rw [hbe] at h7
  refine ⟨A, len, cap, l, h1, ?_, h3, h4, h5, by unfold reachBytes at h7; omega, h6⟩
  rw [← flatMap_one]; exact h2
end
section
variable {H : Type} {enc : TypeId × Value → H} {P : Program} {w : World}
/-- A value of a type that is no struct's. -/
theorem rd_int {t : TypeId} {v : Value} {base : Nat} (ht : P.underlying t = some (.int .i64)) (hv : Value.okWide P w .any base t v) (h : Rd enc P w t v.cells.toList) : ∃ n, v = .int .i64 n ∧ -9223372036854775808 ≤ n ∧ n ≤ 9223372036854775807 := by
  obtain ⟨m, rfl⟩ := Go.WideShapes.okWide_int ht hv
  obtain ⟨n, h1, h2⟩ := Rd.i64 (cs := [.int .i64 m]) h ht
  simp only [List.cons.injEq, Value.int.injEq, true_and, and_true] at h1
  subst h1
  exact ⟨m, rfl, h2⟩
theorem rd_slice {t e : TypeId} {v : Value} {base : Nat} (ht : P.underlying t = some (.slice e)) (hv : Value.okWide P w .any base t v) : ∃ A len cap, v = .slice A len cap ∧ v.cells.toList = [.slice A len cap] := by
  obtain ⟨a, len, cap, rfl⟩ := Go.WideShapes.okWide_slice ht hv
  exact ⟨a, len, cap, rfl, rfl⟩
end
end Go.Port

set_option linter.unusedSimpArgs false
set_option linter.unusedVariables false
namespace Go.Port
open Go.RowKit Go.ChangeShapes Go.WideShapes
theorem trodAll_stays {H : Type} {enc : TypeId × Value → H} {P : Program} (hl : laidOutB P = true) {W W' : World} (hb : Below W.heap.size W W') :
    ∀ {ts : List TypeId} {vs : List Value} {ds : List (DataW H)} {ps : List MemPlace}, (ts.all fun t => P.readableRec t && decide (t < P.types.size)) = true → DataW.TrodAll enc P W 0 (fun _ => true) true ts vs ds ps →
      DataW.TrodAll enc P W' 0 (fun b => decide (b < W.heap.size)) true ts vs ds ps
  | [], vs, ds, ps, _, h => by
    obtain ⟨rfl, rfl, rfl⟩ := trodAll_nil h
    exact trodAll_mk0
  | t :: ts, vs, ds, ps, hts, h => by
    have hlt := h.lt
    obtain ⟨v, vs', d, ds', p, q, rfl, rfl, rfl, h1, h2⟩ := trodAll_cons h
    simp only [List.all_cons, Bool.and_eq_true, decide_eq_true_eq] at hts
    exact trodAll_cons_mk (Below.trod hl hts.1.1 hts.1.2 h1 hb (fun x hx => hlt x (by simp [hx]))) (trodAll_stays hl hb hts.2 h2)
end Go.Port

set_option linter.unusedSimpArgs false
set_option linter.unusedVariables false
namespace Go.Proofs.YtghnjmjdaggopaaGreatDoor
open Go.Port
section
variable {H : Type} {enc : TypeId × Value → H} {w : World}
set_option maxRecDepth 100000 in
theorem rd_key {cs : List Value} (h : Rd enc Tryz.prog w 37 cs) : ∃ k s f d t, cs = [.int .i64 k, .int .i64 s, .int .i64 f, .int .i64 d, .int .i64 t] := by
  have hT := Tryz.underlying37
  have hl : cs.length = 5 := (h.struct hT).1.trans (by kernel_rfl)
  match cs, hl with
  | [x0, x1, x2, x3, x4], _ =>
    have hi := Tryz.underlying3
    obtain ⟨f, e0, _⟩ := Rd.i64 (cs := [x0]) (h.field hT 0 0 1 3 rfl (by kernel_rfl)) hi
    obtain ⟨t, e1, _⟩ := Rd.i64 (cs := [x1]) (h.field hT 1 1 1 3 rfl (by kernel_rfl)) hi
    obtain ⟨q, e2, _⟩ := Rd.i64 (cs := [x2]) (h.field hT 2 2 1 3 rfl (by kernel_rfl)) hi
    obtain ⟨a, e3, _⟩ := Rd.i64 (cs := [x3]) (h.field hT 3 3 1 3 rfl (by kernel_rfl)) hi
    obtain ⟨x, e4, _⟩ := Rd.i64 (cs := [x4]) (h.field hT 4 4 1 3 rfl (by kernel_rfl)) hi
    simp only [List.cons.injEq, and_true] at e0 e1 e2 e3 e4
    subst e0 e1 e2 e3 e4
    exact ⟨f, t, q, a, x, rfl⟩
end
end Go.Proofs.YtghnjmjdaggopaaGreatDoor

set_option linter.unusedSimpArgs false
set_option linter.unusedVariables false
namespace Go.Proofs.YtghnjmjdaggopaaGreatDoor
open Go.Port
section
variable {H : Type} {enc : TypeId × Value → H} {w : World}
set_option maxRecDepth 100000 in
theorem rd_segment {cs : List Value} (h : Rd enc Tryz.prog w 41 cs) : ∃ f t q a x y A len cap l, cs = [.int .i64 f, .int .i64 t, .int .i64 q, .int .i64 a, .int .i64 x, .int .i64 y, .slice A len cap] ∧ IsRow w .u8 A len cap l ∧ Octets l ∧ len ≤ cap ∧ cap ≤ maxLen ∧ len ≤ 140737488351232 := by
  have hT := Tryz.underlying41
  have hl : cs.length = 7 := (h.struct hT).1.trans (by kernel_rfl)
  match cs, hl with
  | [x0, x1, x2, x3, x4, x5, x6], _ =>
    have hi := Tryz.underlying3
    obtain ⟨f, e0, _⟩ := Rd.i64 (cs := [x0]) (h.field hT 0 0 1 3 rfl (by kernel_rfl)) hi
    obtain ⟨t, e1, _⟩ := Rd.i64 (cs := [x1]) (h.field hT 1 1 1 3 rfl (by kernel_rfl)) hi
    obtain ⟨q, e2, _⟩ := Rd.i64 (cs := [x2]) (h.field hT 2 2 1 3 rfl (by kernel_rfl)) hi
    obtain ⟨a, e3, _⟩ := Rd.i64 (cs := [x3]) (h.field hT 3 3 1 3 rfl (by kernel_rfl)) hi
    obtain ⟨x, e4, _⟩ := Rd.i64 (cs := [x4]) (h.field hT 4 4 1 3 rfl (by kernel_rfl)) hi
    obtain ⟨y, e5, _⟩ := Rd.i64 (cs := [x5]) (h.field hT 5 5 1 3 rfl (by kernel_rfl)) hi
    obtain ⟨A, len, cap, l, e6, hb⟩ := Rd.bytes (cs := [x6]) (h.field hT 6 6 1 39 rfl (by kernel_rfl)) Tryz.underlying39 Tryz.underlying5 (by kernel_rfl) (by kernel_rfl)
    simp only [List.cons.injEq, and_true] at e0 e1 e2 e3 e4 e5 e6
    subst e0 e1 e2 e3 e4 e5 e6
    exact ⟨f, t, q, a, x, y, A, len, cap, l, rfl, hb⟩
end
end Go.Proofs.YtghnjmjdaggopaaGreatDoor

set_option linter.unusedSimpArgs false
set_option linter.unusedVariables false
namespace Go.Proofs.YtghnjmjdaggopaaGreatDoor
open Go.Port Go.RowKit
/-- A segment: its numbers, and where its body lies. -/
structure Sg where
  (f t q a x y : Int)
  (A : Option Addr)
  (n c : Nat)
def Sg.row (p : Sg) : List Value := [.int .i64 p.f, .int .i64 p.t, .int .i64 p.q, .int .i64 p.a, .int .i64 p.x, .int .i64 p.y, .slice p.A p.n p.c]
section
variable {H : Type} {enc : TypeId × Value → H} {w : World}
set_option maxRecDepth 100000 in
theorem rd_segments {cs : List Value} (h : Rd enc Tryz.prog w 24 cs) : ∃ A len cap, ∃ l : List Sg, cs = [.slice A len cap] ∧ IsSl w 7 A len cap (l.flatMap Sg.row) ∧ len = l.length ∧ ∀ p ∈ l, p.n ≤ 9000000000000000 := by
  obtain ⟨A, len, cap, l, h1, h2, h3, _, _, _, h6⟩ := h.slice Tryz.underlying24 (f := Sg.row) (ok := fun p => p.n ≤ 9000000000000000) (sz := 7) (by kernel_rfl) (by decide) (fun _ => rfl) (fun cs hc => by
    obtain ⟨f, t, q, a, x, y, A, len, cap, l, rfl, _, _, _, _, hl⟩ := rd_segment hc
    exact ⟨⟨f, t, q, a, x, y, A, len, cap⟩, rfl, by show len ≤ _; omega⟩)
  exact ⟨A, len, cap, l, h1, h2, h3, h6⟩
end
end Go.Proofs.YtghnjmjdaggopaaGreatDoor

set_option linter.unusedSimpArgs false
set_option linter.unusedVariables false
namespace Go.Proofs.YtghnjmjdaggopaaGreatDoor
open Go.Port
section
variable {H : Type} {enc : TypeId × Value → H} {w : World}
set_option maxRecDepth 100000 in
theorem rd_pair {a b : Value} (h : Rd enc Tryz.prog w 42 [a, b]) : ∃ n m : Int, a = .int .i64 n ∧ b = .int .i64 m := by
  have hc : Tryz.prog.cellsOf 3 = 1 := by kernel_rfl
  have h0 := (h.array Tryz.underlying42).2 0 (by decide)
  have h1 := (h.array Tryz.underlying42).2 1 (by decide)
  rw [hc] at h0 h1
  obtain ⟨n, e0, _⟩ := Rd.i64 (cs := [a]) h0 Tryz.underlying3
  obtain ⟨m, e1, _⟩ := Rd.i64 (cs := [b]) h1 Tryz.underlying3
  simp only [List.cons.injEq, and_true] at e0 e1
  exact ⟨n, m, e0, e1⟩
set_option maxRecDepth 100000 in
theorem rd_pairB {a b : Value} (h : Rd enc Tryz.prog w 43 [a, b]) : ∃ n m : Bool, a = .bool n ∧ b = .bool m := by
  have hc : Tryz.prog.cellsOf 4 = 1 := by kernel_rfl
  have h0 := (h.array Tryz.underlying43).2 0 (by decide)
  have h1 := (h.array Tryz.underlying43).2 1 (by decide)
  rw [hc] at h0 h1
  obtain ⟨n, e0⟩ := Rd.bool (cs := [a]) h0 Tryz.underlying4
  obtain ⟨m, e1⟩ := Rd.bool (cs := [b]) h1 Tryz.underlying4
  simp only [List.cons.injEq, and_true] at e0 e1
  exact ⟨n, m, e0, e1⟩
set_option maxRecDepth 100000 in
theorem rd_flow {cs : List Value} (h : Rd enc Tryz.prog w 45 cs) : ∃ k s f d t st un sp h0 h1 w0 w1 d0 d1 nm, cs = [.int .i64 k, .int .i64 s, .int .i64 f, .int .i64 d, .int .i64 t, .int .i64 st, .int .i64 un, .int .i64 sp, .int .i64 h0, .int .i64 h1, .int .i64 w0, .int .i64 w1, .bool d0, .bool d1, .int .i64 nm] := by
  have hT := Tryz.underlying45
  have hl : cs.length = 15 := (h.struct hT).1.trans (by kernel_rfl)
  match cs, hl with
  | [x0, x1, x2, x3, x4, x5, x6, x7, x8, x9, x10, x11, x12, x13, x14], _ =>
    have hi := Tryz.underlying3
    obtain ⟨k, s, f, d, t, e0⟩ := rd_key (cs := [x0, x1, x2, x3, x4]) (h.field hT 0 0 5 37 rfl (by kernel_rfl))
    obtain ⟨st, e5, _⟩ := Rd.i64 (cs := [x5]) (h.field hT 1 5 1 3 rfl (by kernel_rfl)) hi
    obtain ⟨un, e6, _⟩ := Rd.i64 (cs := [x6]) (h.field hT 2 6 1 3 rfl (by kernel_rfl)) hi
    obtain ⟨sp, e7, _⟩ := Rd.i64 (cs := [x7]) (h.field hT 3 7 1 3 rfl (by kernel_rfl)) hi
    obtain ⟨h0, h1, rfl, rfl⟩ := rd_pair (a := x8) (b := x9) (h.field hT 4 8 2 42 rfl (by kernel_rfl))
    obtain ⟨w0, w1, rfl, rfl⟩ := rd_pair (a := x10) (b := x11) (h.field hT 5 10 2 42 rfl (by kernel_rfl))
    obtain ⟨d0, d1, rfl, rfl⟩ := rd_pairB (a := x12) (b := x13) (h.field hT 6 12 2 43 rfl (by kernel_rfl))
    obtain ⟨nm, e14, _⟩ := Rd.i64 (cs := [x14]) (h.field hT 7 14 1 3 rfl (by kernel_rfl)) hi
    simp only [List.cons.injEq, and_true] at e0 e5 e6 e7 e14
    obtain ⟨rfl, rfl, rfl, rfl, rfl⟩ := e0
    subst e5 e6 e7 e14
    exact ⟨k, s, f, d, t, st, un, sp, h0, h1, w0, w1, d0, d1, nm, rfl⟩
end
end Go.Proofs.YtghnjmjdaggopaaGreatDoor

set_option linter.unusedSimpArgs false
set_option linter.unusedVariables false
namespace Go.Proofs.YtghnjmjdaggopaaGreatDoor
open Go.Port Go.RowKit
section
variable {H : Type} {enc : TypeId × Value → H} {w : World}
set_option maxRecDepth 100000 in
theorem rd_flows {cs : List Value} (h : Rd enc Tryz.prog w 23 cs) : ∃ A len cap, ∃ l : List Fl, cs = [.slice A len cap] ∧ IsSl w 15 A len cap (rowsG Fl.row l) ∧ len = l.length := by
  obtain ⟨A, len, cap, l, h1, h2, h3, _⟩ := h.slice Tryz.underlying23 (f := Fl.row) (ok := fun _ => True) (sz := 15) (by kernel_rfl) (by decide) (fun _ => rfl) (fun cs hc => by
    obtain ⟨k, s, f, d, t, st, un, sp, h0, h1, w0, w1, d0, d1, nm, rfl⟩ := rd_flow hc
    exact ⟨⟨k, s, f, d, t, st, un, sp, h0, h1, w0, w1, d0, d1, nm⟩, rfl, trivial⟩)
  exact ⟨A, len, cap, l, h1, h2, h3⟩
end
end Go.Proofs.YtghnjmjdaggopaaGreatDoor
