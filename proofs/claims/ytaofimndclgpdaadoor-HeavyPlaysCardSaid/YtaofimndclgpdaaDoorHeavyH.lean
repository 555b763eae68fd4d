/- heavy: what a Merge leaves: the plain part. -/
import Derived.Test.YtaofimndclgpdaaDoorHeavyG
set_option linter.unusedSimpArgs false
set_option linter.unusedVariables false
namespace Go.Port
theorem sm_app : ∀ (a b : List (Int × Int)), smH (a ++ b) = smH a + smH b
  | [], b => by show smH b = 0 + smH b; omega
  | e :: a, b => by
    rw [List.cons_append, smH, smH, sm_app a b]
    omega
theorem sm_perm {a b : List (Int × Int)} (h : a.Perm b) : smH a = smH b := by
  induction h with
  | nil => rfl
  | cons x _ ih => rw [smH, smH, ih]
  | swap x y l => rw [smH, smH, smH, smH]; omega
  | trans _ _ h1 h2 => exact h1.trans h2
theorem OkH.perm {a b : List (Int × Int)} (h : a.Perm b) (ha : OkH a) : OkH b :=
  ⟨(h.map Prod.fst).nodup_iff.1 ha.1, fun e he => ha.2 e (h.mem_iff.2 he)⟩
theorem lk_in : ∀ {l : List (Int × Int)} {e : Int × Int}, OkH l → e ∈ l → lkH l e.1 = e.2
  | [], _, _, h => nomatch h
  | x :: l, e, hk, h => by
    obtain ⟨h1, _, h3⟩ := hk.tail
    rw [lkH]
    rcases List.mem_cons.1 h with rfl | h
    · rw [if_pos rfl]
    · rw [if_neg fun he => h3 e h he.symm, lk_in h1 h]
theorem lk_perm {a b : List (Int × Int)} (h : a.Perm b) (ha : OkH a) (k : Int) : lkH a k = lkH b k := by
  by_cases hk : ∃ e ∈ a, e.1 = k
  · obtain ⟨e, he, rfl⟩ := hk
    rw [lk_in ha he, lk_in (OkH.perm h ha) (h.mem_iff.1 he)]
  · rw [lk_out fun x hx he => hk ⟨x, hx, he⟩, lk_out fun x hx he => hk ⟨x, h.mem_iff.2 hx, he⟩]
theorem HvI.perm {n : Nat} {a b : List (Int × Int)} {less all key mine : Int} (h : a.Perm b) (hi : HvI n a less all key mine) : HvI n b less all key mine :=
  ⟨OkH.perm h hi.ok, hi.pos, by rw [← sm_perm h]; exact hi.sum, by rw [← lk_perm h hi.ok]; exact hi.hi, by rw [← lk_perm h hi.ok]; exact hi.lo⟩
theorem cnt_countP (m : Int) : ∀ l : List (Int × Int), cntH m l = (l.map (·.2)).countP (fun v => decide (m ≤ v))
  | [] => rfl
  | e :: l => by
    rw [cntH, List.map_cons, List.countP_cons, cnt_countP m l]
    by_cases h : m ≤ e.2
    · rw [if_pos h, if_pos (by simpa using h)]
    · rw [if_neg h, if_neg (by simpa using h)]; rfl
/-- The count that as many have as may stay, and one more. -/
theorem cut_many {C : Cn} {zs : List Int} {n : Nat} {m : Int} (hp : zs.Perm (C.map (fun e => e.2.1))) (hs : zs.Pairwise (fun x y => x ≤ y)) (hn : n < zs.length) (hm : zs[zs.length - 1 - n]? = some m) : n + 1 ≤ cntH m (hl C) := by
  have e1 : (hl C).map (·.2) = C.map (fun e => e.2.1) := by
    unfold hl
    rw [List.map_map]
    rfl
  rw [cnt_countP, e1, ← hp.countP_eq]
  have h1 : zs.countP (fun v => decide (m ≤ v)) = (zs.take (zs.length - 1 - n)).countP (fun v => decide (m ≤ v)) + (zs.drop (zs.length - 1 - n)).countP (fun v => decide (m ≤ v)) := by
    rw [← List.countP_append, List.take_append_drop]
  have h2 : (zs.drop (zs.length - 1 - n)).countP (fun v => decide (m ≤ v)) = (zs.drop (zs.length - 1 - n)).length := by
    rw [List.countP_eq_length]
    intro v hv
    obtain ⟨i, hi, rfl⟩ := List.getElem_of_mem hv
    rw [List.getElem_drop]
    rw [decide_eq_true_eq]
    obtain ⟨hlt, hmv⟩ := List.getElem?_eq_some_iff.1 hm
    rw [← hmv]
    by_cases h0 : i = 0
    · subst h0
      exact Int.le_refl _
    · exact (List.pairwise_iff_getElem.1 hs) _ _ _ _ (by omega)
  rw [h1, h2, List.length_drop]
  omega
/-- A key is added to. -/
theorem puts_step {C : Cn} {ck : Nat} {k v : Int} (h : CnOk C ck) : (∃ (j : Nat) (u : Value) (x : Int × Int × Nat), lkK (hM C) k = some (j, u) ∧ (hM C)[j]? = some (k, u, x.2.2) ∧ lkH (hl C) k = x.2.1 ∧ (k, x.2.1) ∈ hl C ∧ (hM C).set j (k, .int .i64 (x.2.1 + v), x.2.2) = hM (C.set j (k, x.2.1 + v, x.2.2)) ∧ CnOk (C.set j (k, x.2.1 + v, x.2.2)) ck ∧ hl (C.set j (k, x.2.1 + v, x.2.2)) = putH k v (hl C) ∧ (C.set j (k, x.2.1 + v, x.2.2)).length = C.length) ∨
    (lkK (hM C) k = none ∧ lkH (hl C) k = 0 ∧ hM C ++ [(k, .int .i64 v, ck)] = hM (C ++ [(k, v, ck)]) ∧ CnOk (C ++ [(k, v, ck)]) (ck + 1) ∧ hl (C ++ [(k, v, ck)]) = putH k v (hl C)) := by
  cases hk : lkK (hM C) k with
  | none =>
    obtain ⟨h1, h2⟩ := hM_none hk
    refine .inr ⟨rfl, lk_out fun e he => ?_, by unfold hM; rw [List.map_append]; rfl, ok_snoc h h1 v, h2 v ck⟩
    obtain ⟨x, hx, rfl⟩ := List.mem_map.1 he
    exact h1 x hx
  | some ju =>
    obtain ⟨j, u⟩ := ju
    obtain ⟨x, hx, rfl, _, hm, hlk, hs⟩ := hM_some hk
    obtain ⟨h1, h2⟩ := ok_set h hx (x.2.1 + v)
    refine .inl ⟨j, u, x, rfl, hm, hlk, List.mem_map_of_mem (f := fun e : Int × Int × Nat => (e.1, e.2.1)) (List.mem_of_getElem? hx), ?_, h1, hs v, h2⟩
    unfold hM
    rw [List.map_set]
theorem puts_snoc : ∀ (r l : List (Int × Int)) (e : Int × Int), putsH l (r ++ [e]) = putH e.1 e.2 (putsH l r)
  | [], l, e => rfl
  | x :: r, l, e => by
    rw [List.cons_append, putsH, putsH, puts_snoc r]
end Go.Port
