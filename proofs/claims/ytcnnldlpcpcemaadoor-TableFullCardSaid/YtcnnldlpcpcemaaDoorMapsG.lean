/- Maps of any keys to whatever: what is kept, what goes, what comes next. No program here. -/
import Derived.Test.YtcnnldlpcpcemaaDoorMapsK
import Derived.Test.YtcnnldlpcpcemaaDoorFragP
set_option linter.unusedSimpArgs false
set_option linter.unusedVariables false
namespace Go.Port
open Go.RowKit
/-- A map's content: the key, what it holds, when it was put. -/
abbrev Mg (κ α : Type) := List (κ × α × Nat)
section
variable {κ α : Type} {val : α → Value}
def gM (val : α → Value) (C : Mg κ α) : MK κ := C.map fun e => (e.1, val e.2.1, e.2.2)
structure MgOk (C : Mg κ α) (ck : Nat) : Prop where
  keys : (C.map (·.1)).Nodup
  borns : (C.map (·.2.2)).Nodup
  low : ∀ e ∈ C, e.2.2 < ck
theorem MgOk.nil : MgOk ([] : Mg κ α) 0 := ⟨List.nodup_nil, List.nodup_nil, fun _ h => nomatch h⟩
theorem gM_len (C : Mg κ α) : (gM val C).length = C.length := List.length_map _
theorem gM_keys {C : Mg κ α} {ck : Nat} (h : MgOk C ck) : ((gM val C).map (·.1)).Nodup := by
  unfold gM
  rw [List.map_map]
  exact h.keys
theorem gM_borns {C : Mg κ α} {ck : Nat} (h : MgOk C ck) : ((gM val C).map (·.2.2)).Nodup := by
  unfold gM
  rw [List.map_map]
  exact h.borns
theorem gM_low {C : Mg κ α} {ck : Nat} (h : MgOk C ck) : ∀ e ∈ gM val C, e.2.2 < ck := fun e he => by
  obtain ⟨x, hx, rfl⟩ := List.mem_map.1 he
  exact h.low x hx
theorem MgOk.filter {C : Mg κ α} {ck : Nat} (h : MgOk C ck) (p : κ × α × Nat → Bool) : MgOk (C.filter p) ck :=
  ⟨h.keys.sublist (List.filter_sublist.map _), h.borns.sublist (List.filter_sublist.map _), fun x hx => h.low x (List.mem_filter.1 hx).1⟩
/-- Gone so far: those that came, and are to go. -/
def keepG (S : List Nat) (old : κ × α × Nat → Bool) (e : κ × α × Nat) : Bool := !(S.contains e.2.2 && old e)
theorem cutG_del [DecidableEq κ] {C : Mg κ α} {ck : Nat} (h : MgOk C ck) {S : List Nat} {old : κ × α × Nat → Bool} {x : κ × α × Nat} (hx : x ∈ C) (ho : old x = true) : (C.filter (keepG S old)).filter (fun y => decide (y.1 ≠ x.1)) = C.filter (keepG (S ++ [x.2.2]) old) := by
  rw [List.filter_filter]
  refine List.filter_congr fun y hy => ?_
  unfold keepG
  by_cases he : y = x
  · subst he
    simp [ho]
  · have h1 : y.1 ≠ x.1 := fun e => he (inj_of_nodup h.keys hy hx e)
    have h2 : y.2.2 ≠ x.2.2 := fun e => he (inj_of_nodup h.borns hy hx e)
    simp [h1, h2]
theorem cutG_stay {C : Mg κ α} {ck : Nat} (h : MgOk C ck) {S : List Nat} {old : κ × α × Nat → Bool} {x : κ × α × Nat} (hx : x ∈ C) (ho : old x = false) : C.filter (keepG S old) = C.filter (keepG (S ++ [x.2.2]) old) := by
  refine List.filter_congr fun y hy => ?_
  unfold keepG
  by_cases he : y = x
  · subst he
    simp [ho]
  · have h2 : y.2.2 ≠ x.2.2 := fun e => he (inj_of_nodup h.borns hy hx e)
    simp [h2]
theorem cutG_all {C : Mg κ α} {S : List Nat} {old : κ × α × Nat → Bool} (h : leftK (gM val (C.filter (keepG S old))) S = []) : C.filter (keepG S old) = C.filter (fun x => !old x) := by
  refine List.filter_congr fun y hy => ?_
  unfold keepG
  by_cases hb : y.2.2 ∈ S
  · simp [hb]
  · have h1 : (y.1, val y.2.1, y.2.2) ∈ leftK (gM val (C.filter (keepG S old))) S := by
      rw [leftK_mem]
      refine ⟨List.mem_map_of_mem (f := fun e : κ × α × Nat => (e.1, val e.2.1, e.2.2)) (List.mem_filter.2 ⟨hy, ?_⟩), hb⟩
      unfold keepG
      simp [hb]
    rw [h] at h1
    cases h1
theorem cutG_none (C : Mg κ α) (old : κ × α × Nat → Bool) : C.filter (keepG [] old) = C := List.filter_eq_self.2 fun x _ => by simp [keepG]
theorem leftG_step {C C' : Mg κ α} {S : List Nat} {x : κ × α × Nat} (hx : x ∈ C) (hs : x.2.2 ∉ S) (hsub : (gM val C').Sublist (gM val C)) : (leftK (gM val C') (S ++ [x.2.2])).length < (leftK (gM val C) S).length :=
  left_less (e := (x.1, val x.2.1, x.2.2)) (List.mem_map_of_mem (f := fun e : κ × α × Nat => (e.1, val e.2.1, e.2.2)) hx) hs hsub
theorem left_gM (C : Mg κ α) (S : List Nat) : leftK (gM val C) S = gM val (C.filter (fun e => !S.contains e.2.2)) := by
  unfold leftK gM
  rw [List.filter_map]
  rfl
theorem came_stepG [DecidableEq κ] : ∀ {C : Mg κ α} {S : List Nat} {x : κ × α × Nat}, (C.map (·.2.2)).Nodup → x ∈ C → x.2.2 ∉ S → (C.filter (fun e => !S.contains e.2.2)).Perm (x :: C.filter (fun e => !(S ++ [x.2.2]).contains e.2.2))
  | [], _, _, _, h, _ => nomatch h
  | e :: C, S, x, hn, hx, hs => by
    rw [List.map_cons, List.nodup_cons] at hn
    rw [List.filter_cons, List.filter_cons]
    by_cases he : e.2.2 = x.2.2
    · have hex : e = x := by
        rcases List.mem_cons.1 hx with h | h
        · exact h.symm
        · exact absurd (by rw [he]; exact List.mem_map_of_mem (f := fun e : κ × α × Nat => e.2.2) h) hn.1
      subst hex
      rw [if_pos (by simp [hs]), if_neg (by simp)]
      refine .cons _ (.of_eq (List.filter_congr fun y hy => ?_))
      have h2 : y.2.2 ≠ e.2.2 := fun h => hn.1 (by rw [← h]; exact List.mem_map_of_mem (f := fun e : κ × α × Nat => e.2.2) hy)
      simp [h2]
    · have hxC : x ∈ C := by
        rcases List.mem_cons.1 hx with h | h
        · exact absurd (congrArg (fun y : κ × α × Nat => y.2.2) h).symm he
        · exact h
      have ih := came_stepG hn.2 hxC hs
      by_cases hb : e.2.2 ∈ S
      · rw [if_neg (by simp [hb]), if_neg (by simp [hb])]
        exact ih
      · rw [if_pos (by simp [hb]), if_pos (by simp [hb, he])]
        exact (ih.cons e).trans (.swap _ _ _)
/-- What is held of a key. -/
def lkG [DecidableEq κ] : Mg κ α → κ → Option α
  | [], _ => none
  | e :: C, k => if e.1 = k then some e.2.1 else lkG C k
theorem gM_none [DecidableEq κ] : ∀ {C : Mg κ α} {k : κ}, (∀ x ∈ C, x.1 ≠ k) → lkK (gM val C) k = none ∧ lkG C k = none
  | [], _, _ => ⟨rfl, rfl⟩
  | e :: C, k, h => by
    obtain ⟨h1, h2⟩ := gM_none fun x hx => h x (List.Mem.tail _ hx)
    have he := h e (List.Mem.head _)
    refine ⟨?_, by rw [lkG, if_neg he, h2]⟩
    show lkK ((e.1, val e.2.1, e.2.2) :: gM val C) k = none
    rw [lkK, if_neg he, h1]
    rfl
theorem gM_some [DecidableEq κ] : ∀ {C : Mg κ α} {x : κ × α × Nat}, (C.map (·.1)).Nodup → x ∈ C → ∃ j, C[j]? = some x ∧ lkK (gM val C) x.1 = some (j, val x.2.1) ∧ (gM val C)[j]? = some (x.1, val x.2.1, x.2.2) ∧ lkG C x.1 = some x.2.1
  | [], _, _, h => nomatch h
  | e :: C, x, hn, hx => by
    rw [List.map_cons, List.nodup_cons] at hn
    by_cases he : e.1 = x.1
    · have hex : e = x := by
        rcases List.mem_cons.1 hx with h | h
        · exact h.symm
        · exact absurd (by rw [he]; exact List.mem_map_of_mem (f := fun e : κ × α × Nat => e.1) h) hn.1
      subst hex
      refine ⟨0, rfl, ?_, rfl, by rw [lkG, if_pos rfl]⟩
      show lkK ((e.1, val e.2.1, e.2.2) :: gM val C) e.1 = _
      rw [lkK, if_pos rfl]
    · have hxC : x ∈ C := by
        rcases List.mem_cons.1 hx with h | h
        · exact absurd (by rw [h]) he
        · exact h
      obtain ⟨j, h1, h2, h3, h4⟩ := gM_some hn.2 hxC
      refine ⟨j + 1, by simpa using h1, ?_, ?_, by rw [lkG, if_neg he, h4]⟩
      · show lkK ((e.1, val e.2.1, e.2.2) :: gM val C) x.1 = _
        rw [lkK, if_neg he, h2]
        rfl
      · show (_ :: gM val C)[j + 1]? = _
        rw [List.getElem?_cons_succ]
        exact h3
theorem okG_set {C : Mg κ α} {ck j : Nat} {x : κ × α × Nat} (h : MgOk C ck) (hj : C[j]? = some x) (v : α) : MgOk (C.set j (x.1, v, x.2.2)) ck := by
  have hlt := (List.getElem?_eq_some_iff.1 hj).1
  have e1 : ∀ {β : Type} (f : κ × α × Nat → β), f (x.1, v, x.2.2) = f x → (C.set j (x.1, v, x.2.2)).map f = C.map f := fun f hf => by
    rw [List.map_set, hf]
    refine List.ext_getElem? fun i => ?_
    rw [List.getElem?_set, List.length_map]
    by_cases hi : j = i
    · subst hi
      rw [if_pos rfl, if_pos hlt, List.getElem?_map, hj]
      rfl
    · rw [if_neg hi]
  refine ⟨by rw [e1 _ rfl]; exact h.keys, by rw [e1 _ rfl]; exact h.borns, fun e he => ?_⟩
  rcases List.mem_or_eq_of_mem_set he with h1 | rfl
  · exact h.low e h1
  · exact h.low x (List.mem_of_getElem? hj)
theorem gM_set {C : Mg κ α} {j : Nat} {k : κ} {v : α} {b : Nat} : (gM val C).set j (k, val v, b) = gM val (C.set j (k, v, b)) := by
  unfold gM
  rw [List.map_set]
theorem okG_snoc {C : Mg κ α} {ck : Nat} {k : κ} (h : MgOk C ck) (hk : ∀ x ∈ C, x.1 ≠ k) (v : α) : MgOk (C ++ [(k, v, ck)]) (ck + 1) := by
  refine ⟨?_, ?_, fun e he => ?_⟩
  · rw [List.map_append]
    refine List.nodup_append.2 ⟨h.keys, by simp, fun a ha b hb => ?_⟩
    obtain ⟨x, hx, rfl⟩ := List.mem_map.1 ha
    have e : b = k := by simpa using hb
    rw [e]
    exact hk x hx
  · rw [List.map_append]
    refine List.nodup_append.2 ⟨h.borns, by simp, fun a ha b hb => ?_⟩
    obtain ⟨x, hx, rfl⟩ := List.mem_map.1 ha
    have e : b = ck := by simpa using hb
    have := h.low x hx
    omega
  · rcases List.mem_append.1 he with h1 | h1
    · have := h.low e h1; omega
    · have e1 : e = (k, v, ck) := by simpa using h1
      rw [e1]
      exact Nat.lt_succ_self _
theorem gM_snoc {C : Mg κ α} {k : κ} {v : α} {b : Nat} : gM val C ++ [(k, val v, b)] = gM val (C ++ [(k, v, b)]) := by
  unfold gM
  rw [List.map_append]
  rfl
theorem gM_del [DecidableEq κ] {C : Mg κ α} {ck : Nat} (h : MgOk C ck) {x : κ × α × Nat} (hx : x ∈ C) : ∃ j, lkK (gM val C) x.1 = some (j, val x.2.1) ∧ (gM val C).eraseIdx j = gM val (C.filter (fun y => decide (y.1 ≠ x.1))) := by
  obtain ⟨j, h1, h2, _⟩ := lkK_some (gM_keys h) (List.mem_map_of_mem (f := fun e : κ × α × Nat => (e.1, val e.2.1, e.2.2)) hx)
  refine ⟨j, h1, h2.trans ?_⟩
  unfold gM
  rw [List.filter_map]
  rfl
end
end Go.Port
