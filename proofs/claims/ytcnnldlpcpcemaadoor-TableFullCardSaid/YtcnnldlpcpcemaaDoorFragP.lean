/- frag: heaps of pieces; what a tick forgets: the plain part. No program here. -/
import Derived.Test.YtcnnldlpcpcemaaDoorMapsK
set_option linter.unusedSimpArgs false
set_option linter.unusedVariables false
namespace Go.Port
open Go.RowKit
/-- A heap of pieces. -/
structure Hp where
  (began ttl fin height : Int)
  (bad : Bool)
  (body : List Int)
  (has : List Bool)
/-- A heap in a pool: its name, its blocks, when it was put. -/
structure He (κ : Type) where
  (k : κ)
  (hb bb sb born : Nat)
  (h : Hp)
section
variable {κ : Type}
def He.ent (x : He κ) : κ × Value × Nat := (x.k, .pointer (some ⟨x.hb, 0, none⟩), x.born)
/-- A pool's heaps: names and births are told apart. -/
structure PoolOk (E : List (He κ)) (ck : Nat) : Prop where
  keys : (E.map (·.k)).Nodup
  borns : (E.map (·.born)).Nodup
  low : ∀ x ∈ E, x.born < ck
theorem PoolOk.filter {E : List (He κ)} {ck : Nat} (h : PoolOk E ck) (p : He κ → Bool) : PoolOk (E.filter p) ck :=
  ⟨h.keys.sublist (List.filter_sublist.map _), h.borns.sublist (List.filter_sublist.map _), fun x hx => h.low x (List.mem_filter.1 hx).1⟩
theorem lkK_none [DecidableEq κ] {M : MK κ} {k : κ} : lkK M k = none ↔ ∀ e ∈ M, e.1 ≠ k := by
  induction M with
  | nil => simp [lkK]
  | cons e M ih =>
    rw [lkK]
    by_cases h : e.1 = k
    · simp [h]
    · rw [if_neg h]
      simp only [Option.map_eq_none_iff, ih, List.mem_cons, forall_eq_or_imp]
      exact ⟨fun h2 => ⟨h, h2⟩, fun h2 => h2.2⟩
theorem lkK_some [DecidableEq κ] : ∀ {M : MK κ} {e : κ × Value × Nat}, (M.map (·.1)).Nodup → e ∈ M → ∃ j, lkK M e.1 = some (j, e.2.1) ∧ M.eraseIdx j = M.filter (fun y => decide (y.1 ≠ e.1)) ∧ M[j]? = some e
  | [], e, _, h => by cases h
  | y :: M, e, hn, h => by
    rw [List.map_cons, List.nodup_cons] at hn
    by_cases he : y.1 = e.1
    · have hye : y = e := by
        rcases List.mem_cons.1 h with rfl | h
        · rfl
        · exact absurd (he ▸ List.mem_map_of_mem (f := fun x : κ × Value × Nat => x.1) h) hn.1
      subst hye
      refine ⟨0, by rw [lkK, if_pos rfl], ?_, rfl⟩
      rw [List.eraseIdx_cons_zero, List.filter_cons, if_neg (by simp)]
      exact (List.filter_eq_self.2 fun z hz => by
        have : ¬ z.1 = y.1 := fun hx => hn.1 (hx ▸ List.mem_map_of_mem (f := fun x : κ × Value × Nat => x.1) hz)
        simpa using this).symm
    · have hm : e ∈ M := by
        rcases List.mem_cons.1 h with rfl | h
        · exact absurd rfl he
        · exact h
      obtain ⟨j, h1, h2, h3⟩ := lkK_some hn.2 hm
      refine ⟨j + 1, by rw [lkK, if_neg he, h1]; rfl, ?_, by simpa using h3⟩
      rw [List.eraseIdx_cons_succ, h2, List.filter_cons, if_pos (by simpa using he)]
/-- Forgotten so far: those that came, and are old. -/
def keepS (S : List Nat) (old : He κ → Bool) (x : He κ) : Bool := !(S.contains x.born && old x)
def entsS (E : List (He κ)) (S : List Nat) (old : He κ → Bool) : MK κ := (E.filter (keepS S old)).map He.ent
theorem inj_of_nodup {α β : Type} {f : α → β} : ∀ {l : List α}, (l.map f).Nodup → ∀ {x y : α}, x ∈ l → y ∈ l → f x = f y → x = y
  | [], _, _, _, h, _, _ => by cases h
  | a :: l, hn, x, y, hx, hy, he => by
    rw [List.map_cons, List.nodup_cons] at hn
    rcases List.mem_cons.1 hx with h1 | h1
    · rcases List.mem_cons.1 hy with h2 | h2
      · rw [h1, h2]
      · exact absurd (h1 ▸ he ▸ List.mem_map_of_mem (f := f) h2) hn.1
    · rcases List.mem_cons.1 hy with h2 | h2
      · exact absurd (h2 ▸ he ▸ List.mem_map_of_mem (f := f) h1) hn.1
      · exact inj_of_nodup hn.2 h1 h2 he
theorem ents_mem {E : List (He κ)} {S : List Nat} {old : He κ → Bool} {e : κ × Value × Nat} (h : e ∈ entsS E S old) : ∃ x ∈ E, keepS S old x = true ∧ e = x.ent := by
  obtain ⟨x, hx, rfl⟩ := List.mem_map.1 h
  exact ⟨x, (List.mem_filter.1 hx).1, (List.mem_filter.1 hx).2, rfl⟩
theorem ents_keys {E : List (He κ)} {ck : Nat} (h : PoolOk E ck) (S : List Nat) (old : He κ → Bool) : ((entsS E S old).map (·.1)).Nodup := by
  unfold entsS
  rw [List.map_map]
  exact (h.filter _).keys
theorem ents_borns {E : List (He κ)} {ck : Nat} (h : PoolOk E ck) (S : List Nat) (old : He κ → Bool) : ((entsS E S old).map (·.2.2)).Nodup := by
  unfold entsS
  rw [List.map_map]
  exact (h.filter _).borns
/-- One that is old is forgotten. -/
theorem ents_del [DecidableEq κ] {E : List (He κ)} {ck : Nat} (h : PoolOk E ck) {S : List Nat} {old : He κ → Bool} {x : He κ} (hx : x ∈ E) (ho : old x = true) : (entsS E S old).filter (fun y => decide (y.1 ≠ x.k)) = entsS E (S ++ [x.born]) old := by
  unfold entsS
  rw [List.filter_map, List.filter_filter]
  congr 1
  refine List.filter_congr fun y hy => ?_
  show (decide (y.k ≠ x.k) && keepS S old y) = keepS (S ++ [x.born]) old y
  unfold keepS
  by_cases he : y = x
  · subst he
    simp [ho]
  · have h1 : y.k ≠ x.k := fun e => he (inj_of_nodup h.keys hy hx e)
    have h2 : y.born ≠ x.born := fun e => he (inj_of_nodup h.borns hy hx e)
    simp [h1, h2]
/-- One that is not stays. -/
theorem ents_stay {E : List (He κ)} {ck : Nat} (h : PoolOk E ck) {S : List Nat} {old : He κ → Bool} {x : He κ} (hx : x ∈ E) (ho : old x = false) : entsS E S old = entsS E (S ++ [x.born]) old := by
  unfold entsS
  congr 1
  refine List.filter_congr fun y hy => ?_
  unfold keepS
  by_cases he : y = x
  · subst he
    simp [ho]
  · have h2 : y.born ≠ x.born := fun e => he (inj_of_nodup h.borns hy hx e)
    simp [h2]
/-- All came. -/
theorem ents_all {E : List (He κ)} {S : List Nat} {old : He κ → Bool} (h : leftK (entsS E S old) S = []) : entsS E S old = (E.filter (fun x => !old x)).map He.ent := by
  unfold entsS
  congr 1
  refine List.filter_congr fun y hy => ?_
  unfold keepS
  by_cases hb : y.born ∈ S
  · simp [hb]
  · have h1 : y.ent ∈ leftK (entsS E S old) S := by
      rw [leftK_mem]
      refine ⟨List.mem_map_of_mem (List.mem_filter.2 ⟨hy, ?_⟩), hb⟩
      unfold keepS
      simp [hb]
    rw [h] at h1
    cases h1
theorem ents_none (E : List (He κ)) (old : He κ → Bool) : entsS E [] old = E.map He.ent := by
  unfold entsS
  congr 1
  exact List.filter_eq_self.2 fun x _ => by simp [keepS]
theorem left_less {M M' : MK κ} {S : List Nat} {e : κ × Value × Nat} (he : e ∈ M) (hs : e.2.2 ∉ S) (hsub : M'.Sublist M) : (leftK M' (S ++ [e.2.2])).length < (leftK M S).length := by
  have h1 : (leftK M' (S ++ [e.2.2])).Sublist (leftK M (S ++ [e.2.2])) := hsub.filter _
  have h2 : leftK M (S ++ [e.2.2]) = (leftK M S).filter (fun y => !decide (y.2.2 = e.2.2)) := by
    unfold leftK
    rw [List.filter_filter]
    refine List.filter_congr fun y _ => ?_
    by_cases h : y.2.2 = e.2.2 <;> simp [h]
  have h3 : (leftK M (S ++ [e.2.2])).length < (leftK M S).length := by
    rw [h2]
    refine Nat.lt_of_le_of_ne (List.length_filter_le _ _) fun h => ?_
    have h4 := List.length_filter_eq_length_iff.1 h e (leftK_mem.2 ⟨he, hs⟩)
    simp at h4
  exact Nat.lt_of_le_of_lt h1.length_le h3
end
end Go.Port
