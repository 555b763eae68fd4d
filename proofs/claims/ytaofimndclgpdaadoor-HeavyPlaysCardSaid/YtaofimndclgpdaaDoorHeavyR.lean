/- The document's heavy: the plain part. -/
import Derived.Test.YtaofimndclgpdaaDoorHeavyQ
set_option linter.unusedSimpArgs false
set_option linter.unusedVariables false
namespace Go.Port
open Go.RowKit
/-- A count's cells, as the document keeps them. -/
def encX (e : Int × Int) : List Value := [.int .i64 e.1, .int .i64 e.2, .int .i64 0]
theorem encX_len (e : Int × Int) : (encX e).length = 3 := rfl
theorem tak_app (q : Int) : ∀ a b : List (Int × Int), takH q (a ++ b) = takH q a ++ takH q b
  | [], _ => rfl
  | e :: a, b => by
    rw [List.cons_append, takH, takH, tak_app q a b]
    split <;> rfl
/-- Where a key is. -/
def findH : List (Int × Int) → Int → Option Nat
  | [], _ => none
  | e :: t, k => if e.1 = k then some 0 else (findH t k).map (· + 1)
def atI : Option Nat → Int
  | none => -1
  | some i => i
theorem find_some : ∀ {l : List (Int × Int)} {k : Int} {i : Nat}, findH l k = some i → ∃ x, l[i]? = some x ∧ x.1 = k ∧ hasH l k ∧ lkH l k = x.2 ∧ ∀ v, putH k v l = l.set i (k, x.2 + v)
  | [], _, _, h => by cases h
  | e :: t, k, i, h => by
    rw [findH] at h
    by_cases he : e.1 = k
    · rw [if_pos he] at h
      obtain rfl := Option.some.inj h
      exact ⟨e, rfl, he, ⟨e, List.Mem.head _, he⟩, by rw [lkH, if_pos he], fun v => by rw [putH, if_pos he]; rfl⟩
    · rw [if_neg he] at h
      obtain ⟨j, hj, rfl⟩ := Option.map_eq_some_iff.1 h
      obtain ⟨x, h1, h2, ⟨y, hy, hyk⟩, h4, h5⟩ := find_some hj
      exact ⟨x, by simpa using h1, h2, ⟨y, List.Mem.tail _ hy, hyk⟩, by rw [lkH, if_neg he, h4], fun v => by rw [putH, if_neg he, h5]; rfl⟩
theorem find_none : ∀ {l : List (Int × Int)} {k : Int}, findH l k = none → ¬ hasH l k ∧ lkH l k = 0 ∧ ∀ v, putH k v l = l ++ [(k, v)]
  | [], _, _ => ⟨(fun hh => by obtain ⟨_, h, _⟩ := hh; cases h), rfl, fun _ => rfl⟩
  | e :: t, k, h => by
    rw [findH] at h
    by_cases he : e.1 = k
    · rw [if_pos he] at h; cases h
    · rw [if_neg he, Option.map_eq_none_iff] at h
      obtain ⟨h1, h2, h3⟩ := find_none h
      refine ⟨fun hh => ?_, by rw [lkH, if_neg he, h2], fun v => by rw [putH, if_neg he, h3]; rfl⟩
      obtain ⟨y, hy, hyk⟩ := hh
      rcases List.mem_cons.1 hy with rfl | hy
      · exact he hyk
      · exact h1 ⟨y, hy, hyk⟩
theorem find_hit : ∀ {l : List (Int × Int)} {k : Int} {i : Nat} {x : Int × Int}, (∀ j, j < i → ∀ y, l[j]? = some y → y.1 ≠ k) → l[i]? = some x → x.1 = k → findH l k = some i
  | [], _, _, _, _, h, _ => by simp at h
  | e :: t, k, 0, x, _, h, hk => by
    obtain rfl : e = x := by simpa using h
    rw [findH, if_pos hk]
  | e :: t, k, i + 1, x, hj, h, hk => by
    rw [findH, if_neg (hj 0 (by omega) e rfl), find_hit (i := i) (fun j hji y hy => hj (j + 1) (by omega) y (by simpa using hy)) (by simpa using h) hk]
    rfl
theorem find_miss : ∀ {l : List (Int × Int)} {k : Int}, (∀ j, j < l.length → ∀ y, l[j]? = some y → y.1 ≠ k) → findH l k = none
  | [], _, _ => rfl
  | e :: t, k, hj => by
    rw [findH, if_neg (hj 0 (by rw [List.length_cons]; omega) e rfl), find_miss (l := t) (fun j hji y hy => hj (j + 1) (by rw [List.length_cons]; omega) y (by simpa using hy))]
    rfl
theorem rowsG_set {α : Type} {enc : α → List Value} {k : Nat} (hk : ∀ x, (enc x).length = k) : ∀ (l : List α) (i j : Nat) (x y : α) (v : Value), l[i]? = some x → j < k → (enc x).set j v = enc y → (rowsG enc l).set (i * k + j) v = rowsG enc (l.set i y)
  | [], _, _, _, _, _, h, _, _ => by simp at h
  | z :: l, 0, j, x, y, v, h, hj, hv => by
    obtain rfl : z = x := by simpa using h
    rw [Nat.zero_mul, Nat.zero_add]
    show (enc z ++ rowsG enc l).set j v = enc y ++ rowsG enc l
    rw [List.set_append_left _ _ (by rw [hk]; exact hj), hv]
  | z :: l, i + 1, j, x, y, v, h, hj, hv => by
    show (enc z ++ rowsG enc l).set ((i + 1) * k + j) v = enc z ++ rowsG enc (l.set i y)
    have e : (i + 1) * k = i * k + k := by rw [Nat.add_mul, Nat.one_mul]
    rw [List.set_append_right _ _ (by rw [hk]; omega), hk, show (i + 1) * k + j - k = i * k + j by omega, rowsG_set hk l i j x y v (by simpa using h) hj hv]
theorem rowsG_app {α : Type} {enc : α → List Value} (a b : List α) : rowsG enc (a ++ b) = rowsG enc a ++ rowsG enc b := by
  unfold rowsG
  rw [List.flatMap_append]
theorem rowsG_take {α : Type} {enc : α → List Value} {k : Nat} (hk : ∀ x, (enc x).length = k) {l : List α} {i : Nat} (hi : i ≤ l.length) : (rowsG enc l).take (i * k) = rowsG enc (l.take i) := by
  conv => lhs; rw [← List.take_append_drop i l, rowsG_app]
  exact List.take_left' (by rw [rowsG_len hk, List.length_take, Nat.min_eq_left hi])
theorem rowsG_drop {α : Type} {enc : α → List Value} {k : Nat} (hk : ∀ x, (enc x).length = k) {l : List α} {i : Nat} (hi : i ≤ l.length) : (rowsG enc l).drop (i * k) = rowsG enc (l.drop i) := by
  conv => lhs; rw [← List.take_append_drop i l, rowsG_app]
  exact List.drop_left' (by rw [rowsG_len hk, List.length_take, Nat.min_eq_left hi])
end Go.Port
namespace Go.Proofs.YtaofimndclgpdaaDoor
open Go.RowKit Go.Port Go.Proofs
open Go.Proofs (ltOf)
/-- One goes ahead of another one. -/
def befC (x y : Ct) : Bool := decide (y.2.1 < x.2.1) || (decide (x.2.1 = y.2.1) && decide (x.1 < y.1))
theorem befC_iff (x y : Ct) : befC x y = true ↔ cfC x y < 0 := by
  unfold befC
  rw [cfC_neg, Bool.or_eq_true, Bool.and_eq_true, decide_eq_true_eq, decide_eq_true_eq, decide_eq_true_eq]
/-- Put where it belongs. -/
theorem TopL.ins {less : Int} {l : List (Int × Int)} {d : List Ct} {x : Int × Int} {i : Nat} (h : TopL less l d) (hi : i ≤ d.length) (h1 : ∀ j, j < i → ∀ y, d[j]? = some y → befC y (x.1, x.2, less) = true) (h2 : i = d.length ∨ ∃ y, d[i]? = some y ∧ befC y (x.1, x.2, less) = false) :
    TopL less (l ++ [x]) (d.take i ++ (x.1, x.2, less) :: d.drop i) := by
  refine ⟨?_, ?_⟩
  · rw [List.map_append]
    refine List.Perm.trans ?_ (h.1.append_right _)
    refine List.perm_middle.trans ?_
    rw [List.take_append_drop]
    exact (List.perm_append_singleton _ _).symm
  · have hs := h.2
    rw [← List.take_append_drop i d, List.pairwise_append] at hs
    obtain ⟨s1, s2, s3⟩ := hs
    have b2 : ∀ y ∈ d.drop i, befC y (x.1, x.2, less) = false := by
      intro y hy
      obtain ⟨j, hj, rfl⟩ := List.getElem_of_mem hy
      rcases h2 with h2 | ⟨z, hz, hzb⟩
      · rw [List.length_drop] at hj; omega
      · obtain ⟨hlt, hze⟩ := List.getElem?_eq_some_iff.1 hz
        rw [List.getElem_drop]
        by_cases h0 : j = 0
        · subst h0
          show befC (d[i]'hlt) _ = false
          rw [hze]
          exact hzb
        · rw [List.length_drop] at hj
          have h4 := (List.pairwise_iff_getElem.1 h.2) i (i + j) hlt (by omega) (by omega)
          rw [hze] at h4
          rw [Bool.eq_false_iff, ne_eq, befC_iff] at hzb ⊢
          simp only [ltOf, decide_eq_false_iff_not] at h4
          rw [cfC_neg] at *
          dsimp only at *
          omega
    rw [List.pairwise_append, List.pairwise_cons]
    refine ⟨s1, ⟨fun y hy => ?_, s2⟩, fun a ha b hb => ?_⟩
    · have h3 := b2 y hy
      rw [Bool.eq_false_iff, ne_eq, befC_iff] at h3
      simp only [ltOf, decide_eq_false_iff_not]
      exact h3
    · rcases List.mem_cons.1 hb with rfl | hb
      · obtain ⟨j, hj, rfl⟩ := List.getElem_of_mem ha
        rw [List.length_take] at hj
        have h3 := h1 j (by omega) (d[j]'(by omega)) (List.getElem?_eq_getElem (by omega))
        rw [befC_iff] at h3
        rw [List.getElem_take]
        simp only [ltOf, decide_eq_false_iff_not]
        rw [cfC_neg] at *
        dsimp only at *
        omega
      · exact s3 a ha b hb
theorem TopL.nil (less : Int) : TopL less [] [] := ⟨.refl _, List.Pairwise.nil⟩
end Go.Proofs.YtaofimndclgpdaaDoor
