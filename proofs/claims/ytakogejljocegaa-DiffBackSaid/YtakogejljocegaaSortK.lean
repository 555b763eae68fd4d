/- The kit's sort, in terms of pieces of memory. No program here. -/
import Derived.Test.YtakogejljocegaaEngB
import Derived.Test.YtakogejljocegaaTxtP
import Derived.Shelf.SlSortCmp.WholeK
set_option linter.unusedSimpArgs false
set_option linter.unusedVariables false
namespace Go.Port
open Go.RowKit Go.Shelf Go.Sort Go.Lib
open Go.Proofs (sortWorldK ltOf)
/-- A span's cells. -/
def encS (x : Sp) : List Value := [.int .i64 x.1, .int .i64 x.2]
def rowsS (l : List Sp) : List Value := l.flatMap encS
theorem rowsS_cons (x : Sp) (l : List Sp) : rowsS (x :: l) = .int .i64 x.1 :: .int .i64 x.2 :: rowsS l := rfl
theorem rowsS_len : ∀ l : List Sp, (rowsS l).length = l.length * 2
  | [] => rfl
  | x :: l => by rw [rowsS_cons, List.length_cons, List.length_cons, rowsS_len l, List.length_cons]; omega
theorem rowsS_at : ∀ (l : List Sp) (t : Nat), (rowsS l)[t]? = (l[t / 2]?).bind fun x => (encS x)[t % 2]?
  | [], t => by simp [rowsS]
  | x :: l, 0 => rfl
  | x :: l, 1 => rfl
  | x :: l, t + 2 => by
    rw [rowsS_cons, List.getElem?_cons_succ, List.getElem?_cons_succ, rowsS_at l t, show (t + 2) / 2 = t / 2 + 1 by omega, show (t + 2) % 2 = t % 2 by omega, List.getElem?_cons_succ]
theorem flatK_rows (d : Array Sp) : (flatK encS 2 d).toList = rowsS d.toList := by
  apply List.ext_getElem?
  intro t
  rw [rowsS_at]
  by_cases ht : t < d.size * 2
  · have h2 : t / 2 < d.size := by omega
    have e1 : (flatK encS 2 d).toList[t]? = some ((flatK encS 2 d)[t]!) := by
      rw [Array.getElem?_toList, getElem!_pos (flatK encS 2 d) t (by rw [size_flatK]; exact ht)]
      exact Array.getElem?_eq_getElem (by rw [size_flatK]; exact ht)
    have e2 : d.toList[t / 2]? = some d[t / 2]! := by
      rw [Array.getElem?_toList, getElem!_pos d (t / 2) h2]
      exact Array.getElem?_eq_getElem h2
    rw [e1, e2, get_flatK _ _ _ _ ht]
    show some _ = (encS _)[t % 2]?
    obtain h | h : t % 2 = 0 ∨ t % 2 = 1 := by omega
    · rw [h]; rfl
    · rw [h]; rfl
  · have e1 : (flatK encS 2 d).toList[t]? = none := by
      rw [List.getElem?_eq_none]; rw [Array.length_toList, size_flatK]; omega
    have e2 : d.toList[t / 2]? = none := by
      rw [List.getElem?_eq_none]; rw [Array.length_toList]; omega
    rw [e1, e2]; rfl
theorem putCells_list (F : Array Value) (xs ext : List Value) (h : F.size = xs.length) : putCells id 0 F (xs ++ ext).toArray = (F.toList ++ ext).toArray := by
  apply Array.ext_getElem?
  intro t
  unfold putCells
  simp only [Array.getElem?_mapIdx, List.getElem?_toArray]
  by_cases ht : t < F.size
  · rw [List.getElem?_append_left (by omega), List.getElem?_append_left (by rw [Array.length_toList]; exact ht), List.getElem?_eq_getElem (by omega : t < xs.length), Array.getElem?_toList, Array.getElem?_eq_getElem ht]
    simp [ht]
  · rw [List.getElem?_append_right (by omega : xs.length ≤ t), List.getElem?_append_right (by rw [Array.length_toList]; omega), show F.toList.length = xs.length by rw [Array.length_toList, h]]
    have hn : ¬ (0 ≤ t ∧ t < 0 + xs.length) := by omega
    cases ext[t - xs.length]? with
    | none => rfl
    | some y => show some (if _ then _ else _) = _; rw [if_neg (by rw [h]; exact hn)]
/-- What the sort leaves: the row's cells are others; new blocks stand behind. -/
theorem sorted_mem {w w' : World} {b n T : Nat} {d d' : Array Sp} {ext : List Value} {os : Array Obj} (hb : w.heap[b]? = some (.cells (rowsS d.toList ++ ext).toArray T (0, 0))) (hw : w' = sortWorldK encS 2 w b 0 n d' os) (hs : d'.size = d.size) :
    Mem w w' [b] [[(b, .cells (rowsS d'.toList ++ ext).toArray T (0, 0))]] := by
  subst hw
  have hlt := heap_lt hb
  have hcell : (sortWorldK encS 2 w b 0 n d' os).heap[b]? = some (.cells (rowsS d'.toList ++ ext).toArray T (0, 0)) := by
    unfold sortWorldK grow putRowK putRow mapBlock Sort.ahead
    dsimp only
    rw [Array.getElem?_append_left (by rw [Array.size_modify]; exact hlt), Array.getElem?_modify, if_pos rfl, hb]
    show some (Obj.cells (putCells id 0 (flatK encS 2 d') _) _ _) = _
    rw [putCells_list _ _ _ (by rw [size_flatK, rowsS_len, Array.length_toList, hs]), flatK_rows]
  refine ⟨rfl, rfl, rfl, ?_, fun k hk hD => ?_, fun e he => ?_, fun e he => ?_, by simp⟩
  · unfold sortWorldK grow putRowK putRow mapBlock Sort.ahead
    simp
  · unfold sortWorldK grow putRowK putRow mapBlock Sort.ahead
    dsimp only
    rw [Array.getElem?_append_left (by rw [Array.size_modify]; exact hk), Array.getElem?_modify, if_neg (by simp at hD; omega)]
  · simp at he; subst he; exact hcell
  · simp at he; subst he; exact .inr (by simp)
theorem perm_of {d d' : Array Sp} (h : PermIn 0 d.size d d') : d'.size = d.size ∧ d'.toList.Perm d.toList := by
  obtain ⟨h1, _, h3⟩ := h
  refine ⟨h1, ?_⟩
  have e1 : d'.extract 0 d.size = d' := by rw [← h1]; simp
  have e2 : d.extract 0 d.size = d := by simp
  rwa [e1, e2] at h3
theorem rise_of : ∀ {l : List Sp}, (∀ i j : Nat, i < j → ∀ x y, l[i]? = some x → l[j]? = some y → x.1 ≤ y.1) → Rise l
  | [], _ => trivial
  | [_], _ => trivial
  | s :: t :: r, h => ⟨h 0 1 (by omega) s t rfl rfl, rise_of fun i j hij x y hx hy => h (i + 1) (j + 1) (by omega) x y hx hy⟩
theorem rise_sorted {cf : Sp → Sp → Int} (hc : ∀ x y, cf x y < 0 ↔ x.1 < y.1) {d : Array Sp} (h : SortedIn (ltOf cf) 0 d.size d) : Rise d.toList := by
  refine rise_of fun i j hij x y hx hy => ?_
  have hj : j < d.size := by
    obtain ⟨hj, _⟩ := List.getElem?_eq_some_iff.1 hy
    rwa [Array.length_toList] at hj
  have h1 := h i j (Nat.zero_le _) hij hj
  rw [Array.getElem?_toList] at hx hy
  have ex : d[i]! = x := by rw [getElem!_pos d i (by omega)]; rw [Array.getElem?_eq_getElem (by omega)] at hx; exact Option.some.inj hx
  have ey : d[j]! = y := by rw [getElem!_pos d j hj]; rw [Array.getElem?_eq_getElem hj] at hy; exact Option.some.inj hy
  rw [ex, ey] at h1
  unfold ltOf at h1
  have h2 : ¬ cf y x < 0 := by simpa using h1
  rw [hc] at h2
  omega
end Go.Port
