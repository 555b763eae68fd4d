/- The kit's sort at rows of any cells, in terms of pieces of memory. No program here. -/
import Derived.Test.YtcnnldlpcpcemaaDoorEngB
import Derived.Shelf.SlSortCmp.WholeK
set_option linter.unusedSimpArgs false
set_option linter.unusedVariables false
namespace Go.Port
open Go.RowKit Go.Shelf Go.Sort Go.Lib
open Go.Proofs (sortWorldK ltOf)
section
variable {α : Type} {enc : α → List Value} {k : Nat}
def rowsG (enc : α → List Value) (l : List α) : List Value := l.flatMap enc
theorem rowsG_len (hk : ∀ x, (enc x).length = k) : ∀ l : List α, (rowsG enc l).length = l.length * k
  | [] => by rw [List.length_nil, Nat.zero_mul]; rfl
  | x :: l => by
    show (enc x ++ rowsG enc l).length = _
    rw [List.length_append, rowsG_len hk l, hk, List.length_cons, Nat.add_mul]
    omega
theorem rowsG_at (hk : ∀ x, (enc x).length = k) : ∀ (l : List α) (i j : Nat) (x : α), l[i]? = some x → j < k → (rowsG enc l)[i * k + j]? = (enc x)[j]?
  | [], _, _, _, h, _ => by simp at h
  | y :: l, 0, j, x, h, hj => by
    have e : y = x := by simpa using h
    subst e
    rw [Nat.zero_mul, Nat.zero_add]
    show (enc y ++ rowsG enc l)[j]? = _
    rw [List.getElem?_append_left (by rw [hk]; exact hj)]
  | y :: l, i + 1, j, x, h, hj => by
    show (enc y ++ rowsG enc l)[(i + 1) * k + j]? = _
    have e : (i + 1) * k = i * k + k := by rw [Nat.add_mul, Nat.one_mul]
    rw [List.getElem?_append_right (by rw [hk]; omega), hk, show (i + 1) * k + j - k = i * k + j by omega]
    exact rowsG_at hk l i j x (by simpa using h) hj
end
section
variable {α : Type} [Inhabited α] {enc : α → List Value} {k : Nat}
theorem flatG_rows (hk : ∀ x, (enc x).length = k) (h0 : 0 < k) (d : Array α) : (flatK enc k d).toList = rowsG enc d.toList := by
  apply List.ext_getElem?
  intro t
  by_cases ht : t < d.size * k
  · have h2 : t / k < d.size := (Nat.div_lt_iff_lt_mul h0).2 ht
    have h3 : t % k < k := Nat.mod_lt _ h0
    have e1 : (flatK enc k d).toList[t]? = some ((flatK enc k d)[t]!) := by
      rw [Array.getElem?_toList, getElem!_pos (flatK enc k d) t (by rw [size_flatK]; exact ht)]
      exact Array.getElem?_eq_getElem (by rw [size_flatK]; exact ht)
    have e2 : d.toList[t / k]? = some d[t / k]! := by
      rw [Array.getElem?_toList, getElem!_pos d (t / k) h2]
      exact Array.getElem?_eq_getElem h2
    have e3 := rowsG_at hk d.toList (t / k) (t % k) _ e2 h3
    have e4 : t / k * k + t % k = t := Nat.div_add_mod' t k
    rw [e4] at e3
    rw [e1, e3, get_flatK _ _ _ _ ht]
    rw [getElem!_pos _ _ (by rw [hk]; exact h3), List.getElem?_eq_getElem (by rw [hk]; exact h3)]
  · have e1 : (flatK enc k d).toList[t]? = none := by
      rw [List.getElem?_eq_none]; rw [Array.length_toList, size_flatK]; omega
    have e2 : (rowsG enc d.toList)[t]? = none := by
      rw [List.getElem?_eq_none]; rw [rowsG_len hk, Array.length_toList]; omega
    rw [e1, e2]
theorem putCellsG_list (F : Array Value) (xs ext : List Value) (h : F.size = xs.length) : putCells id 0 F (xs ++ ext).toArray = (F.toList ++ ext).toArray := by
  apply Array.ext_getElem?
  intro t
  unfold putCells
  simp only [Array.getElem?_mapIdx, List.getElem?_toArray]
  by_cases ht : t < F.size
  · rw [List.getElem?_append_left (by omega), List.getElem?_append_left (by rw [Array.length_toList]; exact ht), List.getElem?_eq_getElem (by omega : t < xs.length), Array.getElem?_toList, Array.getElem?_eq_getElem ht]
    simp [ht]
  · rw [List.getElem?_append_right (by omega : xs.length ≤ t), List.getElem?_append_right (by rw [Array.length_toList]; omega), show F.toList.length = xs.length by rw [Array.length_toList, h]]
    have hn : ¬ (0 ≤ t ∧ t < 0 + xs.length) := by omega
    cases ext[t - xs.length]? with
    | none => rfl
    | some y => show some (if _ then _ else _) = _; rw [if_neg (by rw [h]; exact hn)]
/-- What the sort leaves: the row's cells are others; new blocks stand behind. -/
theorem sortedG_mem (hk : ∀ x, (enc x).length = k) (h0 : 0 < k) {w w' : World} {b n T : Nat} {d d' : Array α} {ext : List Value} {os : Array Obj} (hb : w.heap[b]? = some (.cells (rowsG enc d.toList ++ ext).toArray T (0, 0))) (hw : w' = sortWorldK enc k w b 0 n d' os) (hs : d'.size = d.size) :
    Mem w w' [b] [[(b, .cells (rowsG enc d'.toList ++ ext).toArray T (0, 0))]] := by
  subst hw
  have hlt := heap_lt hb
  have hcell : (sortWorldK enc k w b 0 n d' os).heap[b]? = some (.cells (rowsG enc d'.toList ++ ext).toArray T (0, 0)) := by
    unfold sortWorldK grow putRowK putRow mapBlock Sort.ahead
    dsimp only
    rw [Array.getElem?_append_left (by rw [Array.size_modify]; exact hlt), Array.getElem?_modify, if_pos rfl, hb]
    show some (Obj.cells (putCells id 0 (flatK enc k d') _) _ _) = _
    rw [putCellsG_list _ _ _ (by rw [size_flatK, rowsG_len hk, Array.length_toList, hs]), flatG_rows hk h0]
  refine ⟨rfl, rfl, rfl, ?_, fun k hk hD => ?_, fun e he => ?_, fun e he => ?_, by simp⟩
  · unfold sortWorldK grow putRowK putRow mapBlock Sort.ahead
    simp
  · unfold sortWorldK grow putRowK putRow mapBlock Sort.ahead
    dsimp only
    rw [Array.getElem?_append_left (by rw [Array.size_modify]; exact hk), Array.getElem?_modify, if_neg (by simp at hD; omega)]
  · simp at he; subst he; exact hcell
  · simp at he; subst he; exact .inr (by simp)
theorem permG_of {d d' : Array α} (h : PermIn 0 d.size d d') : d'.size = d.size ∧ d'.toList.Perm d.toList := by
  obtain ⟨h1, _, h3⟩ := h
  refine ⟨h1, ?_⟩
  have e1 : d'.extract 0 d.size = d' := by rw [← h1]; simp
  have e2 : d.extract 0 d.size = d := by simp
  rwa [e1, e2] at h3
theorem sortedG_pair {lt : α → α → Bool} {d : Array α} (h : SortedIn lt 0 d.size d) : d.toList.Pairwise (fun x y => lt y x = false) := by
  rw [List.pairwise_iff_getElem]
  intro i j hi hj hij
  rw [Array.length_toList] at hi hj
  have h1 := h i j (Nat.zero_le _) hij hj
  rw [getElem!_pos d i hi, getElem!_pos d j hj] at h1
  simpa using h1
theorem holdsG_rows (hk : ∀ x, (enc x).length = k) (h0 : 0 < k) {w : World} {b T : Nat} {l : List α} {ext : List Value} (hb : w.heap[b]? = some (.cells (rowsG enc l ++ ext).toArray T (0, 0))) : HoldsK enc k w b 0 l.toArray := by
  intro j hj
  rw [size_flatK] at hj
  have hlen : j < (rowsG enc l).length := by rw [rowsG_len hk]; simpa using hj
  have e1 : (flatK enc k l.toArray)[j]! = (rowsG enc l)[j] := by
    have hsz : j < (flatK enc k l.toArray).size := by rw [size_flatK]; exact hj
    have h2 := flatG_rows hk h0 l.toArray
    have h3 : (flatK enc k l.toArray).toList[j]? = (rowsG enc l)[j]? := by rw [h2]
    rw [Array.getElem?_toList, Array.getElem?_eq_getElem hsz, List.getElem?_eq_getElem hlen] at h3
    rw [getElem!_pos (flatK enc k l.toArray) j hsz]
    exact Option.some.inj h3
  refine ⟨?_, by simp [World.frozen?, hb]⟩
  rw [e1, Nat.zero_add]
  exact cell_of_cells hb (by rw [List.getElem?_append_left hlen, List.getElem?_eq_getElem hlen]; rfl)
end
end Go.Port
