/- Who does most: the plain law. No program here. -/
namespace Go.Port
/-- What is counted of a key. -/
def lkH : List (Int × Int) → Int → Int
  | [], _ => 0
  | e :: t, k => if e.1 = k then e.2 else lkH t k
/-- All counts together. -/
def smH : List (Int × Int) → Int
  | [] => 0
  | e :: t => e.2 + smH t
/-- Taken away from all; who has none is out. -/
def takH (m : Int) : List (Int × Int) → List (Int × Int)
  | [] => []
  | e :: t => if e.2 - m ≤ 0 then takH m t else (e.1, e.2 - m) :: takH m t
/-- How many have that many. -/
def cntH (m : Int) : List (Int × Int) → Nat
  | [] => 0
  | e :: t => if m ≤ e.2 then cntH m t + 1 else cntH m t
/-- Added to a key. -/
def putH (k v : Int) : List (Int × Int) → List (Int × Int)
  | [] => [(k, v)]
  | e :: t => if e.1 = k then (k, e.2 + v) :: t else e :: putH k v t
def hasH (l : List (Int × Int)) (k : Int) : Prop := ∃ e ∈ l, e.1 = k
/-- Every key once, and counted. -/
def OkH (l : List (Int × Int)) : Prop := (l.map Prod.fst).Nodup ∧ ∀ e ∈ l, 1 ≤ e.2
theorem OkH.nil : OkH [] := ⟨List.nodup_nil, fun _ h => nomatch h⟩
theorem OkH.tail {e : Int × Int} {l : List (Int × Int)} (h : OkH (e :: l)) : OkH l ∧ 1 ≤ e.2 ∧ ∀ x ∈ l, x.1 ≠ e.1 := by
  obtain ⟨h1, h2⟩ := h
  rw [List.map_cons, List.nodup_cons] at h1
  refine ⟨⟨h1.2, fun x hx => h2 x (List.Mem.tail _ hx)⟩, h2 e (List.Mem.head _), fun x hx he => h1.1 ?_⟩
  rw [← he]
  exact List.mem_map_of_mem hx
theorem OkH.cons {e : Int × Int} {l : List (Int × Int)} (h : OkH l) (h1 : 1 ≤ e.2) (h2 : ∀ x ∈ l, x.1 ≠ e.1) : OkH (e :: l) := by
  refine ⟨?_, fun x hx => ?_⟩
  · rw [List.map_cons, List.nodup_cons]
    refine ⟨fun hm => ?_, h.1⟩
    obtain ⟨x, hx, he⟩ := List.mem_map.1 hm
    exact h2 x hx he
  · cases hx with
    | head => exact h1
    | tail _ hx => exact h.2 x hx
theorem lk_out : ∀ {l : List (Int × Int)} {k : Int}, (∀ x ∈ l, x.1 ≠ k) → lkH l k = 0
  | [], _, _ => rfl
  | e :: t, k, h => by
    rw [lkH, if_neg (h e (List.Mem.head _)), lk_out fun x hx => h x (List.Mem.tail _ hx)]
theorem lk_0 : ∀ {l : List (Int × Int)} {k : Int}, OkH l → 0 ≤ lkH l k
  | [], _, _ => Int.le_refl _
  | e :: t, k, h => by
    obtain ⟨h1, h2, _⟩ := h.tail
    rw [lkH]
    split
    · omega
    · exact lk_0 h1
theorem sm_0 : ∀ {l : List (Int × Int)}, OkH l → 0 ≤ smH l
  | [], _ => Int.le_refl _
  | e :: t, h => by
    obtain ⟨h1, h2, _⟩ := h.tail
    have := sm_0 h1
    rw [smH]
    omega
theorem mem_take {m : Int} : ∀ {l : List (Int × Int)} {x : Int × Int}, x ∈ takH m l → (x.1, x.2 + m) ∈ l ∧ 1 ≤ x.2
  | [], x, h => nomatch h
  | e :: t, x, h => by
    rw [takH] at h
    split at h
    · obtain ⟨h1, h2⟩ := mem_take h
      exact ⟨List.Mem.tail _ h1, h2⟩
    · cases h with
      | head =>
        refine ⟨?_, by dsimp only; omega⟩
        dsimp only
        rw [Int.sub_add_cancel]
        exact List.Mem.head _
      | tail _ h =>
        obtain ⟨h1, h2⟩ := mem_take h
        exact ⟨List.Mem.tail _ h1, h2⟩
theorem ok_take {m : Int} : ∀ {l : List (Int × Int)}, OkH l → OkH (takH m l)
  | [], _ => OkH.nil
  | e :: t, h => by
    obtain ⟨h1, h2, h3⟩ := h.tail
    rw [takH]
    split
    · exact ok_take h1
    · exact (ok_take h1).cons (by dsimp only; omega) fun x hx => h3 (x.1, x.2 + m) (mem_take hx).1
theorem len_take {m : Int} : ∀ (l : List (Int × Int)), (takH m l).length ≤ l.length
  | [] => Nat.le_refl _
  | e :: t => by
    have := len_take (m := m) t
    rw [takH]
    split
    · rw [List.length_cons]; omega
    · rw [List.length_cons, List.length_cons]; omega
theorem lk_take {m k : Int} (hm : 0 ≤ m) : ∀ {l : List (Int × Int)}, OkH l → lkH (takH m l) k ≤ lkH l k ∧ lkH l k ≤ lkH (takH m l) k + m
  | [], _ => ⟨Int.le_refl _, by show (0 : Int) ≤ 0 + m; omega⟩
  | e :: t, h => by
    obtain ⟨h1, h2, h3⟩ := h.tail
    have ih := lk_take (k := k) hm h1
    rw [takH]
    split
    · by_cases hk : e.1 = k
      · have h0 : lkH (takH m t) k = 0 := lk_out fun x hx he => h3 (x.1, x.2 + m) (mem_take hx).1 (he.trans hk.symm)
        rw [lkH, if_pos hk, h0]
        omega
      · rw [lkH, if_neg hk]
        exact ih
    · rw [lkH, lkH]
      by_cases hk : e.1 = k
      · rw [if_pos hk, if_pos hk]
        dsimp only
        omega
      · rw [if_neg hk, if_neg hk]
        exact ih
theorem sm_take {m : Int} (hm : 0 ≤ m) : ∀ {l : List (Int × Int)}, OkH l → smH (takH m l) + m * cntH m l ≤ smH l
  | [], _ => by show (0 : Int) + m * 0 ≤ 0; omega
  | e :: t, h => by
    obtain ⟨h1, h2, _⟩ := h.tail
    have ih := sm_take hm h1
    rw [takH, cntH, smH]
    have hc : m * ((cntH m t + 1 : Nat) : Int) = m * cntH m t + m := by rw [Int.natCast_add, Int.mul_add]; simp
    by_cases h4 : m ≤ e.2
    · rw [if_pos h4, hc]
      split
      · omega
      · rw [smH]; dsimp only; omega
    · rw [if_neg h4, if_pos (by omega)]
      omega
theorem cnt_all {m : Int} : ∀ {l : List (Int × Int)}, (∀ e ∈ l, m ≤ e.2) → cntH m l = l.length
  | [], _ => rfl
  | e :: t, h => by
    rw [cntH, if_pos (h e (List.Mem.head _)), cnt_all fun x hx => h x (List.Mem.tail _ hx), List.length_cons]
theorem mem_put {k v : Int} : ∀ {l : List (Int × Int)} {x : Int × Int}, x ∈ putH k v l → x.1 = k ∨ x ∈ l
  | [], x, h => by
    cases h with
    | head => exact .inl rfl
    | tail _ h => nomatch h
  | e :: t, x, h => by
    rw [putH] at h
    split at h
    · cases h with
      | head => exact .inl rfl
      | tail _ h => exact .inr (List.Mem.tail _ h)
    · cases h with
      | head => exact .inr (List.Mem.head _)
      | tail _ h => exact (mem_put h).imp id (List.Mem.tail _)
theorem ok_put {k v : Int} (hv : 1 ≤ v) : ∀ {l : List (Int × Int)}, OkH l → OkH (putH k v l)
  | [], _ => OkH.nil.cons hv fun _ h => nomatch h
  | e :: t, h => by
    obtain ⟨h1, h2, h3⟩ := h.tail
    rw [putH]
    split
    · rename_i hk
      exact h1.cons (by dsimp only; omega) fun x hx => hk ▸ h3 x hx
    · rename_i hk
      refine (ok_put hv h1).cons h2 fun x hx he => ?_
      rcases mem_put hx with h4 | h4
      · exact hk (he.symm.trans h4)
      · exact h3 x h4 he
theorem lk_put {k v j : Int} : ∀ {l : List (Int × Int)}, lkH (putH k v l) j = if j = k then lkH l j + v else lkH l j
  | [] => by
    rw [putH, lkH, lkH]
    by_cases h : k = j
    · rw [if_pos h, if_pos h.symm]; dsimp only; omega
    · rw [if_neg h, if_neg fun h' => h h'.symm, lkH]
  | e :: t => by
    rw [putH]
    by_cases h : e.1 = k
    · rw [if_pos h, lkH, lkH]
      by_cases hj : j = k
      · rw [if_pos hj.symm, if_pos hj, if_pos (h.trans hj.symm)]
      · rw [if_neg fun h' => hj h'.symm, if_neg hj, if_neg fun h' => hj (h'.symm.trans h)]
    · rw [if_neg h, lkH, lkH]
      by_cases hj : e.1 = j
      · rw [if_pos hj, if_pos hj, if_neg fun h' => h (hj.trans h')]
      · rw [if_neg hj, if_neg hj, lk_put]
theorem sm_put {k v : Int} : ∀ {l : List (Int × Int)}, smH (putH k v l) = smH l + v
  | [] => by show v + 0 = 0 + v; omega
  | e :: t => by
    rw [putH]
    split
    · rw [smH, smH]; dsimp only; omega
    · rw [smH, smH, sm_put]; omega
theorem len_put {k v : Int} : ∀ {l : List (Int × Int)}, (putH k v l).length ≤ l.length + 1
  | [] => Nat.le_refl _
  | e :: t => by
    have := len_put (k := k) (v := v) (l := t)
    rw [putH]
    split
    · rw [List.length_cons, List.length_cons]; omega
    · rw [List.length_cons, List.length_cons]; omega
/-- What is said of counts. -/
structure HvI (n : Nat) (l : List (Int × Int)) (less all key mine : Int) : Prop where
  ok : OkH l
  pos : 0 ≤ less
  sum : less * (n + 1) + smH l ≤ all
  hi : lkH l key ≤ mine
  lo : mine ≤ lkH l key + less
theorem HvI.new (n : Nat) (key : Int) : HvI n [] 0 0 key 0 := ⟨OkH.nil, Int.le_refl _, by rw [Int.zero_mul]; exact Int.le_refl _, Int.le_refl _, Int.le_refl _⟩
/-- Told: what the law asks. -/
theorem HvI.less {n : Nat} {l : List (Int × Int)} {less all key mine : Int} (h : HvI n l less all key mine) : less * (n + 1) ≤ all := by
  have h1 := h.sum
  have h2 := sm_0 h.ok
  omega
/-- A key that is counted, or for which there is room. -/
theorem HvI.put {n : Nat} {l : List (Int × Int)} {less all key mine k v : Int} (h : HvI n l less all key mine) (hv : 1 ≤ v) : HvI n (putH k v l) less (all + v) key (if k = key then mine + v else mine) := by
  refine ⟨ok_put hv h.ok, h.pos, ?_, ?_, ?_⟩
  · rw [sm_put]; have := h.sum; omega
  · rw [lk_put]
    have := h.hi
    by_cases hk : k = key
    · rw [if_pos hk.symm, if_pos hk]; omega
    · rw [if_neg fun h' => hk h'.symm, if_neg hk]; exact this
  · rw [lk_put]
    have := h.lo
    by_cases hk : k = key
    · rw [if_pos hk.symm, if_pos hk]; omega
    · rw [if_neg hk, if_neg fun h' => hk h'.symm]; exact this
/-- Taken away from all that are there, and from what comes. -/
theorem HvI.take {n : Nat} {l : List (Int × Int)} {less all key mine m k : Int} (h : HvI n l less all key mine) (hm : 0 ≤ m) (hl : l.length = n) (ha : ∀ e ∈ l, m ≤ e.2) (hk : lkH l k = 0) : HvI n (takH m l) (less + m) (all + m) key (if k = key then mine + m else mine) := by
  obtain ⟨h1, h2⟩ := lk_take (k := key) hm h.ok
  have h3 := sm_take hm h.ok
  rw [cnt_all ha, hl] at h3
  have h4 := h.sum
  have h5 := h.hi
  have h6 := h.lo
  have h0 := lk_0 (k := key) h.ok
  have e : (less + m) * (n + 1) = less * (n + 1) + (m * n + m) := by rw [Int.add_mul, Int.mul_add m, Int.mul_one]
  refine ⟨ok_take h.ok, by have := h.pos; omega, by rw [e]; omega, ?_, ?_⟩
  · split <;> omega
  · have h7 := lk_0 (k := key) (ok_take (m := m) h.ok)
    split
    · rename_i he
      subst he
      omega
    · omega
/-- Merged: added, and the same taken away from all of which more have it than may be. -/
theorem HvI.cut {n : Nat} {l : List (Int × Int)} {less all key mine m : Int} (h : HvI n l less all key mine) (hm : 0 ≤ m) (hc : n + 1 ≤ cntH m l) : HvI n (takH m l) (less + m) all key mine := by
  obtain ⟨h1, h2⟩ := lk_take (k := key) hm h.ok
  have h3 := sm_take hm h.ok
  have h4 := h.sum
  have h5 := h.hi
  have h6 := h.lo
  have h8 : m * ((n + 1 : Nat) : Int) ≤ m * cntH m l := Int.mul_le_mul_of_nonneg_left (by omega) hm
  have e : (less + m) * (n + 1) = less * (n + 1) + m * ((n + 1 : Nat) : Int) := by rw [Int.add_mul]; rfl
  exact ⟨ok_take h.ok, by have := h.pos; omega, by rw [e]; omega, by omega, by omega⟩
/-- All that another one has. -/
def putsH : List (Int × Int) → List (Int × Int) → List (Int × Int)
  | l, [] => l
  | l, e :: r => putsH (putH e.1 e.2 l) r
theorem puts_all {n : Nat} : ∀ {r l : List (Int × Int)}, OkH l → (∀ e ∈ r, 1 ≤ e.2) → OkH (putsH l r) ∧ smH (putsH l r) = smH l + smH r
  | [], l, h, _ => ⟨h, by show smH l = smH l + 0; omega⟩
  | e :: r, l, h, hr => by
    have h1 := hr e (List.Mem.head _)
    obtain ⟨h2, h3⟩ := puts_all (n := n) (r := r) (ok_put (k := e.1) h1 h) fun x hx => hr x (List.Mem.tail _ hx)
    refine ⟨h2, ?_⟩
    rw [putsH, h3, sm_put, smH]
    omega
theorem puts_lk {k : Int} : ∀ {r l : List (Int × Int)}, OkH r → lkH (putsH l r) k = lkH l k + lkH r k
  | [], l, _ => by show lkH l k = lkH l k + 0; omega
  | e :: r, l, h => by
    obtain ⟨h1, h2, h3⟩ := h.tail
    rw [putsH, puts_lk h1, lk_put, lkH]
    by_cases hk : e.1 = k
    · rw [if_pos hk.symm, if_pos hk, lk_out fun x hx he => h3 x hx (he.trans hk.symm)]
      omega
    · rw [if_neg fun h' => hk h'.symm, if_neg hk]
theorem HvI.puts {n : Nat} {l r : List (Int × Int)} {less less' all all' key mine mine' : Int} (h : HvI n l less all key mine) (h' : HvI n r less' all' key mine') : HvI n (putsH l r) (less + less') (all + all') key (mine + mine') := by
  obtain ⟨h1, h2⟩ := puts_all (n := n) (r := r) h.ok h'.ok.2
  have h3 := puts_lk (k := key) (l := l) h'.ok
  have h4 := h.sum
  have h5 := h'.sum
  have h6 := h.hi
  have h7 := h'.hi
  have h8 := h.lo
  have h9 := h'.lo
  have h10 := h.pos
  have h11 := h'.pos
  have e : (less + less') * (n + 1) = less * (n + 1) + less' * (n + 1) := by rw [Int.add_mul]
  exact ⟨h1, by omega, by rw [e]; omega, by omega, by omega⟩
end Go.Port
