/- What is common to two lists, and how one becomes the other: the plain law. No program here. -/
namespace Go.Port
section
variable {α : Type} [DecidableEq α]
/-- How many are common, in their order. -/
def lcs : List α → List α → Nat
  | [], _ => 0
  | _ :: _, [] => 0
  | x :: a, y :: b => if x = y then lcs a b + 1 else max (lcs a (y :: b)) (lcs (x :: a) b)
termination_by a b => a.length + b.length
theorem lcs_nil (b : List α) : lcs [] b = 0 := by rw [lcs]
theorem lcs_nilr (a : List α) : lcs a [] = 0 := by cases a <;> rw [lcs]
theorem lcs_sub : ∀ (a b : List α), ∃ c : List α, c.Sublist a ∧ c.Sublist b ∧ c.length = lcs a b
  | [], b => ⟨[], List.nil_sublist _, List.nil_sublist _, by rw [lcs]; rfl⟩
  | x :: a, [] => ⟨[], List.nil_sublist _, List.nil_sublist _, by rw [lcs]; rfl⟩
  | x :: a, y :: b => by
    rw [lcs]
    split
    · rename_i h
      subst h
      obtain ⟨c, h1, h2, h3⟩ := lcs_sub a b
      exact ⟨x :: c, h1.cons_cons _, h2.cons_cons _, by rw [List.length_cons, h3]⟩
    · rcases Nat.le_total (lcs a (y :: b)) (lcs (x :: a) b) with h | h
      · obtain ⟨c, h1, h2, h3⟩ := lcs_sub (x :: a) b
        exact ⟨c, h1, h2.cons _, by rw [h3]; omega⟩
      · obtain ⟨c, h1, h2, h3⟩ := lcs_sub a (y :: b)
        exact ⟨c, h1.cons _, h2, by rw [h3]; omega⟩
termination_by a b => a.length + b.length
theorem lcs_max : ∀ (a b c : List α), c.Sublist a → c.Sublist b → c.length ≤ lcs a b
  | [], b, c, h1, _ => by rw [List.sublist_nil.1 h1]; exact Nat.zero_le _
  | x :: a, [], c, _, h2 => by rw [List.sublist_nil.1 h2]; exact Nat.zero_le _
  | x :: a, y :: b, c, h1, h2 => by
    rw [lcs]
    split
    · rename_i h
      subst h
      cases c with
      | nil => exact Nat.zero_le _
      | cons z c =>
        have g1 : c.Sublist a := by
          cases h1 with
          | cons _ h => exact (List.sublist_cons_self z c).trans h
          | cons_cons _ h => exact h
        have g2 : c.Sublist b := by
          cases h2 with
          | cons _ h => exact (List.sublist_cons_self z c).trans h
          | cons_cons _ h => exact h
        have := lcs_max a b c g1 g2
        rw [List.length_cons]; omega
    · rename_i h
      cases h1 with
      | cons _ h1 =>
        have := lcs_max a (y :: b) c h1 h2
        omega
      | cons_cons _ h1 =>
        cases h2 with
        | cons _ h2 =>
          have := lcs_max (x :: a) b _ (h1.cons_cons _) h2
          omega
        | cons_cons _ h2 => exact absurd rfl h
termination_by a b => a.length + b.length
theorem lcs_eq {a b a' b' : List α} (h1 : ∀ c : List α, c.Sublist a → c.Sublist b → ∃ d : List α, d.Sublist a' ∧ d.Sublist b' ∧ c.length ≤ d.length) (h2 : ∀ c : List α, c.Sublist a' → c.Sublist b' → ∃ d : List α, d.Sublist a ∧ d.Sublist b ∧ c.length ≤ d.length) : lcs a b = lcs a' b' := by
  obtain ⟨c, g1, g2, g3⟩ := lcs_sub a b
  obtain ⟨d, k1, k2, k3⟩ := h1 c g1 g2
  have := lcs_max a' b' d k1 k2
  obtain ⟨c', g1', g2', g3'⟩ := lcs_sub a' b'
  obtain ⟨d', k1', k2', k3'⟩ := h2 c' g1' g2'
  have := lcs_max a b d' k1' k2'
  omega
theorem lcs_comm (a b : List α) : lcs a b = lcs b a := lcs_eq (fun c h1 h2 => ⟨c, h2, h1, Nat.le_refl _⟩) (fun c h1 h2 => ⟨c, h2, h1, Nat.le_refl _⟩)
theorem lcs_rev (a b : List α) : lcs a.reverse b.reverse = lcs a b :=
  lcs_eq (fun c h1 h2 => ⟨c.reverse, by simpa using h1.reverse, by simpa using h2.reverse, by simp⟩) (fun c h1 h2 => ⟨c.reverse, h1.reverse, h2.reverse, by simp⟩)
theorem lcs_le (a b : List α) : lcs a b ≤ a.length ∧ lcs a b ≤ b.length := by
  obtain ⟨c, h1, h2, h3⟩ := lcs_sub a b
  rw [← h3]
  exact ⟨h1.length_le, h2.length_le⟩
theorem lcs_tail (x : α) (a b : List α) : lcs a b ≤ lcs (x :: a) b ∧ lcs (x :: a) b ≤ lcs a b + 1 := by
  constructor
  · obtain ⟨c, h1, h2, h3⟩ := lcs_sub a b
    rw [← h3]
    exact lcs_max _ _ c (h1.cons _) h2
  · obtain ⟨c, h1, h2, h3⟩ := lcs_sub (x :: a) b
    rw [← h3]
    cases c with
    | nil => exact Nat.zero_le _
    | cons z c =>
      have g1 : c.Sublist a := by
        cases h1 with
        | cons _ h => exact (List.sublist_cons_self z c).trans h
        | cons_cons _ h => exact h
      have := lcs_max a b c g1 ((List.sublist_cons_self z c).trans h2)
      rw [List.length_cons]; omega
/-- The document's step: the greatest of three. -/
theorem lcs_three (x y : α) (a b : List α) : lcs (x :: a) (y :: b) = max (max (lcs (x :: a) b) (lcs a (y :: b))) (if x = y then lcs a b + 1 else 0) := by
  rw [lcs]
  split
  · have h1 := (lcs_tail x a b).2
    have h2 := (lcs_tail y b a).2
    rw [lcs_comm b a, lcs_comm (y :: b) a] at h2
    omega
  · omega
/-- An edit: where, whether it puts, what. -/
abbrev Ed (α : Type) := Nat × Bool × α
/-- The fewest edits. -/
def diffL : List α → List α → Nat → List (Ed α)
  | [], [], _ => []
  | [], y :: b, n => (n, true, y) :: diffL [] b (n + 1)
  | x :: a, [], n => (n, false, x) :: diffL a [] n
  | x :: a, y :: b, n => if x = y then diffL a b (n + 1) else if lcs a (y :: b) = lcs (x :: a) (y :: b) then (n, false, x) :: diffL a (y :: b) n else (n, true, y) :: diffL (x :: a) b (n + 1)
termination_by a b => a.length + b.length
/-- What an edit makes of a list, if it may be. -/
def stepE1 (l : List α) (e : Ed α) : Option (List α) :=
  if e.1 > l.length ∨ (e.2.1 = false ∧ e.1 = l.length) then none
  else if e.2.1 = true then some (l.take e.1 ++ e.2.2 :: l.drop e.1) else if l[e.1]? = some e.2.2 then some (l.take e.1 ++ l.drop (e.1 + 1)) else none
def runE : List α → List (Ed α) → Option (List α)
  | l, [] => some l
  | l, e :: r => match stepE1 l e with
    | none => none
    | some m => runE m r
theorem runE_app : ∀ (r s : List (Ed α)) (l m : List α), runE l r = some m → runE l (r ++ s) = runE m s
  | [], s, l, m, h => by
    obtain rfl := Option.some.inj h
    rfl
  | e :: r, s, l, m, h => by
    rw [List.cons_append, runE]
    rw [runE] at h
    cases hs : stepE1 l e with
    | none => rw [hs] at h; cases h
    | some k =>
      rw [hs] at h
      exact runE_app r s k m h
theorem step_put (p a : List α) (y : α) : stepE1 (p ++ a) (p.length, true, y) = some ((p ++ [y]) ++ a) := by
  unfold stepE1
  rw [if_neg (by simp), if_pos rfl]
  simp
theorem step_del (p a : List α) (x : α) : stepE1 (p ++ x :: a) (p.length, false, x) = some (p ++ a) := by
  unfold stepE1
  rw [if_neg (by simp), if_neg (by simp), if_pos (by simp)]
  simp
theorem diff_run : ∀ (a b p : List α), runE (p ++ a) (diffL a b p.length) = some (p ++ b)
  | [], [], p => by rw [diffL]; rfl
  | [], y :: b, p => by
    rw [diffL, runE, step_put]
    dsimp only
    have := diff_run [] b (p ++ [y])
    rw [List.length_append, List.length_singleton] at this
    rw [this]; simp
  | x :: a, [], p => by
    rw [diffL, runE, step_del]
    dsimp only
    exact diff_run a [] p
  | x :: a, y :: b, p => by
    rw [diffL]
    split
    · rename_i h
      subst h
      have := diff_run a b (p ++ [x])
      rw [List.length_append, List.length_singleton] at this
      simpa using this
    · split
      · rw [runE, step_del]
        dsimp only
        exact diff_run a (y :: b) p
      · rw [runE, step_put]
        dsimp only
        have := diff_run (x :: a) b (p ++ [y])
        rw [List.length_append, List.length_singleton] at this
        rw [this]; simp
termination_by a b => a.length + b.length
theorem diff_len : ∀ (a b : List α) (n : Nat), (diffL a b n).length + 2 * lcs a b = a.length + b.length
  | [], [], n => by rw [diffL, lcs]; rfl
  | [], y :: b, n => by
    have := diff_len [] b (n + 1)
    rw [diffL, lcs]
    rw [lcs_nil] at this
    simp only [List.length_cons, List.length_nil] at *
    omega
  | x :: a, [], n => by
    have := diff_len a [] n
    rw [diffL, lcs]
    rw [lcs_nilr] at this
    simp only [List.length_cons, List.length_nil] at *
    omega
  | x :: a, y :: b, n => by
    rw [diffL]
    split
    · rename_i h
      have := diff_len a b (n + 1)
      rw [lcs, if_pos h]
      simp only [List.length_cons]
      omega
    · rename_i h
      split
      · rename_i h1
        have := diff_len a (y :: b) n
        rw [← h1]
        simp only [List.length_cons] at *
        omega
      · rename_i h1
        have := diff_len (x :: a) b (n + 1)
        have h2 : lcs (x :: a) (y :: b) = lcs (x :: a) b := by
          rw [lcs, if_neg h] at h1 ⊢
          omega
        rw [h2]
        simp only [List.length_cons] at *
        omega
termination_by a b => a.length + b.length
theorem diff_self : ∀ (a : List α) (n : Nat), diffL a a n = []
  | [], n => by rw [diffL]
  | x :: a, n => by rw [diffL, if_pos rfl, diff_self a]
/-- An edit turned. -/
def turnE (e : Ed α) : Ed α := (e.1, !e.2.1, e.2.2)
theorem step_turn {l m : List α} {e : Ed α} (h : stepE1 l e = some m) : stepE1 m (turnE e) = some l := by
  obtain ⟨n, put, x⟩ := e
  unfold stepE1 at h
  split at h
  · cases h
  · rename_i hb
    dsimp only at hb h
    cases put
    · rw [if_neg (by decide)] at h
      split at h
      · rename_i hx
        obtain rfl := Option.some.inj h
        obtain ⟨hl, he⟩ := List.getElem?_eq_some_iff.1 hx
        unfold stepE1 turnE
        dsimp only
        have ht : (l.take n).length = n := by rw [List.length_take]; omega
        rw [if_neg (by rw [List.length_append, ht]; simp), show (!false) = true from rfl, if_pos rfl]
        rw [List.take_left' ht, List.drop_left' ht, ← he, ← List.drop_eq_getElem_cons hl, List.take_append_drop]
      · cases h
    · rw [if_pos rfl] at h
      obtain rfl := Option.some.inj h
      have hl : n ≤ l.length := by simp at hb; omega
      have ht : (l.take n).length = n := by rw [List.length_take]; omega
      unfold stepE1 turnE
      dsimp only
      rw [if_neg (by rw [List.length_append, ht]; simp), if_neg (by simp), if_pos (by rw [List.getElem?_append_right (by omega), ht, Nat.sub_self]; rfl)]
      rw [List.take_left' ht]
      have : (l.take n ++ x :: l.drop n).drop (n + 1) = l.drop n := by
        rw [show l.take n ++ x :: l.drop n = (l.take n ++ [x]) ++ l.drop n by simp]
        exact List.drop_left' (by rw [List.length_append, ht]; rfl)
      rw [this, List.take_append_drop]
theorem run_turn : ∀ (r : List (Ed α)) (l m : List α), runE l r = some m → runE m (r.reverse.map turnE) = some l
  | [], l, m, h => by
    obtain rfl := Option.some.inj h
    rfl
  | e :: r, l, m, h => by
    rw [runE] at h
    cases hs : stepE1 l e with
    | none => rw [hs] at h; cases h
    | some k =>
      rw [hs] at h
      have ih := run_turn r k m h
      rw [List.reverse_cons, List.map_append, runE_app _ _ _ _ ih]
      show runE k [turnE e] = some l
      rw [runE, step_turn hs]
      rfl
/-- The document's table, by beginnings. -/
theorem lcs_pre {a b : List α} {i k : Nat} {x y : α} (hx : a[i]? = some x) (hy : b[k]? = some y) : lcs (a.take (i + 1)) (b.take (k + 1)) = max (max (lcs (a.take (i + 1)) (b.take k)) (lcs (a.take i) (b.take (k + 1)))) (if x = y then lcs (a.take i) (b.take k) + 1 else 0) := by
  have ea : (a.take (i + 1)).reverse = x :: (a.take i).reverse := by rw [List.take_add_one, hx]; simp
  have eb : (b.take (k + 1)).reverse = y :: (b.take k).reverse := by rw [List.take_add_one, hy]; simp
  rw [← lcs_rev, ea, eb, lcs_three, ← lcs_rev (a.take (i + 1)), ← lcs_rev (a.take i) (b.take (k + 1)), ← lcs_rev (a.take i) (b.take k), ea, eb]
/-- The program's table, by ends. -/
theorem lcs_post {a b : List α} {i k : Nat} {x y : α} (hx : a[i]? = some x) (hy : b[k]? = some y) : lcs (a.drop i) (b.drop k) = if x = y then lcs (a.drop (i + 1)) (b.drop (k + 1)) + 1 else max (lcs (a.drop (i + 1)) (b.drop k)) (lcs (a.drop i) (b.drop (k + 1))) := by
  obtain ⟨hi, rfl⟩ := List.getElem?_eq_some_iff.1 hx
  obtain ⟨hk, rfl⟩ := List.getElem?_eq_some_iff.1 hy
  have e := lcs.eq_3 (a[i]) (a.drop (i + 1)) (b[k]) (b.drop (k + 1))
  rw [← List.drop_eq_getElem_cons hi, ← List.drop_eq_getElem_cons hk] at e
  exact e
end
end Go.Port
