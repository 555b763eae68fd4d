/- Spans as sets: what both have, what is left, how the document puts one more in. The plain law. No program here. -/
import Derived.Test.YtoelbnhjamddgaaGreatDoorSpanP
set_option linter.unusedSimpArgs false
set_option linter.unusedVariables false
namespace Go.Port
theorem hasS_nil (n : Int) : hasS [] n ↔ False := iff_of_false (fun ⟨_, h, _⟩ => by cases h) id
theorem hasS_app {l m : List Sp} {n : Int} : hasS (l ++ m) n ↔ hasS l n ∨ hasS m n := by
  unfold hasS
  constructor
  · rintro ⟨s, hs, h⟩
    rcases List.mem_append.1 hs with h1 | h1
    · exact .inl ⟨s, h1, h⟩
    · exact .inr ⟨s, h1, h⟩
  · rintro (⟨s, hs, h⟩ | ⟨s, hs, h⟩)
    · exact ⟨s, List.mem_append_left _ hs, h⟩
    · exact ⟨s, List.mem_append_right _ hs, h⟩
theorem hasS_one {a b n : Int} : hasS [(a, b)] n ↔ a ≤ n ∧ n ≤ b := by
  rw [hasS_cons, hasS_nil, or_false]
/-- All may be. -/
def OkS (l : List Sp) : Prop := ∀ s ∈ l, ¬ spBad s
theorem OkS.has {l : List Sp} (h : OkS l) {n : Int} (hn : hasS l n) : 0 ≤ n ∧ n ≤ 65535 := by
  obtain ⟨s, hs, hb⟩ := hn
  have := h s hs
  unfold spBad at this
  omega
theorem OkS.of {l : List Sp} (hg : Gap l) (h : ∀ n, hasS l n → 0 ≤ n ∧ n ≤ 65535) : OkS l := fun s hs hb => by
  have hle := hg.all s hs
  have a1 := h s.1 ⟨s, hs, Int.le_refl _, hle⟩
  have a2 := h s.2 ⟨s, hs, hle, Int.le_refl _⟩
  unfold spBad at hb
  omega
theorem TidyOf.okS {l a : List Sp} (h : TidyOf l a) (hl : OkS l) : OkS a := .of h.1 fun n hn => hl.has ((h.2.1 n).1 hn)
theorem OkS.app {l m : List Sp} (h1 : OkS l) (h2 : OkS m) : OkS (l ++ m) := fun s hs => (List.mem_append.1 hs).elim (h1 s) (h2 s)
theorem OkS.nil : OkS [] := fun s h => by cases h
/-- What one has in common with some. -/
def cross1 (s : Sp) : List Sp → List Sp
  | [] => []
  | t :: b => if max s.1 t.1 ≤ min s.2 t.2 then (max s.1 t.1, min s.2 t.2) :: cross1 s b else cross1 s b
def crossL : List Sp → List Sp → List Sp
  | [], _ => []
  | s :: a, b => cross1 s b ++ crossL a b
theorem cross1_has {s : Sp} {n : Int} : ∀ {b : List Sp}, hasS (cross1 s b) n ↔ (s.1 ≤ n ∧ n ≤ s.2) ∧ hasS b n
  | [] => by rw [cross1, hasS_nil]; simp
  | t :: b => by
    rw [cross1, hasS_cons (s := t), ← and_or_left_S, ← cross1_has (b := b)]
    split
    · rw [hasS_cons]
      dsimp only
      constructor
      · rintro (h | h)
        · exact .inl (by omega)
        · exact .inr h
      · rintro (h | h)
        · exact .inl (by omega)
        · exact .inr h
    · constructor
      · exact .inr
      · rintro (h | h)
        · omega
        · exact h
where and_or_left_S {p q r : Prop} : (p ∧ q) ∨ (p ∧ r) ↔ p ∧ (q ∨ r) := ⟨fun h => h.elim (fun x => ⟨x.1, .inl x.2⟩) fun x => ⟨x.1, .inr x.2⟩, fun ⟨x, y⟩ => y.elim (fun z => .inl ⟨x, z⟩) fun z => .inr ⟨x, z⟩⟩
theorem crossL_has {n : Int} : ∀ {a b : List Sp}, hasS (crossL a b) n ↔ hasS a n ∧ hasS b n
  | [], b => by rw [crossL, hasS_nil]; simp
  | s :: a, b => by
    rw [crossL, hasS_app, cross1_has, crossL_has, hasS_cons]
    constructor
    · rintro (⟨h1, h2⟩ | ⟨h1, h2⟩)
      · exact ⟨.inl h1, h2⟩
      · exact ⟨.inr h1, h2⟩
    · rintro ⟨h1 | h1, h2⟩
      · exact .inl ⟨h1, h2⟩
      · exact .inr ⟨h1, h2⟩
theorem cross1_ok {s : Sp} (hs : ¬ spBad s) : ∀ {b : List Sp}, OkS b → OkS (cross1 s b)
  | [], _ => OkS.nil
  | t :: b, h => by
    have h1 := cross1_ok hs (b := b) fun x hx => h x (List.mem_cons_of_mem _ hx)
    rw [cross1]
    split
    · intro x hx
      rcases List.mem_cons.1 hx with rfl | hx
      · have ht := h t (List.mem_cons_self ..)
        unfold spBad at hs ht ⊢
        dsimp only
        omega
      · exact h1 x hx
    · exact h1
theorem crossL_ok : ∀ {a b : List Sp}, OkS a → OkS b → OkS (crossL a b)
  | [], _, _, _ => OkS.nil
  | s :: a, b, ha, hb => by
    rw [crossL]
    exact (cross1_ok (ha s (List.mem_cons_self ..)) hb).app (crossL_ok (fun x hx => ha x (List.mem_cons_of_mem _ hx)) hb)
theorem cross1_len (s : Sp) : ∀ b : List Sp, (cross1 s b).length ≤ b.length
  | [] => Nat.le_refl _
  | t :: b => by
    have := cross1_len s b
    rw [cross1]
    split <;> simp only [List.length_cons] <;> omega
theorem crossL_len (b : List Sp) : ∀ a : List Sp, (crossL a b).length ≤ a.length * b.length
  | [] => by simp [crossL]
  | s :: a => by
    have h1 := cross1_len s b
    have h2 := crossL_len b a
    rw [crossL, List.length_append, List.length_cons, Nat.succ_mul]
    omega
/-- What is left from low to high. -/
def restL : List Sp → Int → Int → List Sp
  | [], low, high => if low ≤ high then [(low, high)] else []
  | s :: l, low, high => (if low < s.1 then [(low, s.1 - 1)] else []) ++ restL l (s.2 + 1) high
theorem restL_len : ∀ {l : List Sp} {low high : Int}, (restL l low high).length ≤ l.length + 1
  | [], low, high => by rw [restL]; split <;> simp
  | s :: l, low, high => by
    have := restL_len (l := l) (low := s.2 + 1) (high := high)
    rw [restL, List.length_append, List.length_cons]
    split <;> simp <;> omega
theorem restL_low : ∀ {l : List Sp} {low high : Int}, Gap l → (∀ s ∈ l, low ≤ s.1) → ∀ t ∈ restL l low high, low ≤ t.1
  | [], low, high, _, _, t, ht => by
    rw [restL] at ht
    split at ht
    · rw [List.mem_singleton.1 ht]; exact Int.le_refl _
    · cases ht
  | s :: l, low, high, hg, hl, t, ht => by
    rw [restL] at ht
    have h1 := hl s (List.mem_cons_self ..)
    have h2 := hg.head
    rcases List.mem_append.1 ht with ht | ht
    · split at ht
      · rw [List.mem_singleton.1 ht]; exact Int.le_refl _
      · cases ht
    · have := restL_low (low := s.2 + 1) hg.tail (fun x hx => by have := hg.above x hx; omega) t ht
      omega
theorem restL_gap : ∀ {l : List Sp} {low high : Int}, Gap l → (∀ s ∈ l, low ≤ s.1) → Gap (restL l low high)
  | [], low, high, _, _ => by
    rw [restL]
    split
    · rename_i h; exact h
    · trivial
  | s :: l, low, high, hg, hl => by
    have h2 := hg.head
    have ih := restL_gap (low := s.2 + 1) (high := high) hg.tail (fun x hx => by have := hg.above x hx; omega)
    have hlow := restL_low (low := s.2 + 1) (high := high) hg.tail (fun x hx => by have := hg.above x hx; omega)
    rw [restL]
    split
    · refine Gap.cons ?_ (fun t ht => ?_) ih
      · dsimp only; omega
      · have := hlow t (List.mem_of_mem_head? ht)
        dsimp only
        omega
    · exact ih
theorem restL_has {n : Int} : ∀ {l : List Sp} {low high : Int}, Gap l → (∀ s ∈ l, low ≤ s.1 ∧ s.2 ≤ high) → (hasS (restL l low high) n ↔ (low ≤ n ∧ n ≤ high) ∧ ¬ hasS l n)
  | [], low, high, _, _ => by
    rw [restL, hasS_nil]
    split
    · rw [hasS_one]; simp
    · rw [hasS_nil]
      constructor
      · exact fun h => h.elim
      · omega
  | s :: l, low, high, hg, hl => by
    have h1 := hl s (List.mem_cons_self ..)
    have h2 := hg.head
    have ih := restL_has (n := n) (low := s.2 + 1) (high := high) hg.tail (fun x hx => by have := hg.above x hx; have := (hl x (List.mem_cons_of_mem _ hx)).2; omega)
    have habove : hasS l n → s.2 + 1 < n := fun ⟨t, ht, hb⟩ => by have := hg.above t ht; omega
    rw [restL, hasS_app, ih, hasS_cons]
    split
    · rw [hasS_one]
      constructor
      · rintro (h | ⟨h, h3⟩)
        · refine ⟨by omega, ?_⟩
          rintro (h3 | h3)
          · omega
          · have := habove h3; omega
        · refine ⟨by omega, ?_⟩
          rintro (h4 | h4)
          · omega
          · exact h3 h4
      · rintro ⟨h, h3⟩
        by_cases h4 : n < s.1
        · exact .inl (by omega)
        · refine .inr ⟨?_, fun h5 => h3 (.inr h5)⟩
          have : ¬ (s.1 ≤ n ∧ n ≤ s.2) := fun h5 => h3 (.inl h5)
          omega
    · rw [hasS_nil, false_or]
      constructor
      · rintro ⟨h, h3⟩
        refine ⟨by omega, ?_⟩
        rintro (h4 | h4)
        · omega
        · exact h3 h4
      · rintro ⟨h, h3⟩
        refine ⟨?_, fun h5 => h3 (.inr h5)⟩
        have : ¬ (s.1 ≤ n ∧ n ≤ s.2) := fun h5 => h3 (.inl h5)
        omega
/-- How the document puts one more in. -/
def insR : List Sp → Int → Int → Bool → List Sp
  | [], a, b, done => if done then [] else [(a, b)]
  | s :: r, a, b, done => if s.2 + 1 < a then s :: insR r a b done else if b + 1 < s.1 then (if done then s :: insR r a b true else (a, b) :: s :: insR r a b true) else insR r (min a s.1) (max b s.2) done
theorem insR_done : ∀ {l : List Sp} {a b : Int}, Gap l → a ≤ b → (∀ s ∈ l, b + 1 < s.1) → insR l a b true = l
  | [], _, _, _, _, _ => rfl
  | s :: r, a, b, hg, hab, h => by
    have h1 := h s (List.mem_cons_self ..)
    have h2 := hg.head
    rw [insR, if_neg (by omega), if_pos h1, if_pos rfl, insR_done hg.tail hab fun x hx => h x (List.mem_cons_of_mem _ hx)]
theorem insR_low : ∀ {l : List Sp} {a b x : Int}, Gap l → a ≤ b → x < a → (∀ s ∈ l, x < s.1) → ∀ t ∈ insR l a b false, x < t.1
  | [], a, b, x, _, _, hx, _, t, ht => by
    rw [insR] at ht
    rw [List.mem_singleton.1 ht]; exact hx
  | s :: r, a, b, x, hg, hab, hx, h, t, ht => by
    have h1 := h s (List.mem_cons_self ..)
    have h2 := hg.head
    have h3 : ∀ s ∈ r, x < s.1 := fun y hy => h y (List.mem_cons_of_mem _ hy)
    rw [insR] at ht
    split at ht
    · rcases List.mem_cons.1 ht with rfl | ht
      · exact h1
      · exact insR_low hg.tail hab hx h3 t ht
    · split at ht
      · rename_i h4 h5
        rw [if_neg (by decide), insR_done hg.tail hab (fun y hy => by have := hg.above y hy; omega)] at ht
        rcases List.mem_cons.1 ht with rfl | ht
        · exact hx
        · exact h t ht
      · exact insR_low hg.tail (by omega) (by omega) h3 t ht
theorem insR_gap : ∀ {l : List Sp} {a b : Int}, Gap l → a ≤ b → Gap (insR l a b false)
  | [], a, b, _, hab => hab
  | s :: r, a, b, hg, hab => by
    have h2 := hg.head
    rw [insR]
    split
    · rename_i h1
      refine Gap.cons h2 (fun t ht => insR_low hg.tail hab h1 (fun y hy => hg.above y hy) t (List.mem_of_mem_head? ht)) (insR_gap hg.tail hab)
    · split
      · rename_i h4 h5
        rw [if_neg (by decide), insR_done hg.tail hab (fun y hy => by have := hg.above y hy; omega)]
        exact ⟨hab, h5, hg⟩
      · exact insR_gap hg.tail (by omega)
theorem insR_has {n : Int} : ∀ {l : List Sp} {a b : Int}, Gap l → a ≤ b → (hasS (insR l a b false) n ↔ (a ≤ n ∧ n ≤ b) ∨ hasS l n)
  | [], a, b, _, hab => by
    rw [insR, if_neg (by decide), hasS_one, hasS_nil, or_false]
  | s :: r, a, b, hg, hab => by
    have h2 := hg.head
    rw [insR]
    split
    · rw [hasS_cons, insR_has hg.tail hab, hasS_cons]
      constructor
      · rintro (h | h | h)
        · exact .inr (.inl h)
        · exact .inl h
        · exact .inr (.inr h)
      · rintro (h | h | h)
        · exact .inr (.inl h)
        · exact .inl h
        · exact .inr (.inr h)
    · split
      · rename_i h4 h5
        rw [if_neg (by decide), insR_done hg.tail hab (fun y hy => by have := hg.above y hy; omega), hasS_cons]
      · rw [insR_has hg.tail (by omega), hasS_cons]
        constructor
        · rintro (h | h)
          · by_cases h6 : a ≤ n ∧ n ≤ b
            · exact .inl h6
            · exact .inr (.inl (by omega))
          · exact .inr (.inr h)
        · rintro (h | h | h)
          · exact .inl (by omega)
          · exact .inl (by omega)
          · exact .inr h
theorem insR_len : ∀ {l : List Sp} {a b : Int} {d : Bool}, (insR l a b d).length ≤ l.length + 1
  | [], a, b, d => by rw [insR]; split <;> simp
  | s :: r, a, b, d => by
    rw [insR]
    split
    · have := insR_len (l := r) (a := a) (b := b) (d := d)
      simp only [List.length_cons]; omega
    · split
      · split
        · have := insR_len (l := r) (a := a) (b := b) (d := true)
          simp only [List.length_cons]; omega
        · rename_i h1 h2 h3
          have : (insR r a b true).length ≤ r.length := insR_lenT
          simp only [List.length_cons]; omega
      · have := insR_len (l := r) (a := min a s.1) (b := max b s.2) (d := d)
        simp only [List.length_cons]; omega
where insR_lenT : ∀ {l : List Sp} {a b : Int}, (insR l a b true).length ≤ l.length
  | [], a, b => by rw [insR]; simp
  | s :: r, a, b => by
    rw [insR]
    have h1 := insR_lenT (l := r) (a := a) (b := b)
    have h2 := insR_lenT (l := r) (a := min a s.1) (b := max b s.2)
    split
    · simp only [List.length_cons]; omega
    · split
      · simp only [if_true, List.length_cons]; omega
      · simp only [List.length_cons]; omega
/-- The document's fewest spans. -/
def normR (l : List Sp) : List Sp := l.foldl (fun o s => insR o s.1 s.2 false) []
theorem normR_gap {l : List Sp} (hv : ∀ s ∈ l, s.1 ≤ s.2) : ∀ {o : List Sp}, Gap o → Gap (l.foldl (fun o s => insR o s.1 s.2 false) o) ∧ ∀ n, hasS (l.foldl (fun o s => insR o s.1 s.2 false) o) n ↔ hasS o n ∨ hasS l n := by
  induction l with
  | nil => intro o h; exact ⟨h, fun n => by rw [hasS_nil, or_false]; rfl⟩
  | cons s r ih =>
    intro o h
    have hs := hv s (List.mem_cons_self ..)
    obtain ⟨h1, h2⟩ := ih (fun x hx => hv x (List.mem_cons_of_mem _ hx)) (insR_gap (a := s.1) (b := s.2) h hs)
    refine ⟨h1, fun n => ?_⟩
    rw [List.foldl_cons, h2, insR_has h hs, hasS_cons]
    constructor
    · rintro ((h | h) | h)
      · exact .inr (.inl h)
      · exact .inl h
      · exact .inr (.inr h)
    · rintro (h | h | h)
      · exact .inl (.inr h)
      · exact .inl (.inl h)
      · exact .inr h
/-- Up to where nothing changes. -/
def edge1 (s : Sp) (fr to : Int) : Int :=
  let t1 := if fr < s.1 ∧ s.1 - 1 < to then s.1 - 1 else to
  if fr ≤ s.2 ∧ s.2 < t1 then s.2 else t1
def edges (l : List Sp) (fr to : Int) : Int := l.foldl (fun t s => edge1 s fr t) to
theorem edge1_le {s : Sp} {fr to : Int} (h : fr ≤ to) : fr ≤ edge1 s fr to ∧ edge1 s fr to ≤ to ∧ (fr < s.1 → edge1 s fr to ≤ s.1 - 1) ∧ (fr ≤ s.2 → edge1 s fr to ≤ s.2) := by
  unfold edge1
  dsimp only
  by_cases h1 : fr < s.1 ∧ s.1 - 1 < to
  · rw [if_pos h1]
    by_cases h2 : fr ≤ s.2 ∧ s.2 < s.1 - 1
    · rw [if_pos h2]; omega
    · rw [if_neg h2]; omega
  · rw [if_neg h1]
    by_cases h2 : fr ≤ s.2 ∧ s.2 < to
    · rw [if_pos h2]; omega
    · rw [if_neg h2]; omega
theorem edges_le {l : List Sp} {fr : Int} : ∀ {to : Int}, fr ≤ to → fr ≤ edges l fr to ∧ edges l fr to ≤ to ∧ ∀ s ∈ l, (fr < s.1 → edges l fr to ≤ s.1 - 1) ∧ (fr ≤ s.2 → edges l fr to ≤ s.2) := by
  induction l with
  | nil => intro to h; exact ⟨h, Int.le_refl _, fun s hs => by cases hs⟩
  | cons s r ih =>
    intro to h
    obtain ⟨a1, a2, a3, a4⟩ := edge1_le (s := s) h
    obtain ⟨b1, b2, b3⟩ := ih a1
    refine ⟨b1, ?_, fun x hx => ?_⟩
    · show edges r fr (edge1 s fr to) ≤ to; omega
    · show (_ → edges r fr (edge1 s fr to) ≤ _) ∧ (_ → edges r fr (edge1 s fr to) ≤ _)
      rcases List.mem_cons.1 hx with rfl | hx
      · exact ⟨fun h => by have := a3 h; omega, fun h => by have := a4 h; omega⟩
      · exact b3 x hx
theorem edges_has {l : List Sp} {fr to x n : Int} (hx : x ≤ edges l fr to) (h : fr ≤ to) (hn : fr ≤ n ∧ n ≤ x) : hasS l n ↔ hasS l fr := by
  obtain ⟨h1, h2, h3⟩ := edges_le (l := l) h
  constructor
  · rintro ⟨s, hs, hb⟩
    have := h3 s hs
    exact ⟨s, hs, by omega⟩
  · rintro ⟨s, hs, hb⟩
    have := h3 s hs
    exact ⟨s, hs, by omega⟩
end Go.Port
namespace Go.Port
theorem cross1_app (s : Sp) : ∀ (b c : List Sp), cross1 s (b ++ c) = cross1 s b ++ cross1 s c
  | [], c => rfl
  | t :: b, c => by
    rw [List.cons_append, cross1, cross1, cross1_app s b c]
    split <;> rfl
theorem crossL_app (b : List Sp) : ∀ (a c : List Sp), crossL (a ++ c) b = crossL a b ++ crossL c b
  | [], c => rfl
  | s :: a, c => by rw [List.cons_append, crossL, crossL, crossL_app b a c, List.append_assoc]
theorem cross1_step {s t : Sp} {b : List Sp} {j : Nat} (h : b[j]? = some t) : cross1 s (b.take (j + 1)) = cross1 s (b.take j) ++ (if max s.1 t.1 ≤ min s.2 t.2 then [(max s.1 t.1, min s.2 t.2)] else []) := by
  rw [List.take_add_one, h, cross1_app]
  rfl
theorem crossL_step {s : Sp} {a b : List Sp} {i : Nat} (h : a[i]? = some s) : crossL (a.take (i + 1)) b = crossL (a.take i) b ++ cross1 s b := by
  rw [List.take_add_one, h, crossL_app]
  rw [show crossL (some s).toList b = cross1 s b from by show cross1 s b ++ [] = _; rw [List.append_nil]]
theorem restL_step {s : Sp} {l : List Sp} {i : Nat} {low high : Int} (h : l[i]? = some s) : restL (l.drop i) low high = (if low < s.1 then [(low, s.1 - 1)] else []) ++ restL (l.drop (i + 1)) (s.2 + 1) high := by
  obtain ⟨hi, rfl⟩ := List.getElem?_eq_some_iff.1 h
  rw [List.drop_eq_getElem_cons hi, restL]
/-- Spans that are a set of numbers. -/
def IsSet (out : List Sp) (S : Int → Prop) : Prop := Gap out ∧ ∀ n, hasS out n ↔ S n
theorem IsSet.one {a b : List Sp} {S : Int → Prop} (h1 : IsSet a S) (h2 : IsSet b S) : a = b := gap_one h1.1 h2.1 fun n => (h1.2 n).trans (h2.2 n).symm
theorem IsSet.ok {a : List Sp} {S : Int → Prop} (h : IsSet a S) (hb : ∀ n, S n → 0 ≤ n ∧ n ≤ 65535) : OkS a := .of h.1 fun n hn => hb n ((h.2 n).1 hn)
/-- Spans that do not touch are no more than half of the numbers. -/
theorem gap_len : ∀ {l : List Sp} {a : Int}, Gap l → (∀ s ∈ l, a ≤ s.1 ∧ s.2 ≤ 65535) → a ≤ 65536 → (l.length : Int) ≤ 65536 - a
  | [], a, _, _, ha => by rw [List.length_nil]; omega
  | s :: l, a, h, hb, ha => by
    have h1 := hb s (List.mem_cons_self ..)
    have h2 := h.head
    have h3 := gap_len (a := s.2 + 1) h.tail (fun x hx => ⟨by have := h.above x hx; omega, (hb x (List.mem_cons_of_mem _ hx)).2⟩) (by omega)
    rw [List.length_cons]
    omega
theorem gap_len0 {l : List Sp} (h : Gap l) (hok : OkS l) : l.length ≤ 65536 := by
  have := gap_len (a := 0) h (fun s hs => by have := hok s hs; unfold spBad at this; omega) (by decide)
  omega
end Go.Port
namespace Go.Port
theorem normR_step {l : List Sp} {i : Nat} {s : Sp} (h : l[i]? = some s) : normR (l.take (i + 1)) = insR (normR (l.take i)) s.1 s.2 false := by
  unfold normR
  rw [List.take_add_one, h, List.foldl_append]
  rfl
theorem normR_set {l : List Sp} (hok : OkS l) : IsSet (normR l) (hasS l) := by
  have hv : ∀ s ∈ l, s.1 ≤ s.2 := fun s hs => by have := hok s hs; unfold spBad at this; omega
  obtain ⟨h1, h2⟩ := normR_gap hv (o := []) trivial
  refine ⟨h1, fun n => (h2 n).trans ?_⟩
  rw [hasS_nil, false_or]
theorem normR_len0 : ∀ (l o : List Sp), (l.foldl (fun o s => insR o s.1 s.2 false) o).length ≤ o.length + l.length
  | [], o => Nat.le_refl _
  | s :: l, o => by
    rw [List.foldl_cons, List.length_cons]
    have h1 := normR_len0 l (insR o s.1 s.2 false)
    have h2 := insR_len (l := o) (a := s.1) (b := s.2) (d := false)
    omega
theorem normR_len (l : List Sp) : (normR l).length ≤ l.length := by
  have := normR_len0 l []
  rw [List.length_nil, Nat.zero_add] at this
  exact this
theorem OkS.take {l : List Sp} (h : OkS l) (i : Nat) : OkS (l.take i) := fun s hs => h s (List.mem_of_mem_take hs)
theorem insR_step {o : List Sp} {k : Nat} {s : Sp} (h : o[k]? = some s) (a b : Int) (d : Bool) : insR (o.drop k) a b d = if s.2 + 1 < a then s :: insR (o.drop (k + 1)) a b d else if b + 1 < s.1 then (if d then s :: insR (o.drop (k + 1)) a b true else (a, b) :: s :: insR (o.drop (k + 1)) a b true) else insR (o.drop (k + 1)) (min a s.1) (max b s.2) d := by
  obtain ⟨hk, rfl⟩ := List.getElem?_eq_some_iff.1 h
  rw [List.drop_eq_getElem_cons hk, insR]
theorem edges_step {l : List Sp} {i : Nat} {s : Sp} (h : l[i]? = some s) (fr to : Int) : edges (l.take (i + 1)) fr to = edge1 s fr (edges (l.take i) fr to) := by
  unfold edges
  rw [List.take_add_one, h, List.foldl_append]
  rfl
/-- Which numbers are picked. -/
def pkB (bo le p q : Bool) : Bool := if le then p && !q else if bo then p && q else p || q
open Classical in
noncomputable def pkS (bo le : Bool) (a b : List Sp) (n : Int) : Bool := pkB bo le (decide (hasS a n)) (decide (hasS b n))
end Go.Port
