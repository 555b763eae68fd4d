/- Spans: the fewest of some that rise; the plain law. No program here. -/
namespace Go.Port
/-- A span: its lowest number, its highest. -/
abbrev Sp := Int × Int
def Sp.has (n : Int) (s : Sp) : Prop := s.1 ≤ n ∧ n ≤ s.2
def hasS (l : List Sp) (n : Int) : Prop := ∃ s ∈ l, s.1 ≤ n ∧ n ≤ s.2
/-- Spans that rise, and do not touch. -/
def Gap : List Sp → Prop
  | [] => True
  | [s] => s.1 ≤ s.2
  | s :: t :: r => s.1 ≤ s.2 ∧ s.2 + 1 < t.1 ∧ Gap (t :: r)
/-- They rise by their lowest numbers. -/
def Rise : List Sp → Prop
  | [] => True
  | [_] => True
  | s :: t :: r => s.1 ≤ t.1 ∧ Rise (t :: r)
/-- One more span, at the end. -/
def stpS (a b : Int) : List Sp → List Sp
  | [] => [(a, b)]
  | s :: r => if s.1 ≤ b + 1 then stpS a (max b s.2) r else (a, b) :: stpS s.1 s.2 r
/-- The fewest spans of some that rise. -/
def tidyL : List Sp → List Sp
  | [] => []
  | s :: r => stpS s.1 s.2 r
theorem Gap.tail {s : Sp} {l : List Sp} (h : Gap (s :: l)) : Gap l := by
  cases l with
  | nil => trivial
  | cons t r => exact h.2.2
theorem Gap.head {s : Sp} {l : List Sp} (h : Gap (s :: l)) : s.1 ≤ s.2 := by
  cases l with
  | nil => exact h
  | cons t r => exact h.1
theorem Gap.cons {s : Sp} {l : List Sp} (h1 : s.1 ≤ s.2) (h2 : ∀ t ∈ l.head?, s.2 + 1 < t.1) (h : Gap l) : Gap (s :: l) := by
  cases l with
  | nil => exact h1
  | cons t r => exact ⟨h1, h2 t rfl, h⟩
theorem Gap.above {s : Sp} {l : List Sp} (h : Gap (s :: l)) : ∀ t ∈ l, s.2 + 1 < t.1 := by
  induction l generalizing s with
  | nil => intro t ht; cases ht
  | cons u r ih =>
    intro t ht
    rcases List.mem_cons.1 ht with rfl | ht
    · exact h.2.1
    · have h1 := ih h.tail t ht
      have h2 := h.tail.head
      have h3 := h.2.1
      omega
theorem stpS_head (a b : Int) (l : List Sp) : ∃ b' r, stpS a b l = (a, b') :: r ∧ b ≤ b' := by
  induction l generalizing a b with
  | nil => exact ⟨b, [], rfl, Int.le_refl _⟩
  | cons s r ih =>
    unfold stpS
    split
    · obtain ⟨b', r', h, hb⟩ := ih a (max b s.2)
      exact ⟨b', r', h, by omega⟩
    · exact ⟨b, _, rfl, Int.le_refl _⟩
theorem Rise.tail {s : Sp} {l : List Sp} (h : Rise (s :: l)) : Rise l := by
  cases l with
  | nil => trivial
  | cons t r => exact h.2
theorem Rise.skip {s t : Sp} {l : List Sp} (h : Rise (s :: t :: l)) : Rise (s :: l) := by
  cases l with
  | nil => trivial
  | cons u r => exact ⟨Int.le_trans h.1 h.2.1, h.2.2⟩
theorem Rise.low {s : Sp} {l : List Sp} (h : Rise (s :: l)) : ∀ t ∈ l, s.1 ≤ t.1 := by
  induction l generalizing s with
  | nil => intro t ht; cases ht
  | cons u r ih =>
    intro t ht
    rcases List.mem_cons.1 ht with rfl | ht
    · exact h.1
    · exact Int.le_trans h.1 (ih h.tail t ht)
theorem stpS_gap (a b : Int) (l : List Sp) (hab : a ≤ b) (hv : ∀ s ∈ l, s.1 ≤ s.2) (hr : Rise l) : Gap (stpS a b l) := by
  induction l generalizing a b with
  | nil => exact hab
  | cons s r ih =>
    unfold stpS
    split
    · exact ih a (max b s.2) (by omega) (fun t ht => hv t (List.mem_cons_of_mem _ ht)) hr.tail
    · rename_i h
      refine Gap.cons hab ?_ (ih s.1 s.2 (hv s (List.mem_cons_self ..)) (fun t ht => hv t (List.mem_cons_of_mem _ ht)) hr.tail)
      intro t ht
      obtain ⟨b', r', he, _⟩ := stpS_head s.1 s.2 r
      rw [he] at ht
      simp only [List.head?_cons, Option.mem_def, Option.some.injEq] at ht
      subst ht
      show b + 1 < s.1
      omega
theorem tidy_gap {l : List Sp} (hv : ∀ s ∈ l, s.1 ≤ s.2) (hr : Rise l) : Gap (tidyL l) := by
  cases l with
  | nil => trivial
  | cons s r => exact stpS_gap _ _ _ (hv s (List.mem_cons_self ..)) (fun t ht => hv t (List.mem_cons_of_mem _ ht)) hr.tail
theorem hasS_cons {s : Sp} {l : List Sp} {n : Int} : hasS (s :: l) n ↔ (s.1 ≤ n ∧ n ≤ s.2) ∨ hasS l n := by
  unfold hasS
  constructor
  · rintro ⟨t, ht, h⟩
    rcases List.mem_cons.1 ht with rfl | ht
    · exact .inl h
    · exact .inr ⟨t, ht, h⟩
  · rintro (h | ⟨t, ht, h⟩)
    · exact ⟨s, List.mem_cons_self .., h⟩
    · exact ⟨t, List.mem_cons_of_mem _ ht, h⟩
theorem stpS_has (a b : Int) (l : List Sp) (hab : a ≤ b) (hv : ∀ s ∈ l, s.1 ≤ s.2) (hr : Rise ((a, b) :: l)) (n : Int) : hasS (stpS a b l) n ↔ (a ≤ n ∧ n ≤ b) ∨ hasS l n := by
  induction l generalizing a b with
  | nil => rw [stpS, hasS_cons]
  | cons s r ih =>
    have hs := hv s (List.mem_cons_self ..)
    have hle : a ≤ s.1 := hr.1
    unfold stpS
    split
    · rename_i h
      rw [ih a (max b s.2) (by omega) (fun t ht => hv t (List.mem_cons_of_mem _ ht)) (by
        have h1 := hr.skip
        cases r with
        | nil => trivial
        | cons u r' => exact ⟨h1.1, h1.2⟩), hasS_cons]
      constructor
      · rintro (h1 | h1)
        · by_cases hb : n ≤ b
          · exact .inl ⟨h1.1, hb⟩
          · exact .inr (.inl (by omega))
        · exact .inr (.inr h1)
      · rintro (h1 | h1 | h1)
        · exact .inl (by omega)
        · exact .inl (by omega)
        · exact .inr h1
    · rw [hasS_cons, ih s.1 s.2 hs (fun t ht => hv t (List.mem_cons_of_mem _ ht)) hr.tail, hasS_cons]
theorem tidy_has {l : List Sp} (hv : ∀ s ∈ l, s.1 ≤ s.2) (hr : Rise l) (n : Int) : hasS (tidyL l) n ↔ hasS l n := by
  cases l with
  | nil => exact Iff.rfl
  | cons s r => rw [tidyL, stpS_has _ _ _ (hv s (List.mem_cons_self ..)) (fun t ht => hv t (List.mem_cons_of_mem _ ht)) hr, hasS_cons]
theorem stpS_len (a b : Int) (l : List Sp) : (stpS a b l).length ≤ l.length + 1 := by
  induction l generalizing a b with
  | nil => exact Nat.le_refl _
  | cons s r ih =>
    unfold stpS
    split
    · exact Nat.le_succ_of_le (ih ..)
    · exact Nat.succ_le_succ (ih ..)
theorem tidy_len (l : List Sp) : (tidyL l).length ≤ l.length := by
  cases l with
  | nil => exact Nat.le_refl _
  | cons s r => exact stpS_len ..
theorem stpS_same (a b : Int) (l : List Sp) (h : Gap ((a, b) :: l)) : stpS a b l = (a, b) :: l := by
  induction l generalizing a b with
  | nil => rfl
  | cons s r ih =>
    have h1 : b + 1 < s.1 := h.2.1
    unfold stpS
    rw [if_neg (by omega), ih s.1 s.2 h.tail]
theorem tidy_same {l : List Sp} (h : Gap l) : tidyL l = l := by
  cases l with
  | nil => rfl
  | cons s r => exact stpS_same _ _ _ h
/-- Spans that do not touch are told by their numbers. -/
theorem gap_one : ∀ {l m : List Sp}, Gap l → Gap m → (∀ n, hasS l n ↔ hasS m n) → l = m
  | [], [], _, _, _ => rfl
  | [], t :: m, _, hm, h => by
    have := (h t.1).2 (hasS_cons.2 (.inl ⟨Int.le_refl _, hm.head⟩))
    obtain ⟨_, hx, _⟩ := this
    cases hx
  | s :: l, [], hl, _, h => by
    have := (h s.1).1 (hasS_cons.2 (.inl ⟨Int.le_refl _, hl.head⟩))
    obtain ⟨_, hx, _⟩ := this
    cases hx
  | s :: l, t :: m, hl, hm, h => by
    have hAs := hl.above
    have at_ := hm.above
    have h1 := hl.head
    have h2 := hm.head
    have low : ∀ {u : Sp} {k : List Sp}, Gap (u :: k) → ∀ n, hasS (u :: k) n → u.1 ≤ n := fun {u k} hg n hn => by
      rcases hasS_cons.1 hn with hn | ⟨x, hx, hn⟩
      · exact hn.1
      · have := hg.above x hx; have := hg.head; omega
    have e1 : s.1 = t.1 := by
      have a1 := low hm s.1 ((h s.1).1 (hasS_cons.2 (.inl ⟨Int.le_refl _, h1⟩)))
      have a2 := low hl t.1 ((h t.1).2 (hasS_cons.2 (.inl ⟨Int.le_refl _, h2⟩)))
      omega
    have gap : ∀ {u : Sp} {k : List Sp}, Gap (u :: k) → ¬ hasS (u :: k) (u.2 + 1) := fun {u k} hg hn => by
      rcases hasS_cons.1 hn with hn | ⟨x, hx, hn⟩
      · omega
      · have := hg.above x hx; omega
    have e2 : s.2 = t.2 := by
      by_cases hlt : s.2 < t.2
      · exact absurd ((h (s.2 + 1)).2 (hasS_cons.2 (.inl ⟨by omega, by omega⟩))) (gap hl)
      · by_cases hgt : t.2 < s.2
        · exact absurd ((h (t.2 + 1)).1 (hasS_cons.2 (.inl ⟨by omega, by omega⟩))) (gap hm)
        · omega
    have e : s = t := Prod.ext e1 e2
    subst e
    congr 1
    refine gap_one hl.tail hm.tail fun n => ?_
    have hn := h n
    rw [hasS_cons, hasS_cons] at hn
    constructor
    · intro hx
      rcases hn.1 (.inr hx) with hy | hy
      · obtain ⟨x, hx, hx2⟩ := hx
        have := hAs x hx
        omega
      · exact hy
    · intro hx
      rcases hn.2 (.inr hx) with hy | hy
      · obtain ⟨x, hx, hx2⟩ := hx
        have := at_ x hx
        omega
      · exact hy
/-- A list that rises, of the elements of one that does not touch, is that one. -/
theorem rise_gap : ∀ {l m : List Sp}, Gap l → Rise m → m.Perm l → m = l := by
  intro l m hl hm hp
  have hv : ∀ s ∈ m, s.1 ≤ s.2 := fun s hs => by
    have hs' := hp.mem_iff.1 hs
    clear hp hs
    induction l with
    | nil => cases hs'
    | cons t r ih =>
      rcases List.mem_cons.1 hs' with rfl | hs'
      · exact hl.head
      · exact ih hl.tail hs'
  induction l generalizing m with
  | nil => exact hp.eq_nil
  | cons s l ih =>
    cases m with
    | nil => exact (hp.symm.eq_nil).symm
    | cons t m =>
      have e : t = s := by
        rcases List.mem_cons.1 (hp.mem_iff.1 (List.mem_cons_self ..)) with rfl | ht
        · rfl
        · exfalso
          have h1 := hl.above t ht
          rcases List.mem_cons.1 (hp.symm.mem_iff.1 (List.mem_cons_self (a := s) (l := l))) with rfl | hs
          · have := hl.head; omega
          · have h2 := hm.low s hs
            have := hl.head
            omega
      subst e
      have hp' := (List.perm_cons t).1 hp
      rw [ih hl.tail hm.tail hp' (fun x hx => hv x (List.mem_cons_of_mem _ hx))]
/-- A span that may not be. -/
def spBad (s : Sp) : Prop := s.1 < 0 ∨ 65535 < s.1 ∨ s.2 < 0 ∨ 65535 < s.2 ∨ s.2 < s.1
instance {s : Sp} : Decidable (spBad s) := by unfold spBad; infer_instance
/-- What is wrong with spans. -/
def spE (l : List Sp) : Int := if 200 < l.length then 4 else if l.any (fun s => decide (spBad s)) = true then 1 else 0
theorem spE_0 {l : List Sp} : spE l = 0 ↔ l.length ≤ 200 ∧ ∀ s ∈ l, ¬ spBad s := by
  unfold spE
  by_cases h1 : 200 < l.length
  · rw [if_pos h1]; constructor
    · intro h; cases h
    · rintro ⟨h, _⟩; omega
  · rw [if_neg h1]
    by_cases h2 : l.any (fun s => decide (spBad s)) = true
    · rw [if_pos h2]; constructor
      · intro h; cases h
      · rintro ⟨_, h⟩
        obtain ⟨s, hs, hb⟩ := List.any_eq_true.1 h2
        exact absurd (of_decide_eq_true hb) (h s hs)
    · rw [if_neg h2]
      refine ⟨fun _ => ⟨by omega, fun s hs hb => h2 (List.any_eq_true.2 ⟨s, hs, decide_eq_true hb⟩)⟩, fun _ => rfl⟩
/-- The fewest spans of some. -/
def TidyOf (l out : List Sp) : Prop := Gap out ∧ (∀ n, hasS out n ↔ hasS l n) ∧ out.length ≤ l.length
theorem TidyOf.one {l a b : List Sp} (ha : TidyOf l a) (hb : TidyOf l b) : a = b := gap_one ha.1 hb.1 fun n => (ha.2.1 n).trans (hb.2.1 n).symm
theorem TidyOf.again {l a b : List Sp} (ha : TidyOf l a) (hb : TidyOf a b) : b = a := gap_one hb.1 ha.1 hb.2.1
theorem Gap.all : ∀ {l : List Sp}, Gap l → ∀ s ∈ l, s.1 ≤ s.2
  | [], _, s, hs => by cases hs
  | t :: r, h, s, hs => by
    rcases List.mem_cons.1 hs with rfl | hs
    · exact h.head
    · exact h.tail.all s hs
theorem TidyOf.ok {l a : List Sp} (h : TidyOf l a) (hl : spE l = 0) : spE a = 0 := by
  obtain ⟨h1, h2⟩ := spE_0.1 hl
  have inb : ∀ n, hasS a n → 0 ≤ n ∧ n ≤ 65535 := fun n hn => by
    obtain ⟨s, hs, hb⟩ := (h.2.1 n).1 hn
    have := h2 s hs
    unfold spBad at this
    omega
  refine spE_0.2 ⟨by have := h.2.2; omega, fun s hs hb => ?_⟩
  have hle := h.1.all s hs
  have a1 := inb s.1 ⟨s, hs, Int.le_refl _, hle⟩
  have a2 := inb s.2 ⟨s, hs, hle, Int.le_refl _⟩
  unfold spBad at hb
  omega
theorem tidy_of {l d : List Sp} (hv : ∀ s ∈ l, s.1 ≤ s.2) (hp : d.Perm l) (hr : Rise d) : TidyOf l (tidyL d) := by
  have hvd : ∀ s ∈ d, s.1 ≤ s.2 := fun s hs => hv s (hp.mem_iff.1 hs)
  refine ⟨tidy_gap hvd hr, fun n => ?_, by rw [← hp.length_eq]; exact tidy_len d⟩
  rw [tidy_has hvd hr]
  unfold hasS
  constructor
  · rintro ⟨s, hs, h⟩; exact ⟨s, hp.mem_iff.1 hs, h⟩
  · rintro ⟨s, hs, h⟩; exact ⟨s, hp.mem_iff.2 hs, h⟩
/-- How many numbers there are in spans. -/
def manyS : List Sp → Int
  | [] => 0
  | s :: r => s.2 - s.1 + 1 + manyS r
theorem manyS_app : ∀ (l m : List Sp), manyS (l ++ m) = manyS l + manyS m
  | [], m => by simp [manyS]
  | s :: l, m => by rw [List.cons_append, manyS, manyS, manyS_app l m]; omega
end Go.Port
