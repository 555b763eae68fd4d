/- frag: a heap as the list of its pieces (the document's): the plain part. No program here. -/
import Derived.Test.YtlpdapfihgpheaaDoorFragB
set_option linter.unusedSimpArgs false
set_option linter.unusedVariables false
namespace Go.Port
/-- A piece: where, whether there are more, its time, its body. -/
structure Pc where
  (a : Int)
  (m : Bool)
  (t : Int)
  (b : List Int)
def Pc.lo (p : Pc) : Nat := (8 * p.a).toNat
def Pc.hi (p : Pc) : Nat := p.lo + p.b.length
/-- A heap and its pieces. -/
structure HeapR (h : Hp) (l : List Pc) : Prop where
  wf : ∀ p ∈ l, 0 ≤ p.a ∧ 0 < p.b.length ∧ p.hi ≤ 4000
  apart : ∀ p ∈ l, ∀ p' ∈ l, p = p' ∨ p.hi ≤ p'.lo ∨ p'.hi ≤ p.lo
  bl : h.body.length = 4000
  hl : h.has.length = 4000
  has : ∀ i, h.has[i]? = some true ↔ ∃ p ∈ l, p.lo ≤ i ∧ i < p.hi
  body : ∀ p ∈ l, ∀ i, p.lo ≤ i → i < p.hi → h.body[i]? = p.b[i - p.lo]?
  fin1 : ∀ p ∈ l, p.m = false → h.fin = p.hi
  fin2 : h.fin = -1 ∨ ∃ p ∈ l, p.m = false
  height1 : ∀ p ∈ l, (p.hi : Int) ≤ h.height
  height2 : h.height = 0 ∨ ∃ p ∈ l, h.height = p.hi
  finh : 0 ≤ h.fin → h.height ≤ h.fin
  ttl1 : ∀ p ∈ l, h.ttl ≤ p.t
  ttl2 : l = [] ∨ ∃ p ∈ l, h.ttl = p.t
theorem HeapR.new {u t : Int} : HeapR (newH u t) [] where
  wf := fun p hp => by cases hp
  apart := fun p hp => by cases hp
  bl := List.length_replicate
  hl := List.length_replicate
  has := fun i => by
    constructor
    · intro h
      have h2 : (List.replicate 4000 false)[i]? = some true := h
      rw [List.getElem?_replicate] at h2
      split at h2 <;> cases h2
    · rintro ⟨p, hp, _⟩
      cases hp
  body := fun p hp => by cases hp
  fin1 := fun p hp => by cases hp
  fin2 := .inl rfl
  height1 := fun p hp => by cases hp
  height2 := .inl rfl
  finh := fun h => absurd h (by show ¬ (0 : Int) ≤ -1; decide)
  ttl1 := fun p hp => by cases hp
  ttl2 := .inl rfl
/-- Whether a piece is wrong, by those that are there. -/
def badP (a : Int) (m : Bool) (n : Nat) (p : Pc) : Bool :=
  (decide (8 * a < p.hi) && decide ((p.lo : Int) < 8 * a + n)) || (!p.m && (!m || decide ((p.hi : Int) < 8 * a + n))) || (!m && decide (8 * a + n < p.hi))
def wrongL (l : List Pc) (a : Int) (m : Bool) (n : Nat) : Bool :=
  decide (n = 0) || (m && decide (¬ (n : Int) % 8 = 0)) || decide (4000 < 8 * a + n) || l.any (badP a m n)
theorem wrong_eq {h : Hp} {l : List Pc} {a : Int} {m : Bool} {n : Nat} (hr : HeapR h l) (ha : 0 ≤ a) : wrongL l a m n = wrongH h a m n := by
  unfold wrongL wrongH
  by_cases h0 : n = 0
  · rw [decide_eq_true h0]; simp
  by_cases h4 : 4000 < 8 * a + (n : Int)
  · rw [decide_eq_true h4]; simp
  rw [decide_eq_false h0, decide_eq_false h4]
  have key : l.any (badP a m n) = ((decide (0 ≤ h.fin) && (!m || decide (h.fin < 8 * a + n))) || (!m && decide (8 * a + n < h.height)) || decide (true ∈ (h.has.drop (8 * a).toNat).take n)) := by
    rw [Bool.eq_iff_iff]
    simp only [List.any_eq_true, Bool.or_eq_true, Bool.and_eq_true, decide_eq_true_eq, Bool.not_eq_true', badP]
    constructor
    · rintro ⟨p, hp, (⟨h1, h2⟩ | ⟨h1, h2⟩) | ⟨h1, h2⟩⟩
      · refine .inr ?_
        obtain ⟨hw1, hw2, hw3⟩ := hr.wf p hp
        have hlo : p.lo = (8 * p.a).toNat := rfl
        have hhi : p.hi = p.lo + p.b.length := rfl
        refine List.mem_of_getElem? (i := max (8 * a).toNat p.lo - (8 * a).toNat) ?_
        rw [List.getElem?_take, if_pos (by omega), List.getElem?_drop]
        exact (hr.has _).2 ⟨p, hp, by omega, by omega⟩
      · have := hr.fin1 p hp h1
        exact .inl (.inl ⟨by omega, h2.imp id (fun h3 => by omega)⟩)
      · have := hr.height1 p hp
        exact .inl (.inr ⟨h1, by omega⟩)
    · rintro ((⟨h1, h2⟩ | ⟨h1, h2⟩) | h1)
      · rcases hr.fin2 with h3 | ⟨p, hp, h3⟩
        · omega
        · have := hr.fin1 p hp h3
          exact ⟨p, hp, .inl (.inr ⟨h3, h2.imp id (fun h4 => by omega)⟩)⟩
      · rcases hr.height2 with h3 | ⟨p, hp, h3⟩
        · omega
        · exact ⟨p, hp, .inr ⟨h1, by omega⟩⟩
      · obtain ⟨y, hy⟩ := List.getElem?_of_mem h1
        rw [List.getElem?_take] at hy
        split at hy
        · rw [List.getElem?_drop] at hy
          obtain ⟨p, hp, h2, h3⟩ := (hr.has _).1 hy
          exact ⟨p, hp, .inl (.inl ⟨by omega, by omega⟩)⟩
        · cases hy
  rw [key]
  simp only [Bool.false_or, Bool.or_false, Bool.or_assoc]
theorem HeapR.put {h : Hp} {l : List Pc} {a : Int} {m : Bool} {t : Int} {b : List Int} (hr : HeapR h l) (hw : wrongH h a m b.length = false) (ha : 0 ≤ a) (ht : l = [] → h.ttl = t) : HeapR (putH h a m t b) (l ++ [⟨a, m, t, b⟩]) := by
  have hw2 := wrong_eq (m := m) (n := b.length) hr ha
  rw [hw] at hw2
  unfold wrongL at hw2
  simp only [Bool.or_eq_false_iff, decide_eq_false_iff_not] at hw2
  obtain ⟨⟨⟨h0, _⟩, h4⟩, hno⟩ := hw2
  have hno' : ∀ p ∈ l, ¬ (8 * a < (p.hi : Int) ∧ (p.lo : Int) < 8 * a + b.length) ∧ ¬ (p.m = false ∧ (m = false ∨ (p.hi : Int) < 8 * a + b.length)) ∧ ¬ (m = false ∧ 8 * a + b.length < (p.hi : Int)) := fun p hp => by
    have h1 : ¬ badP a m b.length p = true := fun h2 => by
      rw [List.any_eq_true.2 ⟨p, hp, h2⟩] at hno
      cases hno
    unfold badP at h1
    simp only [Bool.or_eq_true, Bool.and_eq_true, decide_eq_true_eq, Bool.not_eq_true'] at h1
    exact ⟨fun h2 => h1 (.inl (.inl h2)), fun h2 => h1 (.inl (.inr h2)), fun h2 => h1 (.inr h2)⟩
  obtain ⟨P, hP⟩ : ∃ P : Pc, P = ⟨a, m, t, b⟩ := ⟨_, rfl⟩
  have hPlo : P.lo = (8 * a).toNat := by rw [hP]; rfl
  have hPhi : P.hi = P.lo + b.length := by rw [hP]; rfl
  have hPm : P.m = m := by rw [hP]
  have hPt : P.t = t := by rw [hP]
  have hPb : P.b = b := by rw [hP]
  rw [← hP]
  have hbl := hr.bl
  have hhl := hr.hl
  have hle1 : P.lo + (List.replicate b.length true).length ≤ h.has.length := by rw [List.length_replicate]; omega
  have hle2 : P.lo + b.length ≤ h.body.length := by omega
  have e1 : (putH h a m t b).has = putAt h.has P.lo (List.replicate b.length true) := by rw [hPlo]; rfl
  have e2 : (putH h a m t b).body = putAt h.body P.lo b := by rw [hPlo]; rfl
  have e3 : (putH h a m t b).fin = if m = true then h.fin else 8 * a + b.length := rfl
  have e4 : (putH h a m t b).height = max h.height (8 * a + b.length) := rfl
  have e5 : (putH h a m t b).ttl = min h.ttl t := rfl
  have hmem : ∀ p, p ∈ l ++ [P] ↔ p ∈ l ∨ p = P := fun p => by simp
  have hapP : ∀ p ∈ l, p.hi ≤ P.lo ∨ P.hi ≤ p.lo := fun p hp => by
    have := (hno' p hp).1
    omega
  constructor
  · intro p hp
    rcases (hmem p).1 hp with hp | rfl
    · exact hr.wf p hp
    · exact ⟨by rw [hP]; exact ha, by rw [hPb]; omega, by omega⟩
  · intro p hp p' hp'
    rcases (hmem p).1 hp with q1 | q1
    · rcases (hmem p').1 hp' with q2 | q2
      · exact hr.apart p q1 p' q2
      · exact .inr (q2 ▸ hapP p q1)
    · rcases (hmem p').1 hp' with q2 | q2
      · exact .inr (q1 ▸ (hapP p' q2).symm)
      · exact .inl (q1.trans q2.symm)
  · rw [e2, putAt_len hle2]; exact hbl
  · rw [e1, putAt_len hle1]; exact hhl
  · intro i
    rw [e1, putAt_get hle1, List.length_replicate]
    constructor
    · intro h1
      split at h1
      · obtain ⟨p, hp, h2⟩ := (hr.has i).1 h1
        exact ⟨p, (hmem p).2 (.inl hp), h2⟩
      · split at h1
        · exact ⟨P, (hmem P).2 (.inr rfl), by omega, by omega⟩
        · obtain ⟨p, hp, h2⟩ := (hr.has i).1 h1
          exact ⟨p, (hmem p).2 (.inl hp), h2⟩
    · rintro ⟨p, hp, h2, h3⟩
      rcases (hmem p).1 hp with hp | rfl
      · have h4 := (hr.has i).2 ⟨p, hp, h2, h3⟩
        have h5 := hapP p hp
        split
        · exact h4
        · rw [if_neg (by omega)]; exact h4
      · rw [if_neg (by omega), if_pos (by omega), List.getElem?_replicate, if_pos (by omega)]
  · intro p hp i h2 h3
    rw [e2, putAt_get hle2]
    rcases (hmem p).1 hp with hp | rfl
    · have h4 := hr.body p hp i h2 h3
      have h5 := hapP p hp
      split
      · exact h4
      · rw [if_neg (by omega)]; exact h4
    · rw [if_neg (by omega), if_pos (by omega), hPb]
  · intro p hp hm
    rw [e3]
    rcases (hmem p).1 hp with hp | rfl
    · have h1 := (hno' p hp).2.1
      cases m with
      | true => rw [if_pos rfl]; exact hr.fin1 p hp hm
      | false => exact absurd ⟨hm, .inl rfl⟩ h1
    · rw [hPm] at hm
      subst hm
      rw [if_neg (by decide)]
      omega
  · rw [e3]
    cases m with
    | true =>
      rw [if_pos rfl]
      rcases hr.fin2 with h1 | ⟨p, hp, h1⟩
      · exact .inl h1
      · exact .inr ⟨p, (hmem p).2 (.inl hp), h1⟩
    | false => exact .inr ⟨P, (hmem P).2 (.inr rfl), hPm⟩
  · intro p hp
    rw [e4]
    rcases (hmem p).1 hp with hp | rfl
    · have := hr.height1 p hp
      omega
    · omega
  · rw [e4]
    rcases hr.height2 with h1 | ⟨p, hp, h1⟩
    · exact .inr ⟨P, (hmem P).2 (.inr rfl), by omega⟩
    · by_cases h2 : h.height ≤ 8 * a + b.length
      · exact .inr ⟨P, (hmem P).2 (.inr rfl), by omega⟩
      · exact .inr ⟨p, (hmem p).2 (.inl hp), by omega⟩
  · intro hf
    rw [e3] at hf ⊢
    rw [e4]
    cases m with
    | true =>
      rw [if_pos rfl] at hf ⊢
      have h1 := hr.finh hf
      rcases hr.fin2 with h2 | ⟨p, hp, h2⟩
      · omega
      · have h3 := hr.fin1 p hp h2
        have h4 := (hno' p hp).2.1
        have : ¬ (p.hi : Int) < 8 * a + b.length := fun h5 => h4 ⟨h2, .inr h5⟩
        omega
    | false =>
      rw [if_neg (by decide)]
      rcases hr.height2 with h2 | ⟨p, hp, h2⟩
      · omega
      · have h4 := (hno' p hp).2.2
        have : ¬ 8 * a + (b.length : Int) < (p.hi : Int) := fun h5 => h4 ⟨rfl, h5⟩
        omega
  · intro p hp
    rw [e5]
    rcases (hmem p).1 hp with hp | rfl
    · have := hr.ttl1 p hp
      omega
    · omega
  · refine .inr ?_
    rw [e5]
    rcases hr.ttl2 with h1 | ⟨p, hp, h1⟩
    · have := ht h1
      exact ⟨P, (hmem P).2 (.inr rfl), by omega⟩
    · by_cases h2 : h.ttl ≤ t
      · exact ⟨p, (hmem p).2 (.inl hp), by omega⟩
      · exact ⟨P, (hmem P).2 (.inr rfl), by omega⟩
/-- Pieces one behind the other: as far as c; whether the last one came. -/
structure Chain (h : Hp) (l : List Pc) (c : Nat) (done : Bool) : Prop where
  cov : ∀ i, i < c → h.has[i]? = some true
  str : ∀ p ∈ l, p.hi ≤ c ∨ c ≤ p.lo
  d0 : done = false → ∀ p ∈ l, p.m = false → c ≤ p.lo
  d1 : done = true → h.fin = c
  le : c ≤ 4000
theorem Chain.zero {h : Hp} {l : List Pc} : Chain h l 0 false := ⟨fun i hi => by omega, fun p _ => .inr (Nat.zero_le _), fun _ p _ _ => Nat.zero_le _, (fun h => by cases h), by omega⟩
theorem Chain.step {h : Hp} {l : List Pc} {c : Nat} {p : Pc} (hr : HeapR h l) (hc : Chain h l c false) (hp : p ∈ l) (hlo : p.lo = c) : Chain h l p.hi (!p.m) ∧ h.body.take p.hi = h.body.take c ++ p.b ∧ c < p.hi := by
  obtain ⟨hw1, hw2, hw3⟩ := hr.wf p hp
  have hhi : p.hi = p.lo + p.b.length := rfl
  have hbl := hr.bl
  refine ⟨⟨fun i hi => ?_, fun p' hp' => ?_, fun hd p' hp' hm => ?_, fun hd => ?_, hw3⟩, ?_, by omega⟩
  · by_cases h1 : i < c
    · exact hc.cov i h1
    · exact (hr.has i).2 ⟨p, hp, by omega, hi⟩
  · rcases hr.apart p hp p' hp' with rfl | h1 | h1
    · exact .inl (Nat.le_refl _)
    · exact .inr h1
    · left
      omega
  · have h1 := hc.d0 rfl p' hp' hm
    rcases hr.apart p hp p' hp' with rfl | h2 | h2
    · rw [hm] at hd; cases hd
    · exact h2
    · have := (hr.wf p' hp').2.1
      have h3 : p'.hi = p'.lo + p'.b.length := rfl
      omega
  · have hm : p.m = false := by simpa using hd
    exact hr.fin1 p hp hm
  · refine List.ext_getElem? fun i => ?_
    rw [List.getElem?_take]
    have hcl : (h.body.take c).length = c := by rw [List.length_take]; omega
    by_cases h1 : i < c
    · rw [if_pos (by omega), List.getElem?_append_left (by omega), List.getElem?_take, if_pos h1]
    · rw [List.getElem?_append_right (by omega), hcl]
      by_cases h2 : i < p.hi
      · rw [if_pos h2, hr.body p hp i (by omega) h2, hlo]
      · rw [if_neg h2, List.getElem?_eq_none (by omega)]
theorem Chain.stuck {h : Hp} {l : List Pc} {c : Nat} (hr : HeapR h l) (hc : Chain h l c false) (hn : ∀ p ∈ l, p.lo ≠ c) : wholeH h = false := by
  unfold wholeH
  by_cases hf : h.fin < 0
  · rw [decide_eq_true hf]; rfl
  rcases hr.fin2 with h1 | ⟨p, hp, h1⟩
  · omega
  have h2 := hr.fin1 p hp h1
  have h3 := hc.d0 rfl p hp h1
  have h4 := (hr.wf p hp).2
  have h5 : p.hi = p.lo + p.b.length := rfl
  have hhl := hr.hl
  have hm : false ∈ h.has.take h.fin.toNat := by
    refine List.mem_of_getElem? (i := c) ?_
    rw [List.getElem?_take, if_pos (by omega)]
    rw [List.getElem?_eq_getElem (by omega)]
    cases hv : h.has[c]'(by omega) with
    | false => rfl
    | true =>
      obtain ⟨p', hp', h6, h7⟩ := (hr.has c).1 (by rw [List.getElem?_eq_getElem (by omega), hv])
      have h8 := hn p' hp'
      rcases hc.str p' hp' with h9 | h9 <;> omega
  rw [decide_eq_true hm]
  simp
theorem Chain.whole {h : Hp} {l : List Pc} {c : Nat} (hc : Chain h l c true) : wholeH h = true ∧ h.fin = c := by
  have h1 := hc.d1 rfl
  refine ⟨?_, h1⟩
  unfold wholeH
  have hm : false ∉ h.has.take h.fin.toNat := fun h2 => by
    obtain ⟨i, h3⟩ := List.getElem?_of_mem h2
    rw [List.getElem?_take] at h3
    split at h3
    · rw [hc.cov i (by omega)] at h3
      cases h3
    · cases h3
  rw [decide_eq_false hm, decide_eq_false (by omega)]
  rfl
end Go.Port
