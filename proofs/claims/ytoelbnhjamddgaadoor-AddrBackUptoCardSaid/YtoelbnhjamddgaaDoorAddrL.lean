/- Prefixes: the fewest from one address to another one, and of some that cover: the plain law. No program here. -/
import Derived.Test.YtoelbnhjamddgaaDoorSpanL
set_option linter.unusedSimpArgs false
set_option linter.unusedVariables false
namespace Go.Port
/-- How many addresses a prefix of a length has (as AddrA's szP; told here by its laws). -/
def twoP (n : Int) : Int := 2 ^ (32 - n).toNat
theorem twoP_pos (n : Int) : 1 ≤ twoP n := by
  unfold twoP
  have : (0 : Int) < 2 ^ (32 - n).toNat := Int.pow_pos (by decide)
  omega
theorem twoP_half {n : Int} (h : n < 32) : twoP n = 2 * twoP (n + 1) := by
  unfold twoP
  rw [show (32 - n).toNat = (32 - (n + 1)).toNat + 1 by omega, Int.pow_succ, Int.mul_comm]
theorem twoP_32 : twoP 32 = 1 := by decide
/-- A prefix of a length may stand at low. -/
def fitsN (low high n : Int) : Prop := low % twoP n = 0 ∧ low + twoP n - 1 ≤ high
instance {low high n : Int} : Decidable (fitsN low high n) := by unfold fitsN; infer_instance
theorem fitsN_up {low high n : Int} (h : fitsN low high n) (hn : n < 32) : fitsN low high (n + 1) := by
  unfold fitsN at *
  rw [twoP_half hn] at h
  have hp := twoP_pos (n + 1)
  refine ⟨?_, by omega⟩
  have : twoP (n + 1) ∣ low := Int.dvd_trans ⟨2, Int.mul_comm _ _⟩ (Int.dvd_of_emod_eq_zero h.1)
  exact Int.emod_eq_zero_of_dvd this
theorem fitsN_32 {low high : Int} (h : low ≤ high) : fitsN low high 32 := by
  unfold fitsN
  rw [twoP_32]
  omega
theorem fitsN_ups {low high : Int} : ∀ (k : Nat) {n : Int}, fitsN low high n → n + k ≤ 32 → fitsN low high (n + k)
  | 0, n, h, _ => by simpa using h
  | k + 1, n, h, hk => by
    have h1 := fitsN_ups k h (by omega)
    have := fitsN_up h1 (by omega)
    rw [show n + ((k + 1 : Nat) : Int) = n + (k : Int) + 1 by omega]
    exact this
/-- The greatest that may stand there. -/
def IsBest (low high n : Int) : Prop := (0 ≤ n ∧ n ≤ 32) ∧ fitsN low high n ∧ ∀ m, 0 ≤ m → m < n → ¬ fitsN low high m
theorem IsBest.of_down {low high n : Int} (hn : 0 ≤ n ∧ n ≤ 32) (h : fitsN low high n) (hs : n = 0 ∨ ¬ fitsN low high (n - 1)) : IsBest low high n := by
  refine ⟨hn, h, fun m hm hmn hf => ?_⟩
  rcases hs with h0 | hs
  · omega
  · apply hs
    have := fitsN_ups (n - 1 - m).toNat hf (by omega)
    rwa [show m + ((n - 1 - m).toNat : Int) = n - 1 by omega] at this
theorem IsBest.one {low high n m : Int} (h1 : IsBest low high n) (h2 : IsBest low high m) : n = m := by
  rcases Int.lt_trichotomy n m with h | h | h
  · exact absurd h1.2.1 (h2.2.2 n h1.1.1 h)
  · exact h
  · exact absurd h2.2.1 (h1.2.2 m h2.1.1 h)
/-- The fewest prefixes from low to high. -/
def Spr (high : Int) : Int → List Sp → Prop
  | low, [] => high < low
  | low, (a, n) :: l => low ≤ high ∧ a = low ∧ IsBest low high n ∧ Spr high (low + twoP n) l
theorem Spr.one {high : Int} : ∀ {l m : List Sp} {low : Int}, Spr high low l → Spr high low m → l = m
  | [], [], _, _, _ => rfl
  | [], (b, k) :: m, low, h1, h2 => by
    have h3 : high < low := h1
    have h4 := h2.1
    omega
  | (a, n) :: l, [], low, h1, h2 => by
    have h3 : high < low := h2
    have h4 := h1.1
    omega
  | (a, n) :: l, (b, k) :: m, low, ⟨_, e1, b1, h1⟩, ⟨_, e2, b2, h2⟩ => by
    obtain rfl := b1.one b2
    rw [e1, e2, Spr.one h1 h2]
theorem Spr.step {high low n : Int} {l : List Sp} (h : low ≤ high) (hb : IsBest low high n) (hl : Spr high (low + twoP n) l) : Spr high low ((low, n) :: l) := ⟨h, rfl, hb, hl⟩
/-- Pieces, each in the fewest prefixes. -/
def CovOf : List Sp → List Sp → Prop
  | [], out => out = []
  | s :: r, out => ∃ x y, out = x ++ y ∧ Spr s.2 s.1 x ∧ CovOf r y
theorem CovOf.one : ∀ {ps o1 o2 : List Sp}, CovOf ps o1 → CovOf ps o2 → o1 = o2
  | [], _, _, h1, h2 => h1.trans h2.symm
  | s :: r, _, _, ⟨x, y, e1, s1, c1⟩, ⟨x', y', e2, s2, c2⟩ => by rw [e1, e2, s1.one s2, c1.one c2]
theorem CovOf.snoc {s : Sp} {x : List Sp} (hs : Spr s.2 s.1 x) : ∀ {ps out : List Sp}, CovOf ps out → CovOf (ps ++ [s]) (out ++ x)
  | [], out, h => ⟨x, [], by rw [show out = [] from h]; simp, hs, rfl⟩
  | t :: r, out, ⟨u, v, e, h1, h2⟩ => ⟨u, v ++ x, by rw [e, List.append_assoc], h1, CovOf.snoc hs h2⟩
/-- Two pieces that do not touch. -/
def ApS (s t : Sp) : Prop := s.2 + 1 < t.1 ∨ t.2 + 1 < s.1
theorem ApS.symm {s t : Sp} (h : ApS s t) : ApS t s := h.elim .inr .inl
/-- How the document puts one more in. -/
def insC : List Sp → Int → Int → List Sp
  | [], a, b => [(a, b)]
  | s :: r, a, b => if b + 1 < s.1 ∨ s.2 + 1 < a then s :: insC r a b else insC r (min a s.1) (max b s.2)
theorem insC_valid : ∀ {l : List Sp} {a b : Int}, (∀ s ∈ l, s.1 ≤ s.2) → a ≤ b → ∀ s ∈ insC l a b, s.1 ≤ s.2
  | [], a, b, _, hab, s, hs => by rw [insC] at hs; rw [List.mem_singleton.1 hs]; exact hab
  | t :: r, a, b, hv, hab, s, hs => by
    have hr : ∀ s ∈ r, s.1 ≤ s.2 := fun x hx => hv x (List.mem_cons_of_mem _ hx)
    have ht := hv t (List.mem_cons_self ..)
    rw [insC] at hs
    split at hs
    · rcases List.mem_cons.1 hs with rfl | hs
      · exact ht
      · exact insC_valid hr hab s hs
    · exact insC_valid hr (by omega) s hs
theorem insC_apart {t : Sp} (htv : t.1 ≤ t.2) : ∀ {l : List Sp} {a b : Int}, (∀ s ∈ l, s.1 ≤ s.2) → a ≤ b → (∀ s ∈ l, ApS t s) → ApS t (a, b) → ∀ s ∈ insC l a b, ApS t s
  | [], a, b, _, _, _, h, s, hs => by rw [insC] at hs; rw [List.mem_singleton.1 hs]; exact h
  | u :: r, a, b, hv, hab, hl, h, s, hs => by
    have hr : ∀ s ∈ r, s.1 ≤ s.2 := fun x hx => hv x (List.mem_cons_of_mem _ hx)
    have hlr : ∀ s ∈ r, ApS t s := fun x hx => hl x (List.mem_cons_of_mem _ hx)
    have hu := hv u (List.mem_cons_self ..)
    have htu := hl u (List.mem_cons_self ..)
    rw [insC] at hs
    split at hs
    · rcases List.mem_cons.1 hs with rfl | hs
      · exact htu
      · exact insC_apart htv hr hab hlr h s hs
    · rename_i hno
      refine insC_apart htv hr (by omega) hlr ?_ s hs
      unfold ApS at htu h ⊢
      dsimp only at h ⊢
      omega
theorem insC_pair : ∀ {l : List Sp} {a b : Int}, (∀ s ∈ l, s.1 ≤ s.2) → a ≤ b → l.Pairwise ApS → (insC l a b).Pairwise ApS
  | [], a, b, _, _, _ => by rw [insC]; exact List.pairwise_singleton _ _
  | u :: r, a, b, hv, hab, hp => by
    have hr : ∀ s ∈ r, s.1 ≤ s.2 := fun x hx => hv x (List.mem_cons_of_mem _ hx)
    have hu := hv u (List.mem_cons_self ..)
    obtain ⟨h1, h2⟩ := List.pairwise_cons.1 hp
    rw [insC]
    split
    · rename_i hno
      refine List.pairwise_cons.2 ⟨insC_apart hu hr hab h1 ?_, insC_pair hr hab h2⟩
      unfold ApS
      dsimp only
      omega
    · exact insC_pair hr (by omega) h2
theorem insC_has {n : Int} : ∀ {l : List Sp} {a b : Int}, (∀ s ∈ l, s.1 ≤ s.2) → a ≤ b → (hasS (insC l a b) n ↔ (a ≤ n ∧ n ≤ b) ∨ hasS l n)
  | [], a, b, _, _ => by rw [insC, hasS_one, hasS_nil, or_false]
  | u :: r, a, b, hv, hab => by
    have hr : ∀ s ∈ r, s.1 ≤ s.2 := fun x hx => hv x (List.mem_cons_of_mem _ hx)
    have hu := hv u (List.mem_cons_self ..)
    rw [insC]
    split
    · rw [hasS_cons, insC_has hr hab, hasS_cons]
      constructor
      · rintro (h | h | h)
        · exact .inr (.inl h)
        · exact .inl h
        · exact .inr (.inr h)
      · rintro (h | h | h)
        · exact .inr (.inl h)
        · exact .inl h
        · exact .inr (.inr h)
    · rw [insC_has hr (by omega), hasS_cons]
      constructor
      · rintro (h | h)
        · by_cases h6 : a ≤ n ∧ n ≤ b
          · exact .inl h6
          · exact .inr (.inl (by omega))
        · exact .inr (.inr h)
      · rintro (h | h | h)
        · exact .inl (by omega)
        · exact .inl (by omega)
        · exact .inr h
theorem insC_len : ∀ {l : List Sp} {a b : Int}, (insC l a b).length ≤ l.length + 1
  | [], a, b => by rw [insC]; simp
  | u :: r, a, b => by
    rw [insC]
    split
    · have := insC_len (l := r) (a := a) (b := b)
      simp only [List.length_cons]; omega
    · have := insC_len (l := r) (a := min a u.1) (b := max b u.2)
      simp only [List.length_cons]; omega
/-- A gapped row, and one more piece above all. -/
theorem Gap.snoc : ∀ {l : List Sp} {s : Sp}, Gap l → s.1 ≤ s.2 → (∀ t ∈ l, t.2 + 1 < s.1) → Gap (l ++ [s])
  | [], s, _, hs, _ => hs
  | t :: r, s, h, hs, ha => by
    refine Gap.cons h.head (fun u hu => ?_) (Gap.snoc h.tail hs fun x hx => ha x (List.mem_cons_of_mem _ hx))
    cases r with
    | nil =>
      obtain rfl : s = u := Option.some.inj hu
      exact ha t (List.mem_cons_self ..)
    | cons v r' =>
      obtain rfl : v = u := Option.some.inj hu
      exact h.2.1
/-- A prefix as a span of addresses. -/
def spanP (s : Sp) : Sp := (s.1, s.1 + twoP s.2 - 1)
/-- In their bounds. -/
def BdA (s : Sp) : Prop := 0 ≤ s.1 ∧ s.1 ≤ s.2 ∧ s.2 ≤ 4294967295
theorem insC_bd : ∀ {l : List Sp} {a b : Int}, (∀ s ∈ l, BdA s) → BdA (a, b) → ∀ s ∈ insC l a b, BdA s
  | [], a, b, _, h, s, hs => by rw [insC] at hs; rw [List.mem_singleton.1 hs]; exact h
  | t :: r, a, b, hv, h, s, hs => by
    have hr : ∀ s ∈ r, BdA s := fun x hx => hv x (List.mem_cons_of_mem _ hx)
    have ht := hv t (List.mem_cons_self ..)
    rw [insC] at hs
    split at hs
    · rcases List.mem_cons.1 hs with rfl | hs
      · exact ht
      · exact insC_bd hr h s hs
    · refine insC_bd hr ?_ s hs
      unfold BdA at *
      dsimp only at *
      omega
/-- The document's pieces. -/
def covC (l : List Sp) : List Sp := l.foldl (fun ps s => insC ps (spanP s).1 (spanP s).2) []
theorem covC_step {l : List Sp} {i : Nat} {s : Sp} (h : l[i]? = some s) : covC (l.take (i + 1)) = insC (covC (l.take i)) (spanP s).1 (spanP s).2 := by
  unfold covC
  rw [List.take_add_one, h, List.foldl_append]
  rfl
theorem covC_all : ∀ (l o : List Sp), (∀ s ∈ l, BdA (spanP s)) → (∀ s ∈ o, BdA s) → o.Pairwise ApS →
    (∀ s ∈ l.foldl (fun ps s => insC ps (spanP s).1 (spanP s).2) o, BdA s) ∧ (l.foldl (fun ps s => insC ps (spanP s).1 (spanP s).2) o).Pairwise ApS ∧ (∀ n, hasS (l.foldl (fun ps s => insC ps (spanP s).1 (spanP s).2) o) n ↔ hasS o n ∨ hasS (l.map spanP) n) ∧ (l.foldl (fun ps s => insC ps (spanP s).1 (spanP s).2) o).length ≤ o.length + l.length
  | [], o, _, h2, h3 => ⟨h2, h3, fun n => by rw [List.map_nil, hasS_nil, or_false]; rfl, Nat.le_refl _⟩
  | s :: l, o, h1, h2, h3 => by
    have hs := h1 s (List.mem_cons_self ..)
    have hv : ∀ s ∈ o, s.1 ≤ s.2 := fun x hx => (h2 x hx).2.1
    obtain ⟨a1, a2, a3, a4⟩ := covC_all l (insC o (spanP s).1 (spanP s).2) (fun x hx => h1 x (List.mem_cons_of_mem _ hx)) (insC_bd h2 hs) (insC_pair hv hs.2.1 h3)
    refine ⟨a1, a2, fun n => ?_, ?_⟩
    · rw [List.foldl_cons, a3, insC_has hv hs.2.1, List.map_cons, hasS_cons]
      constructor
      · rintro ((h | h) | h)
        · exact .inr (.inl h)
        · exact .inl h
        · exact .inr (.inr h)
      · rintro (h | h | h)
        · exact .inl (.inr h)
        · exact .inl (.inl h)
        · exact .inr h
    · have := insC_len (l := o) (a := (spanP s).1) (b := (spanP s).2)
      rw [List.foldl_cons, List.length_cons]
      omega
/-- The last one into the place of one that goes. -/
theorem take_set_perm {ps : List Sp} {k : Nat} {p z : Sp} (hk : ps[k]? = some p) (hz : ps[ps.length - 1]? = some z) : ps.Perm (p :: (ps.set k z).take (ps.length - 1)) := by
  obtain ⟨hkl, hp⟩ := List.getElem?_eq_some_iff.1 hk
  obtain ⟨hzl, hzz⟩ := List.getElem?_eq_some_iff.1 hz
  have e : ps = ps.take (ps.length - 1) ++ [z] := by
    have h1 := List.take_append_drop (ps.length - 1) ps
    rw [List.drop_eq_getElem_cons hzl, hzz, List.drop_of_length_le (by omega)] at h1
    exact h1.symm
  by_cases hlast : k = ps.length - 1
  · subst hlast
    have hpz : p = z := hp.symm.trans hzz
    subst hpz
    rw [List.take_set_of_le (Nat.le_refl _)]
    refine (List.Perm.of_eq e).trans ?_
    exact List.perm_append_singleton _ _
  · rw [List.take_set]
    generalize hq : ps.take (ps.length - 1) = q at e
    have hkq : k < q.length := by rw [← hq, List.length_take]; omega
    have hqk : q[k] = p := by
      have : ps[k]? = q[k]? := by rw [← hq, List.getElem?_take_of_lt (by omega)]
      rw [hk, List.getElem?_eq_getElem hkq] at this
      exact (Option.some.inj this).symm
    refine (List.Perm.of_eq e).trans ((List.perm_append_singleton _ _).trans ?_)
    have e1 : q = q.take k ++ p :: q.drop (k + 1) := by
      have := List.take_append_drop k q
      rw [List.drop_eq_getElem_cons hkq, hqk] at this
      exact this.symm
    have e2 : q.set k z = q.take k ++ z :: q.drop (k + 1) := by rw [List.set_eq_take_append_cons_drop, if_pos hkq]
    rw [e2]
    refine ((List.Perm.of_eq e1).cons z).trans ?_
    refine (List.Perm.cons z List.perm_middle).trans ?_
    refine (List.Perm.swap _ _ _).trans (List.Perm.cons p ?_)
    exact List.perm_middle.symm
theorem hasS_perm {l m : List Sp} (h : l.Perm m) (n : Int) : hasS l n ↔ hasS m n := by
  unfold hasS
  exact ⟨fun ⟨s, hs, hb⟩ => ⟨s, h.mem_iff.1 hs, hb⟩, fun ⟨s, hs, hb⟩ => ⟨s, h.mem_iff.2 hs, hb⟩⟩
end Go.Port
