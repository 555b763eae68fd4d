/- Spans as texts: the plain law. No program here. -/
import Derived.Test.YtoelbnhjamddgaaDoorSpanL
import Derived.Test.YtoelbnhjamddgaaDoorShowL
import Derived.Lib.AtoiAll
set_option linter.unusedSimpArgs false
set_option linter.unusedVariables false
namespace Go.Port
open Go.Lib
/- Numbers of digits are read as they are. -/
theorem decFrom_ge : ∀ (l : List UInt8) (a u : Nat), decFrom a l = some u → a ≤ u
  | [], a, u, h => by simp only [decFrom, Option.some.injEq] at h; omega
  | c :: r, a, u, h => by
    rw [decFrom] at h
    cases hc : digitVal c with
    | none => rw [hc] at h; cases h
    | some d =>
      rw [hc] at h
      have := decFrom_ge r _ u h
      omega
theorem parse_dec : ∀ (l : List UInt8) (a u : Nat), decFrom a l = some u → u < 1844674407370955162 → parseUint10 a l = .ok u
  | [], a, u, h, _ => by simp only [decFrom, Option.some.injEq] at h; rw [parseUint10, h]
  | c :: r, a, u, h, hu => by
    rw [decFrom] at h
    cases hc : digitVal c with
    | none => rw [hc] at h; cases h
    | some d =>
      rw [hc] at h
      have h1 := decFrom_ge r _ u h
      obtain ⟨hd, rfl⟩ := digit_is hc
      have h2 := dig_val hd
      rw [parseUint10, h2, if_pos (by omega), if_neg (by omega), if_neg (by omega), show 48 + d - 48 = d by omega]
      exact parse_dec r _ u h hu
theorem atoi_all {n : Nat} (hn : n ≤ 65535) : atoiAll (decDigits n) = .ok (n : Int) := by
  have h1 := parse_dec _ _ _ (dec_from n) (by omega)
  have h2 := dec_digits n
  have h3 := dec_ne n
  cases hl : decDigits n with
  | nil => exact absurd hl h3
  | cons b r =>
    rw [hl] at h1 h2
    have hb := h2 b (List.Mem.head _)
    rw [atoiAll, if_neg (by omega), parseMag, if_neg (by simp), h1]
    dsimp only
    rw [if_neg (by omega), if_neg (by omega), if_neg (by omega)]
/-- A span's text; the text of some. -/
def shE (s : Sp) : List UInt8 := decDigits s.1.toNat ++ (if s.1 < s.2 then 45 :: decDigits s.2.toNat else [])
def shL (l : List Sp) : List UInt8 := if l = [] then [45] else join (l.map shE) [44]
theorem shE_lt {a c : Int} (h : a < c) : shE (a, c) = decDigits a.toNat ++ [45] ++ decDigits c.toNat := by
  unfold shE
  rw [if_pos h, List.append_assoc]
  rfl
theorem shE_one (a : Int) : shE (a, a) = decDigits a.toNat := by
  unfold shE
  rw [if_neg (Int.lt_irrefl _), List.append_nil]
theorem shE_ge {a c : Int} (h : ¬ a < c) : shE (a, c) = decDigits a.toNat := by
  unfold shE
  rw [if_neg h, List.append_nil]
theorem shE_not (s : Sp) : (44 : UInt8) ∉ shE s := by
  unfold shE
  intro h
  rcases List.mem_append.1 h with h | h
  · exact dec_not (.inl (by decide)) h
  · split at h
    · rcases List.mem_cons.1 h with h | h
      · revert h; decide
      · exact dec_not (.inl (by decide)) h
    · cases h
theorem shE_len {s : Sp} (h : ¬ spBad s) : (shE s).length ≤ 11 := by
  unfold spBad at h
  have h1 := decLen_le (u := s.1.toNat) 4 (by omega)
  have h2 := decLen_le (u := s.2.toNat) 4 (by omega)
  unfold shE
  rw [List.length_append]
  split
  · rw [List.length_cons]; omega
  · rw [List.length_nil]; omega
/- A text cut, and joined. -/
theorem cut_join {c : UInt8} {x : List UInt8} {r : List (List UInt8)} (h : ∀ p ∈ x :: r, c ∉ p) : cutT c (join (x :: r) [c]) = x :: r := by
  rw [← split_cut c _ _ (Nat.le_refl _), count_parts x r h, split_parts x r h]
theorem join_cut (c : UInt8) : ∀ (k : Nat) (s : List UInt8), s.length ≤ k → join (cutT c s) [c] = s := by
  intro k
  induction k with
  | zero =>
    intro s hs
    obtain rfl : s = [] := List.eq_nil_of_length_eq_zero (by omega)
    rfl
  | succ k ih =>
    intro s hs
    rcases first_at c s with h | ⟨x, r, rfl, hx⟩
    · rw [cutT, cutGo_none h, List.nil_append, join_one]
    · have h1 := ih r (by simp at hs; omega)
      rw [cutT, cutGo_at hx, List.nil_append]
      have h2 : cutGo c [] r = cutT c r := rfl
      rw [h2]
      cases h3 : cutT c r with
      | nil =>
        have := cutT_count c _ r (Nat.le_refl _)
        rw [h3] at this
        simp at this
      | cons y q =>
        rw [h3] at h1
        rw [join_step, h1]
/- A part of a text as a span: how the document reads it, and how the program does. -/
def whoA (X : List (List UInt8)) : Int := wholeT 5 (X.getD 0 [])
def whoB (X : List (List UInt8)) : Int := if X.length = 2 then wholeT 5 (X.getD 1 []) else whoA X
def badP (X : List (List UInt8)) : Prop := 2 < X.length ∨ whoA X < 0 ∨ 65535 < whoB X ∨ (X.length = 2 ∧ whoB X ≤ whoA X)
instance {X : List (List UInt8)} : Decidable (badP X) := by unfold badP; infer_instance
def partR (x : List UInt8) : Option Sp := if badP (cutT 45 x) then none else some (whoA (cutT 45 x), whoB (cutT 45 x))
def partP (x : List UInt8) : Option Sp := match atoiAll (cut x [45]).1 with
  | .ok m => if (cut x [45]).2.2 then (match atoiAll (cut x [45]).2.1 with
    | .ok n => some (m, n)
    | _ => none) else some (m, m)
  | _ => none
theorem dec_45 (n : Nat) : (45 : UInt8) ∉ decDigits n := dec_not (.inl (by decide))
theorem dec_5 {n : Nat} (h : n ≤ 65535) : (decDigits n).length ≤ 5 := decLen_le 4 (by omega)
theorem partR_is {x : List UInt8} {s : Sp} (h : partR x = some s) : ¬ spBad s ∧ x = shE s := by
  unfold partR at h
  split at h
  · cases h
  · rename_i hb
    simp only [Option.some.injEq] at h
    subst h
    rcases first_at 45 x with h45 | ⟨u, v, rfl, hu⟩
    · have e : cutT 45 x = [x] := by rw [cutT, cutGo_none h45]; rfl
      rw [e] at hb ⊢
      have eA : whoA [x] = wholeT 5 x := rfl
      have eB : whoB [x] = wholeT 5 x := rfl
      unfold badP at hb
      rw [eA, eB] at hb ⊢
      obtain ⟨n, hn⟩ : ∃ n : Nat, wholeT 5 x = n := ⟨(wholeT 5 x).toNat, by omega⟩
      obtain ⟨h1, _⟩ := whole_is hn
      rw [hn] at hb ⊢
      refine ⟨by unfold spBad; dsimp only; omega, ?_⟩
      rw [shE_one, Int.toNat_natCast]
      exact h1
    · have e : cutT 45 (u ++ 45 :: v) = u :: cutT 45 v := by rw [cutT, cutGo_at hu]; rfl
      rw [e] at hb ⊢
      have hc := cutT_count 45 _ v (Nat.le_refl _)
      have h1 : (cutT 45 v).length = 1 := by
        have : ¬ 2 < (u :: cutT 45 v).length := fun h => hb (.inl h)
        rw [List.length_cons] at this
        omega
      rcases first_at 45 v with h45 | ⟨u2, v2, rfl, hu2⟩
      · have e2 : cutT 45 v = [v] := by rw [cutT, cutGo_none h45]; rfl
        rw [e2] at hb ⊢
        have eA : whoA [u, v] = wholeT 5 u := rfl
        have eB : whoB [u, v] = wholeT 5 v := rfl
        unfold badP at hb
        rw [eA, eB, show ([u, v] : List (List UInt8)).length = 2 from rfl] at hb
        rw [eA, eB]
        obtain ⟨n, hn⟩ : ∃ n : Nat, wholeT 5 u = n := ⟨(wholeT 5 u).toNat, by omega⟩
        obtain ⟨m, hm⟩ : ∃ m : Nat, wholeT 5 v = m := ⟨(wholeT 5 v).toNat, by omega⟩
        obtain ⟨h2, _⟩ := whole_is hn
        obtain ⟨h3, _⟩ := whole_is hm
        rw [hn, hm] at hb ⊢
        refine ⟨by unfold spBad; dsimp only; omega, ?_⟩
        rw [shE_lt (by omega), Int.toNat_natCast, Int.toNat_natCast, ← h2, ← h3, List.append_assoc]
        rfl
      · rw [cutT, cutGo_at hu2, List.length_cons] at h1
        have := cutT_count 45 _ v2 (Nat.le_refl _)
        unfold cutT at this
        omega
theorem partR_sh {s : Sp} (h : ¬ spBad s) : partR (shE s) = some s := by
  obtain ⟨a, c⟩ := s
  unfold spBad at h
  dsimp only at h
  obtain ⟨n, rfl⟩ : ∃ n : Nat, a = n := ⟨a.toNat, by omega⟩
  obtain ⟨m, rfl⟩ : ∃ m : Nat, c = m := ⟨c.toNat, by omega⟩
  have w1 := whole_dec (dec_5 (n := n) (by omega))
  have w2 := whole_dec (dec_5 (n := m) (by omega))
  by_cases hlt : (n : Int) < m
  · have e : cutT 45 (shE ((n : Int), (m : Int))) = [decDigits n, decDigits m] := by
      rw [shE_lt hlt, Int.toNat_natCast, Int.toNat_natCast, List.append_assoc]
      show cutT 45 (decDigits n ++ 45 :: decDigits m) = _
      rw [cutT, cutGo_at (dec_45 n), cutGo_none (dec_45 m)]
      rfl
    unfold partR
    have eA : whoA [decDigits n, decDigits m] = n := w1
    have eB : whoB [decDigits n, decDigits m] = m := w2
    rw [e, if_neg, eA, eB]
    unfold badP
    rw [eA, eB, show ([decDigits n, decDigits m] : List (List UInt8)).length = 2 from rfl]
    omega
  · obtain rfl : n = m := by omega
    have e : cutT 45 (shE ((n : Int), (n : Int))) = [decDigits n] := by
      rw [shE_one, Int.toNat_natCast, cutT, cutGo_none (dec_45 n)]
      rfl
    unfold partR
    have eA : whoA [decDigits n] = n := w1
    have eB : whoB [decDigits n] = n := w1
    rw [e, if_neg, eA, eB]
    unfold badP
    rw [eA, eB, show ([decDigits n] : List (List UInt8)).length = 1 from rfl]
    omega
theorem partP_sh {s : Sp} (h : ¬ spBad s) : partP (shE s) = some s := by
  obtain ⟨a, c⟩ := s
  unfold spBad at h
  dsimp only at h
  obtain ⟨n, rfl⟩ : ∃ n : Nat, a = n := ⟨a.toNat, by omega⟩
  obtain ⟨m, rfl⟩ : ∃ m : Nat, c = m := ⟨c.toNat, by omega⟩
  have w1 := atoi_all (n := n) (by omega)
  have w2 := atoi_all (n := m) (by omega)
  by_cases hlt : (n : Int) < m
  · have e : cut (shE ((n : Int), (m : Int))) [45] = (decDigits n, decDigits m, true) := by
      rw [shE_lt hlt, Int.toNat_natCast, Int.toNat_natCast, List.append_assoc]
      exact cut_at (dec_45 n)
    unfold partP
    rw [e, w1]
    dsimp only
    rw [w2, if_pos rfl]
  · obtain rfl : n = m := by omega
    have e : cut (shE ((n : Int), (n : Int))) [45] = (decDigits n, [], false) := by
      rw [shE_one, Int.toNat_natCast]
      exact cut_none (dec_45 n)
    unfold partP
    rw [e, w1]
    dsimp only
    rw [if_neg (by decide)]
/- All parts. -/
def readS : List (List UInt8) → List Sp → Option (List Sp)
  | [], l => some l
  | x :: r, l => match partR x with
    | none => none
    | some s => if 200 ≤ l.length ∨ ∃ t ∈ l.getLast?, s.1 ≤ t.2 + 1 then none else readS r (l ++ [s])
def readP : List (List UInt8) → List Sp → Option (List Sp)
  | [], l => some l
  | x :: r, l => match partP x with
    | none => none
    | some s => readP r (l ++ [s])
theorem gap_snoc {s : Sp} : ∀ {l : List Sp}, Gap (l ++ [s]) ↔ Gap l ∧ s.1 ≤ s.2 ∧ ∀ t ∈ l.getLast?, t.2 + 1 < s.1
  | [] => ⟨fun h => ⟨trivial, h, fun t ht => by cases ht⟩, fun h => h.2.1⟩
  | [t] => ⟨fun h => ⟨h.1, h.2.2, fun u hu => by cases hu; exact h.2.1⟩, fun h => ⟨h.1, h.2.2 t rfl, h.2.1⟩⟩
  | t :: u :: r => by
    have ih := gap_snoc (s := s) (l := u :: r)
    have e : (t :: u :: r).getLast? = (u :: r).getLast? := by simp [List.getLast?]
    rw [e]
    constructor
    · rintro ⟨h1, h2, h3⟩
      obtain ⟨h4, h5⟩ := ih.1 h3
      exact ⟨⟨h1, h2, h4⟩, h5⟩
    · rintro ⟨⟨h1, h2, h3⟩, h4⟩
      exact ⟨h1, h2, ih.2 ⟨h3, h4⟩⟩
theorem readS_is : ∀ {W : List (List UInt8)} {o l : List Sp}, Gap o → OkS o → o.length ≤ 200 → readS W o = some l → Gap l ∧ OkS l ∧ l.length ≤ 200 ∧ ∃ m, l = o ++ m ∧ W = m.map shE
  | [], o, l, hg, ho, hl, h => by
    simp only [readS, Option.some.injEq] at h
    subst h
    exact ⟨hg, ho, hl, [], by rw [List.append_nil], rfl⟩
  | x :: r, o, l, hg, ho, hl, h => by
    rw [readS] at h
    cases hp : partR x with
    | none => rw [hp] at h; cases h
    | some s =>
      rw [hp] at h
      dsimp only at h
      obtain ⟨hb, hx⟩ := partR_is hp
      split at h
      · cases h
      · rename_i hc
        have hb' := hb
        unfold spBad at hb'
        obtain ⟨h1, h2, h3, m, rfl, hm⟩ := readS_is (o := o ++ [s]) (gap_snoc.2 ⟨hg, by omega, fun t ht => by
            by_cases hlt : s.1 ≤ t.2 + 1
            · exact absurd (.inr ⟨t, ht, hlt⟩) hc
            · omega⟩) (ho.app fun y hy => by rw [List.mem_singleton.1 hy]; exact hb) (by
            rw [List.length_append, List.length_singleton]
            have : ¬ 200 ≤ o.length := fun h => hc (.inl h)
            omega) h
        exact ⟨h1, h2, h3, s :: m, by rw [List.append_assoc]; rfl, by rw [hx, hm]; rfl⟩
theorem readS_sh : ∀ {m o : List Sp}, Gap (o ++ m) → OkS (o ++ m) → (o ++ m).length ≤ 200 → readS (m.map shE) o = some (o ++ m)
  | [], o, _, _, _ => by rw [List.append_nil]; rfl
  | s :: m, o, hg, hk, hl => by
    have hs : ¬ spBad s := hk s (List.mem_append_right _ (List.Mem.head _))
    have e : o ++ s :: m = (o ++ [s]) ++ m := by rw [List.append_assoc]; rfl
    have hl' := hl
    rw [List.length_append, List.length_cons] at hl'
    have ho : Gap (o ++ [s]) := gap_pre (m := m) (by rw [← e]; exact hg)
    obtain ⟨_, _, h3⟩ := gap_snoc.1 ho
    rw [List.map_cons, readS, partR_sh hs]
    dsimp only
    rw [if_neg, e]
    · exact readS_sh (by rw [← e]; exact hg) (by rw [← e]; exact hk) (by rw [← e]; exact hl)
    · rintro (h | ⟨t, ht, h⟩)
      · omega
      · have := h3 t ht
        omega
where gap_pre : ∀ {l m : List Sp}, Gap (l ++ m) → Gap l
  | [], _, _ => trivial
  | [t], [], h => h
  | [t], u :: m, h => h.1
  | t :: u :: r, m, h => ⟨h.1, h.2.1, gap_pre (l := u :: r) (m := m) h.2.2⟩
theorem readP_sh : ∀ {m o : List Sp}, OkS m → readP (m.map shE) o = some (o ++ m)
  | [], o, _ => by rw [List.append_nil]; rfl
  | s :: m, o, hk => by
    rw [List.map_cons, readP, partP_sh (hk s (List.Mem.head _))]
    dsimp only
    rw [readP_sh fun x hx => hk x (List.mem_cons_of_mem _ hx), List.append_assoc]
    rfl
theorem readP_len : ∀ {W : List (List UInt8)} {o l : List Sp}, readP W o = some l → l.length = o.length + W.length
  | [], o, l, h => by
    simp only [readP, Option.some.injEq] at h
    rw [h]; rfl
  | x :: r, o, l, h => by
    rw [readP] at h
    cases hp : partP x with
    | none => rw [hp] at h; cases h
    | some s =>
      rw [hp] at h
      have := readP_len (W := r) h
      rw [List.length_append, List.length_singleton] at this
      rw [List.length_cons]
      omega
theorem normR_same {l : List Sp} (hg : Gap l) (hk : OkS l) : normR l = l := (normR_set hk).one ⟨hg, fun _ => Iff.rfl⟩
theorem normR_ne {l : List Sp} (hk : OkS l) (hl : l ≠ []) : normR l ≠ [] := by
  cases l with
  | nil => exact absurd rfl hl
  | cons s r =>
    intro e
    have h1 := (normR_set hk).2 s.1
    have h2 := hk s (List.Mem.head _)
    unfold spBad at h2
    rw [e, hasS_nil] at h1
    exact h1.2 (hasS_cons.2 (.inl ⟨Int.le_refl _, by omega⟩))
/-- The spans of a text, as the document reads it. -/
def spR (s : List UInt8) : Option (List Sp) := if s = [45] then some [] else readS (cutT 44 s) []
theorem cut_ne (c : UInt8) (s : List UInt8) : cutT c s ≠ [] := fun h => by
  have := cutT_count c _ s (Nat.le_refl _)
  rw [h] at this
  simp at this
theorem sh_cut {l : List Sp} (hl : l ≠ []) : cutT 44 (shL l) = l.map shE := by
  unfold shL
  rw [if_neg hl]
  cases l with
  | nil => exact absurd rfl hl
  | cons s r =>
    rw [List.map_cons]
    exact cut_join fun p hp => by
      rw [← List.map_cons] at hp
      obtain ⟨x, _, rfl⟩ := List.mem_map.1 hp
      exact shE_not x
/-- The program reads what the document does. -/
theorem spR_is {s : List UInt8} (hs : ¬ s = [45]) (l : List Sp) : spR s = some l ↔ readP (cutT 44 s) [] = some l ∧ spE l = 0 ∧ shL (normR l) = s := by
  unfold spR
  rw [if_neg hs]
  constructor
  · intro h
    obtain ⟨hg, hk, hl, m, e, hW⟩ := readS_is (o := []) trivial OkS.nil (by decide) h
    rw [List.nil_append] at e
    subst e
    have hne : l ≠ [] := fun e => cut_ne 44 s (by rw [hW, e]; rfl)
    refine ⟨by rw [hW, readP_sh hk, List.nil_append], spE_0.2 ⟨hl, hk⟩, ?_⟩
    rw [normR_same hg hk, shL, if_neg hne, ← hW, join_cut 44 _ s (Nat.le_refl _)]
  · rintro ⟨h1, h2, h3⟩
    obtain ⟨hl, hk⟩ := spE_0.1 h2
    have hk : OkS l := hk
    have hlen := readP_len h1
    have hne : l ≠ [] := fun e => by
      have := cutT_count 44 _ s (Nat.le_refl _)
      rw [e, List.length_nil] at hlen
      omega
    have hset := normR_set hk
    have hkn : OkS (normR l) := hset.ok fun n hn => hk.has hn
    have hW : cutT 44 s = (normR l).map shE := by rw [← h3, sh_cut (normR_ne hk hne)]
    rw [hW, readP_sh hkn, List.nil_append, Option.some.injEq] at h1
    have h4 := readS_sh (m := normR l) (o := []) hset.1 hkn (by have := normR_len l; rw [List.nil_append]; omega)
    rw [hW, h4, List.nil_append, h1]
theorem spR_ok {s : List UInt8} {l : List Sp} (h : spR s = some l) : Gap l ∧ OkS l ∧ l.length ≤ 200 ∧ shL l = s := by
  by_cases hs : s = [45]
  · unfold spR at h
    rw [if_pos hs, Option.some.injEq] at h
    subst h
    exact ⟨trivial, OkS.nil, by decide, hs.symm⟩
  · have h1 := (spR_is hs l).1 h
    unfold spR at h
    rw [if_neg hs] at h
    obtain ⟨hg, hk, hl, _⟩ := readS_is (o := []) trivial OkS.nil (by decide) h
    rw [normR_same hg hk] at h1
    exact ⟨hg, hk, hl, h1.2.2⟩
theorem spR_no {s : List UInt8} (hs : ¬ s = [45]) (h : readP (cutT 44 s) [] = none) : spR s = none := by
  cases h2 : spR s with
  | none => rfl
  | some l =>
    have := ((spR_is hs l).1 h2).1
    rw [h] at this
    cases this
theorem spR_bad {s : List UInt8} {l : List Sp} (hs : ¬ s = [45]) (h : readP (cutT 44 s) [] = some l) (hb : ¬ spE l = 0 ∨ ¬ shL (normR l) = s) : spR s = none := by
  cases h2 : spR s with
  | none => rfl
  | some m =>
    obtain ⟨h3, h4, h5⟩ := (spR_is hs m).1 h2
    rw [h, Option.some.injEq] at h3
    subst h3
    exact absurd h5 (hb.resolve_left fun hh => hh h4)
theorem readS_step {W : List (List UInt8)} {i : Nat} {x : List UInt8} {l : List Sp} (h : W[i]? = some x) : readS (W.drop i) l = match partR x with
    | none => none
    | some s => if 200 ≤ l.length ∨ ∃ t ∈ l.getLast?, s.1 ≤ t.2 + 1 then none else readS (W.drop (i + 1)) (l ++ [s]) := by
  obtain ⟨hi, rfl⟩ := List.getElem?_eq_some_iff.1 h
  rw [List.drop_eq_getElem_cons hi, readS]
theorem readP_step {W : List (List UInt8)} {i : Nat} {x : List UInt8} {l : List Sp} (h : W[i]? = some x) : readP (W.drop i) l = match partP x with
    | none => none
    | some s => readP (W.drop (i + 1)) (l ++ [s]) := by
  obtain ⟨hi, rfl⟩ := List.getElem?_eq_some_iff.1 h
  rw [List.drop_eq_getElem_cons hi, readP]
/-- What is shown of some, when so many are. -/
def shP (l : List Sp) : Nat → List UInt8
  | 0 => []
  | j + 1 => shP l j ++ (if 0 < j then [44] else []) ++ shE (l.getD j (0, 0))
theorem shP_step {l : List Sp} {j : Nat} {s : Sp} (h : l[j]? = some s) : shP l (j + 1) = shP l j ++ (if 0 < j then [44] else []) ++ shE s := by
  rw [shP, List.getD_eq_getElem?_getD, h]
  rfl
theorem shP_join (l : List Sp) : ∀ j, 0 < j → j ≤ l.length → shP l j = join ((l.take j).map shE) [44] := by
  intro j
  induction j with
  | zero => intro h; omega
  | succ j ih =>
    intro _ hj
    obtain ⟨s, hs⟩ : ∃ s, l[j]? = some s := ⟨_, List.getElem?_eq_getElem (by omega)⟩
    rw [shP_step hs, List.take_add_one, hs]
    by_cases h0 : 0 < j
    · rw [if_pos h0, ih h0 (by omega), List.map_append, show (some s).toList.map shE = [shE s] from rfl, join_snoc]
      intro e
      have := congrArg List.length e
      rw [List.length_map, List.length_take, List.length_nil] at this
      omega
    · obtain rfl : j = 0 := by omega
      rw [if_neg (by decide), List.take_zero]
      show [] ++ [] ++ shE s = join [shE s] [44]
      rw [join_one]
      rfl
where join_snoc : ∀ {p : List (List UInt8)} {x : List UInt8}, p ≠ [] → join (p ++ [x]) [44] = join p [44] ++ [44] ++ x
  | [], _, h => absurd rfl h
  | [y], x, _ => by rw [show ([y] ++ [x] : List (List UInt8)) = [y, x] from rfl, join_step, join_one, join_one, List.append_assoc]; rfl
  | y :: z :: r, x, _ => by
    have ih := join_snoc (p := z :: r) (x := x) (by simp)
    rw [show (y :: z :: r) ++ [x] = y :: z :: (r ++ [x]) from rfl, join_step, join_step, show z :: (r ++ [x]) = (z :: r) ++ [x] from rfl, ih]
    simp
theorem shP_all {l : List Sp} (hl : l ≠ []) : shP l l.length = shL l := by
  rw [shP_join l _ (List.length_pos_iff.2 hl) (Nat.le_refl _), List.take_length, shL, if_neg hl]
theorem shP_len {l : List Sp} (h : OkS l) : ∀ j, j ≤ l.length → (shP l j).length ≤ 12 * j
  | 0, _ => Nat.le_refl _
  | j + 1, hj => by
    obtain ⟨s, hs⟩ : ∃ s, l[j]? = some s := ⟨_, List.getElem?_eq_getElem (by omega)⟩
    have h1 := shP_len h j (by omega)
    have h2 := shE_len (h s (List.mem_of_getElem? hs))
    rw [shP_step hs, List.length_append, List.length_append]
    split
    · rw [List.length_singleton]; omega
    · rw [List.length_nil]; omega
theorem shL_len {l : List Sp} (h : OkS l) : (shL l).length ≤ 12 * l.length + 1 := by
  by_cases hl : l = []
  · subst hl; exact Nat.le_refl _
  · rw [← shP_all hl]
    have := shP_len h _ (Nat.le_refl _)
    omega
end Go.Port
