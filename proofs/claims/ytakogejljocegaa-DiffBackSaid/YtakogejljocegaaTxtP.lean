/- Several texts in one: StrL AddrT TextL ShowL ParseL SpanP SpanL SpanU. -/
import Derived.Lib.SplitLaws
import Derived.Lib.Join
import Derived.Lib.Atoi
import Derived.Lib.ItoaNum
import Derived.Lib.IndexMore
import Derived.Lib.AtoiAll
/- Texts of numbers, one behind the other: the plain law. No program here. -/
set_option linter.unusedSimpArgs false
set_option linter.unusedVariables false
namespace Go.Port
open Go.Lib
theorem idx_none {c : UInt8} : ∀ {x : List UInt8}, c ∉ x → index x [c] = -1
  | [], _ => by rw [index]; rfl
  | b :: l, h => by
    have hb : c ≠ b := fun e => h (e ▸ List.Mem.head _)
    have hl : c ∉ l := fun e => h (List.Mem.tail _ e)
    have hp : ([c] : List UInt8).isPrefixOf (b :: l) = false := by simp [List.isPrefixOf, hb]
    rw [index, hp, idx_none hl]
    rfl
theorem idx_at {c : UInt8} {r : List UInt8} : ∀ {x : List UInt8}, c ∉ x → index (x ++ c :: r) [c] = x.length
  | [], _ => by
    rw [List.nil_append, index]
    simp [List.isPrefixOf]
  | b :: l, h => by
    have hb : c ≠ b := fun e => h (e ▸ List.Mem.head _)
    have hl : c ∉ l := fun e => h (List.Mem.tail _ e)
    have hp : ([c] : List UInt8).isPrefixOf (b :: (l ++ c :: r)) = false := by simp [List.isPrefixOf, hb]
    rw [List.cons_append, index, hp, idx_at hl]
    have h2 : (((l.length : Nat) : Int) == -1) = false := by
      rw [beq_eq_false_iff_ne]; omega
    rw [h2]
    simp
theorem join_step {c : UInt8} (x y : List UInt8) (r : List (List UInt8)) : join (x :: y :: r) [c] = x ++ c :: join (y :: r) [c] := by
  rw [join_cons, join_cons, joinTail, List.map_cons, List.flatten_cons]
  rw [List.append_assoc]
  rfl
theorem count_parts {c : UInt8} : ∀ (x : List UInt8) (r : List (List UInt8)), (∀ p ∈ x :: r, c ∉ p) → count (join (x :: r) [c]) [c] = r.length
  | x, [], h => by
    rw [join_one, count_miss (idx_none (h x (List.Mem.head _)))]
    rfl
  | x, y :: r, h => by
    have hi := idx_at (c := c) (r := join (y :: r) [c]) (h x (List.Mem.head _))
    rw [join_step, count_hit (by simp) hi]
    have e : (x ++ c :: join (y :: r) [c]).drop (x.length + ([c] : List UInt8).length) = join (y :: r) [c] := by
      rw [← List.drop_drop, List.drop_left]; rfl
    rw [e, count_parts y r fun p hp => h p (List.Mem.tail _ hp), List.length_cons]
    omega
theorem split_parts {c : UInt8} : ∀ (x : List UInt8) (r : List (List UInt8)), (∀ p ∈ x :: r, c ∉ p) → splitK [c] 0 r.length (join (x :: r) [c]) = x :: r
  | x, [], h => by rw [join_one]; rfl
  | x, y :: r, h => by
    have hi := idx_at (c := c) (r := join (y :: r) [c]) (h x (List.Mem.head _))
    have h2 : (((x.length : Nat) : Int) == -1) = false := by
      rw [beq_eq_false_iff_ne]; omega
    rw [join_step, List.length_cons, splitK, hi, h2, Int.toNat_natCast]
    have e : (x ++ c :: join (y :: r) [c]).drop (x.length + ([c] : List UInt8).length) = join (y :: r) [c] := by
      rw [← List.drop_drop, List.drop_left]; rfl
    rw [if_neg (by decide), e, Nat.add_zero, List.take_left, split_parts y r fun p hp => h p (List.Mem.tail _ hp)]
theorem cut_none {c : UInt8} {s : List UInt8} (h : c ∉ s) : cut s [c] = (s, [], false) := by
  unfold cut
  rw [idx_none h, if_neg (by decide)]
theorem mem_join {c d : UInt8} : ∀ (x : List UInt8) (r : List (List UInt8)), d ≠ c → (∀ p ∈ x :: r, d ∉ p) → d ∉ join (x :: r) [c]
  | x, [], _, h => by rw [join_one]; exact h x (List.Mem.head _)
  | x, y :: r, hd, h => by
    rw [join_step]
    intro hm
    rcases List.mem_append.1 hm with hm | hm
    · exact h x (List.Mem.head _) hm
    · rcases List.mem_cons.1 hm with e | hm
      · exact hd e
      · exact mem_join y r hd (fun p hp => h p (List.Mem.tail _ hp)) hm
/- Numerals. -/
theorem dig_val {d : Nat} (h : d < 10) : (UInt8.ofNat (48 + d)).toNat = 48 + d := by
  rw [UInt8.toNat_ofNat']
  exact Nat.mod_eq_of_lt (by omega)
theorem dec_digits : ∀ (u : Nat), ∀ b ∈ decDigits u, 48 ≤ b.toNat ∧ b.toNat ≤ 57 := by
  intro u
  induction u using Nat.strongRecOn with
  | _ u ih =>
    intro b hb
    by_cases h : u < 10
    · rw [decDigits, dif_pos h] at hb
      rw [List.mem_singleton.1 hb, dig_val h]
      omega
    · rw [decDigits, dif_neg h] at hb
      rcases List.mem_append.1 hb with hb | hb
      · exact ih (u / 10) (by omega) b hb
      · rw [List.mem_singleton.1 hb, dig_val (by omega)]
        omega
theorem dec_not {u : Nat} {c : UInt8} (h : c.toNat < 48 ∨ 57 < c.toNat) : c ∉ decDigits u := fun hm => by
  have := dec_digits u c hm
  omega
theorem decFrom_app : ∀ (l m : List UInt8) (a : Nat), decFrom a (l ++ m) = (decFrom a l).bind fun k => decFrom k m
  | [], m, a => rfl
  | b :: l, m, a => by
    rw [List.cons_append, decFrom, decFrom]
    cases digitVal b with
    | none => rfl
    | some d => exact decFrom_app l m _
theorem digit_of {d : Nat} (h : d < 10) : digitVal (UInt8.ofNat (48 + d)) = some d := by
  unfold digitVal
  rw [dig_val h, if_pos (by omega)]
  congr 1
  omega
theorem dec_from : ∀ (u : Nat), decFrom 0 (decDigits u) = some u := by
  intro u
  induction u using Nat.strongRecOn with
  | _ u ih =>
    by_cases h : u < 10
    · rw [decDigits, dif_pos h, decFrom, digit_of h]
      simp [decFrom]
    · rw [decDigits, dif_neg h, decFrom_app, ih (u / 10) (by omega)]
      show decFrom (u / 10) [UInt8.ofNat (48 + u % 10)] = some u
      rw [decFrom, digit_of (by omega)]
      simp only [decFrom, Option.some.injEq]
      omega
theorem dec_ne (u : Nat) : decDigits u ≠ [] := by
  rw [decDigits]
  split <;> simp
theorem atoi_dec (u : Nat) : atoi (decDigits u) = some (u : Int) := by
  have h1 := dec_from u
  have h2 := dec_digits u
  have h3 := dec_ne u
  cases hl : decDigits u with
  | nil => exact absurd hl h3
  | cons b r =>
    rw [hl] at h1 h2
    have hb := h2 b (List.Mem.head _)
    have e1 : (b == 45) = false := by
      rw [beq_eq_false_iff_ne]; intro e; subst e; revert hb; decide
    have e2 : (b == 43) = false := by
      rw [beq_eq_false_iff_ne]; intro e; subst e; revert hb; decide
    rw [atoi, e1, e2]
    simp only [Bool.false_eq_true, if_false, decNat, List.isEmpty_cons]
    rw [h1]
    rfl
theorem dec_len {u : Nat} (h : u < 1000) : (decDigits u).length ≤ 3 := by
  rw [decDigits]
  split
  · simp
  · rw [List.length_append, decDigits]
    split
    · simp
    · rw [List.length_append, decDigits, dif_pos (by omega)]
      simp
end Go.Port
/- An address as a text: the plain law. No program here. -/
set_option linter.unusedSimpArgs false
set_option linter.unusedVariables false
namespace Go.Port
open Go.Lib
/-- One of an address' four numbers. -/
def quad (a j : Nat) : Nat := a / 2 ^ (24 - 8 * j) % 256
def quads (a : Nat) : List (List UInt8) := [decDigits (quad a 0), decDigits (quad a 1), decDigits (quad a 2), decDigits (quad a 3)]
/-- An address' text. -/
def addrT (a : Nat) : List UInt8 := join (quads a) [46]
theorem quad_lt (a j : Nat) : quad a j < 256 := Nat.mod_lt _ (by decide)
theorem quad_int {a j : Nat} {i : Int} (h : i = 24 - 8 * (j : Int)) (hj : j ≤ 3) : (a : Int) / 2 ^ i.toNat % 256 = (quad a j : Int) := by
  have e : i.toNat = 24 - 8 * j := by omega
  rw [e, quad, Int.natCast_emod, Int.natCast_ediv, Int.natCast_pow]
  rfl
theorem quads_at {a j : Nat} (hj : j < 4) : (quads a)[j]? = some (decDigits (quad a j)) := by
  have h : j = 0 ∨ j = 1 ∨ j = 2 ∨ j = 3 := by omega
  rcases h with rfl | rfl | rfl | rfl <;> rfl
theorem quads_take {a j : Nat} (hj : j < 4) : (quads a).take (j + 1) = (quads a).take j ++ [decDigits (quad a j)] := by
  have h : j = 0 ∨ j = 1 ∨ j = 2 ∨ j = 3 := by omega
  rcases h with rfl | rfl | rfl | rfl <;> rfl
theorem quads_not {a : Nat} {c : UInt8} (h : c.toNat < 48 ∨ 57 < c.toNat) : ∀ p ∈ quads a, c ∉ p := fun p hp => by
  simp only [quads, List.mem_cons, List.not_mem_nil, or_false] at hp
  rcases hp with rfl | rfl | rfl | rfl <;> exact dec_not h
theorem addrT_count (a : Nat) : count (addrT a) [46] = 3 := count_parts _ _ (quads_not (.inl (by decide)))
theorem addrT_split (a : Nat) : splitK [46] 0 3 (addrT a) = quads a := split_parts _ _ (quads_not (.inl (by decide)))
theorem addrT_not {a : Nat} {c : UInt8} (h : c.toNat < 48 ∨ 57 < c.toNat) (h2 : c ≠ 46) : c ∉ addrT a := mem_join _ _ h2 (quads_not h)
theorem addrT_any (a : Nat) : ¬ addrT a = [97, 110, 121] := fun h => addrT_not (a := a) (c := 97) (.inr (by decide)) (by decide) (by rw [h]; exact List.Mem.head _)
theorem addrT_len (a : Nat) : (addrT a).length ≤ 15 := by
  have h := fun j => dec_len (u := quad a j) (Nat.lt_of_lt_of_le (quad_lt a j) (by decide))
  have h0 := h 0
  have h1 := h 1
  have h2 := h 2
  have h3 := h 3
  unfold addrT quads
  rw [join_step, join_step, join_step, join_one]
  simp only [List.length_append, List.length_cons]
  omega
theorem addrT_cut (a : Nat) : cut (addrT a) [47] = (addrT a, [], false) := cut_none (addrT_not (.inl (by decide)) (by decide))
/-- What the first numbers come to. -/
def accA (a j : Nat) : Nat := a / 2 ^ (32 - 8 * j)
theorem accA_0 {a : Nat} (h : a ≤ 4294967295) : accA a 0 = 0 := Nat.div_eq_of_lt (by show a < 2 ^ 32; omega)
theorem accA_4 (a : Nat) : accA a 4 = a := Nat.div_one a
theorem accA_step {a j : Nat} (hj : j < 4) : accA a j * 256 + quad a j = accA a (j + 1) := by
  have e : accA a j = accA a (j + 1) / 256 := by
    unfold accA
    rw [Nat.div_div_eq_div_mul, show 32 - 8 * j = (32 - 8 * (j + 1)) + 8 by omega, Nat.pow_add]
  have e2 : quad a j = accA a (j + 1) % 256 := by
    unfold quad accA
    rw [show 24 - 8 * j = 32 - 8 * (j + 1) by omega]
  rw [e, e2]
  omega
theorem accA_le (a j : Nat) : accA a j ≤ a := Nat.div_le_self _ _
end Go.Port
/- Texts and numbers: the plain law. No program here. -/
set_option linter.unusedSimpArgs false
set_option linter.unusedVariables false
namespace Go.Port
open Go.Lib
/-- A text cut at each byte c. -/
def cutGo (c : UInt8) (cur : List UInt8) : List UInt8 → List (List UInt8)
  | [] => [cur]
  | b :: l => if b = c then cur :: cutGo c [] l else cutGo c (cur ++ [b]) l
def cutT (c : UInt8) (s : List UInt8) : List (List UInt8) := cutGo c [] s
theorem cutGo_none {c : UInt8} : ∀ {x cur : List UInt8}, c ∉ x → cutGo c cur x = [cur ++ x]
  | [], cur, _ => by rw [cutGo, List.append_nil]
  | b :: l, cur, h => by
    have hb : ¬ b = c := fun e => h (e ▸ List.Mem.head _)
    rw [cutGo, if_neg hb, cutGo_none (fun hm => h (List.Mem.tail _ hm)), List.append_assoc]
    rfl
theorem cutGo_at {c : UInt8} {r : List UInt8} : ∀ {x cur : List UInt8}, c ∉ x → cutGo c cur (x ++ c :: r) = (cur ++ x) :: cutGo c [] r
  | [], cur, _ => by rw [List.nil_append, cutGo, if_pos rfl, List.append_nil]
  | b :: l, cur, h => by
    have hb : ¬ b = c := fun e => h (e ▸ List.Mem.head _)
    rw [List.cons_append, cutGo, if_neg hb, cutGo_at (fun hm => h (List.Mem.tail _ hm)), List.append_assoc]
    rfl
theorem first_at (c : UInt8) : ∀ s : List UInt8, c ∉ s ∨ ∃ x r, s = x ++ c :: r ∧ c ∉ x
  | [] => .inl (fun h => by cases h)
  | b :: l => by
    by_cases hb : b = c
    · exact .inr ⟨[], l, by rw [hb]; rfl, fun h => by cases h⟩
    · rcases first_at c l with h | ⟨x, r, rfl, hx⟩
      · exact .inl fun hm => by
          rcases List.mem_cons.1 hm with e | hm
          · exact hb e.symm
          · exact h hm
      · exact .inr ⟨b :: x, r, rfl, fun hm => by
          rcases List.mem_cons.1 hm with e | hm
          · exact hb e.symm
          · exact hx hm⟩
theorem split_cut (c : UInt8) : ∀ (k : Nat) (s : List UInt8), s.length ≤ k → splitK [c] 0 (count s [c]) s = cutT c s := by
  intro k
  induction k with
  | zero =>
    intro s hs
    obtain rfl : s = [] := List.eq_nil_of_length_eq_zero (by omega)
    rw [count_miss (idx_none (fun h => by cases h))]
    rfl
  | succ k ih =>
    intro s hs
    rcases first_at c s with h | ⟨x, r, rfl, hx⟩
    · rw [count_miss (idx_none h), cutT, cutGo_none h]
      rfl
    · have hi := idx_at (c := c) (r := r) hx
      have h2 : (((x.length : Nat) : Int) == -1) = false := by
        rw [beq_eq_false_iff_ne]; omega
      have e : (x ++ c :: r).drop (x.length + ([c] : List UInt8).length) = r := by
        rw [← List.drop_drop, List.drop_left]; rfl
      rw [count_hit (by simp) hi, e, Nat.add_comm, splitK, hi, h2, Int.toNat_natCast, if_neg (by decide), e, Nat.add_zero, List.take_left, ih r (by simp at hs; omega), cutT, cutT, cutGo_at hx]
      rfl
theorem cutT_count (c : UInt8) : ∀ (k : Nat) (s : List UInt8), s.length ≤ k → (cutT c s).length = count s [c] + 1 := by
  intro k
  induction k with
  | zero =>
    intro s hs
    obtain rfl : s = [] := List.eq_nil_of_length_eq_zero (by omega)
    rw [count_miss (idx_none (fun h => by cases h))]
    rfl
  | succ k ih =>
    intro s hs
    rcases first_at c s with h | ⟨x, r, rfl, hx⟩
    · rw [count_miss (idx_none h), cutT, cutGo_none h]
      rfl
    · have hi := idx_at (c := c) (r := r) hx
      have e : (x ++ c :: r).drop (x.length + ([c] : List UInt8).length) = r := by
        rw [← List.drop_drop, List.drop_left]; rfl
      have := ih r (by simp at hs; omega)
      rw [count_hit (by simp) hi, e, cutT, cutGo_at hx, List.length_cons]
      unfold cutT at this
      omega
theorem cut_at {c : UInt8} {x r : List UInt8} (h : c ∉ x) : cut (x ++ c :: r) [c] = (x, r, true) := by
  have hi := idx_at (c := c) (r := r) h
  unfold cut
  rw [hi, if_pos (by omega), Int.toNat_natCast, List.take_left]
  have e : (x ++ c :: r).drop (x.length + ([c] : List UInt8).length) = r := by
    rw [← List.drop_drop, List.drop_left]; rfl
  rw [e]
/-- A number of at most so many digits, without a needless 0. -/
def wholeT (most : Nat) (s : List UInt8) : Int :=
  if s = [] ∨ most < s.length ∨ (s.head? = some 48 ∧ 1 < s.length) then -1 else match decFrom 0 s with
    | some n => n
    | none => -1
theorem digit_is {b : UInt8} {d : Nat} (h : digitVal b = some d) : d < 10 ∧ b = UInt8.ofNat (48 + d) := by
  unfold digitVal at h
  split at h
  · rename_i hb
    simp only [Option.some.injEq] at h
    refine ⟨by omega, UInt8.toNat_inj.1 ?_⟩
    rw [dig_val (by omega)]
    omega
  · cases h
theorem dec_uniq : ∀ (k : Nat) (s : List UInt8) (n : Nat), s.length ≤ k → decFrom 0 s = some n → s ≠ [] → ¬ (s.head? = some 48 ∧ 1 < s.length) → s = decDigits n := by
  intro k
  induction k with
  | zero => intro s n hk _ hn _; exact absurd (List.eq_nil_of_length_eq_zero (by omega)) hn
  | succ k ih =>
    intro s n hk hd hn hz
    rcases List.eq_nil_or_concat s with rfl | ⟨y, b, rfl⟩
    · exact absurd rfl hn
    rw [List.concat_eq_append] at *
    rw [decFrom_app] at hd
    cases hm : decFrom 0 y with
    | none => rw [hm] at hd; cases hd
    | some m =>
      rw [hm] at hd
      simp only [Option.bind_some, decFrom] at hd
      cases hv : digitVal b with
      | none => rw [hv] at hd; cases hd
      | some d =>
        rw [hv] at hd
        simp only [Option.some.injEq] at hd
        obtain ⟨hd10, rfl⟩ := digit_is hv
        cases y with
        | nil =>
          simp only [decFrom, Option.some.injEq] at hm
          subst hm
          rw [decDigits, dif_pos (by omega)]
          rw [← hd, Nat.zero_mul, Nat.zero_add]
          rfl
        | cons a l =>
          have hy : a :: l = decDigits m := ih (a :: l) m (by simp at hk ⊢; omega) hm (by simp) (fun h => hz ⟨h.1, by simp⟩)
          have hm1 : 1 ≤ m := by
            rcases Nat.eq_zero_or_pos m with h0 | h0
            · subst h0
              rw [decDigits, dif_pos (by decide)] at hy
              simp only [List.cons.injEq] at hy
              exact absurd ⟨by rw [hy.1]; rfl, by simp⟩ hz
            · exact h0
          rw [hy, ← hd, decDigits.eq_def (m * 10 + d), dif_neg (by omega), show (m * 10 + d) / 10 = m by omega, show (m * 10 + d) % 10 = d by omega]
theorem dec_head : ∀ n : Nat, 10 ≤ n → (decDigits n).head? ≠ some 48 := by
  intro n
  induction n using Nat.strongRecOn with
  | _ n ih =>
    intro hn
    have hh : ∀ {l m : List UInt8}, l ≠ [] → (l ++ m).head? = l.head? := fun {l m} h => by
      cases l with
      | nil => exact absurd rfl h
      | cons a t => rfl
    rw [decDigits, dif_neg (by omega), hh (dec_ne _)]
    by_cases h : n / 10 < 10
    · rw [decDigits, dif_pos h]
      intro he
      have h1 := dig_val h
      have h2 : UInt8.ofNat (48 + n / 10) = 48 := Option.some.inj he
      rw [h2] at h1
      have : (48 : UInt8).toNat = 48 := rfl
      omega
    · exact ih (n / 10) (by omega) (by omega)
theorem whole_dec {n most : Nat} (hl : (decDigits n).length ≤ most) : wholeT most (decDigits n) = n := by
  unfold wholeT
  rw [if_neg, dec_from]
  rintro (h | h | ⟨h1, h2⟩)
  · exact dec_ne _ h
  · omega
  · by_cases h : n < 10
    · rw [decDigits, dif_pos h] at h2
      simp at h2
    · exact dec_head n (by omega) h1
theorem whole_is {most : Nat} {s : List UInt8} {n : Nat} (h : wholeT most s = n) : s = decDigits n ∧ s.length ≤ most := by
  unfold wholeT at h
  split at h
  · omega
  · rename_i hc
    have h1 : ¬ s = [] := fun e => hc (.inl e)
    have h2 : ¬ most < s.length := fun e => hc (.inr (.inl e))
    have h3 : ¬ (s.head? = some 48 ∧ 1 < s.length) := fun e => hc (.inr (.inr e))
    split at h
    · rename_i m hm
      obtain rfl : m = n := by omega
      exact ⟨dec_uniq _ s m (Nat.le_refl _) hm h1 h3, by omega⟩
    · omega
theorem whole_cases (most : Nat) (s : List UInt8) : wholeT most s = -1 ∨ ∃ n : Nat, wholeT most s = n := by
  unfold wholeT
  split
  · exact .inl rfl
  · split
    · rename_i m _; exact .inr ⟨m, rfl⟩
    · exact .inl rfl
theorem itoa_is {v : Int} {s : List UInt8} (h : itoa v = s) (h0 : 0 ≤ v) : s = decDigits v.toNat := by
  rw [← h, itoa, if_neg (by omega)]
end Go.Port
/- An address' text, step by step: the plain law. No program here. -/
set_option linter.unusedSimpArgs false
set_option linter.unusedVariables false
namespace Go.Port
open Go.Lib
/-- The ten digits. -/
def ten : List UInt8 := [48, 49, 50, 51, 52, 53, 54, 55, 56, 57]
theorem ten_at {n : Nat} (h : n < 10) : (ten.drop n).take 1 = decDigits n := by
  rw [decDigits, dif_pos h]
  have hh : n = 0 ∨ n = 1 ∨ n = 2 ∨ n = 3 ∨ n = 4 ∨ n = 5 ∨ n = 6 ∨ n = 7 ∨ n = 8 ∨ n = 9 := by omega
  rcases hh with rfl | rfl | rfl | rfl | rfl | rfl | rfl | rfl | rfl | rfl <;> decide
theorem dec_step {n : Nat} (h : 10 ≤ n) : decDigits n = decDigits (n / 10) ++ decDigits (n % 10) := by
  rw [decDigits.eq_def n, dif_neg (by omega), decDigits.eq_def (n % 10), dif_pos (by omega)]
/-- What is shown of an address when so many of its numbers are. -/
def showP (a : Nat) : Nat → List UInt8
  | 0 => []
  | j + 1 => showP a j ++ decDigits (quad a j) ++ (if j < 3 then [46] else [])
theorem showP_4 (a : Nat) : showP a 4 = addrT a := by
  unfold addrT quads
  rw [join_step, join_step, join_step, join_one]
  simp [showP]
theorem decLen_le {u : Nat} (k : Nat) : u < 10 ^ (k + 1) → (decDigits u).length ≤ k + 1 := by
  induction k generalizing u with
  | zero => intro h; rw [decDigits, dif_pos (by simpa using h)]; simp
  | succ k ih =>
    intro h
    rw [decDigits]
    split
    · simp
    · have h2 : u / 10 < 10 ^ (k + 1) := by
        rw [Nat.pow_succ] at h
        omega
      have := ih h2
      simp
      omega
theorem showP_len (a : Nat) : ∀ j, (showP a j).length ≤ 4 * j
  | 0 => Nat.le_refl _
  | j + 1 => by
    have h1 := showP_len a j
    have h2 := dec_len (u := quad a j) (Nat.lt_of_lt_of_le (quad_lt a j) (by decide))
    rw [showP, List.length_append, List.length_append]
    split <;> simp <;> omega
/-- A prefix's text. -/
def pxT (a n : Nat) : List UInt8 := if n = 0 then [97, 110, 121] else addrT a ++ [47] ++ decDigits n
theorem cutGo_next {c b : UInt8} {l cur : List UInt8} : cutGo c cur (b :: l) = if b = c then cur :: cutGo c [] l else cutGo c (cur ++ [b]) l := rfl
theorem take_more {s : List UInt8} {i j : Nat} {b : UInt8} (h : s[j]? = some b) (hij : i ≤ j) : (s.drop i).take (j + 1 - i) = (s.drop i).take (j - i) ++ [b] := by
  have h1 : j + 1 - i = (j - i) + 1 := by omega
  rw [h1, List.take_add_one, List.getElem?_drop, show i + (j - i) = j by omega, h]
  rfl
theorem drop_more {s : List UInt8} {j : Nat} {b : UInt8} (h : s[j]? = some b) : s.drop j = b :: s.drop (j + 1) := by
  obtain ⟨hj, rfl⟩ := List.getElem?_eq_some_iff.1 h
  exact List.drop_eq_getElem_cons hj
end Go.Port
/- An address read from any text: the plain law. No program here. -/
set_option linter.unusedSimpArgs false
set_option linter.unusedVariables false
namespace Go.Port
open Go.Lib
/-- A word is one of an address' four. -/
def byteW (x : List UInt8) : Prop := 0 ≤ wholeT 3 x ∧ wholeT 3 x ≤ 255
instance {x : List UInt8} : Decidable (byteW x) := by unfold byteW; infer_instance
/-- What words come to, behind what those before them came to; -1: nothing. -/
def readA : List (List UInt8) → Int → Int
  | [], a => a
  | x :: r, a => if byteW x then readA r (a * 256 + wholeT 3 x) else -1
/-- The address of a text; -1: there is none. -/
def addrR (s : List UInt8) : Int := if (cutT 46 s).length = 4 then readA (cutT 46 s) 0 else -1
theorem byteW_is {x : List UInt8} (h : byteW x) : ∃ n : Nat, n ≤ 255 ∧ wholeT 3 x = n ∧ x = decDigits n := by
  obtain ⟨h0, h1⟩ := h
  obtain ⟨n, hn⟩ : ∃ n : Nat, wholeT 3 x = n := ⟨(wholeT 3 x).toNat, by omega⟩
  exact ⟨n, by omega, hn, (whole_is hn).1⟩
theorem byteW_dec {n : Nat} (h : n ≤ 255) : byteW (decDigits n) := by
  have := whole_dec (n := n) (most := 3) (dec_len (by omega))
  exact ⟨by omega, by omega⟩
theorem byteW_no {x : List UInt8} (h : ¬ byteW x) {v : Int} (h0 : 0 ≤ v) (h1 : v ≤ 255) : ¬ decDigits v.toNat = x := fun e => h (e ▸ byteW_dec (by omega))
theorem readA_step {l : List (List UInt8)} {i : Nat} {x : List UInt8} {a : Int} (h : l[i]? = some x) : readA (l.drop i) a = if byteW x then readA (l.drop (i + 1)) (a * 256 + wholeT 3 x) else -1 := by
  obtain ⟨hi, rfl⟩ := List.getElem?_eq_some_iff.1 h
  rw [List.drop_eq_getElem_cons hi, readA]
theorem cutT_pos (c : UInt8) (s : List UInt8) : 0 < (cutT c s).length := by
  rw [cutT_count c _ s (Nat.le_refl _)]
  omega
theorem cutT_le (c : UInt8) (s : List UInt8) : (cutT c s).length ≤ s.length + 1 := by
  unfold cutT
  have : ∀ (l cur : List UInt8), (cutGo c cur l).length ≤ l.length + 1 := by
    intro l
    induction l with
    | nil => intro cur; simp [cutGo]
    | cons b r ih =>
      intro cur
      rw [cutGo_next]
      split
      · have := ih []; simp; omega
      · have := ih (cur ++ [b]); simp; omega
  exact this s []
/-- Each part is no longer than the text. -/
theorem cutT_part (c : UInt8) (s : List UInt8) : ∀ x ∈ cutT c s, x.length ≤ s.length := by
  unfold cutT
  have : ∀ (l cur : List UInt8), ∀ x ∈ cutGo c cur l, x.length ≤ cur.length + l.length := by
    intro l
    induction l with
    | nil => intro cur x hx; rw [cutGo] at hx; rw [List.mem_singleton.1 hx]; simp
    | cons b r ih =>
      intro cur x hx
      rw [cutGo_next] at hx
      split at hx
      · rcases List.mem_cons.1 hx with rfl | hx
        · simp
        · have := ih [] x hx; simp at this ⊢; omega
      · have := ih _ x hx; simp at this ⊢; omega
  intro x hx
  have := this s [] x hx
  simpa using this
theorem pow256 {j : Nat} (h : j < 4) {p : Int} (hp : p < 256 ^ j) : p < 16777216 := by
  have hh : j = 0 ∨ j = 1 ∨ j = 2 ∨ j = 3 := by omega
  rcases hh with rfl | rfl | rfl | rfl <;> omega
theorem pow256_step {j : Nat} (h : j < 4) {p q : Int} (hp : p < 256 ^ j) (hq : q ≤ 255) : p * 256 + q < 256 ^ (j + 1) := by
  have hh : j = 0 ∨ j = 1 ∨ j = 2 ∨ j = 3 := by omega
  rcases hh with rfl | rfl | rfl | rfl <;> omega
end Go.Port
/- Spans: the fewest of some that rise; the plain law. No program here. -/
namespace Go.Port
/-- A span: its lowest number, its highest. -/
abbrev Sp := Int × Int
def Sp.has (n : Int) (s : Sp) : Prop := s.1 ≤ n ∧ n ≤ s.2
def hasS (l : List Sp) (n : Int) : Prop := ∃ s ∈ l, s.1 ≤ n ∧ n ≤ s.2
/-- Spans that rise, and do not touch. -/
def Gap : List Sp → Prop
  | [] => True
  | [s] => s.1 ≤ s.2
  | s :: t :: r => s.1 ≤ s.2 ∧ s.2 + 1 < t.1 ∧ Gap (t :: r)
/-- They rise by their lowest numbers. -/
def Rise : List Sp → Prop
  | [] => True
  | [_] => True
  | s :: t :: r => s.1 ≤ t.1 ∧ Rise (t :: r)
/-- One more span, at the end. -/
def stpS (a b : Int) : List Sp → List Sp
  | [] => [(a, b)]
  | s :: r => if s.1 ≤ b + 1 then stpS a (max b s.2) r else (a, b) :: stpS s.1 s.2 r
/-- The fewest spans of some that rise. -/
def tidyL : List Sp → List Sp
  | [] => []
  | s :: r => stpS s.1 s.2 r
theorem Gap.tail {s : Sp} {l : List Sp} (h : Gap (s :: l)) : Gap l := by
  cases l with
  | nil => trivial
  | cons t r => exact h.2.2
theorem Gap.head {s : Sp} {l : List Sp} (h : Gap (s :: l)) : s.1 ≤ s.2 := by
  cases l with
  | nil => exact h
  | cons t r => exact h.1
theorem Gap.cons {s : Sp} {l : List Sp} (h1 : s.1 ≤ s.2) (h2 : ∀ t ∈ l.head?, s.2 + 1 < t.1) (h : Gap l) : Gap (s :: l) := by
  cases l with
  | nil => exact h1
  | cons t r => exact ⟨h1, h2 t rfl, h⟩
theorem Gap.above {s : Sp} {l : List Sp} (h : Gap (s :: l)) : ∀ t ∈ l, s.2 + 1 < t.1 := by
  induction l generalizing s with
  | nil => intro t ht; cases ht
  | cons u r ih =>
    intro t ht
    rcases List.mem_cons.1 ht with rfl | ht
    · exact h.2.1
    · have h1 := ih h.tail t ht
      have h2 := h.tail.head
      have h3 := h.2.1
      omega
theorem stpS_head (a b : Int) (l : List Sp) : ∃ b' r, stpS a b l = (a, b') :: r ∧ b ≤ b' := by
  induction l generalizing a b with
  | nil => exact ⟨b, [], rfl, Int.le_refl _⟩
  | cons s r ih =>
    unfold stpS
    split
    · obtain ⟨b', r', h, hb⟩ := ih a (max b s.2)
      exact ⟨b', r', h, by omega⟩
    · exact ⟨b, _, rfl, Int.le_refl _⟩
theorem Rise.tail {s : Sp} {l : List Sp} (h : Rise (s :: l)) : Rise l := by
  cases l with
  | nil => trivial
  | cons t r => exact h.2
theorem Rise.skip {s t : Sp} {l : List Sp} (h : Rise (s :: t :: l)) : Rise (s :: l) := by
  cases l with
  | nil => trivial
  | cons u r => exact ⟨Int.le_trans h.1 h.2.1, h.2.2⟩
theorem Rise.low {s : Sp} {l : List Sp} (h : Rise (s :: l)) : ∀ t ∈ l, s.1 ≤ t.1 := by
  induction l generalizing s with
  | nil => intro t ht; cases ht
  | cons u r ih =>
    intro t ht
    rcases List.mem_cons.1 ht with rfl | ht
    · exact h.1
    · exact Int.le_trans h.1 (ih h.tail t ht)
theorem stpS_gap (a b : Int) (l : List Sp) (hab : a ≤ b) (hv : ∀ s ∈ l, s.1 ≤ s.2) (hr : Rise l) : Gap (stpS a b l) := by
  induction l generalizing a b with
  | nil => exact hab
  | cons s r ih =>
    unfold stpS
    split
    · exact ih a (max b s.2) (by omega) (fun t ht => hv t (List.mem_cons_of_mem _ ht)) hr.tail
    · rename_i h
      refine Gap.cons hab ?_ (ih s.1 s.2 (hv s (List.mem_cons_self ..)) (fun t ht => hv t (List.mem_cons_of_mem _ ht)) hr.tail)
      intro t ht
      obtain ⟨b', r', he, _⟩ := stpS_head s.1 s.2 r
      rw [he] at ht
      simp only [List.head?_cons, Option.mem_def, Option.some.injEq] at ht
      subst ht
      show b + 1 < s.1
      omega
theorem tidy_gap {l : List Sp} (hv : ∀ s ∈ l, s.1 ≤ s.2) (hr : Rise l) : Gap (tidyL l) := by
  cases l with
  | nil => trivial
  | cons s r => exact stpS_gap _ _ _ (hv s (List.mem_cons_self ..)) (fun t ht => hv t (List.mem_cons_of_mem _ ht)) hr.tail
theorem hasS_cons {s : Sp} {l : List Sp} {n : Int} : hasS (s :: l) n ↔ (s.1 ≤ n ∧ n ≤ s.2) ∨ hasS l n := by
  unfold hasS
  constructor
  · rintro ⟨t, ht, h⟩
    rcases List.mem_cons.1 ht with rfl | ht
    · exact .inl h
    · exact .inr ⟨t, ht, h⟩
  · rintro (h | ⟨t, ht, h⟩)
    · exact ⟨s, List.mem_cons_self .., h⟩
    · exact ⟨t, List.mem_cons_of_mem _ ht, h⟩
theorem stpS_has (a b : Int) (l : List Sp) (hab : a ≤ b) (hv : ∀ s ∈ l, s.1 ≤ s.2) (hr : Rise ((a, b) :: l)) (n : Int) : hasS (stpS a b l) n ↔ (a ≤ n ∧ n ≤ b) ∨ hasS l n := by
  induction l generalizing a b with
  | nil => rw [stpS, hasS_cons]
  | cons s r ih =>
    have hs := hv s (List.mem_cons_self ..)
    have hle : a ≤ s.1 := hr.1
    unfold stpS
    split
    · rename_i h
      rw [ih a (max b s.2) (by omega) (fun t ht => hv t (List.mem_cons_of_mem _ ht)) (by
        have h1 := hr.skip
        cases r with
        | nil => trivial
        | cons u r' => exact ⟨h1.1, h1.2⟩), hasS_cons]
      constructor
      · rintro (h1 | h1)
        · by_cases hb : n ≤ b
          · exact .inl ⟨h1.1, hb⟩
          · exact .inr (.inl (by omega))
        · exact .inr (.inr h1)
      · rintro (h1 | h1 | h1)
        · exact .inl (by omega)
        · exact .inl (by omega)
        · exact .inr h1
    · rw [hasS_cons, ih s.1 s.2 hs (fun t ht => hv t (List.mem_cons_of_mem _ ht)) hr.tail, hasS_cons]
theorem tidy_has {l : List Sp} (hv : ∀ s ∈ l, s.1 ≤ s.2) (hr : Rise l) (n : Int) : hasS (tidyL l) n ↔ hasS l n := by
  cases l with
  | nil => exact Iff.rfl
  | cons s r => rw [tidyL, stpS_has _ _ _ (hv s (List.mem_cons_self ..)) (fun t ht => hv t (List.mem_cons_of_mem _ ht)) hr, hasS_cons]
theorem stpS_len (a b : Int) (l : List Sp) : (stpS a b l).length ≤ l.length + 1 := by
  induction l generalizing a b with
  | nil => exact Nat.le_refl _
  | cons s r ih =>
    unfold stpS
    split
    · exact Nat.le_succ_of_le (ih ..)
    · exact Nat.succ_le_succ (ih ..)
theorem tidy_len (l : List Sp) : (tidyL l).length ≤ l.length := by
  cases l with
  | nil => exact Nat.le_refl _
  | cons s r => exact stpS_len ..
theorem stpS_same (a b : Int) (l : List Sp) (h : Gap ((a, b) :: l)) : stpS a b l = (a, b) :: l := by
  induction l generalizing a b with
  | nil => rfl
  | cons s r ih =>
    have h1 : b + 1 < s.1 := h.2.1
    unfold stpS
    rw [if_neg (by omega), ih s.1 s.2 h.tail]
theorem tidy_same {l : List Sp} (h : Gap l) : tidyL l = l := by
  cases l with
  | nil => rfl
  | cons s r => exact stpS_same _ _ _ h
/-- Spans that do not touch are told by their numbers. -/
theorem gap_one : ∀ {l m : List Sp}, Gap l → Gap m → (∀ n, hasS l n ↔ hasS m n) → l = m
  | [], [], _, _, _ => rfl
  | [], t :: m, _, hm, h => by
    have := (h t.1).2 (hasS_cons.2 (.inl ⟨Int.le_refl _, hm.head⟩))
    obtain ⟨_, hx, _⟩ := this
    cases hx
  | s :: l, [], hl, _, h => by
    have := (h s.1).1 (hasS_cons.2 (.inl ⟨Int.le_refl _, hl.head⟩))
    obtain ⟨_, hx, _⟩ := this
    cases hx
  | s :: l, t :: m, hl, hm, h => by
    have hAs := hl.above
    have at_ := hm.above
    have h1 := hl.head
    have h2 := hm.head
    have low : ∀ {u : Sp} {k : List Sp}, Gap (u :: k) → ∀ n, hasS (u :: k) n → u.1 ≤ n := fun {u k} hg n hn => by
      rcases hasS_cons.1 hn with hn | ⟨x, hx, hn⟩
      · exact hn.1
      · have := hg.above x hx; have := hg.head; omega
    have e1 : s.1 = t.1 := by
      have a1 := low hm s.1 ((h s.1).1 (hasS_cons.2 (.inl ⟨Int.le_refl _, h1⟩)))
      have a2 := low hl t.1 ((h t.1).2 (hasS_cons.2 (.inl ⟨Int.le_refl _, h2⟩)))
      omega
    have gap : ∀ {u : Sp} {k : List Sp}, Gap (u :: k) → ¬ hasS (u :: k) (u.2 + 1) := fun {u k} hg hn => by
      rcases hasS_cons.1 hn with hn | ⟨x, hx, hn⟩
      · omega
      · have := hg.above x hx; omega
    have e2 : s.2 = t.2 := by
      by_cases hlt : s.2 < t.2
      · exact absurd ((h (s.2 + 1)).2 (hasS_cons.2 (.inl ⟨by omega, by omega⟩))) (gap hl)
      · by_cases hgt : t.2 < s.2
        · exact absurd ((h (t.2 + 1)).1 (hasS_cons.2 (.inl ⟨by omega, by omega⟩))) (gap hm)
        · omega
    have e : s = t := Prod.ext e1 e2
    subst e
    congr 1
    refine gap_one hl.tail hm.tail fun n => ?_
    have hn := h n
    rw [hasS_cons, hasS_cons] at hn
    constructor
    · intro hx
      rcases hn.1 (.inr hx) with hy | hy
      · obtain ⟨x, hx, hx2⟩ := hx
        have := hAs x hx
        omega
      · exact hy
    · intro hx
      rcases hn.2 (.inr hx) with hy | hy
      · obtain ⟨x, hx, hx2⟩ := hx
        have := at_ x hx
        omega
      · exact hy
/-- A list that rises, of the elements of one that does not touch, is that one. -/
theorem rise_gap : ∀ {l m : List Sp}, Gap l → Rise m → m.Perm l → m = l := by
  intro l m hl hm hp
  have hv : ∀ s ∈ m, s.1 ≤ s.2 := fun s hs => by
    have hs' := hp.mem_iff.1 hs
    clear hp hs
    induction l with
    | nil => cases hs'
    | cons t r ih =>
      rcases List.mem_cons.1 hs' with rfl | hs'
      · exact hl.head
      · exact ih hl.tail hs'
  induction l generalizing m with
  | nil => exact hp.eq_nil
  | cons s l ih =>
    cases m with
    | nil => exact (hp.symm.eq_nil).symm
    | cons t m =>
      have e : t = s := by
        rcases List.mem_cons.1 (hp.mem_iff.1 (List.mem_cons_self ..)) with rfl | ht
        · rfl
        · exfalso
          have h1 := hl.above t ht
          rcases List.mem_cons.1 (hp.symm.mem_iff.1 (List.mem_cons_self (a := s) (l := l))) with rfl | hs
          · have := hl.head; omega
          · have h2 := hm.low s hs
            have := hl.head
            omega
      subst e
      have hp' := (List.perm_cons t).1 hp
      rw [ih hl.tail hm.tail hp' (fun x hx => hv x (List.mem_cons_of_mem _ hx))]
/-- A span that may not be. -/
def spBad (s : Sp) : Prop := s.1 < 0 ∨ 65535 < s.1 ∨ s.2 < 0 ∨ 65535 < s.2 ∨ s.2 < s.1
instance {s : Sp} : Decidable (spBad s) := by unfold spBad; infer_instance
/-- What is wrong with spans. -/
def spE (l : List Sp) : Int := if 200 < l.length then 4 else if l.any (fun s => decide (spBad s)) = true then 1 else 0
theorem spE_0 {l : List Sp} : spE l = 0 ↔ l.length ≤ 200 ∧ ∀ s ∈ l, ¬ spBad s := by
  unfold spE
  by_cases h1 : 200 < l.length
  · rw [if_pos h1]; constructor
    · intro h; cases h
    · rintro ⟨h, _⟩; omega
  · rw [if_neg h1]
    by_cases h2 : l.any (fun s => decide (spBad s)) = true
    · rw [if_pos h2]; constructor
      · intro h; cases h
      · rintro ⟨_, h⟩
        obtain ⟨s, hs, hb⟩ := List.any_eq_true.1 h2
        exact absurd (of_decide_eq_true hb) (h s hs)
    · rw [if_neg h2]
      refine ⟨fun _ => ⟨by omega, fun s hs hb => h2 (List.any_eq_true.2 ⟨s, hs, decide_eq_true hb⟩)⟩, fun _ => rfl⟩
/-- The fewest spans of some. -/
def TidyOf (l out : List Sp) : Prop := Gap out ∧ (∀ n, hasS out n ↔ hasS l n) ∧ out.length ≤ l.length
theorem TidyOf.one {l a b : List Sp} (ha : TidyOf l a) (hb : TidyOf l b) : a = b := gap_one ha.1 hb.1 fun n => (ha.2.1 n).trans (hb.2.1 n).symm
theorem TidyOf.again {l a b : List Sp} (ha : TidyOf l a) (hb : TidyOf a b) : b = a := gap_one hb.1 ha.1 hb.2.1
theorem Gap.all : ∀ {l : List Sp}, Gap l → ∀ s ∈ l, s.1 ≤ s.2
  | [], _, s, hs => by cases hs
  | t :: r, h, s, hs => by
    rcases List.mem_cons.1 hs with rfl | hs
    · exact h.head
    · exact h.tail.all s hs
theorem TidyOf.ok {l a : List Sp} (h : TidyOf l a) (hl : spE l = 0) : spE a = 0 := by
  obtain ⟨h1, h2⟩ := spE_0.1 hl
  have inb : ∀ n, hasS a n → 0 ≤ n ∧ n ≤ 65535 := fun n hn => by
    obtain ⟨s, hs, hb⟩ := (h.2.1 n).1 hn
    have := h2 s hs
    unfold spBad at this
    omega
  refine spE_0.2 ⟨by have := h.2.2; omega, fun s hs hb => ?_⟩
  have hle := h.1.all s hs
  have a1 := inb s.1 ⟨s, hs, Int.le_refl _, hle⟩
  have a2 := inb s.2 ⟨s, hs, hle, Int.le_refl _⟩
  unfold spBad at hb
  omega
theorem tidy_of {l d : List Sp} (hv : ∀ s ∈ l, s.1 ≤ s.2) (hp : d.Perm l) (hr : Rise d) : TidyOf l (tidyL d) := by
  have hvd : ∀ s ∈ d, s.1 ≤ s.2 := fun s hs => hv s (hp.mem_iff.1 hs)
  refine ⟨tidy_gap hvd hr, fun n => ?_, by rw [← hp.length_eq]; exact tidy_len d⟩
  rw [tidy_has hvd hr]
  unfold hasS
  constructor
  · rintro ⟨s, hs, h⟩; exact ⟨s, hp.mem_iff.1 hs, h⟩
  · rintro ⟨s, hs, h⟩; exact ⟨s, hp.mem_iff.2 hs, h⟩
/-- How many numbers there are in spans. -/
def manyS : List Sp → Int
  | [] => 0
  | s :: r => s.2 - s.1 + 1 + manyS r
theorem manyS_app : ∀ (l m : List Sp), manyS (l ++ m) = manyS l + manyS m
  | [], m => by simp [manyS]
  | s :: l, m => by rw [List.cons_append, manyS, manyS, manyS_app l m]; omega
end Go.Port
/- Spans as sets: what both have, what is left, how the document puts one more in. The plain law. No program here. -/
set_option linter.unusedSimpArgs false
set_option linter.unusedVariables false
namespace Go.Port
theorem hasS_nil (n : Int) : hasS [] n ↔ False := iff_of_false (fun ⟨_, h, _⟩ => by cases h) id
theorem hasS_app {l m : List Sp} {n : Int} : hasS (l ++ m) n ↔ hasS l n ∨ hasS m n := by
  unfold hasS
  constructor
  · rintro ⟨s, hs, h⟩
    rcases List.mem_append.1 hs with h1 | h1
    · exact .inl ⟨s, h1, h⟩
    · exact .inr ⟨s, h1, h⟩
  · rintro (⟨s, hs, h⟩ | ⟨s, hs, h⟩)
    · exact ⟨s, List.mem_append_left _ hs, h⟩
    · exact ⟨s, List.mem_append_right _ hs, h⟩
theorem hasS_one {a b n : Int} : hasS [(a, b)] n ↔ a ≤ n ∧ n ≤ b := by
  rw [hasS_cons, hasS_nil, or_false]
/-- All may be. -/
def OkS (l : List Sp) : Prop := ∀ s ∈ l, ¬ spBad s
theorem OkS.has {l : List Sp} (h : OkS l) {n : Int} (hn : hasS l n) : 0 ≤ n ∧ n ≤ 65535 := by
  obtain ⟨s, hs, hb⟩ := hn
  have := h s hs
  unfold spBad at this
  omega
theorem OkS.of {l : List Sp} (hg : Gap l) (h : ∀ n, hasS l n → 0 ≤ n ∧ n ≤ 65535) : OkS l := fun s hs hb => by
  have hle := hg.all s hs
  have a1 := h s.1 ⟨s, hs, Int.le_refl _, hle⟩
  have a2 := h s.2 ⟨s, hs, hle, Int.le_refl _⟩
  unfold spBad at hb
  omega
theorem TidyOf.okS {l a : List Sp} (h : TidyOf l a) (hl : OkS l) : OkS a := .of h.1 fun n hn => hl.has ((h.2.1 n).1 hn)
theorem OkS.app {l m : List Sp} (h1 : OkS l) (h2 : OkS m) : OkS (l ++ m) := fun s hs => (List.mem_append.1 hs).elim (h1 s) (h2 s)
theorem OkS.nil : OkS [] := fun s h => by cases h
/-- What one has in common with some. -/
def cross1 (s : Sp) : List Sp → List Sp
  | [] => []
  | t :: b => if max s.1 t.1 ≤ min s.2 t.2 then (max s.1 t.1, min s.2 t.2) :: cross1 s b else cross1 s b
def crossL : List Sp → List Sp → List Sp
  | [], _ => []
  | s :: a, b => cross1 s b ++ crossL a b
theorem cross1_has {s : Sp} {n : Int} : ∀ {b : List Sp}, hasS (cross1 s b) n ↔ (s.1 ≤ n ∧ n ≤ s.2) ∧ hasS b n
  | [] => by rw [cross1, hasS_nil]; simp
  | t :: b => by
    rw [cross1, hasS_cons (s := t), ← and_or_left_S, ← cross1_has (b := b)]
    split
    · rw [hasS_cons]
      dsimp only
      constructor
      · rintro (h | h)
        · exact .inl (by omega)
        · exact .inr h
      · rintro (h | h)
        · exact .inl (by omega)
        · exact .inr h
    · constructor
      · exact .inr
      · rintro (h | h)
        · omega
        · exact h
where and_or_left_S {p q r : Prop} : (p ∧ q) ∨ (p ∧ r) ↔ p ∧ (q ∨ r) := ⟨fun h => h.elim (fun x => ⟨x.1, .inl x.2⟩) fun x => ⟨x.1, .inr x.2⟩, fun ⟨x, y⟩ => y.elim (fun z => .inl ⟨x, z⟩) fun z => .inr ⟨x, z⟩⟩
theorem crossL_has {n : Int} : ∀ {a b : List Sp}, hasS (crossL a b) n ↔ hasS a n ∧ hasS b n
  | [], b => by rw [crossL, hasS_nil]; simp
  | s :: a, b => by
    rw [crossL, hasS_app, cross1_has, crossL_has, hasS_cons]
    constructor
    · rintro (⟨h1, h2⟩ | ⟨h1, h2⟩)
      · exact ⟨.inl h1, h2⟩
      · exact ⟨.inr h1, h2⟩
    · rintro ⟨h1 | h1, h2⟩
      · exact .inl ⟨h1, h2⟩
      · exact .inr ⟨h1, h2⟩
theorem cross1_ok {s : Sp} (hs : ¬ spBad s) : ∀ {b : List Sp}, OkS b → OkS (cross1 s b)
  | [], _ => OkS.nil
  | t :: b, h => by
    have h1 := cross1_ok hs (b := b) fun x hx => h x (List.mem_cons_of_mem _ hx)
    rw [cross1]
    split
    · intro x hx
      rcases List.mem_cons.1 hx with rfl | hx
      · have ht := h t (List.mem_cons_self ..)
        unfold spBad at hs ht ⊢
        dsimp only
        omega
      · exact h1 x hx
    · exact h1
theorem crossL_ok : ∀ {a b : List Sp}, OkS a → OkS b → OkS (crossL a b)
  | [], _, _, _ => OkS.nil
  | s :: a, b, ha, hb => by
    rw [crossL]
    exact (cross1_ok (ha s (List.mem_cons_self ..)) hb).app (crossL_ok (fun x hx => ha x (List.mem_cons_of_mem _ hx)) hb)
theorem cross1_len (s : Sp) : ∀ b : List Sp, (cross1 s b).length ≤ b.length
  | [] => Nat.le_refl _
  | t :: b => by
    have := cross1_len s b
    rw [cross1]
    split <;> simp only [List.length_cons] <;> omega
theorem crossL_len (b : List Sp) : ∀ a : List Sp, (crossL a b).length ≤ a.length * b.length
  | [] => by simp [crossL]
  | s :: a => by
    have h1 := cross1_len s b
    have h2 := crossL_len b a
    rw [crossL, List.length_append, List.length_cons, Nat.succ_mul]
    omega
/-- What is left from low to high. -/
def restL : List Sp → Int → Int → List Sp
  | [], low, high => if low ≤ high then [(low, high)] else []
  | s :: l, low, high => (if low < s.1 then [(low, s.1 - 1)] else []) ++ restL l (s.2 + 1) high
theorem restL_len : ∀ {l : List Sp} {low high : Int}, (restL l low high).length ≤ l.length + 1
  | [], low, high => by rw [restL]; split <;> simp
  | s :: l, low, high => by
    have := restL_len (l := l) (low := s.2 + 1) (high := high)
    rw [restL, List.length_append, List.length_cons]
    split <;> simp <;> omega
theorem restL_low : ∀ {l : List Sp} {low high : Int}, Gap l → (∀ s ∈ l, low ≤ s.1) → ∀ t ∈ restL l low high, low ≤ t.1
  | [], low, high, _, _, t, ht => by
    rw [restL] at ht
    split at ht
    · rw [List.mem_singleton.1 ht]; exact Int.le_refl _
    · cases ht
  | s :: l, low, high, hg, hl, t, ht => by
    rw [restL] at ht
    have h1 := hl s (List.mem_cons_self ..)
    have h2 := hg.head
    rcases List.mem_append.1 ht with ht | ht
    · split at ht
      · rw [List.mem_singleton.1 ht]; exact Int.le_refl _
      · cases ht
    · have := restL_low (low := s.2 + 1) hg.tail (fun x hx => by have := hg.above x hx; omega) t ht
      omega
theorem restL_gap : ∀ {l : List Sp} {low high : Int}, Gap l → (∀ s ∈ l, low ≤ s.1) → Gap (restL l low high)
  | [], low, high, _, _ => by
    rw [restL]
    split
    · rename_i h; exact h
    · trivial
  | s :: l, low, high, hg, hl => by
    have h2 := hg.head
    have ih := restL_gap (low := s.2 + 1) (high := high) hg.tail (fun x hx => by have := hg.above x hx; omega)
    have hlow := restL_low (low := s.2 + 1) (high := high) hg.tail (fun x hx => by have := hg.above x hx; omega)
    rw [restL]
    split
    · refine Gap.cons ?_ (fun t ht => ?_) ih
      · dsimp only; omega
      · have := hlow t (List.mem_of_mem_head? ht)
        dsimp only
        omega
    · exact ih
theorem restL_has {n : Int} : ∀ {l : List Sp} {low high : Int}, Gap l → (∀ s ∈ l, low ≤ s.1 ∧ s.2 ≤ high) → (hasS (restL l low high) n ↔ (low ≤ n ∧ n ≤ high) ∧ ¬ hasS l n)
  | [], low, high, _, _ => by
    rw [restL, hasS_nil]
    split
    · rw [hasS_one]; simp
    · rw [hasS_nil]
      constructor
      · exact fun h => h.elim
      · omega
  | s :: l, low, high, hg, hl => by
    have h1 := hl s (List.mem_cons_self ..)
    have h2 := hg.head
    have ih := restL_has (n := n) (low := s.2 + 1) (high := high) hg.tail (fun x hx => by have := hg.above x hx; have := (hl x (List.mem_cons_of_mem _ hx)).2; omega)
    have habove : hasS l n → s.2 + 1 < n := fun ⟨t, ht, hb⟩ => by have := hg.above t ht; omega
    rw [restL, hasS_app, ih, hasS_cons]
    split
    · rw [hasS_one]
      constructor
      · rintro (h | ⟨h, h3⟩)
        · refine ⟨by omega, ?_⟩
          rintro (h3 | h3)
          · omega
          · have := habove h3; omega
        · refine ⟨by omega, ?_⟩
          rintro (h4 | h4)
          · omega
          · exact h3 h4
      · rintro ⟨h, h3⟩
        by_cases h4 : n < s.1
        · exact .inl (by omega)
        · refine .inr ⟨?_, fun h5 => h3 (.inr h5)⟩
          have : ¬ (s.1 ≤ n ∧ n ≤ s.2) := fun h5 => h3 (.inl h5)
          omega
    · rw [hasS_nil, false_or]
      constructor
      · rintro ⟨h, h3⟩
        refine ⟨by omega, ?_⟩
        rintro (h4 | h4)
        · omega
        · exact h3 h4
      · rintro ⟨h, h3⟩
        refine ⟨?_, fun h5 => h3 (.inr h5)⟩
        have : ¬ (s.1 ≤ n ∧ n ≤ s.2) := fun h5 => h3 (.inl h5)
        omega
/-- How the document puts one more in. -/
def insR : List Sp → Int → Int → Bool → List Sp
  | [], a, b, done => if done then [] else [(a, b)]
  | s :: r, a, b, done => if s.2 + 1 < a then s :: insR r a b done else if b + 1 < s.1 then (if done then s :: insR r a b true else (a, b) :: s :: insR r a b true) else insR r (min a s.1) (max b s.2) done
theorem insR_done : ∀ {l : List Sp} {a b : Int}, Gap l → a ≤ b → (∀ s ∈ l, b + 1 < s.1) → insR l a b true = l
  | [], _, _, _, _, _ => rfl
  | s :: r, a, b, hg, hab, h => by
    have h1 := h s (List.mem_cons_self ..)
    have h2 := hg.head
    rw [insR, if_neg (by omega), if_pos h1, if_pos rfl, insR_done hg.tail hab fun x hx => h x (List.mem_cons_of_mem _ hx)]
theorem insR_low : ∀ {l : List Sp} {a b x : Int}, Gap l → a ≤ b → x < a → (∀ s ∈ l, x < s.1) → ∀ t ∈ insR l a b false, x < t.1
  | [], a, b, x, _, _, hx, _, t, ht => by
    rw [insR] at ht
    rw [List.mem_singleton.1 ht]; exact hx
  | s :: r, a, b, x, hg, hab, hx, h, t, ht => by
    have h1 := h s (List.mem_cons_self ..)
    have h2 := hg.head
    have h3 : ∀ s ∈ r, x < s.1 := fun y hy => h y (List.mem_cons_of_mem _ hy)
    rw [insR] at ht
    split at ht
    · rcases List.mem_cons.1 ht with rfl | ht
      · exact h1
      · exact insR_low hg.tail hab hx h3 t ht
    · split at ht
      · rename_i h4 h5
        rw [if_neg (by decide), insR_done hg.tail hab (fun y hy => by have := hg.above y hy; omega)] at ht
        rcases List.mem_cons.1 ht with rfl | ht
        · exact hx
        · exact h t ht
      · exact insR_low hg.tail (by omega) (by omega) h3 t ht
theorem insR_gap : ∀ {l : List Sp} {a b : Int}, Gap l → a ≤ b → Gap (insR l a b false)
  | [], a, b, _, hab => hab
  | s :: r, a, b, hg, hab => by
    have h2 := hg.head
    rw [insR]
    split
    · rename_i h1
      refine Gap.cons h2 (fun t ht => insR_low hg.tail hab h1 (fun y hy => hg.above y hy) t (List.mem_of_mem_head? ht)) (insR_gap hg.tail hab)
    · split
      · rename_i h4 h5
        rw [if_neg (by decide), insR_done hg.tail hab (fun y hy => by have := hg.above y hy; omega)]
        exact ⟨hab, h5, hg⟩
      · exact insR_gap hg.tail (by omega)
theorem insR_has {n : Int} : ∀ {l : List Sp} {a b : Int}, Gap l → a ≤ b → (hasS (insR l a b false) n ↔ (a ≤ n ∧ n ≤ b) ∨ hasS l n)
  | [], a, b, _, hab => by
    rw [insR, if_neg (by decide), hasS_one, hasS_nil, or_false]
  | s :: r, a, b, hg, hab => by
    have h2 := hg.head
    rw [insR]
    split
    · rw [hasS_cons, insR_has hg.tail hab, hasS_cons]
      constructor
      · rintro (h | h | h)
        · exact .inr (.inl h)
        · exact .inl h
        · exact .inr (.inr h)
      · rintro (h | h | h)
        · exact .inr (.inl h)
        · exact .inl h
        · exact .inr (.inr h)
    · split
      · rename_i h4 h5
        rw [if_neg (by decide), insR_done hg.tail hab (fun y hy => by have := hg.above y hy; omega), hasS_cons]
      · rw [insR_has hg.tail (by omega), hasS_cons]
        constructor
        · rintro (h | h)
          · by_cases h6 : a ≤ n ∧ n ≤ b
            · exact .inl h6
            · exact .inr (.inl (by omega))
          · exact .inr (.inr h)
        · rintro (h | h | h)
          · exact .inl (by omega)
          · exact .inl (by omega)
          · exact .inr h
theorem insR_len : ∀ {l : List Sp} {a b : Int} {d : Bool}, (insR l a b d).length ≤ l.length + 1
  | [], a, b, d => by rw [insR]; split <;> simp
  | s :: r, a, b, d => by
    rw [insR]
    split
    · have := insR_len (l := r) (a := a) (b := b) (d := d)
      simp only [List.length_cons]; omega
    · split
      · split
        · have := insR_len (l := r) (a := a) (b := b) (d := true)
          simp only [List.length_cons]; omega
        · rename_i h1 h2 h3
          have : (insR r a b true).length ≤ r.length := insR_lenT
          simp only [List.length_cons]; omega
      · have := insR_len (l := r) (a := min a s.1) (b := max b s.2) (d := d)
        simp only [List.length_cons]; omega
where insR_lenT : ∀ {l : List Sp} {a b : Int}, (insR l a b true).length ≤ l.length
  | [], a, b => by rw [insR]; simp
  | s :: r, a, b => by
    rw [insR]
    have h1 := insR_lenT (l := r) (a := a) (b := b)
    have h2 := insR_lenT (l := r) (a := min a s.1) (b := max b s.2)
    split
    · simp only [List.length_cons]; omega
    · split
      · simp only [if_true, List.length_cons]; omega
      · simp only [List.length_cons]; omega
/-- The document's fewest spans. -/
def normR (l : List Sp) : List Sp := l.foldl (fun o s => insR o s.1 s.2 false) []
theorem normR_gap {l : List Sp} (hv : ∀ s ∈ l, s.1 ≤ s.2) : ∀ {o : List Sp}, Gap o → Gap (l.foldl (fun o s => insR o s.1 s.2 false) o) ∧ ∀ n, hasS (l.foldl (fun o s => insR o s.1 s.2 false) o) n ↔ hasS o n ∨ hasS l n := by
  induction l with
  | nil => intro o h; exact ⟨h, fun n => by rw [hasS_nil, or_false]; rfl⟩
  | cons s r ih =>
    intro o h
    have hs := hv s (List.mem_cons_self ..)
    obtain ⟨h1, h2⟩ := ih (fun x hx => hv x (List.mem_cons_of_mem _ hx)) (insR_gap (a := s.1) (b := s.2) h hs)
    refine ⟨h1, fun n => ?_⟩
    rw [List.foldl_cons, h2, insR_has h hs, hasS_cons]
    constructor
    · rintro ((h | h) | h)
      · exact .inr (.inl h)
      · exact .inl h
      · exact .inr (.inr h)
    · rintro (h | h | h)
      · exact .inl (.inr h)
      · exact .inl (.inl h)
      · exact .inr h
/-- Up to where nothing changes. -/
def edge1 (s : Sp) (fr to : Int) : Int :=
  let t1 := if fr < s.1 ∧ s.1 - 1 < to then s.1 - 1 else to
  if fr ≤ s.2 ∧ s.2 < t1 then s.2 else t1
def edges (l : List Sp) (fr to : Int) : Int := l.foldl (fun t s => edge1 s fr t) to
theorem edge1_le {s : Sp} {fr to : Int} (h : fr ≤ to) : fr ≤ edge1 s fr to ∧ edge1 s fr to ≤ to ∧ (fr < s.1 → edge1 s fr to ≤ s.1 - 1) ∧ (fr ≤ s.2 → edge1 s fr to ≤ s.2) := by
  unfold edge1
  dsimp only
  by_cases h1 : fr < s.1 ∧ s.1 - 1 < to
  · rw [if_pos h1]
    by_cases h2 : fr ≤ s.2 ∧ s.2 < s.1 - 1
    · rw [if_pos h2]; omega
    · rw [if_neg h2]; omega
  · rw [if_neg h1]
    by_cases h2 : fr ≤ s.2 ∧ s.2 < to
    · rw [if_pos h2]; omega
    · rw [if_neg h2]; omega
theorem edges_le {l : List Sp} {fr : Int} : ∀ {to : Int}, fr ≤ to → fr ≤ edges l fr to ∧ edges l fr to ≤ to ∧ ∀ s ∈ l, (fr < s.1 → edges l fr to ≤ s.1 - 1) ∧ (fr ≤ s.2 → edges l fr to ≤ s.2) := by
  induction l with
  | nil => intro to h; exact ⟨h, Int.le_refl _, fun s hs => by cases hs⟩
  | cons s r ih =>
    intro to h
    obtain ⟨a1, a2, a3, a4⟩ := edge1_le (s := s) h
    obtain ⟨b1, b2, b3⟩ := ih a1
    refine ⟨b1, ?_, fun x hx => ?_⟩
    · show edges r fr (edge1 s fr to) ≤ to; omega
    · show (_ → edges r fr (edge1 s fr to) ≤ _) ∧ (_ → edges r fr (edge1 s fr to) ≤ _)
      rcases List.mem_cons.1 hx with rfl | hx
      · exact ⟨fun h => by have := a3 h; omega, fun h => by have := a4 h; omega⟩
      · exact b3 x hx
theorem edges_has {l : List Sp} {fr to x n : Int} (hx : x ≤ edges l fr to) (h : fr ≤ to) (hn : fr ≤ n ∧ n ≤ x) : hasS l n ↔ hasS l fr := by
  obtain ⟨h1, h2, h3⟩ := edges_le (l := l) h
  constructor
  · rintro ⟨s, hs, hb⟩
    have := h3 s hs
    exact ⟨s, hs, by omega⟩
  · rintro ⟨s, hs, hb⟩
    have := h3 s hs
    exact ⟨s, hs, by omega⟩
end Go.Port
namespace Go.Port
theorem cross1_app (s : Sp) : ∀ (b c : List Sp), cross1 s (b ++ c) = cross1 s b ++ cross1 s c
  | [], c => rfl
  | t :: b, c => by
    rw [List.cons_append, cross1, cross1, cross1_app s b c]
    split <;> rfl
theorem crossL_app (b : List Sp) : ∀ (a c : List Sp), crossL (a ++ c) b = crossL a b ++ crossL c b
  | [], c => rfl
  | s :: a, c => by rw [List.cons_append, crossL, crossL, crossL_app b a c, List.append_assoc]
theorem cross1_step {s t : Sp} {b : List Sp} {j : Nat} (h : b[j]? = some t) : cross1 s (b.take (j + 1)) = cross1 s (b.take j) ++ (if max s.1 t.1 ≤ min s.2 t.2 then [(max s.1 t.1, min s.2 t.2)] else []) := by
  rw [List.take_add_one, h, cross1_app]
  rfl
theorem crossL_step {s : Sp} {a b : List Sp} {i : Nat} (h : a[i]? = some s) : crossL (a.take (i + 1)) b = crossL (a.take i) b ++ cross1 s b := by
  rw [List.take_add_one, h, crossL_app]
  rw [show crossL (some s).toList b = cross1 s b from by show cross1 s b ++ [] = _; rw [List.append_nil]]
theorem restL_step {s : Sp} {l : List Sp} {i : Nat} {low high : Int} (h : l[i]? = some s) : restL (l.drop i) low high = (if low < s.1 then [(low, s.1 - 1)] else []) ++ restL (l.drop (i + 1)) (s.2 + 1) high := by
  obtain ⟨hi, rfl⟩ := List.getElem?_eq_some_iff.1 h
  rw [List.drop_eq_getElem_cons hi, restL]
/-- Spans that are a set of numbers. -/
def IsSet (out : List Sp) (S : Int → Prop) : Prop := Gap out ∧ ∀ n, hasS out n ↔ S n
theorem IsSet.one {a b : List Sp} {S : Int → Prop} (h1 : IsSet a S) (h2 : IsSet b S) : a = b := gap_one h1.1 h2.1 fun n => (h1.2 n).trans (h2.2 n).symm
theorem IsSet.ok {a : List Sp} {S : Int → Prop} (h : IsSet a S) (hb : ∀ n, S n → 0 ≤ n ∧ n ≤ 65535) : OkS a := .of h.1 fun n hn => hb n ((h.2 n).1 hn)
/-- Spans that do not touch are no more than half of the numbers. -/
theorem gap_len : ∀ {l : List Sp} {a : Int}, Gap l → (∀ s ∈ l, a ≤ s.1 ∧ s.2 ≤ 65535) → a ≤ 65536 → (l.length : Int) ≤ 65536 - a
  | [], a, _, _, ha => by rw [List.length_nil]; omega
  | s :: l, a, h, hb, ha => by
    have h1 := hb s (List.mem_cons_self ..)
    have h2 := h.head
    have h3 := gap_len (a := s.2 + 1) h.tail (fun x hx => ⟨by have := h.above x hx; omega, (hb x (List.mem_cons_of_mem _ hx)).2⟩) (by omega)
    rw [List.length_cons]
    omega
theorem gap_len0 {l : List Sp} (h : Gap l) (hok : OkS l) : l.length ≤ 65536 := by
  have := gap_len (a := 0) h (fun s hs => by have := hok s hs; unfold spBad at this; omega) (by decide)
  omega
end Go.Port
namespace Go.Port
theorem normR_step {l : List Sp} {i : Nat} {s : Sp} (h : l[i]? = some s) : normR (l.take (i + 1)) = insR (normR (l.take i)) s.1 s.2 false := by
  unfold normR
  rw [List.take_add_one, h, List.foldl_append]
  rfl
theorem normR_set {l : List Sp} (hok : OkS l) : IsSet (normR l) (hasS l) := by
  have hv : ∀ s ∈ l, s.1 ≤ s.2 := fun s hs => by have := hok s hs; unfold spBad at this; omega
  obtain ⟨h1, h2⟩ := normR_gap hv (o := []) trivial
  refine ⟨h1, fun n => (h2 n).trans ?_⟩
  rw [hasS_nil, false_or]
theorem normR_len0 : ∀ (l o : List Sp), (l.foldl (fun o s => insR o s.1 s.2 false) o).length ≤ o.length + l.length
  | [], o => Nat.le_refl _
  | s :: l, o => by
    rw [List.foldl_cons, List.length_cons]
    have h1 := normR_len0 l (insR o s.1 s.2 false)
    have h2 := insR_len (l := o) (a := s.1) (b := s.2) (d := false)
    omega
theorem normR_len (l : List Sp) : (normR l).length ≤ l.length := by
  have := normR_len0 l []
  rw [List.length_nil, Nat.zero_add] at this
  exact this
theorem OkS.take {l : List Sp} (h : OkS l) (i : Nat) : OkS (l.take i) := fun s hs => h s (List.mem_of_mem_take hs)
theorem insR_step {o : List Sp} {k : Nat} {s : Sp} (h : o[k]? = some s) (a b : Int) (d : Bool) : insR (o.drop k) a b d = if s.2 + 1 < a then s :: insR (o.drop (k + 1)) a b d else if b + 1 < s.1 then (if d then s :: insR (o.drop (k + 1)) a b true else (a, b) :: s :: insR (o.drop (k + 1)) a b true) else insR (o.drop (k + 1)) (min a s.1) (max b s.2) d := by
  obtain ⟨hk, rfl⟩ := List.getElem?_eq_some_iff.1 h
  rw [List.drop_eq_getElem_cons hk, insR]
theorem edges_step {l : List Sp} {i : Nat} {s : Sp} (h : l[i]? = some s) (fr to : Int) : edges (l.take (i + 1)) fr to = edge1 s fr (edges (l.take i) fr to) := by
  unfold edges
  rw [List.take_add_one, h, List.foldl_append]
  rfl
/-- Which numbers are picked. -/
def pkB (bo le p q : Bool) : Bool := if le then p && !q else if bo then p && q else p || q
open Classical in
noncomputable def pkS (bo le : Bool) (a b : List Sp) (n : Int) : Bool := pkB bo le (decide (hasS a n)) (decide (hasS b n))
end Go.Port
/- Spans as texts: the plain law. No program here. -/
set_option linter.unusedSimpArgs false
set_option linter.unusedVariables false
namespace Go.Port
open Go.Lib
/- Numbers of digits are read as they are. -/
theorem decFrom_ge : ∀ (l : List UInt8) (a u : Nat), decFrom a l = some u → a ≤ u
  | [], a, u, h => by simp only [decFrom, Option.some.injEq] at h; omega
  | c :: r, a, u, h => by
    rw [decFrom] at h
    cases hc : digitVal c with
    | none => rw [hc] at h; cases h
    | some d =>
      rw [hc] at h
      have := decFrom_ge r _ u h
      omega
theorem parse_dec : ∀ (l : List UInt8) (a u : Nat), decFrom a l = some u → u < 1844674407370955162 → parseUint10 a l = .ok u
  | [], a, u, h, _ => by simp only [decFrom, Option.some.injEq] at h; rw [parseUint10, h]
  | c :: r, a, u, h, hu => by
    rw [decFrom] at h
    cases hc : digitVal c with
    | none => rw [hc] at h; cases h
    | some d =>
      rw [hc] at h
      have h1 := decFrom_ge r _ u h
      obtain ⟨hd, rfl⟩ := digit_is hc
      have h2 := dig_val hd
      rw [parseUint10, h2, if_pos (by omega), if_neg (by omega), if_neg (by omega), show 48 + d - 48 = d by omega]
      exact parse_dec r _ u h hu
theorem atoi_all {n : Nat} (hn : n ≤ 65535) : atoiAll (decDigits n) = .ok (n : Int) := by
  have h1 := parse_dec _ _ _ (dec_from n) (by omega)
  have h2 := dec_digits n
  have h3 := dec_ne n
  cases hl : decDigits n with
  | nil => exact absurd hl h3
  | cons b r =>
    rw [hl] at h1 h2
    have hb := h2 b (List.Mem.head _)
    rw [atoiAll, if_neg (by omega), parseMag, if_neg (by simp), h1]
    dsimp only
    rw [if_neg (by omega), if_neg (by omega), if_neg (by omega)]
/-- A span's text; the text of some. -/
def shE (s : Sp) : List UInt8 := decDigits s.1.toNat ++ (if s.1 < s.2 then 45 :: decDigits s.2.toNat else [])
def shL (l : List Sp) : List UInt8 := if l = [] then [45] else join (l.map shE) [44]
theorem shE_lt {a c : Int} (h : a < c) : shE (a, c) = decDigits a.toNat ++ [45] ++ decDigits c.toNat := by
  unfold shE
  rw [if_pos h, List.append_assoc]
  rfl
theorem shE_one (a : Int) : shE (a, a) = decDigits a.toNat := by
  unfold shE
  rw [if_neg (Int.lt_irrefl _), List.append_nil]
theorem shE_ge {a c : Int} (h : ¬ a < c) : shE (a, c) = decDigits a.toNat := by
  unfold shE
  rw [if_neg h, List.append_nil]
theorem shE_not (s : Sp) : (44 : UInt8) ∉ shE s := by
  unfold shE
  intro h
  rcases List.mem_append.1 h with h | h
  · exact dec_not (.inl (by decide)) h
  · split at h
    · rcases List.mem_cons.1 h with h | h
      · revert h; decide
      · exact dec_not (.inl (by decide)) h
    · cases h
theorem shE_len {s : Sp} (h : ¬ spBad s) : (shE s).length ≤ 11 := by
  unfold spBad at h
  have h1 := decLen_le (u := s.1.toNat) 4 (by omega)
  have h2 := decLen_le (u := s.2.toNat) 4 (by omega)
  unfold shE
  rw [List.length_append]
  split
  · rw [List.length_cons]; omega
  · rw [List.length_nil]; omega
/- A text cut, and joined. -/
theorem cut_join {c : UInt8} {x : List UInt8} {r : List (List UInt8)} (h : ∀ p ∈ x :: r, c ∉ p) : cutT c (join (x :: r) [c]) = x :: r := by
  rw [← split_cut c _ _ (Nat.le_refl _), count_parts x r h, split_parts x r h]
theorem join_cut (c : UInt8) : ∀ (k : Nat) (s : List UInt8), s.length ≤ k → join (cutT c s) [c] = s := by
  intro k
  induction k with
  | zero =>
    intro s hs
    obtain rfl : s = [] := List.eq_nil_of_length_eq_zero (by omega)
    rfl
  | succ k ih =>
    intro s hs
    rcases first_at c s with h | ⟨x, r, rfl, hx⟩
    · rw [cutT, cutGo_none h, List.nil_append, join_one]
    · have h1 := ih r (by simp at hs; omega)
      rw [cutT, cutGo_at hx, List.nil_append]
      have h2 : cutGo c [] r = cutT c r := rfl
      rw [h2]
      cases h3 : cutT c r with
      | nil =>
        have := cutT_count c _ r (Nat.le_refl _)
        rw [h3] at this
        simp at this
      | cons y q =>
        rw [h3] at h1
        rw [join_step, h1]
/- A part of a text as a span: how the document reads it, and how the program does. -/
def whoA (X : List (List UInt8)) : Int := wholeT 5 (X.getD 0 [])
def whoB (X : List (List UInt8)) : Int := if X.length = 2 then wholeT 5 (X.getD 1 []) else whoA X
def badP (X : List (List UInt8)) : Prop := 2 < X.length ∨ whoA X < 0 ∨ 65535 < whoB X ∨ (X.length = 2 ∧ whoB X ≤ whoA X)
instance {X : List (List UInt8)} : Decidable (badP X) := by unfold badP; infer_instance
def partR (x : List UInt8) : Option Sp := if badP (cutT 45 x) then none else some (whoA (cutT 45 x), whoB (cutT 45 x))
def partP (x : List UInt8) : Option Sp := match atoiAll (cut x [45]).1 with
  | .ok m => if (cut x [45]).2.2 then (match atoiAll (cut x [45]).2.1 with
    | .ok n => some (m, n)
    | _ => none) else some (m, m)
  | _ => none
theorem dec_45 (n : Nat) : (45 : UInt8) ∉ decDigits n := dec_not (.inl (by decide))
theorem dec_5 {n : Nat} (h : n ≤ 65535) : (decDigits n).length ≤ 5 := decLen_le 4 (by omega)
theorem partR_is {x : List UInt8} {s : Sp} (h : partR x = some s) : ¬ spBad s ∧ x = shE s := by
  unfold partR at h
  split at h
  · cases h
  · rename_i hb
    simp only [Option.some.injEq] at h
    subst h
    rcases first_at 45 x with h45 | ⟨u, v, rfl, hu⟩
    · have e : cutT 45 x = [x] := by rw [cutT, cutGo_none h45]; rfl
      rw [e] at hb ⊢
      have eA : whoA [x] = wholeT 5 x := rfl
      have eB : whoB [x] = wholeT 5 x := rfl
      unfold badP at hb
      rw [eA, eB] at hb ⊢
      obtain ⟨n, hn⟩ : ∃ n : Nat, wholeT 5 x = n := ⟨(wholeT 5 x).toNat, by omega⟩
      obtain ⟨h1, _⟩ := whole_is hn
      rw [hn] at hb ⊢
      refine ⟨by unfold spBad; dsimp only; omega, ?_⟩
      rw [shE_one, Int.toNat_natCast]
      exact h1
    · have e : cutT 45 (u ++ 45 :: v) = u :: cutT 45 v := by rw [cutT, cutGo_at hu]; rfl
      rw [e] at hb ⊢
      have hc := cutT_count 45 _ v (Nat.le_refl _)
      have h1 : (cutT 45 v).length = 1 := by
        have : ¬ 2 < (u :: cutT 45 v).length := fun h => hb (.inl h)
        rw [List.length_cons] at this
        omega
      rcases first_at 45 v with h45 | ⟨u2, v2, rfl, hu2⟩
      · have e2 : cutT 45 v = [v] := by rw [cutT, cutGo_none h45]; rfl
        rw [e2] at hb ⊢
        have eA : whoA [u, v] = wholeT 5 u := rfl
        have eB : whoB [u, v] = wholeT 5 v := rfl
        unfold badP at hb
        rw [eA, eB, show ([u, v] : List (List UInt8)).length = 2 from rfl] at hb
        rw [eA, eB]
        obtain ⟨n, hn⟩ : ∃ n : Nat, wholeT 5 u = n := ⟨(wholeT 5 u).toNat, by omega⟩
        obtain ⟨m, hm⟩ : ∃ m : Nat, wholeT 5 v = m := ⟨(wholeT 5 v).toNat, by omega⟩
        obtain ⟨h2, _⟩ := whole_is hn
        obtain ⟨h3, _⟩ := whole_is hm
        rw [hn, hm] at hb ⊢
        refine ⟨by unfold spBad; dsimp only; omega, ?_⟩
        rw [shE_lt (by omega), Int.toNat_natCast, Int.toNat_natCast, ← h2, ← h3, List.append_assoc]
        rfl
      · rw [cutT, cutGo_at hu2, List.length_cons] at h1
        have := cutT_count 45 _ v2 (Nat.le_refl _)
        unfold cutT at this
        omega
theorem partR_sh {s : Sp} (h : ¬ spBad s) : partR (shE s) = some s := by
  obtain ⟨a, c⟩ := s
  unfold spBad at h
  dsimp only at h
  obtain ⟨n, rfl⟩ : ∃ n : Nat, a = n := ⟨a.toNat, by omega⟩
  obtain ⟨m, rfl⟩ : ∃ m : Nat, c = m := ⟨c.toNat, by omega⟩
  have w1 := whole_dec (dec_5 (n := n) (by omega))
  have w2 := whole_dec (dec_5 (n := m) (by omega))
  by_cases hlt : (n : Int) < m
  · have e : cutT 45 (shE ((n : Int), (m : Int))) = [decDigits n, decDigits m] := by
      rw [shE_lt hlt, Int.toNat_natCast, Int.toNat_natCast, List.append_assoc]
      show cutT 45 (decDigits n ++ 45 :: decDigits m) = _
      rw [cutT, cutGo_at (dec_45 n), cutGo_none (dec_45 m)]
      rfl
    unfold partR
    have eA : whoA [decDigits n, decDigits m] = n := w1
    have eB : whoB [decDigits n, decDigits m] = m := w2
    rw [e, if_neg, eA, eB]
    unfold badP
    rw [eA, eB, show ([decDigits n, decDigits m] : List (List UInt8)).length = 2 from rfl]
    omega
  · obtain rfl : n = m := by omega
    have e : cutT 45 (shE ((n : Int), (n : Int))) = [decDigits n] := by
      rw [shE_one, Int.toNat_natCast, cutT, cutGo_none (dec_45 n)]
      rfl
    unfold partR
    have eA : whoA [decDigits n] = n := w1
    have eB : whoB [decDigits n] = n := w1
    rw [e, if_neg, eA, eB]
    unfold badP
    rw [eA, eB, show ([decDigits n] : List (List UInt8)).length = 1 from rfl]
    omega
theorem partP_sh {s : Sp} (h : ¬ spBad s) : partP (shE s) = some s := by
  obtain ⟨a, c⟩ := s
  unfold spBad at h
  dsimp only at h
  obtain ⟨n, rfl⟩ : ∃ n : Nat, a = n := ⟨a.toNat, by omega⟩
  obtain ⟨m, rfl⟩ : ∃ m : Nat, c = m := ⟨c.toNat, by omega⟩
  have w1 := atoi_all (n := n) (by omega)
  have w2 := atoi_all (n := m) (by omega)
  by_cases hlt : (n : Int) < m
  · have e : cut (shE ((n : Int), (m : Int))) [45] = (decDigits n, decDigits m, true) := by
      rw [shE_lt hlt, Int.toNat_natCast, Int.toNat_natCast, List.append_assoc]
      exact cut_at (dec_45 n)
    unfold partP
    rw [e, w1]
    dsimp only
    rw [w2, if_pos rfl]
  · obtain rfl : n = m := by omega
    have e : cut (shE ((n : Int), (n : Int))) [45] = (decDigits n, [], false) := by
      rw [shE_one, Int.toNat_natCast]
      exact cut_none (dec_45 n)
    unfold partP
    rw [e, w1]
    dsimp only
    rw [if_neg (by decide)]
/- All parts. -/
def readS : List (List UInt8) → List Sp → Option (List Sp)
  | [], l => some l
  | x :: r, l => match partR x with
    | none => none
    | some s => if 200 ≤ l.length ∨ ∃ t ∈ l.getLast?, s.1 ≤ t.2 + 1 then none else readS r (l ++ [s])
def readP : List (List UInt8) → List Sp → Option (List Sp)
  | [], l => some l
  | x :: r, l => match partP x with
    | none => none
    | some s => readP r (l ++ [s])
theorem gap_snoc {s : Sp} : ∀ {l : List Sp}, Gap (l ++ [s]) ↔ Gap l ∧ s.1 ≤ s.2 ∧ ∀ t ∈ l.getLast?, t.2 + 1 < s.1
  | [] => ⟨fun h => ⟨trivial, h, fun t ht => by cases ht⟩, fun h => h.2.1⟩
  | [t] => ⟨fun h => ⟨h.1, h.2.2, fun u hu => by cases hu; exact h.2.1⟩, fun h => ⟨h.1, h.2.2 t rfl, h.2.1⟩⟩
  | t :: u :: r => by
    have ih := gap_snoc (s := s) (l := u :: r)
    have e : (t :: u :: r).getLast? = (u :: r).getLast? := by simp [List.getLast?]
    rw [e]
    constructor
    · rintro ⟨h1, h2, h3⟩
      obtain ⟨h4, h5⟩ := ih.1 h3
      exact ⟨⟨h1, h2, h4⟩, h5⟩
    · rintro ⟨⟨h1, h2, h3⟩, h4⟩
      exact ⟨h1, h2, ih.2 ⟨h3, h4⟩⟩
theorem readS_is : ∀ {W : List (List UInt8)} {o l : List Sp}, Gap o → OkS o → o.length ≤ 200 → readS W o = some l → Gap l ∧ OkS l ∧ l.length ≤ 200 ∧ ∃ m, l = o ++ m ∧ W = m.map shE
  | [], o, l, hg, ho, hl, h => by
    simp only [readS, Option.some.injEq] at h
    subst h
    exact ⟨hg, ho, hl, [], by rw [List.append_nil], rfl⟩
  | x :: r, o, l, hg, ho, hl, h => by
    rw [readS] at h
    cases hp : partR x with
    | none => rw [hp] at h; cases h
    | some s =>
      rw [hp] at h
      dsimp only at h
      obtain ⟨hb, hx⟩ := partR_is hp
      split at h
      · cases h
      · rename_i hc
        have hb' := hb
        unfold spBad at hb'
        obtain ⟨h1, h2, h3, m, rfl, hm⟩ := readS_is (o := o ++ [s]) (gap_snoc.2 ⟨hg, by omega, fun t ht => by
            by_cases hlt : s.1 ≤ t.2 + 1
            · exact absurd (.inr ⟨t, ht, hlt⟩) hc
            · omega⟩) (ho.app fun y hy => by rw [List.mem_singleton.1 hy]; exact hb) (by
            rw [List.length_append, List.length_singleton]
            have : ¬ 200 ≤ o.length := fun h => hc (.inl h)
            omega) h
        exact ⟨h1, h2, h3, s :: m, by rw [List.append_assoc]; rfl, by rw [hx, hm]; rfl⟩
theorem readS_sh : ∀ {m o : List Sp}, Gap (o ++ m) → OkS (o ++ m) → (o ++ m).length ≤ 200 → readS (m.map shE) o = some (o ++ m)
  | [], o, _, _, _ => by rw [List.append_nil]; rfl
  | s :: m, o, hg, hk, hl => by
    have hs : ¬ spBad s := hk s (List.mem_append_right _ (List.Mem.head _))
    have e : o ++ s :: m = (o ++ [s]) ++ m := by rw [List.append_assoc]; rfl
    have hl' := hl
    rw [List.length_append, List.length_cons] at hl'
    have ho : Gap (o ++ [s]) := gap_pre (m := m) (by rw [← e]; exact hg)
    obtain ⟨_, _, h3⟩ := gap_snoc.1 ho
    rw [List.map_cons, readS, partR_sh hs]
    dsimp only
    rw [if_neg, e]
    · exact readS_sh (by rw [← e]; exact hg) (by rw [← e]; exact hk) (by rw [← e]; exact hl)
    · rintro (h | ⟨t, ht, h⟩)
      · omega
      · have := h3 t ht
        omega
where gap_pre : ∀ {l m : List Sp}, Gap (l ++ m) → Gap l
  | [], _, _ => trivial
  | [t], [], h => h
  | [t], u :: m, h => h.1
  | t :: u :: r, m, h => ⟨h.1, h.2.1, gap_pre (l := u :: r) (m := m) h.2.2⟩
theorem readP_sh : ∀ {m o : List Sp}, OkS m → readP (m.map shE) o = some (o ++ m)
  | [], o, _ => by rw [List.append_nil]; rfl
  | s :: m, o, hk => by
    rw [List.map_cons, readP, partP_sh (hk s (List.Mem.head _))]
    dsimp only
    rw [readP_sh fun x hx => hk x (List.mem_cons_of_mem _ hx), List.append_assoc]
    rfl
theorem readP_len : ∀ {W : List (List UInt8)} {o l : List Sp}, readP W o = some l → l.length = o.length + W.length
  | [], o, l, h => by
    simp only [readP, Option.some.injEq] at h
    rw [h]; rfl
  | x :: r, o, l, h => by
    rw [readP] at h
    cases hp : partP x with
    | none => rw [hp] at h; cases h
    | some s =>
      rw [hp] at h
      have := readP_len (W := r) h
      rw [List.length_append, List.length_singleton] at this
      rw [List.length_cons]
      omega
theorem normR_same {l : List Sp} (hg : Gap l) (hk : OkS l) : normR l = l := (normR_set hk).one ⟨hg, fun _ => Iff.rfl⟩
theorem normR_ne {l : List Sp} (hk : OkS l) (hl : l ≠ []) : normR l ≠ [] := by
  cases l with
  | nil => exact absurd rfl hl
  | cons s r =>
    intro e
    have h1 := (normR_set hk).2 s.1
    have h2 := hk s (List.Mem.head _)
    unfold spBad at h2
    rw [e, hasS_nil] at h1
    exact h1.2 (hasS_cons.2 (.inl ⟨Int.le_refl _, by omega⟩))
/-- The spans of a text, as the document reads it. -/
def spR (s : List UInt8) : Option (List Sp) := if s = [45] then some [] else readS (cutT 44 s) []
theorem cut_ne (c : UInt8) (s : List UInt8) : cutT c s ≠ [] := fun h => by
  have := cutT_count c _ s (Nat.le_refl _)
  rw [h] at this
  simp at this
theorem sh_cut {l : List Sp} (hl : l ≠ []) : cutT 44 (shL l) = l.map shE := by
  unfold shL
  rw [if_neg hl]
  cases l with
  | nil => exact absurd rfl hl
  | cons s r =>
    rw [List.map_cons]
    exact cut_join fun p hp => by
      rw [← List.map_cons] at hp
      obtain ⟨x, _, rfl⟩ := List.mem_map.1 hp
      exact shE_not x
/-- The program reads what the document does. -/
theorem spR_is {s : List UInt8} (hs : ¬ s = [45]) (l : List Sp) : spR s = some l ↔ readP (cutT 44 s) [] = some l ∧ spE l = 0 ∧ shL (normR l) = s := by
  unfold spR
  rw [if_neg hs]
  constructor
  · intro h
    obtain ⟨hg, hk, hl, m, e, hW⟩ := readS_is (o := []) trivial OkS.nil (by decide) h
    rw [List.nil_append] at e
    subst e
    have hne : l ≠ [] := fun e => cut_ne 44 s (by rw [hW, e]; rfl)
    refine ⟨by rw [hW, readP_sh hk, List.nil_append], spE_0.2 ⟨hl, hk⟩, ?_⟩
    rw [normR_same hg hk, shL, if_neg hne, ← hW, join_cut 44 _ s (Nat.le_refl _)]
  · rintro ⟨h1, h2, h3⟩
    obtain ⟨hl, hk⟩ := spE_0.1 h2
    have hk : OkS l := hk
    have hlen := readP_len h1
    have hne : l ≠ [] := fun e => by
      have := cutT_count 44 _ s (Nat.le_refl _)
      rw [e, List.length_nil] at hlen
      omega
    have hset := normR_set hk
    have hkn : OkS (normR l) := hset.ok fun n hn => hk.has hn
    have hW : cutT 44 s = (normR l).map shE := by rw [← h3, sh_cut (normR_ne hk hne)]
    rw [hW, readP_sh hkn, List.nil_append, Option.some.injEq] at h1
    have h4 := readS_sh (m := normR l) (o := []) hset.1 hkn (by have := normR_len l; rw [List.nil_append]; omega)
    rw [hW, h4, List.nil_append, h1]
theorem spR_ok {s : List UInt8} {l : List Sp} (h : spR s = some l) : Gap l ∧ OkS l ∧ l.length ≤ 200 ∧ shL l = s := by
  by_cases hs : s = [45]
  · unfold spR at h
    rw [if_pos hs, Option.some.injEq] at h
    subst h
    exact ⟨trivial, OkS.nil, by decide, hs.symm⟩
  · have h1 := (spR_is hs l).1 h
    unfold spR at h
    rw [if_neg hs] at h
    obtain ⟨hg, hk, hl, _⟩ := readS_is (o := []) trivial OkS.nil (by decide) h
    rw [normR_same hg hk] at h1
    exact ⟨hg, hk, hl, h1.2.2⟩
theorem spR_no {s : List UInt8} (hs : ¬ s = [45]) (h : readP (cutT 44 s) [] = none) : spR s = none := by
  cases h2 : spR s with
  | none => rfl
  | some l =>
    have := ((spR_is hs l).1 h2).1
    rw [h] at this
    cases this
theorem spR_bad {s : List UInt8} {l : List Sp} (hs : ¬ s = [45]) (h : readP (cutT 44 s) [] = some l) (hb : ¬ spE l = 0 ∨ ¬ shL (normR l) = s) : spR s = none := by
  cases h2 : spR s with
  | none => rfl
  | some m =>
    obtain ⟨h3, h4, h5⟩ := (spR_is hs m).1 h2
    rw [h, Option.some.injEq] at h3
    subst h3
    exact absurd h5 (hb.resolve_left fun hh => hh h4)
theorem readS_step {W : List (List UInt8)} {i : Nat} {x : List UInt8} {l : List Sp} (h : W[i]? = some x) : readS (W.drop i) l = match partR x with
    | none => none
    | some s => if 200 ≤ l.length ∨ ∃ t ∈ l.getLast?, s.1 ≤ t.2 + 1 then none else readS (W.drop (i + 1)) (l ++ [s]) := by
  obtain ⟨hi, rfl⟩ := List.getElem?_eq_some_iff.1 h
  rw [List.drop_eq_getElem_cons hi, readS]
theorem readP_step {W : List (List UInt8)} {i : Nat} {x : List UInt8} {l : List Sp} (h : W[i]? = some x) : readP (W.drop i) l = match partP x with
    | none => none
    | some s => readP (W.drop (i + 1)) (l ++ [s]) := by
  obtain ⟨hi, rfl⟩ := List.getElem?_eq_some_iff.1 h
  rw [List.drop_eq_getElem_cons hi, readP]
/-- What is shown of some, when so many are. -/
def shP (l : List Sp) : Nat → List UInt8
  | 0 => []
  | j + 1 => shP l j ++ (if 0 < j then [44] else []) ++ shE (l.getD j (0, 0))
theorem shP_step {l : List Sp} {j : Nat} {s : Sp} (h : l[j]? = some s) : shP l (j + 1) = shP l j ++ (if 0 < j then [44] else []) ++ shE s := by
  rw [shP, List.getD_eq_getElem?_getD, h]
  rfl
theorem shP_join (l : List Sp) : ∀ j, 0 < j → j ≤ l.length → shP l j = join ((l.take j).map shE) [44] := by
  intro j
  induction j with
  | zero => intro h; omega
  | succ j ih =>
    intro _ hj
    obtain ⟨s, hs⟩ : ∃ s, l[j]? = some s := ⟨_, List.getElem?_eq_getElem (by omega)⟩
    rw [shP_step hs, List.take_add_one, hs]
    by_cases h0 : 0 < j
    · rw [if_pos h0, ih h0 (by omega), List.map_append, show (some s).toList.map shE = [shE s] from rfl, join_snoc]
      intro e
      have := congrArg List.length e
      rw [List.length_map, List.length_take, List.length_nil] at this
      omega
    · obtain rfl : j = 0 := by omega
      rw [if_neg (by decide), List.take_zero]
      show [] ++ [] ++ shE s = join [shE s] [44]
      rw [join_one]
      rfl
where join_snoc : ∀ {p : List (List UInt8)} {x : List UInt8}, p ≠ [] → join (p ++ [x]) [44] = join p [44] ++ [44] ++ x
  | [], _, h => absurd rfl h
  | [y], x, _ => by rw [show ([y] ++ [x] : List (List UInt8)) = [y, x] from rfl, join_step, join_one, join_one, List.append_assoc]; rfl
  | y :: z :: r, x, _ => by
    have ih := join_snoc (p := z :: r) (x := x) (by simp)
    rw [show (y :: z :: r) ++ [x] = y :: z :: (r ++ [x]) from rfl, join_step, join_step, show z :: (r ++ [x]) = (z :: r) ++ [x] from rfl, ih]
    simp
theorem shP_all {l : List Sp} (hl : l ≠ []) : shP l l.length = shL l := by
  rw [shP_join l _ (List.length_pos_iff.2 hl) (Nat.le_refl _), List.take_length, shL, if_neg hl]
theorem shP_len {l : List Sp} (h : OkS l) : ∀ j, j ≤ l.length → (shP l j).length ≤ 12 * j
  | 0, _ => Nat.le_refl _
  | j + 1, hj => by
    obtain ⟨s, hs⟩ : ∃ s, l[j]? = some s := ⟨_, List.getElem?_eq_getElem (by omega)⟩
    have h1 := shP_len h j (by omega)
    have h2 := shE_len (h s (List.mem_of_getElem? hs))
    rw [shP_step hs, List.length_append, List.length_append]
    split
    · rw [List.length_singleton]; omega
    · rw [List.length_nil]; omega
theorem shL_len {l : List Sp} (h : OkS l) : (shL l).length ≤ 12 * l.length + 1 := by
  by_cases hl : l = []
  · subst hl; exact Nat.le_refl _
  · rw [← shP_all hl]
    have := shP_len h _ (Nat.le_refl _)
    omega
end Go.Port
