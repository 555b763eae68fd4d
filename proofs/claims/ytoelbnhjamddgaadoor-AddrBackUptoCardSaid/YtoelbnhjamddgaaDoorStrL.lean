/- Texts of numbers, one behind the other: the plain law. No program here. -/
import Derived.Lib.SplitLaws
import Derived.Lib.Join
import Derived.Lib.Atoi
import Derived.Lib.ItoaNum
import Derived.Lib.IndexMore
set_option linter.unusedSimpArgs false
set_option linter.unusedVariables false
namespace Go.Port
open Go.Lib
theorem idx_none {c : UInt8} : ∀ {x : List UInt8}, c ∉ x → index x [c] = -1
  | [], _ => by rw [index]; rfl
  | b :: l, h => by
    have hb : c ≠ b := fun e => h (e ▸ List.Mem.head _)
    have hl : c ∉ l := fun e => h (List.Mem.tail _ e)
    have hp : ([c] : List UInt8).isPrefixOf (b :: l) = false := by simp [List.isPrefixOf, hb]
    rw [index, hp, idx_none hl]
    rfl
theorem idx_at {c : UInt8} {r : List UInt8} : ∀ {x : List UInt8}, c ∉ x → index (x ++ c :: r) [c] = x.length
  | [], _ => by
    rw [List.nil_append, index]
    simp [List.isPrefixOf]
  | b :: l, h => by
    have hb : c ≠ b := fun e => h (e ▸ List.Mem.head _)
    have hl : c ∉ l := fun e => h (List.Mem.tail _ e)
    have hp : ([c] : List UInt8).isPrefixOf (b :: (l ++ c :: r)) = false := by simp [List.isPrefixOf, hb]
    rw [List.cons_append, index, hp, idx_at hl]
    have h2 : (((l.length : Nat) : Int) == -1) = false := by
      rw [beq_eq_false_iff_ne]; omega
    rw [h2]
    simp
theorem join_step {c : UInt8} (x y : List UInt8) (r : List (List UInt8)) : join (x :: y :: r) [c] = x ++ c :: join (y :: r) [c] := by
  rw [join_cons, join_cons, joinTail, List.map_cons, List.flatten_cons]
  rw [List.append_assoc]
  rfl
theorem count_parts {c : UInt8} : ∀ (x : List UInt8) (r : List (List UInt8)), (∀ p ∈ x :: r, c ∉ p) → count (join (x :: r) [c]) [c] = r.length
  | x, [], h => by
    rw [join_one, count_miss (idx_none (h x (List.Mem.head _)))]
    rfl
  | x, y :: r, h => by
    have hi := idx_at (c := c) (r := join (y :: r) [c]) (h x (List.Mem.head _))
    rw [join_step, count_hit (by simp) hi]
    have e : (x ++ c :: join (y :: r) [c]).drop (x.length + ([c] : List UInt8).length) = join (y :: r) [c] := by
      rw [← List.drop_drop, List.drop_left]; rfl
    rw [e, count_parts y r fun p hp => h p (List.Mem.tail _ hp), List.length_cons]
    omega
theorem split_parts {c : UInt8} : ∀ (x : List UInt8) (r : List (List UInt8)), (∀ p ∈ x :: r, c ∉ p) → splitK [c] 0 r.length (join (x :: r) [c]) = x :: r
  | x, [], h => by rw [join_one]; rfl
  | x, y :: r, h => by
    have hi := idx_at (c := c) (r := join (y :: r) [c]) (h x (List.Mem.head _))
    have h2 : (((x.length : Nat) : Int) == -1) = false := by
      rw [beq_eq_false_iff_ne]; omega
    rw [join_step, List.length_cons, splitK, hi, h2, Int.toNat_natCast]
    have e : (x ++ c :: join (y :: r) [c]).drop (x.length + ([c] : List UInt8).length) = join (y :: r) [c] := by
      rw [← List.drop_drop, List.drop_left]; rfl
    rw [if_neg (by decide), e, Nat.add_zero, List.take_left, split_parts y r fun p hp => h p (List.Mem.tail _ hp)]
theorem cut_none {c : UInt8} {s : List UInt8} (h : c ∉ s) : cut s [c] = (s, [], false) := by
  unfold cut
  rw [idx_none h, if_neg (by decide)]
theorem mem_join {c d : UInt8} : ∀ (x : List UInt8) (r : List (List UInt8)), d ≠ c → (∀ p ∈ x :: r, d ∉ p) → d ∉ join (x :: r) [c]
  | x, [], _, h => by rw [join_one]; exact h x (List.Mem.head _)
  | x, y :: r, hd, h => by
    rw [join_step]
    intro hm
    rcases List.mem_append.1 hm with hm | hm
    · exact h x (List.Mem.head _) hm
    · rcases List.mem_cons.1 hm with e | hm
      · exact hd e
      · exact mem_join y r hd (fun p hp => h p (List.Mem.tail _ hp)) hm
/- Numerals. -/
theorem dig_val {d : Nat} (h : d < 10) : (UInt8.ofNat (48 + d)).toNat = 48 + d := by
  rw [UInt8.toNat_ofNat']
  exact Nat.mod_eq_of_lt (by omega)
theorem dec_digits : ∀ (u : Nat), ∀ b ∈ decDigits u, 48 ≤ b.toNat ∧ b.toNat ≤ 57 := by
  intro u
  induction u using Nat.strongRecOn with
  | _ u ih =>
    intro b hb
    by_cases h : u < 10
    · rw [decDigits, dif_pos h] at hb
      rw [List.mem_singleton.1 hb, dig_val h]
      omega
    · rw [decDigits, dif_neg h] at hb
      rcases List.mem_append.1 hb with hb | hb
      · exact ih (u / 10) (by omega) b hb
      · rw [List.mem_singleton.1 hb, dig_val (by omega)]
        omega
theorem dec_not {u : Nat} {c : UInt8} (h : c.toNat < 48 ∨ 57 < c.toNat) : c ∉ decDigits u := fun hm => by
  have := dec_digits u c hm
  omega
theorem decFrom_app : ∀ (l m : List UInt8) (a : Nat), decFrom a (l ++ m) = (decFrom a l).bind fun k => decFrom k m
  | [], m, a => rfl
  | b :: l, m, a => by
    rw [List.cons_append, decFrom, decFrom]
    cases digitVal b with
    | none => rfl
    | some d => exact decFrom_app l m _
theorem digit_of {d : Nat} (h : d < 10) : digitVal (UInt8.ofNat (48 + d)) = some d := by
  unfold digitVal
  rw [dig_val h, if_pos (by omega)]
  congr 1
  omega
theorem dec_from : ∀ (u : Nat), decFrom 0 (decDigits u) = some u := by
  intro u
  induction u using Nat.strongRecOn with
  | _ u ih =>
    by_cases h : u < 10
    · rw [decDigits, dif_pos h, decFrom, digit_of h]
      simp [decFrom]
    · rw [decDigits, dif_neg h, decFrom_app, ih (u / 10) (by omega)]
      show decFrom (u / 10) [UInt8.ofNat (48 + u % 10)] = some u
      rw [decFrom, digit_of (by omega)]
      simp only [decFrom, Option.some.injEq]
      omega
theorem dec_ne (u : Nat) : decDigits u ≠ [] := by
  rw [decDigits]
  split <;> simp
theorem atoi_dec (u : Nat) : atoi (decDigits u) = some (u : Int) := by
  have h1 := dec_from u
  have h2 := dec_digits u
  have h3 := dec_ne u
  cases hl : decDigits u with
  | nil => exact absurd hl h3
  | cons b r =>
    rw [hl] at h1 h2
    have hb := h2 b (List.Mem.head _)
    have e1 : (b == 45) = false := by
      rw [beq_eq_false_iff_ne]; intro e; subst e; revert hb; decide
    have e2 : (b == 43) = false := by
      rw [beq_eq_false_iff_ne]; intro e; subst e; revert hb; decide
    rw [atoi, e1, e2]
    simp only [Bool.false_eq_true, if_false, decNat, List.isEmpty_cons]
    rw [h1]
    rfl
theorem dec_len {u : Nat} (h : u < 1000) : (decDigits u).length ≤ 3 := by
  rw [decDigits]
  split
  · simp
  · rw [List.length_append, decDigits]
    split
    · simp
    · rw [List.length_append, decDigits, dif_pos (by omega)]
      simp
end Go.Port
