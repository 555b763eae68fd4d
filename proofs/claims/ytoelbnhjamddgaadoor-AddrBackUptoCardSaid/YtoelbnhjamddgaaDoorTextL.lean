/- Texts and numbers: the plain law. No program here. -/
import Derived.Test.YtoelbnhjamddgaaDoorStrL
import Derived.Lib.AtoiAll
set_option linter.unusedSimpArgs false
set_option linter.unusedVariables false
namespace Go.Port
open Go.Lib
/-- A text cut at each byte c. -/
def cutGo (c : UInt8) (cur : List UInt8) : List UInt8 → List (List UInt8)
  | [] => [cur]
  | b :: l => if b = c then cur :: cutGo c [] l else cutGo c (cur ++ [b]) l
def cutT (c : UInt8) (s : List UInt8) : List (List UInt8) := cutGo c [] s
theorem cutGo_none {c : UInt8} : ∀ {x cur : List UInt8}, c ∉ x → cutGo c cur x = [cur ++ x]
  | [], cur, _ => by rw [cutGo, List.append_nil]
  | b :: l, cur, h => by
    have hb : ¬ b = c := fun e => h (e ▸ List.Mem.head _)
    rw [cutGo, if_neg hb, cutGo_none (fun hm => h (List.Mem.tail _ hm)), List.append_assoc]
    rfl
theorem cutGo_at {c : UInt8} {r : List UInt8} : ∀ {x cur : List UInt8}, c ∉ x → cutGo c cur (x ++ c :: r) = (cur ++ x) :: cutGo c [] r
  | [], cur, _ => by rw [List.nil_append, cutGo, if_pos rfl, List.append_nil]
  | b :: l, cur, h => by
    have hb : ¬ b = c := fun e => h (e ▸ List.Mem.head _)
    rw [List.cons_append, cutGo, if_neg hb, cutGo_at (fun hm => h (List.Mem.tail _ hm)), List.append_assoc]
    rfl
theorem first_at (c : UInt8) : ∀ s : List UInt8, c ∉ s ∨ ∃ x r, s = x ++ c :: r ∧ c ∉ x
  | [] => .inl (fun h => by cases h)
  | b :: l => by
    by_cases hb : b = c
    · exact .inr ⟨[], l, by rw [hb]; rfl, fun h => by cases h⟩
    · rcases first_at c l with h | ⟨x, r, rfl, hx⟩
      · exact .inl fun hm => by
          rcases List.mem_cons.1 hm with e | hm
          · exact hb e.symm
          · exact h hm
      · exact .inr ⟨b :: x, r, rfl, fun hm => by
          rcases List.mem_cons.1 hm with e | hm
          · exact hb e.symm
          · exact hx hm⟩
theorem split_cut (c : UInt8) : ∀ (k : Nat) (s : List UInt8), s.length ≤ k → splitK [c] 0 (count s [c]) s = cutT c s := by
  intro k
  induction k with
  | zero =>
    intro s hs
    obtain rfl : s = [] := List.eq_nil_of_length_eq_zero (by omega)
    rw [count_miss (idx_none (fun h => by cases h))]
    rfl
  | succ k ih =>
    intro s hs
    rcases first_at c s with h | ⟨x, r, rfl, hx⟩
    · rw [count_miss (idx_none h), cutT, cutGo_none h]
      rfl
    · have hi := idx_at (c := c) (r := r) hx
      have h2 : (((x.length : Nat) : Int) == -1) = false := by
        rw [beq_eq_false_iff_ne]; omega
      have e : (x ++ c :: r).drop (x.length + ([c] : List UInt8).length) = r := by
        rw [← List.drop_drop, List.drop_left]; rfl
      rw [count_hit (by simp) hi, e, Nat.add_comm, splitK, hi, h2, Int.toNat_natCast, if_neg (by decide), e, Nat.add_zero, List.take_left, ih r (by simp at hs; omega), cutT, cutT, cutGo_at hx]
      rfl
theorem cutT_count (c : UInt8) : ∀ (k : Nat) (s : List UInt8), s.length ≤ k → (cutT c s).length = count s [c] + 1 := by
  intro k
  induction k with
  | zero =>
    intro s hs
    obtain rfl : s = [] := List.eq_nil_of_length_eq_zero (by omega)
    rw [count_miss (idx_none (fun h => by cases h))]
    rfl
  | succ k ih =>
    intro s hs
    rcases first_at c s with h | ⟨x, r, rfl, hx⟩
    · rw [count_miss (idx_none h), cutT, cutGo_none h]
      rfl
    · have hi := idx_at (c := c) (r := r) hx
      have e : (x ++ c :: r).drop (x.length + ([c] : List UInt8).length) = r := by
        rw [← List.drop_drop, List.drop_left]; rfl
      have := ih r (by simp at hs; omega)
      rw [count_hit (by simp) hi, e, cutT, cutGo_at hx, List.length_cons]
      unfold cutT at this
      omega
theorem cut_at {c : UInt8} {x r : List UInt8} (h : c ∉ x) : cut (x ++ c :: r) [c] = (x, r, true) := by
  have hi := idx_at (c := c) (r := r) h
  unfold cut
  rw [hi, if_pos (by omega), Int.toNat_natCast, List.take_left]
  have e : (x ++ c :: r).drop (x.length + ([c] : List UInt8).length) = r := by
    rw [← List.drop_drop, List.drop_left]; rfl
  rw [e]
/-- A number of at most so many digits, without a needless 0. -/
def wholeT (most : Nat) (s : List UInt8) : Int :=
  if s = [] ∨ most < s.length ∨ (s.head? = some 48 ∧ 1 < s.length) then -1 else match decFrom 0 s with
    | some n => n
    | none => -1
theorem digit_is {b : UInt8} {d : Nat} (h : digitVal b = some d) : d < 10 ∧ b = UInt8.ofNat (48 + d) := by
  unfold digitVal at h
  split at h
  · rename_i hb
    simp only [Option.some.injEq] at h
    refine ⟨by omega, UInt8.toNat_inj.1 ?_⟩
    rw [dig_val (by omega)]
    omega
  · cases h
theorem dec_uniq : ∀ (k : Nat) (s : List UInt8) (n : Nat), s.length ≤ k → decFrom 0 s = some n → s ≠ [] → ¬ (s.head? = some 48 ∧ 1 < s.length) → s = decDigits n := by
  intro k
  induction k with
  | zero => intro s n hk _ hn _; exact absurd (List.eq_nil_of_length_eq_zero (by omega)) hn
  | succ k ih =>
    intro s n hk hd hn hz
    rcases List.eq_nil_or_concat s with rfl | ⟨y, b, rfl⟩
    · exact absurd rfl hn
    rw [List.concat_eq_append] at *
    rw [decFrom_app] at hd
    cases hm : decFrom 0 y with
    | none => rw [hm] at hd; cases hd
    | some m =>
      rw [hm] at hd
      simp only [Option.bind_some, decFrom] at hd
      cases hv : digitVal b with
      | none => rw [hv] at hd; cases hd
      | some d =>
        rw [hv] at hd
        simp only [Option.some.injEq] at hd
        obtain ⟨hd10, rfl⟩ := digit_is hv
        cases y with
        | nil =>
          simp only [decFrom, Option.some.injEq] at hm
          subst hm
          rw [decDigits, dif_pos (by omega)]
          rw [← hd, Nat.zero_mul, Nat.zero_add]
          rfl
        | cons a l =>
          have hy : a :: l = decDigits m := ih (a :: l) m (by simp at hk ⊢; omega) hm (by simp) (fun h => hz ⟨h.1, by simp⟩)
          have hm1 : 1 ≤ m := by
            rcases Nat.eq_zero_or_pos m with h0 | h0
            · subst h0
              rw [decDigits, dif_pos (by decide)] at hy
              simp only [List.cons.injEq] at hy
              exact absurd ⟨by rw [hy.1]; rfl, by simp⟩ hz
            · exact h0
          rw [hy, ← hd, decDigits.eq_def (m * 10 + d), dif_neg (by omega), show (m * 10 + d) / 10 = m by omega, show (m * 10 + d) % 10 = d by omega]
theorem dec_head : ∀ n : Nat, 10 ≤ n → (decDigits n).head? ≠ some 48 := by
  intro n
  induction n using Nat.strongRecOn with
  | _ n ih =>
    intro hn
    have hh : ∀ {l m : List UInt8}, l ≠ [] → (l ++ m).head? = l.head? := fun {l m} h => by
      cases l with
      | nil => exact absurd rfl h
      | cons a t => rfl
    rw [decDigits, dif_neg (by omega), hh (dec_ne _)]
    by_cases h : n / 10 < 10
    · rw [decDigits, dif_pos h]
      intro he
      have h1 := dig_val h
      have h2 : UInt8.ofNat (48 + n / 10) = 48 := Option.some.inj he
      rw [h2] at h1
      have : (48 : UInt8).toNat = 48 := rfl
      omega
    · exact ih (n / 10) (by omega) (by omega)
theorem whole_dec {n most : Nat} (hl : (decDigits n).length ≤ most) : wholeT most (decDigits n) = n := by
  unfold wholeT
  rw [if_neg, dec_from]
  rintro (h | h | ⟨h1, h2⟩)
  · exact dec_ne _ h
  · omega
  · by_cases h : n < 10
    · rw [decDigits, dif_pos h] at h2
      simp at h2
    · exact dec_head n (by omega) h1
theorem whole_is {most : Nat} {s : List UInt8} {n : Nat} (h : wholeT most s = n) : s = decDigits n ∧ s.length ≤ most := by
  unfold wholeT at h
  split at h
  · omega
  · rename_i hc
    have h1 : ¬ s = [] := fun e => hc (.inl e)
    have h2 : ¬ most < s.length := fun e => hc (.inr (.inl e))
    have h3 : ¬ (s.head? = some 48 ∧ 1 < s.length) := fun e => hc (.inr (.inr e))
    split at h
    · rename_i m hm
      obtain rfl : m = n := by omega
      exact ⟨dec_uniq _ s m (Nat.le_refl _) hm h1 h3, by omega⟩
    · omega
theorem whole_cases (most : Nat) (s : List UInt8) : wholeT most s = -1 ∨ ∃ n : Nat, wholeT most s = n := by
  unfold wholeT
  split
  · exact .inl rfl
  · split
    · rename_i m _; exact .inr ⟨m, rfl⟩
    · exact .inl rfl
theorem itoa_is {v : Int} {s : List UInt8} (h : itoa v = s) (h0 : 0 ≤ v) : s = decDigits v.toNat := by
  rw [← h, itoa, if_neg (by omega)]
end Go.Port
