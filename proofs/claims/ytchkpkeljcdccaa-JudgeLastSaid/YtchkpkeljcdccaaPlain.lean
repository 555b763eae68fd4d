/- Plain laws of sums: no program here. -/
import Derived.WalkKit
set_option linter.unusedSimpArgs false
set_option linter.unusedVariables false
namespace Go.Port
open Go.RowKit

/-- Entry i of a list of numbers, 0 behind its end. -/
def nth (l : List Int) (i : Nat) : Int := l.getD i 0
/-- All numbers of a list are bytes. -/
def Octets (l : List Int) : Prop := ∀ x ∈ l, 0 ≤ x ∧ x ≤ 255
theorem nth_of {l : List Int} {i : Nat} (h : i < l.length) : nth l i = l[i] := by simp [nth, h]
theorem nth_out {l : List Int} {i : Nat} (h : l.length ≤ i) : nth l i = 0 := by simp [nth, h]
theorem Octets.nth {l : List Int} (h : Octets l) (i : Nat) : 0 ≤ Port.nth l i ∧ Port.nth l i ≤ 255 := by
  by_cases hi : i < l.length
  · rw [nth_of hi]; exact h _ (List.getElem_mem hi)
  · rw [nth_out (by omega)]; omega
theorem nth_set {l : List Int} {i j : Nat} {x : Int} (hi : i < l.length) : nth (l.set i x) j = if i = j then x else nth l j := by
  simp only [nth, List.getD_eq_getElem?_getD, List.getElem?_set]
  split
  · rename_i h; subst h; simp [hi]
  · rfl
theorem nth_append {a b : List Int} {j : Nat} : nth (a ++ b) j = if j < a.length then nth a j else nth b (j - a.length) := by
  simp only [nth, List.getD_eq_getElem?_getD, List.getElem?_append]; split <;> rfl
theorem nth_take {a : List Int} {n j : Nat} : nth (a.take n) j = if j < n then nth a j else 0 := by
  simp only [nth, List.getD_eq_getElem?_getD, List.getElem?_take]; split <;> rfl
theorem nth_drop {a : List Int} {n j : Nat} : nth (a.drop n) j = nth a (n + j) := by
  simp only [nth, List.getD_eq_getElem?_getD, List.getElem?_drop]
theorem ext_nth {a b : List Int} (h : a.length = b.length) (hn : ∀ i, i < a.length → nth a i = nth b i) : a = b :=
  List.ext_getElem h fun i h1 h2 => by have := hn i h1; rwa [nth_of h1, nth_of h2] at this

/-- Two numbers of 16 bits, added as sums are. -/
def addW (a b : Int) : Int := if 65535 < a + b then a + b - 65535 else a + b
/-- What a sum tells of a great number. -/
def tot (s : Int) : Int := if s = 0 then 0 else (s - 1) % 65535 + 1
/-- The words of bytes, added as numbers: the first so many. -/
def words (l : List Int) : Nat → Int
  | 0 => 0
  | j + 1 => words l j + 256 * nth l (2 * j) + nth l (2 * j + 1)
/-- All of them. -/
def wsum (l : List Int) : Int := words l ((l.length + 1) / 2)
/-- The total of bytes. -/
def total (l : List Int) : Int := tot (wsum l)

theorem tot_bd {s : Int} (h : 0 ≤ s) : 0 ≤ tot s ∧ tot s ≤ 65535 := by unfold tot; split <;> omega
theorem addW_bd {a b : Int} (h0 : 0 ≤ a) (h1 : a ≤ 65535) (h2 : 0 ≤ b) (h3 : b ≤ 65535) : 0 ≤ addW a b ∧ addW a b ≤ 65535 := by unfold addW; split <;> omega
theorem addW_tot {s x : Int} (hs : 0 ≤ s) (h0 : 0 ≤ x) (h1 : x ≤ 65535) : addW (tot s) x = tot (s + x) := by
  unfold addW tot; split <;> split <;> split <;> omega
theorem addW_comm (a b : Int) : addW a b = addW b a := by unfold addW; rw [Int.add_comm]
theorem tot_add {s t : Int} (hs : 0 ≤ s) (ht : 0 ≤ t) : addW (tot s) (tot t) = tot (s + t) := by
  unfold addW tot; split <;> split <;> split <;> split <;> omega
theorem words_nonneg {l : List Int} (h : Octets l) (j : Nat) : 0 ≤ words l j := by
  induction j with
  | zero => simp [words]
  | succ j ih => have := h.nth (2 * j); have := h.nth (2 * j + 1); simp only [words]; omega
theorem wsum_nonneg {l : List Int} (h : Octets l) : 0 ≤ wsum l := words_nonneg h _
theorem total_bd {l : List Int} (h : Octets l) : 0 ≤ total l ∧ total l ≤ 65535 := tot_bd (wsum_nonneg h)
/-- The loop's step. -/
theorem total_step {l : List Int} (h : Octets l) (j : Nat) : addW (tot (words l j)) (256 * nth l (2 * j) + nth l (2 * j + 1)) = tot (words l (j + 1)) := by
  have h0 := h.nth (2 * j)
  have h1 := h.nth (2 * j + 1)
  rw [addW_tot (words_nonneg h j) (by omega) (by omega)]
  simp only [words]; congr 1; omega
theorem total_end {l : List Int} {j : Nat} (h1 : l.length ≤ 2 * j) (h2 : 2 * j ≤ l.length + 1) : tot (words l j) = total l := by
  unfold total wsum
  have : j = (l.length + 1) / 2 := by omega
  rw [← this]
/-- 'or' and 'and' of numbers that are not below 0. -/
theorem or_i64 (a b : Nat) (ha : a < 9223372036854775808) (hb : b < 9223372036854775808) : bits .or .i64 (a : Int) (b : Int) = ((a ||| b : Nat) : Int) := by
  have hx : a ||| b < 2 ^ 63 := Nat.or_lt_two_pow (by omega) (by omega)
  have h1 : (BitVec.ofInt 64 (a : Int)).toNat = a := by
    rw [BitVec.ofInt_natCast, BitVec.toNat_ofNat]; exact Nat.mod_eq_of_lt (by omega)
  have h2 : (BitVec.ofInt 64 (b : Int)).toNat = b := by
    rw [BitVec.ofInt_natCast, BitVec.toNat_ofNat]; exact Nat.mod_eq_of_lt (by omega)
  show IntKind.i64.wrap ((BitVec.ofInt 64 (a : Int) ||| BitVec.ofInt 64 (b : Int)).toNat : Int) = _
  rw [BitVec.toNat_or, h1, h2, IntKind.wrap_i64]
  omega
theorem and_i64 (a b : Nat) (ha : a < 9223372036854775808) (hb : b < 9223372036854775808) : bits .and .i64 (a : Int) (b : Int) = ((a &&& b : Nat) : Int) := by
  have hx : a &&& b < 2 ^ 63 := Nat.and_lt_two_pow _ (by omega)
  have h1 : (BitVec.ofInt 64 (a : Int)).toNat = a := by
    rw [BitVec.ofInt_natCast, BitVec.toNat_ofNat]; exact Nat.mod_eq_of_lt (by omega)
  have h2 : (BitVec.ofInt 64 (b : Int)).toNat = b := by
    rw [BitVec.ofInt_natCast, BitVec.toNat_ofNat]; exact Nat.mod_eq_of_lt (by omega)
  show IntKind.i64.wrap ((BitVec.ofInt 64 (a : Int) &&& BitVec.ofInt 64 (b : Int)).toNat : Int) = _
  rw [BitVec.toNat_and, h1, h2, IntKind.wrap_i64]
  omega
/-- A number ahead of a byte, or-ed. -/
theorem or_byte (a b : Int) (ha : 0 ≤ a) (ha' : a ≤ 36028797018963967) (hb : 0 ≤ b) (hb' : b ≤ 255) : bits BinOp.or IntKind.i64 (a * 256) b = a * 256 + b := by
  obtain ⟨m, rfl⟩ := Int.eq_ofNat_of_zero_le ha
  obtain ⟨n, rfl⟩ := Int.eq_ofNat_of_zero_le hb
  have e : ((m : Int) * 256) = ((m * 256 : Nat) : Int) := by omega
  rw [e, or_i64 _ _ (by omega) (by omega), nat_join8 _ _ (by omega) (by omega)]
  omega
/-- One place set: what becomes of the words. -/
theorem words_set (l : List Int) (p : Nat) (x : Int) (hp : p < l.length) (j : Nat) :
    words (l.set p x) j = words l j + if p < 2 * j then (x - nth l p) * (if p % 2 = 0 then 256 else 1) else 0 := by
  induction j with
  | zero => simp [words]
  | succ j ih =>
    simp only [words, ih, nth_set hp]
    by_cases h1 : p = 2 * j
    · subst h1
      rw [if_neg (by omega), if_pos rfl, if_neg (by omega), if_pos (by omega), if_pos (by omega)]; omega
    · by_cases h2 : p = 2 * j + 1
      · subst h2
        rw [if_neg (by omega), if_neg (by omega), if_pos rfl, if_pos (by omega), if_neg (by omega)]; omega
      · rw [if_neg h1, if_neg h2]
        by_cases h3 : p < 2 * j
        · have h4 : p < 2 * (j + 1) := by omega
          rw [if_pos h3, if_pos h4]; omega
        · have h4 : ¬ p < 2 * (j + 1) := by omega
          rw [if_neg h3, if_neg h4]; omega
theorem wsum_set (l : List Int) (p : Nat) (x : Int) (hp : p < l.length) : wsum (l.set p x) = wsum l + (x - nth l p) * (if p % 2 = 0 then 256 else 1) := by
  unfold wsum
  rw [words_set l p x hp, List.length_set, if_pos (by omega)]
theorem words_cons2 (a b : Int) (l : List Int) (j : Nat) : words (a :: b :: l) (j + 1) = 256 * a + b + words l j := by
  induction j with
  | zero => simp [words, nth]
  | succ j ih =>
    have e0 : nth (a :: b :: l) (2 * (j + 1)) = nth l (2 * j) := by
      have : 2 * (j + 1) = 2 * j + 1 + 1 := by omega
      rw [this]; rfl
    have e1 : nth (a :: b :: l) (2 * (j + 1) + 1) = nth l (2 * j + 1) := by
      have : 2 * (j + 1) + 1 = 2 * j + 1 + 1 + 1 := by omega
      rw [this]; rfl
    rw [words, ih, e0, e1]; simp only [words]; omega
theorem wsum_cons2 (a b : Int) (l : List Int) : wsum (a :: b :: l) = 256 * a + b + wsum l := by
  unfold wsum
  have : ((a :: b :: l).length + 1) / 2 = (l.length + 1) / 2 + 1 := by simp only [List.length_cons]; omega
  rw [this, words_cons2]
theorem Octets.set {l : List Int} (h : Octets l) {p : Nat} {x : Int} (h0 : 0 ≤ x) (h1 : x ≤ 255) : Octets (l.set p x) := by
  intro y hy
  rcases List.mem_or_eq_of_mem_set hy with h2 | h2
  · exact h y h2
  · omega
theorem Octets.cons {l : List Int} (h : Octets l) {x : Int} (h0 : 0 ≤ x) (h1 : x ≤ 255) : Octets (x :: l) := by
  intro y hy
  rcases List.mem_cons.1 hy with h2 | h2
  · omega
  · exact h y h2
theorem Octets.append {a b : List Int} (h : Octets a) (h' : Octets b) : Octets (a ++ b) := by
  intro y hy
  rcases List.mem_append.1 hy with h2 | h2
  · exact h y h2
  · exact h' y h2
/-- With its sum ahead: valid. -/
theorem total_valid (l : List Int) (h : Octets l) (n : Int) (hn : n = 65535 - total (0 :: 0 :: l)) : total (n / 256 :: n % 256 :: l) = 65535 := by
  have h0 := wsum_nonneg h
  have e0 : wsum (0 :: 0 :: l) = wsum l := by rw [wsum_cons2]; omega
  unfold total at hn ⊢
  rw [e0] at hn
  rw [wsum_cons2]
  have h1 := tot_bd h0
  unfold tot at *
  generalize wsum l = S at *
  split at hn <;> split <;> omega
/-- Two words change their places. -/
theorem total_swap (l : List Int) (i k : Nat) (hi : 2 * i + 1 < l.length) (hk : 2 * k + 1 < l.length) :
    total ((((l.set (2 * i) (nth l (2 * k))).set (2 * i + 1) (nth l (2 * k + 1))).set (2 * k) (nth l (2 * i))).set (2 * k + 1) (nth l (2 * i + 1))) = total l := by
  unfold total
  have l1 : (l.set (2 * i) (nth l (2 * k))).length = l.length := by simp
  have l2 : ((l.set (2 * i) (nth l (2 * k))).set (2 * i + 1) (nth l (2 * k + 1))).length = l.length := by simp
  have l3 : (((l.set (2 * i) (nth l (2 * k))).set (2 * i + 1) (nth l (2 * k + 1))).set (2 * k) (nth l (2 * i))).length = l.length := by simp
  rw [wsum_set _ (2 * k + 1) _ (by omega), wsum_set _ (2 * k) _ (by omega), wsum_set _ (2 * i + 1) _ (by omega), wsum_set _ (2 * i) _ (by omega)]
  rw [nth_set (l := (l.set (2 * i) (nth l (2 * k))).set (2 * i + 1) (nth l (2 * k + 1))) (by omega), nth_set (l := l.set (2 * i) (nth l (2 * k))) (by omega), nth_set (l := l.set (2 * i) (nth l (2 * k))) (by omega), nth_set (l := l) (by omega), nth_set (l := l) (by omega), nth_set (l := l) (by omega)]
  rw [if_pos (show 2 * i % 2 = 0 by omega), if_neg (show ¬ (2 * i + 1) % 2 = 0 by omega), if_pos (show 2 * k % 2 = 0 by omega), if_neg (show ¬ (2 * k + 1) % 2 = 0 by omega)]
  rw [if_neg (show ¬ 2 * k = 2 * k + 1 by omega), if_neg (show ¬ 2 * i = 2 * k + 1 by omega), if_neg (show ¬ 2 * i + 1 = 2 * k by omega), if_neg (show ¬ 2 * i = 2 * i + 1 by omega)]
  by_cases h : i = k
  · subst h
    simp
  · rw [if_neg (show ¬ 2 * i = 2 * k by omega), if_neg (show ¬ 2 * i + 1 = 2 * k + 1 by omega)]
    congr 1; omega
/-- The word at a place. -/
def wordAt (l : List Int) (j : Nat) : Int := nth l (j - j % 2) * 256 + nth l (j - j % 2 + 1)
theorem wordAt_bd {l : List Int} (h : Octets l) (j : Nat) : 0 ≤ wordAt l j ∧ wordAt l j ≤ 65535 := by
  have := h.nth (j - j % 2); have := h.nth (j - j % 2 + 1); unfold wordAt; omega
theorem wsum_set_word (l : List Int) (j : Nat) (x : Int) (hj : j < l.length) : wsum (l.set j x) = wsum l - wordAt l j + wordAt (l.set j x) j := by
  rw [wsum_set l j x hj]
  unfold wordAt
  rw [nth_set hj, nth_set hj]
  by_cases h : j % 2 = 0
  · rw [if_pos h, h, Nat.sub_zero, if_pos rfl, if_neg (by omega)]; omega
  · have h1 : j % 2 = 1 := by omega
    rw [if_neg h, h1, if_neg (by omega), if_pos (by omega)]
    have : j - 1 + 1 = j := by omega
    rw [this]; omega
theorem words_mono {l : List Int} (h : Octets l) {i j : Nat} (hij : i ≤ j) : words l i ≤ words l j := by
  induction hij with
  | refl => exact Int.le_refl _
  | step _ ih => rename_i m _; have := h.nth (2 * m); have := h.nth (2 * m + 1); simp only [words]; omega
theorem wordAt_le {l : List Int} (h : Octets l) {j : Nat} (hj : j < l.length) : wordAt l j ≤ wsum l := by
  have h1 : words l (j / 2 + 1) ≤ wsum l := words_mono h (by omega)
  have h2 := words_nonneg h (j / 2)
  have e : j - j % 2 = 2 * (j / 2) := by omega
  unfold wordAt
  rw [e]
  simp only [words] at h1
  omega
/-- A byte that changes is seen. -/
theorem total_seen {l : List Int} (h : Octets l) {j : Nat} {x : Int} (hj : j < l.length) (hx : 0 ≤ x) (hx' : x ≤ 255) (hne : nth l j ≠ x) (h1 : total l = 65535) (h2 : total (l.set j x) = 65535) :
    wordAt l j = 0 ∧ wordAt (l.set j x) j = 65535 ∨ wordAt l j = 65535 ∧ wordAt (l.set j x) j = 0 := by
  have a1 := wordAt_bd h j
  have a2 := wordAt_bd (h.set (p := j) hx hx') j
  have e := wsum_set_word l j x hj
  have hn : wordAt l j ≠ wordAt (l.set j x) j := by
    intro he
    rw [he] at e
    rw [wsum_set l j x hj] at e
    split at e <;> omega
  have s1 := wsum_nonneg h
  have s2 := wsum_nonneg (h.set (p := j) hx hx')
  unfold total tot at h1 h2
  rw [e] at h2 s2
  generalize wordAt l j = a at *
  generalize wordAt (l.set j x) j = b at *
  generalize wsum l = S at *
  split at h1 <;> split at h2 <;> omega
/-- The sum brought up to date. -/
theorem total_update {l : List Int} (h : Octets l) {j : Nat} {x : Int} (hj : j < l.length) (hx : 0 ≤ x) (hx' : x ≤ 255) (n m : Int) (hn : n = 65535 - total (0 :: 0 :: l))
    (hm : m = 65535 - addW (addW (65535 - n) (65535 - wordAt l j)) (wordAt (l.set j x) j)) :
    total (m / 256 :: m % 256 :: l.set j x) = 65535 ∨ m = 0 ∧ total (m / 256 :: m % 256 :: l.set j x) = 0 := by
  have a1 := wordAt_bd h j
  have a2 := wordAt_bd (h.set (p := j) hx hx') j
  have a3 := wordAt_le h hj
  have e := wsum_set_word l j x hj
  have e0 : total (0 :: 0 :: l) = tot (wsum l) := by unfold total; rw [wsum_cons2]; congr 1; omega
  have s1 := wsum_nonneg h
  have en : 65535 - n = tot (wsum l) := by omega
  rw [en, addW_tot s1 (by omega) (by omega), addW_tot (by omega) a2.1 a2.2] at hm
  unfold total
  rw [wsum_cons2, e]
  generalize wordAt l j = a at *
  generalize wordAt (l.set j x) j = b at *
  generalize wsum l = S at *
  clear e e0 en hn
  have hb := tot_bd (s := S + (65535 - a) + b) (by omega)
  unfold tot at *
  split at hm <;> split <;> omega
theorem wordAt_cons2 (a b : Int) (l : List Int) (j : Nat) : wordAt (a :: b :: l) (j + 2) = wordAt l j := by
  unfold wordAt
  have e : j + 2 - (j + 2) % 2 = (j - j % 2) + 1 + 1 := by omega
  rw [e]; rfl

/-- Is a number one of 16 bits? -/
def isWord (n : Int) : Bool := decide (0 ≤ n) && decide (n ≤ 65535)
theorem isWord_true {n : Int} (h0 : 0 ≤ n) (h1 : n ≤ 65535) : isWord n = true := by simp [isWord, h0, h1]
theorem isWord_false {n : Int} (h : n < 0 ∨ 65535 < n) : isWord n = false := by
  unfold isWord
  rcases h with h | h
  · simp; omega
  · simp; omega
theorem isWord_iff {n : Int} : isWord n = true ↔ 0 ≤ n ∧ n ≤ 65535 := by simp [isWord]
theorem pad_mod (n s : Int) (h2 : 1 ≤ s) : n ≤ (n + s - 1) / s * s ∧ (n + s - 1) / s * s < n + s := by
  have h := Int.emod_add_mul_ediv (n + s - 1) s
  have h1 := Int.emod_nonneg (n + s - 1) (show s ≠ 0 by omega)
  have h2 := Int.emod_lt_of_pos (n + s - 1) (show 0 < s by omega)
  rw [Int.mul_comm] at h
  omega
theorem pad_bd {n s : Int} (h0 : 0 ≤ n) (h1 : n ≤ 1000000) (h2 : 1 ≤ s) (h3 : s ≤ 64) : 0 ≤ (n + s - 1) / s * s ∧ (n + s - 1) / s * s ≤ 1000064 := by
  have := pad_mod n s h2; omega
/-- The first number from n on that s divides. -/
theorem pad_first {n s m : Int} (h2 : 1 ≤ s) (hm : n ≤ m) (hm' : m ≤ (n + s - 1) / s * s) (h : m % s = 0) : m = (n + s - 1) / s * s := by
  obtain ⟨a, b⟩ := pad_mod n s h2
  generalize hP : (n + s - 1) / s * s = P at *
  have hd : (P - m) % s = 0 := by
    rw [Int.sub_emod, h, ← hP, Int.mul_emod_left]; simp
  have h3 := Int.emod_eq_of_lt (a := P - m) (b := s) (by omega) (by omega)
  omega
theorem pad_not {n s m : Int} (h2 : 1 ≤ s) (hm' : m ≤ (n + s - 1) / s * s) (h : ¬ m % s = 0) : m + 1 ≤ (n + s - 1) / s * s := by
  rcases Int.lt_or_eq_of_le hm' with h1 | h1
  · omega
  · exfalso; apply h; rw [h1, Int.mul_emod_left]
end Go.Port
