/- SyncHears: the notes that are told; what is left of them. No program here. -/
import Derived.Test.YtpinlpkaflckfaaSyncL
import Derived.Test.YtpinlpkaflckfaaSyncH
set_option linter.unusedSimpArgs false
set_option linter.unusedVariables false
namespace Go.Port
open Go.RowKit
/-- The notes that are told: of keys that go round. -/
def hN (k : Int) : Nt := ⟨2, k, ⟨1 + (k - 1) % 3, 10 + (k - 1) % 5, 7, 20 - (k - 1) % 3, 7, 0, 0, 0, 0, 0, 0, 0, false, false, 0⟩⟩
theorem hN_err {k : Int} (h : 1 ≤ k ∧ k ≤ 100) : (hN k).err = 0 := by
  have hk : keyOk (1 + (k - 1) % 3) (10 + (k - 1) % 5) 7 (20 - (k - 1) % 3) 7 := by unfold keyOk; omega
  have hb : Fl.bare ⟨1 + (k - 1) % 3, 10 + (k - 1) % 5, 7, 20 - (k - 1) % 3, 7, 0, 0, 0, 0, 0, 0, 0, false, false, 0⟩ := by unfold Fl.bare; simp
  unfold hN Nt.err
  dsimp only
  rw [if_neg (by omega), if_neg (by omega), if_pos rfl, if_neg (by rw [Classical.not_not]; exact hk), if_neg (by rw [Classical.not_not]; exact hb)]
/-- What is left to be heard of: the notes behind j. -/
def LeftN (j n : Nat) (l : List Td) : Prop := l.map Td.n = outN hN j (n - j)
theorem outN_succ (N : Int → Nt) (s : Int) (m : Nat) : outN N s (m + 1) = N (s + 1) :: outN N (s + 1) m := by
  unfold outN
  rw [List.range_succ_eq_map, List.map_cons, List.map_map]
  congr 1
  · congr 1; omega
  · apply List.map_congr_left
    intro i _
    show N _ = N _
    congr 1
    simp only [Function.comp, Nat.succ_eq_add_one]
    omega
theorem LeftN.len {j n : Nat} {l : List Td} (h : LeftN j n l) : l.length = n - j := by
  have := congrArg List.length h
  rwa [List.length_map, outN_len] at this
theorem LeftN.mem {j n : Nat} {l : List Td} (h : LeftN j n l) {x : Td} (hx : x ∈ l) : ∃ k : Nat, x.n = hN k ∧ j < k ∧ k ≤ n := by
  have : x.n ∈ outN hN j (n - j) := by rw [← h]; exact List.mem_map_of_mem hx
  unfold outN at this
  obtain ⟨i, hi, he⟩ := List.mem_map.1 this
  have := List.mem_range.1 hi
  exact ⟨j + 1 + i, by rw [← he]; first | rfl | (congr 1; omega), by omega, by omega⟩
theorem LeftN.has {j n : Nat} {l : List Td} (h : LeftN j n l) {k : Nat} (h1 : j < k) (h2 : k ≤ n) : ∃ x ∈ l, x.n = hN k := by
  have : hN k ∈ outN hN j (n - j) := List.mem_map.2 ⟨k - j - 1, List.mem_range.2 (by omega), by congr 1; omega⟩
  rw [← h] at this
  obtain ⟨x, hx, he⟩ := List.mem_map.1 this
  exact ⟨x, hx, he⟩
theorem due_n (now again : Int) (l : List Td) : (dueT now again l).map Td.n = l.map Td.n := by
  unfold dueT
  rw [List.map_map]
  apply List.map_congr_left
  intro x _
  show (Td.told now again x).n = x.n
  unfold Td.told
  split <;> rfl
theorem LeftN.due {j n : Nat} {l : List Td} (h : LeftN j n l) (now again : Int) : LeftN j n (dueT now again l) := by
  unfold LeftN; rw [due_n]; exact h
theorem LeftN.heard {n : Nat} (s : Nat) : ∀ {l : List Td} {j : Nat}, LeftN j n l → j ≤ s → s ≤ n → LeftN s n (heardL s l)
  | [], j, h, hj, hs => by
    have := h.len
    obtain rfl : s = n := by simp at this; omega
    unfold LeftN heardL outN; simp
  | x :: l, j, h, hj, hs => by
    have hl := h.len
    rw [List.length_cons] at hl
    unfold LeftN at h
    rw [show n - j = (n - (j + 1)) + 1 by omega, outN_succ, List.map_cons] at h
    obtain ⟨h1, h2⟩ := List.cons.inj h
    have hq : x.n.seq = j + 1 := by rw [h1]; rfl
    by_cases he : j = s
    · subst he
      rw [heard_stop (by rw [hq]; omega)]
      unfold LeftN
      rw [show n - j = (n - (j + 1)) + 1 by omega, outN_succ, List.map_cons, h1, h2]
    · rw [heard_cons (by rw [hq]; omega)]
      exact LeftN.heard s (j := j + 1) (by unfold LeftN; rw [h2]; congr 1) (by omega) hs
/-- Told at first. -/
theorem LeftN.tell {i : Nat} {l : List Td} (h : l.map Td.n = outN hN 0 i) : (l ++ [(⟨hN (i + 1 : Nat), -1⟩ : Td)]).map Td.n = outN hN 0 (i + 1) := by
  rw [List.map_append, h, outN_snoc]
  show _ ++ [hN ((i + 1 : Nat) : Int)] = _ ++ [hN (0 + 1 + (i : Int))]
  rw [show ((i + 1 : Nat) : Int) = 0 + 1 + (i : Int) by omega]
theorem due_mem {now again : Int} {l : List Td} {x : Nt} (h : x ∈ dueN now again l) : ∃ y ∈ l, y.n = x := by
  unfold dueN at h
  obtain ⟨y, hy, he⟩ := List.mem_map.1 h
  exact ⟨y, (List.mem_filter.1 hy).1, he⟩
/-- What comes out was told. -/
theorem heard_le {N : Int → Nt} {n s q : Int} {M : MI} {m : Nat} (hW : Waits N n M) (h : ∀ k, s < k → k ≤ s + m → vlI M k ≠ none ∨ k = q) (hq : q ≤ n) (hs : s ≤ n) : s + m ≤ n := by
  by_cases hm : m = 0
  · omega
  · rcases h (s + m) (by omega) (by omega) with h1 | h1
    · cases hv : vlI M (s + m) with
      | none => exact absurd hv h1
      | some v => obtain ⟨j, hj⟩ := vlI_some hv; exact (hW.get hj).2
    · omega
/-- While all are told again: what is not had was told not long ago. -/
def Late (i : Int) (s : Int) (M : MI) (l : List Td) : Prop := ∀ x ∈ l, Had s M x.n.seq ∨ (x.at_ ≤ 39 ∧ (i = 40 ∨ (0 ≤ x.at_ ∧ i - 1 - x.at_ < 3)))
theorem Late.next {i s : Int} {M : MI} {l : List Td} (h : Late i s M l) (hi : 40 ≤ i) {s' : Int} {M' : MI} (hm : ∀ k, Had s M k → Had s' M' k) (hd : ∀ x ∈ dueN i 3 l, Had s' M' x.seq) : Late (i + 1) s' M' (dueT i 3 l) := by
  intro x hx
  obtain ⟨y, hy, rfl⟩ := List.mem_map.1 hx
  by_cases hdu : Td.due i 3 y = true
  · left
    have : y.n ∈ dueN i 3 l := List.mem_map_of_mem (List.mem_filter.2 ⟨hy, hdu⟩)
    have := hd _ this
    unfold Td.told
    rw [if_pos hdu]
    exact this
  · have e : Td.told i 3 y = y := if_neg hdu
    rw [e]
    rcases h y hy with h1 | ⟨h1, h2⟩
    · exact .inl (hm _ h1)
    · right
      simp only [Td.due, Bool.or_eq_true, decide_eq_true_eq, not_or] at hdu
      exact ⟨h1, .inr (by omega)⟩
theorem Late.sub {i s : Int} {M : MI} {l l' : List Td} (h : Late i s M l) (hs : ∀ x ∈ l', x ∈ l) : Late i s M l' := fun x hx => h x (hs x hx)
/-- At the end all was had. -/
theorem Late.all {i s : Int} {M : MI} {l : List Td} (h : Late i s M l) (hi : 43 ≤ i) {j n : Nat} (hl : LeftN j n l) (hj : (j : Int) ≤ s) : ∀ k : Int, 1 ≤ k → k ≤ n → Had s M k := by
  intro k h1 h2
  by_cases hk : k ≤ j
  · exact .inl (by omega)
  · obtain ⟨x, hx, he⟩ := hl.has (k := k.toNat) (by omega) (by omega)
    rcases h x hx with h3 | ⟨h3, h4⟩
    · rw [he] at h3
      have : (hN (k.toNat : Int)).seq = k := by show ((k.toNat : Nat) : Int) = k; omega
      rwa [this] at h3
    · omega
end Go.Port
