/- How many numbers there are in sets of spans: the plain law. No program here. -/
import Derived.Test.YtoelbnhjamddgaaGreatDoorSpanL
set_option linter.unusedSimpArgs false
set_option linter.unusedVariables false
namespace Go.Port
/-- How many numbers below k are in a set. -/
def cntB (S : Int → Bool) : Nat → Int
  | 0 => 0
  | k + 1 => cntB S k + (if S k then 1 else 0)
theorem cntB_add {S A B : Int → Bool} (h : ∀ n, S n = (A n || B n)) (hd : ∀ n, (A n && B n) = false) : ∀ k, cntB S k = cntB A k + cntB B k
  | 0 => rfl
  | k + 1 => by
    have h1 := hd k
    rw [cntB, cntB, cntB, cntB_add h hd k, h k]
    cases hA : A k <;> cases hB : B k
    · simp
    · simp; omega
    · simp; omega
    · rw [hA, hB] at h1
      cases h1
theorem cntB_in {a b : Int} (h0 : 0 ≤ a) (h : a ≤ b) : ∀ k : Nat, cntB (fun n => decide (a ≤ n ∧ n ≤ b)) k = if (k : Int) ≤ a then 0 else if (k : Int) ≤ b then k - a else b - a + 1
  | 0 => by rw [cntB, if_pos (by omega)]
  | k + 1 => by
    rw [cntB, cntB_in h0 h k]
    by_cases h1 : a ≤ (k : Int) ∧ (k : Int) ≤ b
    · have e : (if decide (a ≤ (k : Int) ∧ (k : Int) ≤ b) = true then (1 : Int) else 0) = 1 := if_pos (decide_eq_true h1)
      rw [e]
      split <;> split <;> (try split) <;> (try split) <;> omega
    · have e : (if decide (a ≤ (k : Int) ∧ (k : Int) ≤ b) = true then (1 : Int) else 0) = 0 := if_neg (fun h => h1 (of_decide_eq_true h))
      rw [e]
      split <;> split <;> (try split) <;> (try split) <;> omega
open Classical in
noncomputable def hasB (l : List Sp) (n : Int) : Bool := decide (hasS l n)
open Classical in
theorem hasB_t {l : List Sp} {n : Int} : hasB l n = true ↔ hasS l n := by unfold hasB; exact decide_eq_true_iff
open Classical in
theorem hasB_f {l : List Sp} {n : Int} : hasB l n = false ↔ ¬ hasS l n := by unfold hasB; exact decide_eq_false_iff_not
theorem many_cnt : ∀ {l : List Sp}, Gap l → OkS l → manyS l = cntB (hasB l) 65536
  | [], _, _ => by
    have : ∀ k, cntB (hasB []) k = 0 := by
      intro k
      induction k with
      | zero => rfl
      | succ k ih =>
        rw [cntB, ih, hasB_f.2 (fun h => (hasS_nil _).1 h)]
        rfl
    rw [this]
    rfl
  | s :: l, hg, hk => by
    have hb := hk s (List.Mem.head _)
    unfold spBad at hb
    have ih := many_cnt hg.tail fun x hx => hk x (List.mem_cons_of_mem _ hx)
    have h1 := cntB_in (a := s.1) (b := s.2) (by omega) (by omega) 65536
    rw [if_neg (by omega), if_neg (by omega)] at h1
    rw [cntB_add (S := hasB (s :: l)) (A := fun n => decide (s.1 ≤ n ∧ n ≤ s.2)) (B := hasB l) (fun n => by
        rw [Bool.eq_iff_iff, Bool.or_eq_true, hasB_t, hasB_t, decide_eq_true_iff]
        exact hasS_cons) (fun n => by
        rw [Bool.and_eq_false_iff, hasB_f, decide_eq_false_iff_not]
        by_cases h : hasS l n
        · obtain ⟨t, ht, h2⟩ := h
          have := hg.above t ht
          exact .inl (by omega)
        · exact .inr h), h1, ← ih, manyS]
/-- Two that have nothing in common, together. -/
theorem many_add {x y z : List Sp} (gx : Gap x) (gy : Gap y) (gz : Gap z) (kx : OkS x) (ky : OkS y) (kz : OkS z) (h : ∀ n, hasS x n ↔ hasS y n ∨ hasS z n) (hd : ∀ n, hasS y n → ¬ hasS z n) : manyS x = manyS y + manyS z := by
  rw [many_cnt gx kx, many_cnt gy ky, many_cnt gz kz]
  refine cntB_add (fun n => ?_) (fun n => ?_) _
  · rw [Bool.eq_iff_iff, Bool.or_eq_true, hasB_t, hasB_t, hasB_t]
    exact h n
  · rw [Bool.and_eq_false_iff, hasB_f, hasB_f]
    by_cases h : hasS y n
    · exact .inr (hd n h)
    · exact .inl h
/-- What two have and what one has alone, counted. -/
theorem many_join {a b j d : List Sp} (gb : Gap b) (ka : OkS a) (kb : OkS b) (hj : IsSet j (fun n => hasS a n ∨ hasS b n)) (hd : IsSet d (fun n => hasS a n ∧ ¬ hasS b n)) : manyS j = manyS d + manyS b := by
  refine many_add hj.1 hd.1 gb (hj.ok fun n h => h.elim ka.has kb.has) (hd.ok fun n h => ka.has h.1) kb (fun n => ?_) (fun n h => ((hd.2 n).1 h).2)
  rw [hj.2, hd.2]
  dsimp only
  by_cases h : hasS b n
  · exact ⟨fun _ => .inr h, fun _ => .inr h⟩
  · exact ⟨fun h1 => .inl ⟨h1.resolve_right h, h⟩, fun h1 => .inl (h1.resolve_right h).1⟩
theorem many_meet {a b m d : List Sp} (ga : Gap a) (ka : OkS a) (hm : IsSet m (fun n => hasS a n ∧ hasS b n)) (hd : IsSet d (fun n => hasS a n ∧ ¬ hasS b n)) : manyS a = manyS d + manyS m := by
  refine many_add ga hd.1 hm.1 ka (hd.ok fun n h => ka.has h.1) (hm.ok fun n h => ka.has h.1) (fun n => ?_) (fun n h h2 => ((hd.2 n).1 h).2 ((hm.2 n).1 h2).2)
  rw [hm.2, hd.2]
  dsimp only
  by_cases h : hasS b n
  · exact ⟨fun h1 => .inr ⟨h1, h⟩, fun h1 => h1.elim (·.1) (·.1)⟩
  · exact ⟨fun h1 => .inl ⟨h1, h⟩, fun h1 => h1.elim (·.1) (·.1)⟩
theorem full_set : IsSet [(0, 65535)] (fun n => 0 ≤ n ∧ n ≤ 65535) := ⟨by show (0 : Int) ≤ 65535; decide, fun n => hasS_one⟩
theorem full_ok : OkS [(0, 65535)] := fun s hs => by rw [List.mem_singleton.1 hs]; unfold spBad; decide
theorem many_not {a c : List Sp} (ga : Gap a) (ka : OkS a) (hc : IsSet c (fun n => (0 ≤ n ∧ n ≤ 65535) ∧ ¬ hasS a n)) : manyS c + manyS a = 65536 := by
  have := many_add (x := [(0, 65535)]) (y := c) (z := a) full_set.1 hc.1 ga full_ok (hc.ok fun n h => h.1) ka (fun n => by
    rw [full_set.2, hc.2]
    dsimp only
    by_cases h : hasS a n
    · exact ⟨fun _ => .inr h, fun _ => ka.has h⟩
    · exact ⟨fun h1 => .inl ⟨h1, h⟩, fun h1 => h1.elim (·.1) ka.has⟩) (fun n h => ((hc.2 n).1 h).2)
  rw [← this]
  rfl
theorem not_not {a c f : List Sp} (ga : Gap a) (ka : OkS a) (hc : IsSet c (fun n => (0 ≤ n ∧ n ≤ 65535) ∧ ¬ hasS a n)) (hf : IsSet f (fun n => (0 ≤ n ∧ n ≤ 65535) ∧ ¬ hasS c n)) : f = a :=
  gap_one hf.1 ga fun n => by
    rw [hf.2]
    constructor
    · rintro ⟨h1, h2⟩
      exact Classical.byContradiction fun h => h2 ((hc.2 n).2 ⟨h1, h⟩)
    · intro h
      exact ⟨ka.has h, fun h2 => ((hc.2 n).1 h2).2 h⟩
end Go.Port
