/- What rules say of a key: plain law of Trace and Judge. No program here. -/
import Derived.Test.YtchkpkeljcdccaaDoorJudgeA
import Derived.Test.YtchkpkeljcdccaaDoorJudgeC
set_option linter.unusedSimpArgs false
set_option linter.unusedVariables false
namespace Go.Port
open Go.RowKit
open Classical in
/-- A rule fits. -/
noncomputable def fitB (k s f d t w : Int) (r : Ru) : Bool := decide (fitsR r.way r.kind r.sa r.sl r.da r.dl r.lf r.lt k s f d t w)
/-- The rules that fit, up to a quick one. -/
def traceN (p : Ru → Bool) : Nat → List Ru → List Nat
  | _, [] => []
  | i, r :: l => if p r then (if r.qk then [i] else i :: traceN p (i + 1) l) else traceN p (i + 1) l
/-- A quick one fits. -/
def stopN (p : Ru → Bool) : List Ru → Bool
  | [] => false
  | r :: l => (p r && r.qk) || stopN p l
theorem traceN_bd {p : Ru → Bool} : ∀ {l : List Ru} {i n : Nat}, n ∈ traceN p i l → i ≤ n ∧ n < i + l.length
  | [], i, n, h => by cases h
  | r :: l, i, n, h => by
    rw [traceN] at h
    rw [List.length_cons]
    split at h
    · split at h
      · simp only [List.mem_singleton] at h; omega
      · rcases List.mem_cons.1 h with h | h
        · omega
        · have := traceN_bd h; omega
    · have := traceN_bd h; omega
theorem traceN_shift {p : Ru → Bool} : ∀ {l : List Ru} {i : Nat}, traceN p (i + 1) l = (traceN p i l).map (· + 1)
  | [], _ => rfl
  | r :: l, i => by
    rw [traceN, traceN, traceN_shift (l := l) (i := i + 1)]
    split
    · split <;> rfl
    · rfl
theorem traceN_snoc {p : Ru → Bool} {r : Ru} : ∀ {l : List Ru} {i : Nat}, traceN p i (l ++ [r]) = traceN p i l ++ (if stopN p l then [] else if p r then [i + l.length] else [])
  | [], i => by
    show traceN p i [r] = [] ++ (if (false : Bool) = true then [] else if p r then [i + 0] else [])
    rw [traceN, traceN]
    cases p r <;> cases r.qk <;> simp
  | x :: l, i => by
    have ih := traceN_snoc (p := p) (r := r) (l := l) (i := i + 1)
    rw [List.cons_append, traceN, traceN, stopN, List.length_cons, show i + (l.length + 1) = i + 1 + l.length by omega]
    cases p x
    · simpa using ih
    · cases x.qk
      · simp [ih]
      · simp
theorem traceN_last {p : Ru → Bool} : ∀ {l : List Ru} {i : Nat}, (traceN p i l = [] ∧ stopN p l = false) ∨ ∃ n r, (traceN p i l).getLast? = some n ∧ i ≤ n ∧ l[n - i]? = some r ∧ r.qk = stopN p l
  | [], i => .inl ⟨rfl, rfl⟩
  | x :: l, i => by
    have ih := traceN_last (p := p) (l := l) (i := i + 1)
    rw [traceN, stopN]
    cases hp : p x
    · rcases ih with ⟨h1, h2⟩ | ⟨n, r, h1, h2, h3, h4⟩
      · exact .inl ⟨by simpa using h1, by simpa using h2⟩
      · refine .inr ⟨n, r, by simpa using h1, by omega, ?_, by simpa using h4⟩
        rw [show n - i = n - (i + 1) + 1 by omega, List.getElem?_cons_succ]; exact h3
    · cases hq : x.qk
      · rcases ih with ⟨h1, h2⟩ | ⟨n, r, h1, h2, h3, h4⟩
        · exact .inr ⟨i, x, by simp [h1], Nat.le_refl _, by simp, by simp [h2, hq]⟩
        · refine .inr ⟨n, r, ?_, by omega, ?_, by simpa using h4⟩
          · simp only [if_true, Bool.false_eq_true, if_false]
            rw [List.getLast?_cons, h1]; rfl
          · rw [show n - i = n - (i + 1) + 1 by omega, List.getElem?_cons_succ]; exact h3
      · exact .inr ⟨i, x, by simp, Nat.le_refl _, by simp, by simp [hq]⟩
theorem traceN_step {p : Ru → Bool} {l : List Ru} {i : Nat} {r : Ru} (h : l[i]? = some r) : traceN p i (l.drop i) = if p r then (if r.qk then [i] else i :: traceN p (i + 1) (l.drop (i + 1))) else traceN p (i + 1) (l.drop (i + 1)) := by
  obtain ⟨hi, rfl⟩ := List.getElem?_eq_some_iff.1 h
  rw [List.drop_eq_getElem_cons hi, traceN]
/-- What is wrong with rules, a key, a way. -/
noncomputable def jdE (l : List Ru) (k s f d t w : Int) : Int := if ¬ rcE l = 0 then rcE l else jkE k s f d t w
/-- What a trace says: pass, keep, number. -/
def verdict (l : List Ru) (o : List Nat) : Bool × Bool × Int := match o.getLast? with
  | none => (true, false, -1)
  | some n => match l[n]? with
    | none => (true, false, -1)
    | some r => (r.ps, r.kp, n)
theorem rcE_le {l : List Ru} (h : rcE l = 0) : l.length ≤ 20 := by
  unfold rcE at h
  split at h
  · cases h
  · omega
theorem firstE_snoc {r : Ru} : ∀ {l : List Ru}, firstE l = 0 → firstE (l ++ [r]) = r.err
  | [], _ => by
    show firstE [r] = _
    rw [firstE, firstE]
    split
    · rfl
    · rename_i h; exact (Classical.not_not.1 h).symm
  | x :: l, h => by
    rw [firstE] at h
    rw [List.cons_append, firstE]
    split at h
    · rename_i h1; exact absurd h h1
    · rename_i h1; rw [if_neg h1]; exact firstE_snoc h
theorem rcE_snoc {l : List Ru} {r : Ru} (h : rcE l = 0) (hl : l.length < 20) : rcE (l ++ [r]) = r.err := by
  unfold rcE at h ⊢
  rw [if_neg (by omega)] at h
  rw [if_neg (by rw [List.length_append, List.length_singleton]; omega)]
  exact firstE_snoc h
theorem rcE_cons {l : List Ru} {r : Ru} (h : rcE l = 0) (hl : l.length < 20) : rcE (r :: l) = r.err := by
  unfold rcE at h ⊢
  rw [if_neg (by omega)] at h
  rw [if_neg (by rw [List.length_cons]; omega), firstE]
  split
  · rfl
  · rename_i h1; rw [h]; exact (Classical.not_not.1 h1).symm
/-- The same rule, quick. -/
def Ru.quick (r : Ru) : Ru := { r with qk := true }
theorem quick_err (r : Ru) : r.quick.err = r.err := by unfold Ru.err Ru.quick; rfl
theorem quick_fit (k s f d t w : Int) (r : Ru) : fitB k s f d t w r.quick = fitB k s f d t w r := by unfold fitB Ru.quick; rfl
theorem verdict_none {l : List Ru} {o : List Nat} (h : o = []) : verdict l o = (true, false, -1) := by subst h; rfl
theorem verdict_some {l : List Ru} {o : List Nat} {n : Nat} {r : Ru} (h : o.getLast? = some n) (hr : l[n]? = some r) : verdict l o = (r.ps, r.kp, (n : Int)) := by unfold verdict; rw [h]; dsimp only; rw [hr]
theorem verdict_pre {l m : List Ru} {o : List Nat} (h : ∀ n ∈ o, n < l.length) : verdict (l ++ m) o = verdict l o := by
  unfold verdict
  cases e : o.getLast? with
  | none => rfl
  | some n =>
    have := h n (List.mem_of_getLast? e)
    dsimp only
    rw [List.getElem?_append_left this]
theorem verdict_shift {l : List Ru} {x : Ru} {o : List Nat} (h : ∀ n ∈ o, n < l.length) (ho : o ≠ []) : verdict (x :: l) (o.map (· + 1)) = ((verdict l o).1, (verdict l o).2.1, (verdict l o).2.2 + 1) := by
  unfold verdict
  rw [List.getLast?_map]
  cases e : o.getLast? with
  | none => rw [List.getLast?_eq_none_iff] at e; exact absurd e ho
  | some n =>
    have := h n (List.mem_of_getLast? e)
    simp only [Option.map_some, List.getElem?_cons_succ, List.getElem?_eq_getElem this]
    simp
end Go.Port
