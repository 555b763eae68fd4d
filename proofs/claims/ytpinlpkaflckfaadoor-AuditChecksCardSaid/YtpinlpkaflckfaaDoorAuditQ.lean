/- Logs: from when to when who was Master. No program here. -/
import Derived.Test.YtpinlpkaflckfaaDoorAuditP
import Derived.Test.YtpinlpkaflckfaaDoorSxMem
set_option linter.unusedSimpArgs false
set_option linter.unusedVariables false
namespace Go.Port
open Go.RowKit
/-- Somebody's time: from, to, who. -/
structure M3 where
  (a b n : Int)
def M3.row (m : M3) : List Value := [.int .i64 m.a, .int .i64 m.b, .int .i64 m.n]
def setLast : List M3 → Int → List M3
  | [], _ => []
  | [m], t => [{ m with b := t }]
  | m :: m' :: l, t => m :: setLast (m' :: l) t
theorem setLast_snoc (pre : List M3) (m : M3) (t : Int) : setLast (pre ++ [m]) t = pre ++ [{ m with b := t }] := by
  induction pre with
  | nil => rfl
  | cons x pre ih =>
    cases pre with
    | nil => rfl
    | cons y pre => rw [List.cons_append, List.cons_append, setLast, ← List.cons_append, ih]; rfl
def mstep (en : Int) (s : List M3) (e : Ev) : List M3 := if e.wh = 3 then s ++ [⟨e.tm, en, e.nd⟩] else if e.wh = 4 then setLast s e.tm else s
def minv (i : Nat) (ma : Int) (s : List M3) : Prop := s.length ≤ i ∧ (0 ≤ ma → ∃ pre m, s = pre ++ [m])
theorem minv_step {i : Nat} {la ma en : Int} {s : List M3} {e : Ev} (h : minv i ma s) (he : evErr la ma e = 0) : minv (i + 1) (evMa ma e) (mstep en s e) := by
  obtain ⟨h1, h2⟩ := h
  have hb := evErr_bd he
  unfold mstep evMa
  by_cases c3 : e.wh = 3
  · rw [if_pos c3, if_pos c3]
    exact ⟨by rw [List.length_append]; simpa using h1, fun _ => ⟨_, _, rfl⟩⟩
  rw [if_neg c3, if_neg c3]
  by_cases c4 : e.wh = 4
  · rw [if_pos c4, if_pos c4]
    obtain ⟨pre, m, rfl⟩ := h2 (by omega)
    rw [setLast_snoc]
    refine ⟨?_, fun h => by omega⟩
    simp only [List.length_append, List.length_cons, List.length_nil] at h1 ⊢
    omega
  · rw [if_neg c4, if_neg c4]
    exact ⟨by omega, h2⟩
/-- When somebody stopped first, or an end. -/
def stopAt (en : Int) : List Ev → Int
  | [] => en
  | e :: l => if e.wh = 4 then e.tm else stopAt en l
/-- Whose the time is, as the document tells it. -/
def mastersR (en : Int) : List Ev → List M3
  | [] => []
  | e :: l => if e.wh = 3 then ⟨e.tm, stopAt en l, e.nd⟩ :: mastersR en l else mastersR en l
theorem masters_fold (en : Int) : ∀ (l : List Ev) {la ma : Int} {i : Nat} (s : List M3), (auditS la ma i l).2 = 0 → (ma < 0 → l.foldl (mstep en) s = s ++ mastersR en l) ∧ (∀ pre m, 0 ≤ ma → s = pre ++ [m] → m.b = en → l.foldl (mstep en) s = pre ++ [{ m with b := stopAt en l }] ++ mastersR en l) := by
  intro l
  induction l with
  | nil =>
    intro la ma i s _
    refine ⟨fun _ => (List.append_nil s).symm, ?_⟩
    rintro pre ⟨a, b, n⟩ _ rfl rfl
    simp [stopAt, mastersR]
  | cons e l ih =>
    intro la ma i s h
    unfold auditS at h
    by_cases c : evErr la ma e = 0
    · rw [if_pos c] at h
      have hb := evErr_bd c
      have hi := ih (la := e.tm) (ma := evMa ma e) (i := i + 1) (mstep en s e) h
      rw [List.foldl_cons]
      by_cases c3 : e.wh = 3
      · have e1 : evMa ma e = e.nd := if_pos c3
        have e2 : mstep en s e = s ++ [⟨e.tm, en, e.nd⟩] := if_pos c3
        have e3 : mastersR en (e :: l) = ⟨e.tm, stopAt en l, e.nd⟩ :: mastersR en l := if_pos c3
        refine ⟨fun _ => ?_, fun pre m h0 => by omega⟩
        rw [hi.2 s ⟨e.tm, en, e.nd⟩ (by rw [e1]; omega) e2 rfl, e3]
        simp
      · by_cases c4 : e.wh = 4
        · have e1 : evMa ma e = -1 := by unfold evMa; rw [if_neg c3, if_pos c4]
          have e2 : mstep en s e = setLast s e.tm := by unfold mstep; rw [if_neg c3, if_pos c4]
          have e3 : mastersR en (e :: l) = mastersR en l := if_neg c3
          have e4 : stopAt en (e :: l) = e.tm := if_pos c4
          refine ⟨fun h0 => by omega, fun pre m h0 hs hm => ?_⟩
          rw [hi.1 (by rw [e1]; omega), e2, e3, e4, hs, setLast_snoc]
        · have e1 : evMa ma e = ma := by unfold evMa; rw [if_neg c3, if_neg c4]
          have e2 : mstep en s e = s := by unfold mstep; rw [if_neg c3, if_neg c4]
          have e3 : mastersR en (e :: l) = mastersR en l := if_neg c3
          have e4 : stopAt en (e :: l) = stopAt en l := if_neg c4
          rw [e1, e2] at hi
          rw [e2, e3, e4]
          exact hi
    · rw [if_neg c] at h
      exact absurd h c
theorem masters_len (en : Int) (l : List Ev) : (mastersR en l).length ≤ l.length := by
  induction l with
  | nil => exact Nat.le_refl _
  | cons e l ih =>
    unfold mastersR
    split
    · simpa using ih
    · rw [List.length_cons]; omega
/-- The times of a log that is right. -/
theorem stopAt_bd {en : Int} (hen : 0 ≤ en ∧ en ≤ 1000000) : ∀ (l : List Ev) {la ma : Int} {i : Nat}, (auditS la ma i l).2 = 0 → 0 ≤ stopAt en l ∧ stopAt en l ≤ 1000000 := by
  intro l
  induction l with
  | nil => intro la ma i _; exact hen
  | cons e l ih =>
    intro la ma i h
    unfold auditS at h
    by_cases c : evErr la ma e = 0
    · rw [if_pos c] at h
      have hb := evErr_bd c
      unfold stopAt
      split
      · omega
      · exact ih h
    · rw [if_neg c] at h; exact absurd h c
theorem masters_bd {en : Int} (hen : 0 ≤ en ∧ en ≤ 1000000) : ∀ (l : List Ev) {la ma : Int} {i : Nat}, (auditS la ma i l).2 = 0 → ∀ m ∈ mastersR en l, (0 ≤ m.a ∧ m.a ≤ 1000000) ∧ 0 ≤ m.b ∧ m.b ≤ 1000000 := by
  intro l
  induction l with
  | nil => intro la ma i _ m hm; cases hm
  | cons e l ih =>
    intro la ma i h
    unfold auditS at h
    by_cases c : evErr la ma e = 0
    · rw [if_pos c] at h
      have hb := evErr_bd c
      unfold mastersR
      split
      · intro m hm
        rcases List.mem_cons.1 hm with rfl | hm
        · exact ⟨by dsimp only; omega, stopAt_bd hen l h⟩
        · exact ih h m hm
      · exact ih h
    · rw [if_neg c] at h; exact absurd h c
/-- For how long nobody was: the longest time, all of it. -/
def gapsR (lg tot at_ : Int) : List M3 → Int × Int
  | [] => (lg, tot)
  | m :: l => gapsR (max lg (m.a - at_)) (tot + (m.a - at_)) m.b l
theorem rowsM_len (pre : List M3) : (pre.flatMap M3.row).length = pre.length * 3 := by
  induction pre with
  | nil => rfl
  | cons m l ih => rw [List.flatMap_cons, List.length_append, ih, List.length_cons, Nat.succ_mul]; show 3 + _ = _; omega
theorem m_at {M : List M3} {i : Nat} {m : M3} {ext : List Value} (he : M[i]? = some m) (z : Int) (hz : z = i) : ∀ j v, (M3.row m)[j]? = some v → (M.flatMap M3.row ++ ext)[0 + z.toNat * 3 + j]? = some v := by
  subst hz
  induction M generalizing i with
  | nil => cases he
  | cons x M ih =>
    intro j v hv
    cases i with
    | zero =>
      injection he with he
      subst he
      have hj : j < 3 := (List.getElem?_eq_some_iff.1 hv).1
      rw [List.flatMap_cons, List.append_assoc, List.getElem?_append_left (by show _ < 3; simp; omega)]
      simpa using hv
    | succ i =>
      have h := ih (i := i) he j v hv
      rw [List.flatMap_cons, List.append_assoc, List.getElem?_append_right (by show 3 ≤ _; simp; omega)]
      rw [show 0 + ((i + 1 : Nat) : Int).toNat * 3 + j - (M3.row x).length = 0 + (i : Int).toNat * 3 + j by show _ - 3 = _; simp; omega]
      exact h
end Go.Port
