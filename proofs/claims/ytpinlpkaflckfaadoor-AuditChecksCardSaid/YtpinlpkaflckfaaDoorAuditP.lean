/- Logs: where they are wrong; beginnings of them. No program here. -/
import Derived.Test.YtpinlpkaflckfaaDoorPlain
set_option linter.unusedSimpArgs false
set_option linter.unusedVariables false
namespace Go.Port
/-- An event: time, node, what, and a key. -/
structure Ev where
  (tm nd wh k s f d t : Int)
def Ev.flat (e : Ev) : Prop := e.k = 0 ∧ e.s = 0 ∧ e.f = 0 ∧ e.d = 0 ∧ e.t = 0
open Classical in
/-- What is wrong with an event, where the last one was at a time, and one is Master (-1: nobody). -/
noncomputable def evErr (la ma : Int) (e : Ev) : Int :=
  if ¬ (0 ≤ e.tm ∧ e.tm ≤ 1000000) ∨ (¬ e.nd = 0 ∧ ¬ e.nd = 1) ∨ e.wh < 1 ∨ 4 < e.wh then 1 else if e.tm < la then 6
    else if ((e.wh = 3 ∨ e.wh = 4) ∧ ¬ e.flat) ∨ (e.wh = 3 ∧ ma = e.nd) ∨ (e.wh = 4 ∧ ¬ ma = e.nd) ∨ (e.wh = 1 ∧ ¬ ma = e.nd) then 3 else if e.wh = 3 ∧ 0 ≤ ma then 7 else 0
def evMa (ma : Int) (e : Ev) : Int := if e.wh = 3 then e.nd else if e.wh = 4 then -1 else ma
/-- Where a log is wrong, and how. -/
noncomputable def auditS (la ma : Int) (i : Nat) : List Ev → Nat × Int
  | [] => (0, 0)
  | e :: l => if evErr la ma e = 0 then auditS e.tm (evMa ma e) (i + 1) l else (i, evErr la ma e)
noncomputable def auditR (l : List Ev) : Nat × Int := if 1000 < l.length then (0, 4) else auditS 0 (-1) 0 l
/-- A beginning of what is right is right; and of what is wrong, as far as it is. -/
theorem auditS_take {l : List Ev} : ∀ {la ma : Int} {i m : Nat}, ((auditS la ma i l).2 = 0 → auditS la ma i (l.take m) = (0, 0)) ∧
    (¬ (auditS la ma i l).2 = 0 → i ≤ (auditS la ma i l).1 ∧ ((m : Int) ≤ (auditS la ma i l).1 - i → auditS la ma i (l.take m) = (0, 0)) ∧ (¬ (m : Int) ≤ (auditS la ma i l).1 - i → auditS la ma i (l.take m) = auditS la ma i l)) := by
  induction l with
  | nil => intro la ma i m; rw [List.take_nil]; exact ⟨fun _ => rfl, fun h => absurd rfl h⟩
  | cons e l ih =>
    intro la ma i m
    cases m with
    | zero =>
      rw [List.take_zero]
      refine ⟨fun _ => rfl, fun h => ?_⟩
      have hi : i ≤ (auditS la ma i (e :: l)).1 := by
        unfold auditS at h ⊢
        by_cases c : evErr la ma e = 0
        · rw [if_pos c] at h ⊢
          have := ((ih (la := e.tm) (ma := evMa ma e) (i := i + 1) (m := 0)).2 h).1
          omega
        · rw [if_neg c]; exact Nat.le_refl _
      exact ⟨hi, fun _ => rfl, fun hh => absurd (show ((0 : Nat) : Int) ≤ _ by omega) hh⟩
    | succ m =>
      rw [List.take_succ_cons]
      unfold auditS
      by_cases c : evErr la ma e = 0
      · rw [if_pos c, if_pos c]
        obtain ⟨h1, h2⟩ := ih (la := e.tm) (ma := evMa ma e) (i := i + 1) (m := m)
        refine ⟨h1, fun h => ?_⟩
        obtain ⟨g1, g2, g3⟩ := h2 h
        exact ⟨by omega, fun hh => g2 (by omega), fun hh => g3 (by omega)⟩
      · rw [if_neg c, if_neg c]
        exact ⟨fun h => absurd h c, fun _ => ⟨Nat.le_refl _, fun hh => by simp at hh; omega, fun _ => rfl⟩⟩
section
variable {la ma tm nd wh k s f d t : Int}
theorem evErr_1 (h : ¬ (0 ≤ tm ∧ tm ≤ 1000000) ∨ (¬ nd = 0 ∧ ¬ nd = 1) ∨ wh < 1 ∨ 4 < wh) : evErr la ma ⟨tm, nd, wh, k, s, f, d, t⟩ = 1 := if_pos h
theorem evErr_6 (h0 : ¬ (¬ (0 ≤ tm ∧ tm ≤ 1000000) ∨ (¬ nd = 0 ∧ ¬ nd = 1) ∨ wh < 1 ∨ 4 < wh)) (h : tm < la) : evErr la ma ⟨tm, nd, wh, k, s, f, d, t⟩ = 6 := (if_neg h0).trans (if_pos h)
theorem evErr_3 (h0 : ¬ (¬ (0 ≤ tm ∧ tm ≤ 1000000) ∨ (¬ nd = 0 ∧ ¬ nd = 1) ∨ wh < 1 ∨ 4 < wh)) (h1 : ¬ tm < la) (h : ((wh = 3 ∨ wh = 4) ∧ ¬ (k = 0 ∧ s = 0 ∧ f = 0 ∧ d = 0 ∧ t = 0)) ∨ (wh = 3 ∧ ma = nd) ∨ (wh = 4 ∧ ¬ ma = nd) ∨ (wh = 1 ∧ ¬ ma = nd)) : evErr la ma ⟨tm, nd, wh, k, s, f, d, t⟩ = 3 := (if_neg h0).trans ((if_neg h1).trans (if_pos h))
theorem evErr_7 (h0 : ¬ (¬ (0 ≤ tm ∧ tm ≤ 1000000) ∨ (¬ nd = 0 ∧ ¬ nd = 1) ∨ wh < 1 ∨ 4 < wh)) (h1 : ¬ tm < la) (h2 : ¬ (((wh = 3 ∨ wh = 4) ∧ ¬ (k = 0 ∧ s = 0 ∧ f = 0 ∧ d = 0 ∧ t = 0)) ∨ (wh = 3 ∧ ma = nd) ∨ (wh = 4 ∧ ¬ ma = nd) ∨ (wh = 1 ∧ ¬ ma = nd))) (h : wh = 3 ∧ 0 ≤ ma) : evErr la ma ⟨tm, nd, wh, k, s, f, d, t⟩ = 7 := (if_neg h0).trans ((if_neg h1).trans ((if_neg h2).trans (if_pos h)))
theorem evErr_0 (h0 : ¬ (¬ (0 ≤ tm ∧ tm ≤ 1000000) ∨ (¬ nd = 0 ∧ ¬ nd = 1) ∨ wh < 1 ∨ 4 < wh)) (h1 : ¬ tm < la) (h2 : ¬ (((wh = 3 ∨ wh = 4) ∧ ¬ (k = 0 ∧ s = 0 ∧ f = 0 ∧ d = 0 ∧ t = 0)) ∨ (wh = 3 ∧ ma = nd) ∨ (wh = 4 ∧ ¬ ma = nd) ∨ (wh = 1 ∧ ¬ ma = nd))) (h : ¬ (wh = 3 ∧ 0 ≤ ma)) : evErr la ma ⟨tm, nd, wh, k, s, f, d, t⟩ = 0 := (if_neg h0).trans ((if_neg h1).trans ((if_neg h2).trans (if_neg h)))
/-- What a log's event that is right is. -/
theorem evErr_bd {e : Ev} (h : evErr la ma e = 0) : (0 ≤ e.tm ∧ e.tm ≤ 1000000) ∧ (e.nd = 0 ∨ e.nd = 1) ∧ (1 ≤ e.wh ∧ e.wh ≤ 4) ∧ la ≤ e.tm ∧ (e.wh = 3 → ma < 0) ∧ (e.wh = 4 ∨ e.wh = 1 → ma = e.nd) := by
  unfold evErr at h
  split at h
  · cases h
  split at h
  · cases h
  split at h
  · cases h
  split at h
  · cases h
  omega
theorem auditS_bad {l : List Ev} {i : Nat} {K : Int} {e : Ev} {r : Nat × Int} (ha : r = if evErr la ma e = 0 then auditS e.tm (evMa ma e) (i + 1) l else (i, evErr la ma e)) (h : evErr la ma e = K) (hK : K ≠ 0) : r = (i, K) := by rw [ha, if_neg (by rw [h]; exact hK), h]
theorem auditS_good {l : List Ev} {i : Nat} {m : Int} {e : Ev} {r : Nat × Int} (ha : r = if evErr la ma e = 0 then auditS e.tm (evMa ma e) (i + 1) l else (i, evErr la ma e)) (h : evErr la ma e = 0) (hm : m = evMa ma e) : r = auditS e.tm m (i + 1) l := by rw [ha, if_pos h, hm]
end
/-- How often something was logged. -/
def cnt (w : Int) (l : List Ev) : Nat := (l.filter fun e => decide (e.wh = w)).length
theorem cnt_take (w : Int) (l : List Ev) (m : Nat) : cnt w (l.take m) ≤ cnt w l := by
  unfold cnt
  exact (List.Sublist.filter _ (List.take_sublist m l)).length_le
/-- Counts of what was logged. -/
structure C4 where
  (a b c d : Int)
def C4.step (s : C4) (e : Ev) : C4 := if e.wh = 1 then { s with a := s.a + 1 } else if e.wh = 2 then { s with b := s.b + 1 } else if e.wh = 3 then { s with c := s.c + 1 } else if e.wh = 4 then { s with d := s.d + 1 } else s
theorem cnt_cons (w : Int) (e : Ev) (l : List Ev) : (cnt w (e :: l) : Int) = (if e.wh = w then 1 else 0) + cnt w l := by
  unfold cnt
  by_cases h : e.wh = w
  · simp [h]; omega
  · simp [h]
theorem C4.fold (l : List Ev) : ∀ s : C4, l.foldl C4.step s = ⟨s.a + cnt 1 l, s.b + cnt 2 l, s.c + cnt 3 l, s.d + cnt 4 l⟩ := by
  induction l with
  | nil => intro s; simp [cnt]
  | cons e l ih =>
    intro s
    rw [List.foldl_cons, ih, cnt_cons, cnt_cons, cnt_cons, cnt_cons]
    unfold C4.step
    by_cases h1 : e.wh = 1
    · simp [h1]; omega
    · by_cases h2 : e.wh = 2
      · simp [h2]; omega
      · by_cases h3 : e.wh = 3
        · simp [h3]; omega
        · by_cases h4 : e.wh = 4
          · simp [h4]; omega
          · simp [h1, h2, h3, h4]
def C4.inv (i : Nat) (s : C4) : Prop := (0 ≤ s.a ∧ s.a ≤ i) ∧ (0 ≤ s.b ∧ s.b ≤ i) ∧ (0 ≤ s.c ∧ s.c ≤ i) ∧ 0 ≤ s.d ∧ s.d ≤ i
theorem C4.inv_step {i : Nat} {s : C4} (e : Ev) (h : C4.inv i s) : C4.inv (i + 1) (s.step e) := by
  unfold C4.inv C4.step at *
  repeat' split
  all_goals (first | omega | (dsimp only; omega))
/-- Who is Master behind a log. -/
def mast (l : List Ev) : Int := l.foldl evMa (-1)
theorem mast_snoc (l : List Ev) (e : Ev) : mast (l ++ [e]) = evMa (mast l) e := by unfold mast; rw [List.foldl_append]; rfl
theorem take_snoc {l : List Ev} {i : Nat} {e : Ev} (h : l[i]? = some e) : l.take (i + 1) = l.take i ++ [e] := by
  rw [List.take_add_one, h]; rfl
theorem audit_wh : ∀ {l : List Ev} {la ma : Int} {i : Nat}, (auditS la ma i l).2 = 0 → ∀ e ∈ l, 1 ≤ e.wh ∧ e.wh ≤ 4 := by
  intro l
  induction l with
  | nil => intro la ma i _ e he; cases he
  | cons x l ih =>
    intro la ma i h
    unfold auditS at h
    by_cases c : evErr la ma x = 0
    · rw [if_pos c] at h
      intro e he
      rcases List.mem_cons.1 he with rfl | he
      · exact (evErr_bd c).2.2.1
      · exact ih h e he
    · rw [if_neg c] at h; exact absurd h c
theorem C4.fold_bd {l : List Ev} : C4.inv l.length (l.foldl C4.step ⟨0, 0, 0, 0⟩) := by
  rw [C4.fold]
  unfold C4.inv cnt
  have h := fun w : Int => (List.length_filter_le (fun e : Ev => decide (e.wh = w)) l)
  have h1 := h 1
  have h2 := h 2
  have h3 := h 3
  have h4 := h 4
  dsimp only
  omega
end Go.Port
