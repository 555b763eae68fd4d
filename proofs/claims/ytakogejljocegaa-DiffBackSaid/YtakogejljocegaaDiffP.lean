/- Rules and edits by their contents; what edits make of rules: the plain law. -/
import Derived.Test.YtakogejljocegaaRuleC
import Derived.Test.YtakogejljocegaaDiffL
set_option linter.unusedSimpArgs false
set_option linter.unusedVariables false
namespace Go.Port
/-- What a rule tells. -/
structure Rc where
  (ps qk kp : Bool)
  (way kind sa sl da dl : Int)
  (lf lt : List Sp)
deriving DecidableEq
def Ru.con (r : Ru) : Rc := ⟨r.ps, r.qk, r.kp, r.way, r.kind, r.sa, r.sl, r.da, r.dl, r.lf, r.lt⟩
noncomputable def Rc.err (r : Rc) : Int := ruE r.ps r.kp r.way r.kind r.sa r.sl r.da r.dl r.lf r.lt
theorem con_err (r : Ru) : r.err = r.con.err := rfl
noncomputable def firstC : List Rc → Int
  | [] => 0
  | r :: t => if ¬ r.err = 0 then r.err else firstC t
noncomputable def rcC (l : List Rc) : Int := if 20 < l.length then 4 else firstC l
theorem first_con : ∀ l : List Ru, firstE l = firstC (l.map Ru.con)
  | [] => rfl
  | r :: t => by
    rw [firstE, List.map_cons, firstC, ← con_err, first_con t]
theorem rc_con (l : List Ru) : rcE l = rcC (l.map Ru.con) := by
  unfold rcE rcC
  rw [List.length_map, first_con]
/-- An edit in memory. -/
structure Eu where
  (at1 : Int)
  (put : Bool)
  (r : Ru)
def Eu.row (e : Eu) : List Value := .int .i64 e.at1 :: .bool e.put :: e.r.row
def Eu.ok (w : World) (e : Eu) : Prop := e.r.ok w
theorem eu_len : ∀ l : List Eu, (l.flatMap Eu.row).length = l.length * 13
  | [] => rfl
  | r :: l => by rw [List.flatMap_cons, List.length_append, eu_len l, List.length_cons]; show 13 + _ = _; omega
theorem eu_at : ∀ {l : List Eu} {i : Nat} {r : Eu}, l[i]? = some r → ∀ j v, r.row[j]? = some v → (l.flatMap Eu.row)[i * 13 + j]? = some v
  | [], i, r, h => by simp at h
  | x :: l, 0, r, h => fun j v hv => by
    obtain rfl := Option.some.inj h
    have hj : j < 13 := by
      obtain ⟨hj, _⟩ := List.getElem?_eq_some_iff.1 hv
      exact hj
    rw [List.flatMap_cons, Nat.zero_mul, Nat.zero_add, List.getElem?_append_left (by show j < 13; exact hj)]
    exact hv
  | x :: l, i + 1, r, h => fun j v hv => by
    have := eu_at (l := l) (i := i) h j v hv
    rw [List.flatMap_cons, List.getElem?_append_right (by show 13 ≤ _; omega)]
    show (l.flatMap Eu.row)[(i + 1) * 13 + j - 13]? = _
    rw [show (i + 1) * 13 + j - 13 = i * 13 + j by omega]
    exact this
/-- What an edit tells. -/
abbrev Ec := Int × Bool × Rc
def Eu.con (e : Eu) : Ec := (e.at1, e.put, e.r.con)
/-- What one edit makes of rules: 1, 6: the fault. -/
def stepD (l : List Rc) (e : Ec) : Int × List Rc :=
  if e.1 < 0 ∨ (l.length : Int) < e.1 ∨ (e.2.1 = false ∧ e.1 = l.length) then (1, [])
  else if e.2.1 = true then (0, l.take e.1.toNat ++ e.2.2 :: l.drop e.1.toNat) else if l[e.1.toNat]? = some e.2.2 then (0, l.take e.1.toNat ++ l.drop (e.1.toNat + 1)) else (6, [])
def runD : List Rc → List Ec → Int × List Rc
  | l, [] => (0, l)
  | l, e :: r => if (stepD l e).1 = 0 then runD (stepD l e).2 r else ((stepD l e).1, [])
/-- diff.Apply. -/
noncomputable def applyD (a : List Rc) (l : List Ec) : Int × List Rc :=
  if 200 < l.length then (4, []) else if ¬ rcC a = 0 then (rcC a, []) else if ¬ (runD a l).1 = 0 then ((runD a l).1, []) else if ¬ rcC (runD a l).2 = 0 then (rcC (runD a l).2, []) else (0, (runD a l).2)
/-- An edit whose place is a number. -/
def Ed.int (e : Ed Rc) : Ec := ((e.1 : Int), e.2.1, e.2.2)
theorem step_int {l m : List Rc} {e : Ed Rc} (h : stepE1 l e = some m) : stepD l (Ed.int e) = (0, m) := by
  obtain ⟨n, put, x⟩ := e
  unfold stepE1 at h
  unfold stepD Ed.int
  dsimp only at h ⊢
  split at h
  · cases h
  · rename_i hb
    rw [if_neg (by
      rintro (h | h | ⟨h1, h2⟩)
      · omega
      · exact hb (.inl (by omega))
      · exact hb (.inr ⟨h1, by omega⟩)), Int.toNat_natCast]
    split at h
    · rename_i hp
      rw [if_pos hp, Option.some.inj h]
    · rename_i hp
      rw [if_neg hp]
      split at h
      · rename_i hx
        rw [if_pos hx, Option.some.inj h]
      · cases h
theorem run_int : ∀ (r : List (Ed Rc)) (l m : List Rc), runE l r = some m → runD l (r.map Ed.int) = (0, m)
  | [], l, m, h => by
    obtain rfl := Option.some.inj h
    rfl
  | e :: r, l, m, h => by
    rw [runE] at h
    cases hs : stepE1 l e with
    | none => rw [hs] at h; cases h
    | some k =>
      rw [hs] at h
      rw [List.map_cons, runD, step_int hs, if_pos rfl]
      exact run_int r k m h
/-- Edits that go from right rules to right rules are applied. -/
theorem apply_int {a b : List Rc} {r : List (Ed Rc)} (ha : rcC a = 0) (hb : rcC b = 0) (hr : r.length ≤ 200) (h : runE a r = some b) : applyD a (r.map Ed.int) = (0, b) := by
  unfold applyD
  rw [if_neg (by rw [List.length_map]; omega), if_neg (fun k => k ha), run_int r a b h]
  dsimp only
  rw [if_neg (fun k => k rfl), if_neg (fun k => k hb)]
/-- Right rules are few. -/
theorem rc_few {a : List Rc} (h : rcC a = 0) : a.length ≤ 20 := by
  unfold rcC at h
  split at h
  · cases h
  · omega
/-- diff.Turn. -/
def turnC (e : Ec) : Ec := (e.1, !e.2.1, e.2.2)
theorem turn_int (r : List (Ed Rc)) : ((r.map Ed.int).reverse.map turnC) = (r.reverse.map turnE).map Ed.int := by
  rw [← List.map_reverse, List.map_map, List.map_map]
  rfl
/-- The law DiffBack, in plain. -/
theorem back_plain {a b : List Rc} (ha : rcC a = 0) (hb : rcC b = 0) :
    applyD a ((diffL a b 0).map Ed.int) = (0, b) ∧ applyD b (((diffL a b 0).map Ed.int).reverse.map turnC) = (0, a) ∧ ((diffL a b 0).length : Int) = a.length + b.length - 2 * lcs a b ∧ diffL a a 0 = [] := by
  have h1 := rc_few ha
  have h2 := rc_few hb
  have hl := diff_len a b 0
  have hr : runE a (diffL a b 0) = some b := diff_run a b []
  refine ⟨apply_int ha hb (by omega) hr, ?_, by omega, diff_self a 0⟩
  rw [turn_int]
  exact apply_int hb ha (by rw [List.length_map, List.length_reverse]; omega) (run_turn _ _ _ hr)
theorem steps_plain {a b c : List Rc} (ha : rcC a = 0) (hb : rcC b = 0) (hc : rcC c = 0) :
    applyD a ((diffL a b 0).map Ed.int ++ (diffL b c 0).map Ed.int) = (0, c) ∧ lcs a b = lcs b a ∧ lcs a b ≤ a.length ∧ lcs a b ≤ b.length := by
  have h1 := rc_few ha
  have h2 := rc_few hb
  have h3 := rc_few hc
  have hl := diff_len a b 0
  have hm := diff_len b c 0
  have hr : runE a (diffL a b 0) = some b := diff_run a b []
  have hs : runE b (diffL b c 0) = some c := diff_run b c []
  refine ⟨?_, lcs_comm a b, (lcs_le a b).1, (lcs_le a b).2⟩
  rw [← List.map_append]
  exact apply_int ha hc (by rw [List.length_append]; omega) (by rw [runE_app _ _ _ _ hr]; exact hs)
end Go.Port
