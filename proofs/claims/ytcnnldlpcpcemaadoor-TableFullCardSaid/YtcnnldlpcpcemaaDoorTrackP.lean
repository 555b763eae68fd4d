/- Flows: what is wrong with them, how long they are kept. No program here. -/
import Derived.Test.YtcnnldlpcpcemaaDoorSegL
import Derived.Test.YtcnnldlpcpcemaaDoorEngB
set_option linter.unusedSimpArgs false
set_option linter.unusedVariables false
namespace Go.Port
/-- How long a flow is kept. -/
def lifeI (k s : Int) : Int := if (k = 1 ∧ s = 1) ∨ (k = 2 ∧ s = 1) then 30 else if k = 1 ∧ s = 2 then 300 else if (k = 1 ∧ s = 3) ∨ (k = 2 ∧ s = 2) then 60 else if (k = 1 ∧ s = 4) ∨ (k = 3 ∧ s = 1) then 10 else if k = 3 ∧ s = 2 then 20 else 0
/-- Is a segment (from, to) of a flow, if a side says it? -/
def saidB (k : K5) (f t side : Int) : Bool := if k.k = 3 then decide (t = (if side = 1 then k.turn else k).f) && decide (t = (if side = 1 then k.turn else k).t) && decide (f = side) else decide (f = (if side = 1 then k.turn else k).f) && decide (t = (if side = 1 then k.turn else k).t)
def hasI (y b : Int) : Bool := decide (¬ andI y b = 0)
/-- The number behind a segment. -/
def endI (q y : Int) (n : Nat) : Int := (q + n + (if hasI y 2 then 1 else 0) + (if hasI y 1 then 1 else 0)) % 4294967296
def aheadB (a b : Int) : Bool := decide (¬ a = b) && decide ((a - b) % 4294967296 < 2147483648)
/-- A flow. -/
structure Fl where
  (k s f d t : Int)
  (st un sp h0 h1 w0 w1 : Int)
  (d0 d1 : Bool)
  (nm : Int)
def Fl.row (x : Fl) : List Value := [.int .i64 x.k, .int .i64 x.s, .int .i64 x.f, .int .i64 x.d, .int .i64 x.t, .int .i64 x.st, .int .i64 x.un, .int .i64 x.sp, .int .i64 x.h0, .int .i64 x.h1, .int .i64 x.w0, .int .i64 x.w1, .bool x.d0, .bool x.d1, .int .i64 x.nm]
def Fl.zero : Fl := ⟨0, 0, 0, 0, 0, 0, 0, 0, 0, 0, 0, 0, false, false, 0⟩
def keyOk (k s f d t : Int) : Prop := (1 ≤ k ∧ k ≤ 3) ∧ (0 ≤ s ∧ s ≤ 4294967295) ∧ (0 ≤ d ∧ d ≤ 4294967295) ∧ (0 ≤ f ∧ f ≤ 65535) ∧ (0 ≤ t ∧ t ≤ 65535)
instance {k s f d t : Int} : Decidable (keyOk k s f d t) := by unfold keyOk; infer_instance
def Fl.bad1 (x : Fl) : Prop := (¬ x.st = 1 ∧ ¬ x.st = 2 ∧ ¬ (x.k = 1 ∧ (x.st = 3 ∨ x.st = 4))) ∨ (x.un < 0 ∨ 2000000 < x.un ∨ x.sp < 1 ∨ 1000000 < x.sp ∨ ¬ (-1 ≤ x.nm ∧ x.nm ≤ 200)) ∨ (¬ (0 ≤ x.h0 ∧ x.h0 ≤ 4294967295) ∨ ¬ (0 ≤ x.h1 ∧ x.h1 ≤ 4294967295) ∨ ¬ (0 ≤ x.w0 ∧ x.w0 ≤ 65535) ∨ ¬ (0 ≤ x.w1 ∧ x.w1 ≤ 65535))
def Fl.bad3 (x : Fl) : Prop := (¬ x.k = 1 ∧ ((¬ (x.h0 = 0 ∧ x.h1 = 0) ∨ ¬ (x.w0 = 0 ∧ x.w1 = 0)) ∨ ¬ (x.d0 = false ∧ x.d1 = false))) ∨ (x.k = 3 ∧ ¬ x.f = x.t)
open Classical in
/-- What is wrong with a flow. -/
noncomputable def Fl.err (x : Fl) : Int := if ¬ keyOk x.k x.s x.f x.d x.t then 1 else if x.bad1 then 1 else if x.bad3 then 3 else 0
theorem key_of {k s f d t : Int} (h : (if ¬ keyOk k s f d t then (1 : Int) else 0) = 0) : keyOk k s f d t := by
  by_cases hk : keyOk k s f d t
  · exact hk
  · rw [if_pos hk] at h; cases h
theorem key_not {k s f d t : Int} (h : ¬ (if ¬ keyOk k s f d t then (1 : Int) else 0) = 0) : ¬ keyOk k s f d t := by
  intro hk; rw [if_neg (by rw [Classical.not_not]; exact hk)] at h; exact h rfl
section
variable {k s f d t st un sp h0 h1 w0 w1 nm : Int} {d0 d1 : Bool}
theorem fl_err0 (hk : ¬ keyOk k s f d t) : Fl.err ⟨k, s, f, d, t, st, un, sp, h0, h1, w0, w1, d0, d1, nm⟩ = 1 := by
  unfold Fl.err
  rw [if_pos hk]
theorem fl_err1 (hk : keyOk k s f d t) (hb : (¬ st = 1 ∧ ¬ st = 2 ∧ ¬ (k = 1 ∧ (st = 3 ∨ st = 4))) ∨ (un < 0 ∨ 2000000 < un ∨ sp < 1 ∨ 1000000 < sp ∨ ¬ (-1 ≤ nm ∧ nm ≤ 200)) ∨ (¬ (0 ≤ h0 ∧ h0 ≤ 4294967295) ∨ ¬ (0 ≤ h1 ∧ h1 ≤ 4294967295) ∨ ¬ (0 ≤ w0 ∧ w0 ≤ 65535) ∨ ¬ (0 ≤ w1 ∧ w1 ≤ 65535))) : Fl.err ⟨k, s, f, d, t, st, un, sp, h0, h1, w0, w1, d0, d1, nm⟩ = 1 := by
  unfold Fl.err
  rw [if_neg (by rw [Classical.not_not]; exact hk), if_pos (show Fl.bad1 ⟨k, s, f, d, t, st, un, sp, h0, h1, w0, w1, d0, d1, nm⟩ from hb)]
theorem fl_err3 (hk : keyOk k s f d t) (hb : ¬ ((¬ st = 1 ∧ ¬ st = 2 ∧ ¬ (k = 1 ∧ (st = 3 ∨ st = 4))) ∨ (un < 0 ∨ 2000000 < un ∨ sp < 1 ∨ 1000000 < sp ∨ ¬ (-1 ≤ nm ∧ nm ≤ 200)) ∨ (¬ (0 ≤ h0 ∧ h0 ≤ 4294967295) ∨ ¬ (0 ≤ h1 ∧ h1 ≤ 4294967295) ∨ ¬ (0 ≤ w0 ∧ w0 ≤ 65535) ∨ ¬ (0 ≤ w1 ∧ w1 ≤ 65535))))
    (hc : ¬ k = 1 ∧ ((¬ (h0 = 0 ∧ h1 = 0) ∨ ¬ (w0 = 0 ∧ w1 = 0)) ∨ ¬ (d0 = false ∧ d1 = false)) ∨ k = 3 ∧ ¬ f = t) : Fl.err ⟨k, s, f, d, t, st, un, sp, h0, h1, w0, w1, d0, d1, nm⟩ = 3 := by
  unfold Fl.err
  rw [if_neg (by rw [Classical.not_not]; exact hk), if_neg (show ¬ Fl.bad1 ⟨k, s, f, d, t, st, un, sp, h0, h1, w0, w1, d0, d1, nm⟩ from hb), if_pos (show Fl.bad3 ⟨k, s, f, d, t, st, un, sp, h0, h1, w0, w1, d0, d1, nm⟩ from hc)]
theorem fl_ok (hk : keyOk k s f d t) (hb : ¬ ((¬ st = 1 ∧ ¬ st = 2 ∧ ¬ (k = 1 ∧ (st = 3 ∨ st = 4))) ∨ (un < 0 ∨ 2000000 < un ∨ sp < 1 ∨ 1000000 < sp ∨ ¬ (-1 ≤ nm ∧ nm ≤ 200)) ∨ (¬ (0 ≤ h0 ∧ h0 ≤ 4294967295) ∨ ¬ (0 ≤ h1 ∧ h1 ≤ 4294967295) ∨ ¬ (0 ≤ w0 ∧ w0 ≤ 65535) ∨ ¬ (0 ≤ w1 ∧ w1 ≤ 65535))))
    (hc : (k = 1 ∨ ((h0 = 0 ∧ h1 = 0) ∧ w0 = 0 ∧ w1 = 0) ∧ d0 = false ∧ d1 = false) ∧ (¬ k = 3 ∨ f = t)) : Fl.err ⟨k, s, f, d, t, st, un, sp, h0, h1, w0, w1, d0, d1, nm⟩ = 0 := by
  have h3 : ¬ ((¬ k = 1 ∧ ((¬ (h0 = 0 ∧ h1 = 0) ∨ ¬ (w0 = 0 ∧ w1 = 0)) ∨ ¬ (d0 = false ∧ d1 = false))) ∨ (k = 3 ∧ ¬ f = t)) := by
    rintro (⟨a, (b | b) | b⟩ | ⟨a, b⟩)
    · rcases hc.1 with e | e
      · exact a e
      · exact b e.1.1
    · rcases hc.1 with e | e
      · exact a e
      · exact b e.1.2
    · rcases hc.1 with e | e
      · exact a e
      · exact b e.2
    · rcases hc.2 with e | e
      · exact e a
      · exact b e
  unfold Fl.err
  rw [if_neg (by rw [Classical.not_not]; exact hk), if_neg (show ¬ Fl.bad1 ⟨k, s, f, d, t, st, un, sp, h0, h1, w0, w1, d0, d1, nm⟩ from hb), if_neg (show ¬ Fl.bad3 ⟨k, s, f, d, t, st, un, sp, h0, h1, w0, w1, d0, d1, nm⟩ from h3)]
end
def aheadI (a b : Int) : Int := if ¬ a = b ∧ (a - b) % 4294967296 < 2147483648 then 1 else 0
def nearI (a b most : Int) : Int := if 0 ≤ most ∧ most ≤ 1073741824 ∧ ((a - b) % 4294967296 ≤ most ∨ (b - a) % 4294967296 ≤ most) then 1 else 0
/-- What becomes of the state behind a step. -/
def Fl.settle (x : Fl) : Fl := if x.st = 4 then x else if x.d0 = true ∧ x.d1 = true then { x with st := 4 } else if x.d0 = true ∨ x.d1 = true then { x with st := 3 } else x
/-- What a stream's flow becomes with a segment of side 0; none: it is refused. -/
def streamS0 (x : Fl) (q a wn y : Int) (n : Nat) : Option Fl :=
  if ¬ andI y 4 = 0 then (if ¬ q = x.h0 then none else some { x with st := 4 })
  else if x.st = 1 then (if ¬ y = 2 ∨ ¬ endI q y n = x.h0 then none else some { x with w0 := wn })
  else if ¬ andI y 2 = 0 ∨ ¬ nearI q x.h0 (max 1 x.w1) = 1 ∨ (¬ andI y 8 = 0 ∧ ¬ nearI a x.h1 (max 1 x.w0) = 1) then none
  else if x.d0 = true ∧ aheadI (endI q y n) x.h0 = 1 then none
  else some (Fl.settle { x with h0 := if aheadI (endI q y n) x.h0 = 1 then endI q y n else x.h0, w0 := wn, d0 := x.d0 || hasI y 1 })
/-- .. of side 1. -/
def streamS1 (x : Fl) (q a wn y : Int) (n : Nat) : Option Fl :=
  if ¬ andI y 4 = 0 then
    if x.st = 1 then (if andI y 8 = 0 ∨ ¬ a = x.h0 then none else some { x with st := 4 })
    else if ¬ q = x.h1 then none else some { x with st := 4 }
  else if x.st = 1 then (if ¬ y = 10 ∨ ¬ a = x.h0 then none else some { x with st := 2, h1 := endI q y n, w1 := wn })
  else if ¬ andI y 2 = 0 ∨ ¬ nearI q x.h1 (max 1 x.w0) = 1 ∨ (¬ andI y 8 = 0 ∧ ¬ nearI a x.h0 (max 1 x.w1) = 1) then none
  else if x.d1 = true ∧ aheadI (endI q y n) x.h1 = 1 then none
  else some (Fl.settle { x with h1 := if aheadI (endI q y n) x.h1 = 1 then endI q y n else x.h1, w1 := wn, d1 := x.d1 || hasI y 1 })
section
variable {k s f d t st un sp h0 h1 w0 w1 nm q a wn y S H : Int} {d0 d1 D0 : Bool} {n : Nat}
theorem settle_is {x : Fl} (hS : S = if x.st = 4 then x.st else if x.d0 = true ∧ x.d1 = true then 4 else if x.d0 = true ∨ x.d1 = true then 3 else x.st) : Fl.settle x = { x with st := S } := by
  unfold Fl.settle
  rw [hS]
  by_cases e1 : x.st = 4
  · rw [if_pos e1, if_pos e1]
  · rw [if_neg e1, if_neg e1]
    by_cases e2 : x.d0 = true ∧ x.d1 = true
    · rw [if_pos e2, if_pos e2]
    · rw [if_neg e2, if_neg e2]
      by_cases e3 : x.d0 = true ∨ x.d1 = true
      · rw [if_pos e3, if_pos e3]
      · rw [if_neg e3, if_neg e3]
theorem stream0_some (h4 : andI y 4 = 0) (hst : ¬ st = 1) (hpass : ¬ (¬ andI y 2 = 0 ∨ ¬ nearI q h0 (max 1 w1) = 1 ∨ (¬ andI y 8 = 0 ∧ ¬ nearI a h1 (max 1 w0) = 1))) (hm : ¬ (d0 = true ∧ aheadI (endI q y n) h0 = 1))
    (hH : H = if aheadI (endI q y n) h0 = 1 then endI q y n else h0) (hD : D0 = (d0 || hasI y 1)) (hS : S = if st = 4 then st else if D0 = true ∧ d1 = true then 4 else if D0 = true ∨ d1 = true then 3 else st) :
    streamS0 ⟨k, s, f, d, t, st, un, sp, h0, h1, w0, w1, d0, d1, nm⟩ q a wn y n = some ⟨k, s, f, d, t, S, un, sp, H, h1, wn, w1, D0, d1, nm⟩ := by
  subst hH hD
  dsimp only [streamS0]
  rw [if_neg (fun hh => hh h4), if_neg hst, if_neg hpass, if_neg hm, settle_is (S := S) hS]
theorem stream1_some (h4 : andI y 4 = 0) (hst : ¬ st = 1) (hpass : ¬ (¬ andI y 2 = 0 ∨ ¬ nearI q h1 (max 1 w0) = 1 ∨ (¬ andI y 8 = 0 ∧ ¬ nearI a h0 (max 1 w1) = 1))) (hm : ¬ (d1 = true ∧ aheadI (endI q y n) h1 = 1))
    (hH : H = if aheadI (endI q y n) h1 = 1 then endI q y n else h1) (hD : D0 = (d1 || hasI y 1)) (hS : S = if st = 4 then st else if d0 = true ∧ D0 = true then 4 else if d0 = true ∨ D0 = true then 3 else st) :
    streamS1 ⟨k, s, f, d, t, st, un, sp, h0, h1, w0, w1, d0, d1, nm⟩ q a wn y n = some ⟨k, s, f, d, t, S, un, sp, h0, H, w0, wn, d0, D0, nm⟩ := by
  subst hH hD
  dsimp only [streamS1]
  rw [if_neg (fun hh => hh h4), if_neg hst, if_neg hpass, if_neg hm, settle_is (S := S) hS]
end
end Go.Port
