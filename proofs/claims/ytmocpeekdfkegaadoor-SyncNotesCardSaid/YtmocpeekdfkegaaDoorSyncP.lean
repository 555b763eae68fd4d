/- Notes: what is wrong with them; what is told, heard of, and due. No program here. -/
import Derived.Test.YtmocpeekdfkegaaDoorTrackP
set_option linter.unusedSimpArgs false
set_option linter.unusedVariables false
namespace Go.Port
def Fl.like (x y : Fl) : Prop := (x.k = y.k ∧ x.s = y.s ∧ x.f = y.f ∧ x.d = y.d ∧ x.t = y.t) ∧ x.st = y.st ∧ x.un = y.un ∧ x.sp = y.sp ∧ (x.h0 = y.h0 ∧ x.h1 = y.h1) ∧ (x.w0 = y.w0 ∧ x.w1 = y.w1) ∧ (x.d0 = y.d0 ∧ x.d1 = y.d1) ∧ x.nm = y.nm
instance {x y : Fl} : Decidable (x.like y) := by unfold Fl.like; infer_instance
/-- Nothing but a key. -/
def Fl.bare (x : Fl) : Prop := x.st = 0 ∧ x.un = 0 ∧ x.sp = 0 ∧ (x.h0 = 0 ∧ x.h1 = 0) ∧ (x.w0 = 0 ∧ x.w1 = 0) ∧ (x.d0 = false ∧ x.d1 = false) ∧ x.nm = 0
instance {x : Fl} : Decidable x.bare := by unfold Fl.bare; infer_instance
def Fl.nokey (x : Fl) : Prop := x.k = 0 ∧ x.s = 0 ∧ x.f = 0 ∧ x.d = 0 ∧ x.t = 0
instance {x : Fl} : Decidable x.nokey := by unfold Fl.nokey; infer_instance
/-- A note. -/
structure Nt where
  (what seq : Int)
  (fl : Fl)
def Nt.row (x : Nt) : List Value := [.int .i64 x.what, .int .i64 x.seq, .int .i64 x.fl.k, .int .i64 x.fl.s, .int .i64 x.fl.f, .int .i64 x.fl.d, .int .i64 x.fl.t, .int .i64 x.fl.st, .int .i64 x.fl.un, .int .i64 x.fl.sp, .int .i64 x.fl.h0, .int .i64 x.fl.h1, .int .i64 x.fl.w0, .int .i64 x.fl.w1, .bool x.fl.d0, .bool x.fl.d1, .int .i64 x.fl.nm]
open Classical in
/-- What is wrong with a note. -/
noncomputable def Nt.err (x : Nt) : Int := if x.what < 1 ∨ 5 < x.what ∨ ¬ (0 ≤ x.seq ∧ x.seq ≤ 1000000) then 1 else if x.what = 1 then x.fl.err else if x.what = 2 then (if ¬ keyOk x.fl.k x.fl.s x.fl.f x.fl.d x.fl.t then 1 else if ¬ x.fl.bare then 3 else 0) else if ¬ (x.fl.nokey ∧ x.fl.bare) then 3 else 0
/-- A note that was told, and when. -/
structure Td where
  (n : Nt)
  (at_ : Int)
def Td.row (x : Td) : List Value := [.int .i64 x.n.what, .int .i64 x.n.seq, .int .i64 x.n.fl.k, .int .i64 x.n.fl.s, .int .i64 x.n.fl.f, .int .i64 x.n.fl.d, .int .i64 x.n.fl.t, .int .i64 x.n.fl.st, .int .i64 x.n.fl.un, .int .i64 x.n.fl.sp, .int .i64 x.n.fl.h0, .int .i64 x.n.fl.h1, .int .i64 x.n.fl.w0, .int .i64 x.n.fl.w1, .bool x.n.fl.d0, .bool x.n.fl.d1, .int .i64 x.n.fl.nm, .int .i64 x.at_]
def Td.due (now again : Int) (x : Td) : Bool := decide (x.at_ < 0) || decide (again ≤ now - x.at_)
def Td.told (now again : Int) (x : Td) : Td := if x.due now again = true then ⟨x.n, now⟩ else x
/-- Up to where notes were heard of. -/
def heardL (s : Int) (l : List Td) : List Td := l.dropWhile fun x => decide (x.n.seq ≤ s)
def dueN (now again : Int) (l : List Td) : List Nt := (l.filter (Td.due now again)).map Td.n
def dueT (now again : Int) (l : List Td) : List Td := l.map (Td.told now again)
/-- When something is said: the fault of a time. -/
def timeE (now t : Int) : Int := if ¬ (0 ≤ t ∧ t ≤ 1000000) then 1 else if t < now then 6 else 0
end Go.Port
