/- A segment as bytes. No program here. -/
import Derived.Test.YtpinlpkaflckfaaWireP
set_option linter.unusedSimpArgs false
set_option linter.unusedVariables false
namespace Go.Port
/-- How long a segment's head is. -/
def sgSize (kind : Int) : Nat := if kind = 1 then 17 else if kind = 2 then 6 else 8
/-- What stands ahead of the sum. -/
def sgHead (kind f t q a x y : Int) : List Int :=
  if kind = 1 then beN f 2 ++ beN t 2 ++ (beN q 4 ++ beN a 4) ++ ([y % 256] ++ beN x 2) else if kind = 2 then beN f 2 ++ beN t 2 else [f % 256] ++ beN t 2 ++ beN q 2 ++ [0]
/-- A segment, with a sum. -/
def sgBytes (kind f t q a x y : Int) (l : List Int) (n : Int) : List Int := sgHead kind f t q a x y ++ beN n 2 ++ l
def sgTop (kind src dst : Int) : List Int := beN src 4 ++ beN dst 4 ++ [0, kind % 256]
def sgSum (kind f t q a x y src dst : Int) (l : List Int) : Int := 65535 - total (sgTop kind src dst ++ sgBytes kind f t q a x y l 0)
theorem sgHead_len {kind f t q a x y : Int} : (sgHead kind f t q a x y).length = sgSize kind - 2 := by
  unfold sgHead sgSize
  split
  · simp only [List.length_append, beN_len, List.length_cons, List.length_nil]
  split
  · simp only [List.length_append, beN_len]
  · simp only [List.length_append, beN_len, List.length_cons, List.length_nil]
theorem sgBytes_len {kind f t q a x y n : Int} {l : List Int} : (sgBytes kind f t q a x y l n).length = sgSize kind + l.length := by
  have : 2 ≤ sgSize kind := by unfold sgSize; split <;> (try split) <;> omega
  unfold sgBytes
  rw [List.length_append, List.length_append, sgHead_len, beN_len]; omega
theorem sgTop_len {kind src dst : Int} : (sgTop kind src dst).length = 10 := by
  unfold sgTop
  simp only [List.length_append, beN_len, List.length_cons, List.length_nil]
theorem byte_oct (x : Int) : Octets [x % 256] := fun z hz => by simp at hz; omega
theorem sgHead_oct {kind f t q a x y : Int} : Octets (sgHead kind f t q a x y) := by
  have h0 : Octets [0] := fun z hz => by simp at hz; omega
  unfold sgHead
  split
  · exact (((beN_oct _ _).app (beN_oct _ _)).app ((beN_oct _ _).app (beN_oct _ _))).app ((byte_oct _).app (beN_oct _ _))
  split
  · exact (beN_oct _ _).app (beN_oct _ _)
  · exact (((byte_oct _).app (beN_oct _ _)).app (beN_oct _ _)).app h0
theorem sgBytes_oct {kind f t q a x y n : Int} {l : List Int} (h : Octets l) : Octets (sgBytes kind f t q a x y l n) := (sgHead_oct.app (beN_oct _ _)).app h
theorem sgTop_oct {kind src dst : Int} : Octets (sgTop kind src dst) := by
  unfold sgTop
  refine ((beN_oct _ _).app (beN_oct _ _)).app fun z hz => ?_
  simp at hz; omega
/-- Bytes with noughts where the sum stands. -/
def sgZero (kind : Int) (l : List Int) : List Int := (l.set (sgSize kind - 2) 0).set (sgSize kind - 1) 0
/-- What is wrong with bytes that ought to be a segment. -/
def sgRdErr (kind src dst : Int) (l : List Int) : Int :=
  if (kind < 1 ∨ 3 < kind) ∨ ¬ (0 ≤ src ∧ src ≤ 4294967295) ∨ ¬ (0 ≤ dst ∧ dst ≤ 4294967295) then 1 else if l.length < sgSize kind then 8 else if 4000 < l.length then 4 else
    if ¬ 65535 - total (sgTop kind src dst ++ sgZero kind l) = getN l (sgSize kind - 2) 2 then 9 else if (kind = 3 ∧ 1 < nth l 0) ∨ (kind = 1 ∧ 15 < nth l 12) then 1 else if kind = 3 ∧ ¬ nth l 5 = 0 then 3 else 0
def sgF (kind : Int) (l : List Int) : Int := if kind = 3 then nth l 0 else getN l 0 2
def sgT (kind : Int) (l : List Int) : Int := if kind = 3 then getN l 1 2 else getN l 2 2
def sgQ (kind : Int) (l : List Int) : Int := if kind = 1 then getN l 4 4 else if kind = 3 then getN l 3 2 else 0
def sgA (kind : Int) (l : List Int) : Int := if kind = 1 then getN l 8 4 else 0
def sgX (kind : Int) (l : List Int) : Int := if kind = 1 then getN l 13 2 else 0
def sgY (kind : Int) (l : List Int) : Int := if kind = 1 then nth l 12 else 0
end Go.Port
