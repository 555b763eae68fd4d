/- A segment as bytes; what its bytes are read as; keys and their order. No program here. -/
import Derived.Test.YtcnnldlpcpcemaaDoorWireP
set_option linter.unusedSimpArgs false
set_option linter.unusedVariables false
namespace Go.Port
/-- How long a segment's head is. -/
def sgSize (kind : Int) : Nat := if kind = 1 then 17 else if kind = 2 then 6 else 8
/-- What stands ahead of the sum. -/
def sgHead (kind f t q a x y : Int) : List Int :=
  if kind = 1 then beN f 2 ++ beN t 2 ++ (beN q 4 ++ beN a 4) ++ ([y % 256] ++ beN x 2) else if kind = 2 then beN f 2 ++ beN t 2 else [f % 256] ++ beN t 2 ++ beN q 2 ++ [0]
/-- A segment, with a sum. -/
def sgBytes (kind f t q a x y : Int) (l : List Int) (n : Int) : List Int := sgHead kind f t q a x y ++ beN n 2 ++ l
def sgTop (kind src dst : Int) : List Int := beN src 4 ++ beN dst 4 ++ [0, kind % 256]
def sgSum (kind f t q a x y src dst : Int) (l : List Int) : Int := 65535 - total (sgTop kind src dst ++ sgBytes kind f t q a x y l 0)
theorem sgHead_len {kind f t q a x y : Int} : (sgHead kind f t q a x y).length = sgSize kind - 2 := by
  unfold sgHead sgSize
  split
  · simp only [List.length_append, beN_len, List.length_cons, List.length_nil]
  split
  · simp only [List.length_append, beN_len]
  · simp only [List.length_append, beN_len, List.length_cons, List.length_nil]
theorem sgBytes_len {kind f t q a x y n : Int} {l : List Int} : (sgBytes kind f t q a x y l n).length = sgSize kind + l.length := by
  have : 2 ≤ sgSize kind := by unfold sgSize; split <;> (try split) <;> omega
  unfold sgBytes
  rw [List.length_append, List.length_append, sgHead_len, beN_len]; omega
theorem sgTop_len {kind src dst : Int} : (sgTop kind src dst).length = 10 := by
  unfold sgTop
  simp only [List.length_append, beN_len, List.length_cons, List.length_nil]
theorem byte_oct (x : Int) : Octets [x % 256] := fun z hz => by simp at hz; omega
theorem sgHead_oct {kind f t q a x y : Int} : Octets (sgHead kind f t q a x y) := by
  have h0 : Octets [0] := fun z hz => by simp at hz; omega
  unfold sgHead
  split
  · exact (((beN_oct _ _).app (beN_oct _ _)).app ((beN_oct _ _).app (beN_oct _ _))).app ((byte_oct _).app (beN_oct _ _))
  split
  · exact (beN_oct _ _).app (beN_oct _ _)
  · exact (((byte_oct _).app (beN_oct _ _)).app (beN_oct _ _)).app h0
theorem sgBytes_oct {kind f t q a x y n : Int} {l : List Int} (h : Octets l) : Octets (sgBytes kind f t q a x y l n) := (sgHead_oct.app (beN_oct _ _)).app h
theorem sgTop_oct {kind src dst : Int} : Octets (sgTop kind src dst) := by
  unfold sgTop
  refine ((beN_oct _ _).app (beN_oct _ _)).app fun z hz => ?_
  simp at hz; omega
/-- Bytes with noughts where the sum stands. -/
def sgZero (kind : Int) (l : List Int) : List Int := (l.set (sgSize kind - 2) 0).set (sgSize kind - 1) 0
/-- What is wrong with bytes that ought to be a segment. -/
def sgRdErr (kind src dst : Int) (l : List Int) : Int :=
  if (kind < 1 ∨ 3 < kind) ∨ ¬ (0 ≤ src ∧ src ≤ 4294967295) ∨ ¬ (0 ≤ dst ∧ dst ≤ 4294967295) then 1 else if l.length < sgSize kind then 8 else if 4000 < l.length then 4 else
    if ¬ 65535 - total (sgTop kind src dst ++ sgZero kind l) = getN l (sgSize kind - 2) 2 then 9 else if (kind = 3 ∧ 1 < nth l 0) ∨ (kind = 1 ∧ 15 < nth l 12) then 1 else if kind = 3 ∧ ¬ nth l 5 = 0 then 3 else 0
def sgF (kind : Int) (l : List Int) : Int := if kind = 3 then nth l 0 else getN l 0 2
def sgT (kind : Int) (l : List Int) : Int := if kind = 3 then getN l 1 2 else getN l 2 2
def sgQ (kind : Int) (l : List Int) : Int := if kind = 1 then getN l 4 4 else if kind = 3 then getN l 3 2 else 0
def sgA (kind : Int) (l : List Int) : Int := if kind = 1 then getN l 8 4 else 0
def sgX (kind : Int) (l : List Int) : Int := if kind = 1 then getN l 13 2 else 0
def sgY (kind : Int) (l : List Int) : Int := if kind = 1 then nth l 12 else 0
end Go.Port
namespace Go.Port
theorem beN00 : beN 0 2 = [0, 0] := by decide
/-- Numbers are as they are carried. -/
theorem sgZero_bytes {kind f t q a x y n : Int} {l : List Int} : sgZero kind (sgBytes kind f t q a x y l n) = sgBytes kind f t q a x y l 0 := by
  have h2 : 2 ≤ sgSize kind := by unfold sgSize; split <;> (try split) <;> omega
  have hh := sgHead_len (kind := kind) (f := f) (t := t) (q := q) (a := a) (x := x) (y := y)
  unfold sgZero sgBytes
  rw [beN00, List.append_assoc, List.append_assoc]
  rw [List.set_append_right _ _ (by omega), hh, Nat.sub_self, List.set_append_right _ _ (by omega), hh]
  rw [show sgSize kind - 1 - (sgSize kind - 2) = 1 by omega]
  rfl
theorem sgSum_bd {kind f t q a x y src dst : Int} {l : List Int} (hl : Octets l) : 0 ≤ sgSum kind f t q a x y src dst l ∧ sgSum kind f t q a x y src dst l ≤ 65535 := by
  have := total_bd ((sgTop_oct (kind := kind) (src := src) (dst := dst)).app (sgBytes_oct (kind := kind) (f := f) (t := t) (q := q) (a := a) (x := x) (y := y) (n := 0) hl))
  unfold sgSum; omega
theorem sg_getSum {kind f t q a x y n : Int} {l : List Int} (hn : 0 ≤ n ∧ n ≤ 65535) : getN (sgBytes kind f t q a x y l n) (sgSize kind - 2) 2 = n := by
  unfold sgBytes
  rw [List.append_assoc]
  refine (getN_mid hn.1 sgHead_len).trans ?_
  exact Int.emod_eq_of_lt (by omega) (by show _ < (65536 : Int); omega)
theorem sg_drop {kind f t q a x y n : Int} {l : List Int} : (sgBytes kind f t q a x y l n).drop (sgSize kind) = l := by
  have h2 : 2 ≤ sgSize kind := by unfold sgSize; split <;> (try split) <;> omega
  unfold sgBytes
  refine List.drop_left' ?_
  rw [List.length_append, sgHead_len, beN_len]; omega
theorem g2 {pre post : List Int} {x : Int} {a : Nat} (hx : 0 ≤ x ∧ x ≤ 65535) (ha : pre.length = a) : getN (pre ++ (beN x 2 ++ post)) a 2 = x :=
  (getN_mid hx.1 ha).trans (Int.emod_eq_of_lt (by omega) (by show _ < (65536 : Int); omega))
theorem g4 {pre post : List Int} {x : Int} {a : Nat} (hx : 0 ≤ x ∧ x ≤ 4294967295) (ha : pre.length = a) : getN (pre ++ (beN x 4 ++ post)) a 4 = x :=
  (getN_mid hx.1 ha).trans (Int.emod_eq_of_lt (by omega) (by show _ < (4294967296 : Int); omega))
def SgOk (kind f t q a x y src dst : Int) (n : Nat) : Prop := (1 ≤ kind ∧ kind ≤ 3) ∧ (0 ≤ src ∧ src ≤ 4294967295) ∧ (0 ≤ dst ∧ dst ≤ 4294967295) ∧ (0 ≤ f ∧ f ≤ 65535) ∧ (0 ≤ t ∧ t ≤ 65535) ∧ (0 ≤ x ∧ x ≤ 65535) ∧ (0 ≤ q ∧ q ≤ 4294967295) ∧ (0 ≤ a ∧ a ≤ 4294967295) ∧ (0 ≤ y ∧ y ≤ 15) ∧ n + sgSize kind ≤ 4000 ∧
    (kind = 3 → f ≤ 1 ∧ q ≤ 65535) ∧ (kind ≠ 1 → a = 0 ∧ x = 0 ∧ y = 0) ∧ (kind = 2 → q = 0)
/-- What was written, with its sum, is read as it was. -/
theorem sg_read {kind f t q a x y src dst : Int} {l : List Int} (hl : Octets l) (h : SgOk kind f t q a x y src dst l.length) {b : List Int} (hb : b = sgBytes kind f t q a x y l (sgSum kind f t q a x y src dst l)) :
    sgRdErr kind src dst b = 0 ∧ sgF kind b = f ∧ sgT kind b = t ∧ sgQ kind b = q ∧ sgA kind b = a ∧ sgX kind b = x ∧ sgY kind b = y ∧ b.drop (sgSize kind) = l ∧ b.length = sgSize kind + l.length := by
  obtain ⟨hk, hs, hd, hf, ht, hx, hq, ha, hy, hn, h3, h1, h2⟩ := h
  have hS := sgSum_bd (kind := kind) (f := f) (t := t) (q := q) (a := a) (x := x) (y := y) (src := src) (dst := dst) hl
  have hlen : b.length = sgSize kind + l.length := by rw [hb]; exact sgBytes_len
  have hsum : 65535 - total (sgTop kind src dst ++ sgZero kind b) = getN b (sgSize kind - 2) 2 := by
    rw [hb, sgZero_bytes, sg_getSum hS]; rfl
  have hdrop : b.drop (sgSize kind) = l := by rw [hb]; exact sg_drop
  have hE : ¬ ((kind = 3 ∧ 1 < nth b 0) ∨ (kind = 1 ∧ 15 < nth b 12)) → ¬ (kind = 3 ∧ ¬ nth b 5 = 0) → sgRdErr kind src dst b = 0 := fun e1 e2 => by
    unfold sgRdErr
    rw [if_neg (by omega), if_neg (by omega), if_neg (by omega), if_neg (by rw [Classical.not_not]; exact hsum), if_neg e1, if_neg e2]
  obtain ⟨S, hSe⟩ : ∃ S, S = sgSum kind f t q a x y src dst l := ⟨_, rfl⟩
  rw [← hSe] at hb hS
  clear hsum hSe
  rcases (by omega : kind = 1 ∨ kind = 2 ∨ kind = 3) with rfl | rfl | rfl
  · have e : b = beN f 2 ++ (beN t 2 ++ (beN q 4 ++ (beN a 4 ++ (y % 256 :: (beN x 2 ++ (beN S 2 ++ l)))))) := by
      rw [hb]; unfold sgBytes sgHead; rw [if_pos rfl]; simp only [List.append_assoc, List.cons_append, List.nil_append]
    have f0 : getN b 0 2 = f := by rw [e]; exact g2 (pre := []) hf rfl
    have f2 : getN b 2 2 = t := by rw [e]; exact g2 ht (beN_len _ _)
    have f4 : getN b 4 4 = q := by rw [e, ← List.append_assoc]; exact g4 hq (by rw [List.length_append, beN_len, beN_len])
    have f8 : getN b 8 4 = a := by rw [e, ← List.append_assoc, ← List.append_assoc]; exact g4 ha (by simp only [List.length_append, beN_len])
    have e12 : (beN f 2 ++ beN t 2 ++ beN q 4 ++ beN a 4).length = 12 := by simp only [List.length_append, beN_len]
    have f12 : nth b 12 = y := by
      rw [e, ← List.append_assoc, ← List.append_assoc, ← List.append_assoc, nth_append, if_neg (by omega), e12]
      show y % 256 = y
      omega
    have f13 : getN b 13 2 = x := by
      have e' : b = (beN f 2 ++ beN t 2 ++ beN q 4 ++ beN a 4 ++ [y % 256]) ++ (beN x 2 ++ (beN S 2 ++ l)) := by rw [e]; simp only [List.append_assoc, List.cons_append, List.nil_append]
      rw [e']; exact g2 hx (by rw [List.length_append, e12]; rfl)
    refine ⟨hE (by omega) (by omega), ?_, ?_, ?_, ?_, ?_, ?_, hdrop, hlen⟩
    · exact f0
    · exact f2
    · exact f4
    · exact f8
    · exact f13
    · exact f12
  · have e : b = beN f 2 ++ (beN t 2 ++ (beN S 2 ++ l)) := by
      rw [hb]; unfold sgBytes sgHead; rw [if_neg (by decide), if_pos rfl]; simp only [List.append_assoc]
    have f0 : getN b 0 2 = f := by rw [e]; exact g2 (pre := []) hf rfl
    have f2 : getN b 2 2 = t := by rw [e]; exact g2 ht (beN_len _ _)
    obtain ⟨z1, z2, z3⟩ := h1 (by decide)
    have z4 := h2 rfl
    refine ⟨hE (by omega) (by omega), ?_, ?_, ?_, ?_, ?_, ?_, hdrop, hlen⟩
    · exact f0
    · exact f2
    · exact z4.symm
    · exact z1.symm
    · exact z2.symm
    · exact z3.symm
  · have e : b = f % 256 :: (beN t 2 ++ (beN q 2 ++ (0 :: (beN S 2 ++ l)))) := by
      rw [hb]; unfold sgBytes sgHead; rw [if_neg (by decide), if_neg (by decide)]; simp only [List.append_assoc, List.cons_append, List.nil_append]
    obtain ⟨z5, z6⟩ := h3 rfl
    have f0 : nth b 0 = f := by rw [e]; show f % 256 = f; omega
    have f1 : getN b 1 2 = t := by rw [e]; exact g2 (pre := [_]) ht rfl
    have f3 : getN b 3 2 = q := by rw [e]; exact g2 (pre := _ :: beN t 2) (by omega) (by rw [List.length_cons, beN_len])
    have f5 : nth b 5 = 0 := by
      have e' : b = (f % 256 :: beN t 2 ++ beN q 2) ++ (0 :: (beN S 2 ++ l)) := by rw [e]; simp only [List.append_assoc, List.cons_append, List.nil_append]
      have e5 : (f % 256 :: beN t 2 ++ beN q 2).length = 5 := by simp only [List.length_append, List.length_cons, beN_len]
      rw [e', nth_append, if_neg (by omega), e5]; rfl
    obtain ⟨z1, z2, z3⟩ := h1 (by decide)
    refine ⟨hE (by omega) (by omega), ?_, ?_, ?_, ?_, ?_, ?_, hdrop, hlen⟩
    · exact f0
    · exact f1
    · exact f3
    · exact z1.symm
    · exact z2.symm
    · exact z3.symm
/-- How two numbers compare. -/
def cmpI (a b : Int) : Int := if a < b then -1 else if b < a then 1 else 0
/-- The first that is not 0. -/
def orI5 : List Int → Int
  | [] => 0
  | x :: l => if x ≠ 0 then x else orI5 l
/-- A key: kind, source, from, destination, to. -/
structure K5 where
  k : Int
  s : Int
  f : Int
  d : Int
  t : Int
def K5.turn (x : K5) : K5 := ⟨x.k, x.d, x.t, x.s, x.f⟩
def K5.cmp (x y : K5) : Int := orI5 [cmpI x.k y.k, cmpI x.s y.s, cmpI x.f y.f, cmpI x.d y.d, cmpI x.t y.t]
noncomputable def K5.first (x : K5) : K5 := if x.turn.cmp x < 0 then x.turn else x
theorem K5.turn_turn (x : K5) : x.turn.turn = x := rfl
theorem cmpI_neg (a b : Int) : cmpI a b = - cmpI b a := by unfold cmpI; split <;> split <;> omega
theorem cmpI_zero {a b : Int} : cmpI a b = 0 ↔ a = b := by unfold cmpI; split <;> (try split) <;> omega
theorem orI5_neg : ∀ l m : List Int, (∀ i, l.getD i 0 = - m.getD i 0) → l.length = m.length → orI5 l = - orI5 m
  | [], [], _, _ => rfl
  | x :: l, y :: m, h, e => by
    have h0 : x = - y := h 0
    have ih := orI5_neg l m (fun i => h (i + 1)) (by simpa using e)
    unfold orI5
    by_cases hx : x = 0
    · rw [if_neg (by omega), if_neg (by omega), ih]
    · rw [if_pos hx, if_pos (by omega), h0]
theorem K5.cmp_neg (x y : K5) : x.cmp y = - y.cmp x := by
  refine orI5_neg _ _ (fun i => ?_) rfl
  match i with
  | 0 => exact cmpI_neg _ _
  | 1 => exact cmpI_neg _ _
  | 2 => exact cmpI_neg _ _
  | 3 => exact cmpI_neg _ _
  | 4 => exact cmpI_neg _ _
  | _ + 5 => rfl
theorem orI5_zero {x : Int} {l : List Int} : orI5 (x :: l) = 0 ↔ x = 0 ∧ orI5 l = 0 := by
  show (if x ≠ 0 then x else orI5 l) = 0 ↔ _
  by_cases h : x = 0
  · rw [if_neg (by omega)]; exact ⟨fun e => ⟨h, e⟩, fun e => e.2⟩
  · rw [if_pos h]; exact ⟨fun e => absurd e h, fun e => absurd e.1 h⟩
theorem K5.cmp_zero {x y : K5} (h : x.cmp y = 0) : x = y := by
  obtain ⟨k, s, f, d, t⟩ := x
  obtain ⟨k', s', f', d', t'⟩ := y
  unfold K5.cmp at h
  simp only [orI5_zero, cmpI_zero] at h
  obtain ⟨rfl, rfl, rfl, rfl, rfl, _⟩ := h
  rfl
/-- A key and its turn have one first. -/
theorem K5.first_turn (x : K5) : x.turn.first = x.first := by
  have h := K5.cmp_neg x.turn x
  unfold K5.first
  rw [K5.turn_turn]
  by_cases h1 : x.turn.cmp x < 0
  · rw [if_pos h1, if_neg (by omega)]
  · rw [if_neg h1]
    by_cases h2 : x.cmp x.turn < 0
    · rw [if_pos h2]
    · rw [if_neg h2]; exact K5.cmp_zero (by omega)
end Go.Port
