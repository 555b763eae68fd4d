/- Numbers as bytes; a packet as bytes, and what bytes begin with. No program here. -/
import Derived.Test.YtcnnldlpcpcemaaDoorEngA
set_option linter.unusedSimpArgs false
set_option linter.unusedVariables false
namespace Go.Port
/-- A number in so many bytes. -/
def beN (n : Int) : Nat → List Int
  | 0 => []
  | k + 1 => (n / 256 ^ k % 256) :: beN n k
/-- .. and back. -/
def ofB : List Int → Int
  | [] => 0
  | x :: l => x * 256 ^ l.length + ofB l
def getN (l : List Int) (at_ size : Nat) : Int := ofB ((l.drop at_).take size)
theorem beN_len (n : Int) : ∀ k, (beN n k).length = k
  | 0 => rfl
  | k + 1 => by rw [beN, List.length_cons, beN_len n k]
theorem beN_oct (n : Int) : ∀ k, Octets (beN n k)
  | 0 => fun x h => by cases h
  | k + 1 => fun x h => by
    rcases List.mem_cons.1 h with rfl | h
    · omega
    · exact beN_oct n k x h
theorem ofB_be {n : Int} (hn : 0 ≤ n) : ∀ k, ofB (beN n k) = n % 256 ^ k
  | 0 => by simp [beN, ofB]
  | k + 1 => by
    rw [beN, ofB, beN_len, ofB_be hn k]
    have hp : (0 : Int) < 256 ^ k := Int.pow_pos (by decide)
    rw [Int.pow_succ]
    generalize (256 : Int) ^ k = p at *
    have h0 := Int.mul_ediv_add_emod n p
    have h1 := Int.mul_ediv_add_emod (n / p) 256
    have h2 := Int.emod_nonneg n (show p ≠ 0 by omega)
    have h3 := Int.emod_lt_of_pos n hp
    have h4 : 0 ≤ n / p % 256 ∧ n / p % 256 ≤ 255 := by omega
    have h5 : 0 ≤ n / p % 256 * p := Int.mul_nonneg h4.1 (by omega)
    have h6 : n / p % 256 * p ≤ 255 * p := Int.mul_le_mul_of_nonneg_right h4.2 (by omega)
    have h7 : n = (n / p % 256 * p + n % p) + p * 256 * (n / p / 256) := by
      have : p * (256 * (n / p / 256) + n / p % 256) + n % p = n := by rw [h1]; exact h0
      rw [Int.mul_add] at this
      rw [Int.mul_assoc, Int.mul_comm (n / p % 256) p]
      omega
    have h8 : n % (p * 256) = (n / p % 256 * p + n % p) % (p * 256) := by
      conv => lhs; rw [h7]
      exact Int.add_mul_emod_self_left _ _ _
    rw [h8]; exact (Int.emod_eq_of_lt (by omega) (by omega)).symm
theorem ofB_bd {l : List Int} (h : Octets l) : 0 ≤ ofB l ∧ ofB l < 256 ^ l.length := by
  induction l with
  | nil => simp [ofB]
  | cons x l ih =>
    have h1 := ih fun y hy => h y (by simp [hy])
    have h2 := h x (by simp)
    have hp : (0 : Int) < 256 ^ l.length := Int.pow_pos (by decide)
    rw [ofB, List.length_cons, Int.pow_succ]
    have h3 : 0 ≤ x * 256 ^ l.length := Int.mul_nonneg h2.1 (by omega)
    have h4 : x * 256 ^ l.length ≤ 255 * 256 ^ l.length := Int.mul_le_mul_of_nonneg_right h2.2 (by omega)
    omega
theorem be_ofB {l : List Int} (h : Octets l) : beN (ofB l) l.length = l := by
  induction l with
  | nil => rfl
  | cons x l ih =>
    have h0 : Octets l := fun y hy => h y (by simp [hy])
    have h1 := ofB_bd h0
    have h2 := h x (by simp)
    have hp : (0 : Int) < 256 ^ l.length := Int.pow_pos (by decide)
    have key : ∀ (m : Int) (k : Nat), 0 ≤ ofB l → ∀ j ≤ k, beN (m * 256 ^ k + ofB l) j = beN (ofB l) j := by
      intro m k _ j
      induction j with
      | zero => intro _; rfl
      | succ j ihj =>
        intro hj
        rw [beN, beN, ihj (by omega)]
        congr 1
        have e : (256 : Int) ^ k = 256 ^ j * (256 * 256 ^ (k - j - 1)) := by
          rw [← Int.mul_assoc, ← Int.pow_succ, ← Int.pow_add]; congr 1; omega
        have hpj : (0 : Int) < 256 ^ j := Int.pow_pos (by decide)
        rw [e, show m * (256 ^ j * (256 * 256 ^ (k - j - 1))) = (m * 256 ^ (k - j - 1) * 256) * 256 ^ j by ac_rfl, Int.add_comm, Int.add_mul_ediv_right _ _ (by omega)]
        omega
    rw [ofB, List.length_cons, beN, key x l.length h1.1 l.length (Nat.le_refl _), ih h0]
    congr 1
    rw [Int.add_comm, Int.add_mul_ediv_right _ _ (by omega), Int.ediv_eq_zero_of_lt h1.1 h1.2]
    omega
theorem getN_bd {l : List Int} (h : Octets l) (a s : Nat) : 0 ≤ getN l a s ∧ getN l a s < 256 ^ s := by
  have h1 := ofB_bd (l := (l.drop a).take s) fun x hx => h x (List.mem_of_mem_drop (List.mem_of_mem_take hx))
  refine ⟨h1.1, Int.lt_of_lt_of_le h1.2 ?_⟩
  have : ((l.drop a).take s).length ≤ s := by rw [List.length_take]; omega
  have h2 : ((256 ^ ((l.drop a).take s).length : Nat) : Int) ≤ ((256 ^ s : Nat) : Int) := Int.ofNat_le.2 (Nat.pow_le_pow_right (by decide) this)
  rwa [Int.natCast_pow, Int.natCast_pow] at h2
theorem ofB_snoc (c : Int) : ∀ l : List Int, ofB (l ++ [c]) = ofB l * 256 + c
  | [] => by simp [ofB]
  | x :: l => by
    rw [List.cons_append, ofB, ofB, ofB_snoc c l, List.length_append, List.length_singleton, Int.pow_succ, Int.add_mul, Int.mul_assoc]; omega
/-- A number that lies there. -/
theorem getN_mid {pre post : List Int} {x : Int} {a q : Nat} (hx : 0 ≤ x) (ha : pre.length = a) : getN (pre ++ (beN x q ++ post)) a q = x % 256 ^ q := by
  unfold getN
  subst ha
  rw [List.drop_left, List.take_left' (beN_len x q), ofB_be hx]
/-- A packet's head but for its sum. -/
def wHead (k t i s d a : Int) (m : Bool) (n : Nat) : List Int := [80 + k, t] ++ beN (18 + n) 2 ++ beN i 2 ++ beN (if m then a + 32768 else a) 2
def wTail (s d : Int) : List Int := beN s 4 ++ beN d 4
def wSum (k t i s d a : Int) (m : Bool) (n : Nat) : Int := 65535 - total (wHead k t i s d a m n ++ [0, 0] ++ wTail s d)
/-- A packet as bytes. -/
def wire (k t i s d a : Int) (m : Bool) (l : List Int) : List Int := wHead k t i s d a m l.length ++ beN (wSum k t i s d a m l.length) 2 ++ wTail s d ++ l
/-- What is wrong with bytes that ought to begin with a packet. -/
def rdErr (b : List Int) : Int :=
  if b.length < 18 then 8 else if nth b 0 < 80 ∨ 95 < nth b 0 then 2 else if total (b.take 18) ≠ 65535 then 9 else if getN b 2 2 < 18 then 3 else if 4018 < getN b 2 2 then 4 else if (b.length : Int) < getN b 2 2 then 8 else 0
theorem wHead_len (k t i s d a : Int) (m : Bool) (n : Nat) : (wHead k t i s d a m n).length = 8 := by
  unfold wHead
  rw [List.length_append, List.length_append, List.length_append, beN_len, beN_len, beN_len]; rfl
theorem wTail_len (s d : Int) : (wTail s d).length = 8 := by
  unfold wTail
  rw [List.length_append, beN_len, beN_len]
theorem wire_len (k t i s d a : Int) (m : Bool) (l : List Int) : (wire k t i s d a m l).length = 18 + l.length := by
  unfold wire
  rw [List.length_append, List.length_append, List.length_append, wHead_len, wTail_len, beN_len]
theorem Octets.app {a b : List Int} (ha : Octets a) (hb : Octets b) : Octets (a ++ b) := ha.append hb
theorem wHead_oct {k t i s d a : Int} {m : Bool} {n : Nat} (hk : 0 ≤ k ∧ k ≤ 15) (ht : 0 ≤ t ∧ t ≤ 255) : Octets (wHead k t i s d a m n) := by
  unfold wHead
  refine (((Octets.app ?_ (beN_oct _ _)).app (beN_oct _ _)).app (beN_oct _ _))
  intro x hx
  simp at hx
  omega
theorem wTail_oct (s d : Int) : Octets (wTail s d) := (beN_oct _ _).app (beN_oct _ _)
theorem wsum_app {a b : List Int} : ∀ (n : Nat), a.length = 2 * n → wsum (a ++ b) = wsum a + wsum b := by
  intro n
  induction n generalizing a with
  | zero =>
    intro h
    obtain rfl : a = [] := List.eq_nil_of_length_eq_zero (by omega)
    simp [wsum, words]
  | succ n ih =>
    intro h
    match a, h with
    | x :: y :: a, h =>
      rw [List.cons_append, List.cons_append, wsum_cons2, wsum_cons2, ih (by simp at h; omega)]; omega
/-- The sum is right. -/
theorem wire_sum {k t i s d a : Int} {m : Bool} {n : Nat} (hk : 0 ≤ k ∧ k ≤ 15) (ht : 0 ≤ t ∧ t ≤ 255) : total (wHead k t i s d a m n ++ beN (wSum k t i s d a m n) 2 ++ wTail s d) = 65535 := by
  have hh := wHead_oct (i := i) (s := s) (d := d) (a := a) (m := m) (n := n) hk ht
  have ht' := wTail_oct s d
  have hz : Octets [0, 0] := fun x hx => by simp at hx; omega
  have e1 : ∀ x y : Int, wsum (wHead k t i s d a m n ++ [x, y] ++ wTail s d) = wsum (wHead k t i s d a m n) + (256 * x + y) + wsum (wTail s d) := by
    intro x y
    rw [List.append_assoc, wsum_app 4 (wHead_len ..), List.cons_append, List.cons_append, wsum_cons2, List.nil_append]; omega
  have e2 := e1 0 0
  have hpos : 1 ≤ wsum (wHead k t i s d a m n) := by
    have : wHead k t i s d a m n = (80 + k) :: t :: (beN (18 + n) 2 ++ beN i 2 ++ beN (if m then a + 32768 else a) 2) := by unfold wHead; simp
    rw [this, wsum_cons2]
    have := wsum_nonneg (l := beN (18 + n) 2 ++ beN i 2 ++ beN (if m then a + 32768 else a) 2) (((beN_oct _ _).app (beN_oct _ _)).app (beN_oct _ _))
    omega
  have htail := wsum_nonneg ht'
  have hb := total_bd ((hh.app hz).app ht')
  obtain ⟨S, hS⟩ : ∃ S, S = wSum k t i s d a m n := ⟨_, rfl⟩
  have hS' : S = 65535 - total (wHead k t i s d a m n ++ [0, 0] ++ wTail s d) := hS
  have eb : beN S 2 = [S / 256 % 256, S % 256] := by simp [beN]
  rw [← hS, eb]
  unfold total at hS' hb ⊢
  rw [e1]
  rw [e2] at hS' hb
  unfold tot at hS' hb ⊢
  split at hS' <;> split at hb <;> split <;> omega
/-- What bytes that begin with a packet are read as. -/
theorem wire_read {k t i s d a : Int} {m : Bool} {l rest : List Int} (hk : 0 ≤ k ∧ k ≤ 15) (ht : 0 ≤ t ∧ t ≤ 255) (hi : 0 ≤ i ∧ i ≤ 65535) (hs : 0 ≤ s ∧ s ≤ 4294967295) (hd : 0 ≤ d ∧ d ≤ 4294967295) (ha : 0 ≤ a ∧ a < 32768) (hl : l.length ≤ 4000) :
    rdErr (wire k t i s d a m l ++ rest) = 0 ∧ nth (wire k t i s d a m l ++ rest) 0 = 80 + k ∧ nth (wire k t i s d a m l ++ rest) 1 = t ∧ getN (wire k t i s d a m l ++ rest) 2 2 = 18 + l.length ∧ getN (wire k t i s d a m l ++ rest) 4 2 = i ∧
      getN (wire k t i s d a m l ++ rest) 6 2 = (if m then a + 32768 else a) ∧ getN (wire k t i s d a m l ++ rest) 10 4 = s ∧ getN (wire k t i s d a m l ++ rest) 14 4 = d ∧ ((wire k t i s d a m l ++ rest).drop 18).take l.length = l := by
  have hat : 0 ≤ (if m then a + 32768 else a) ∧ (if m then a + 32768 else a) < 65536 := by split <;> omega
  obtain ⟨at_, hA⟩ : ∃ x, x = (if m then a + 32768 else a) := ⟨_, rfl⟩
  obtain ⟨S, hS⟩ : ∃ x, x = wSum k t i s d a m l.length := ⟨_, rfl⟩
  have hsum := wire_sum (i := i) (s := s) (d := d) (a := a) (m := m) (n := l.length) hk ht
  have hh := wHead_len k t i s d a m l.length
  have htl := wTail_len s d
  have e0 : wire k t i s d a m l ++ rest = (wHead k t i s d a m l.length ++ beN S 2 ++ wTail s d) ++ (l ++ rest) := by unfold wire; rw [hS]; simp only [List.append_assoc]
  have e18 : (wHead k t i s d a m l.length ++ beN S 2 ++ wTail s d).length = 18 := by rw [List.length_append, List.length_append, hh, htl, beN_len]
  have etake : (wire k t i s d a m l ++ rest).take 18 = wHead k t i s d a m l.length ++ beN S 2 ++ wTail s d := by rw [e0, ← e18, List.take_left]
  have ed : (wire k t i s d a m l ++ rest).drop 18 = l ++ rest := by rw [e0, ← e18, List.drop_left]
  have ew : wHead k t i s d a m l.length = [80 + k, t] ++ beN (18 + l.length) 2 ++ beN i 2 ++ beN at_ 2 := by unfold wHead; rw [hA]
  have f0 : nth (wire k t i s d a m l ++ rest) 0 = 80 + k := by rw [e0, ew]; rfl
  have f1 : nth (wire k t i s d a m l ++ rest) 1 = t := by rw [e0, ew]; rfl
  have p2 : getN (wire k t i s d a m l ++ rest) 2 2 = 18 + l.length := by
    have e : wire k t i s d a m l ++ rest = [80 + k, t] ++ (beN (18 + l.length) 2 ++ (beN i 2 ++ beN at_ 2 ++ beN S 2 ++ wTail s d ++ l ++ rest)) := by rw [e0, ew]; simp only [List.append_assoc]
    rw [e]
    refine (getN_mid ?_ ?_).trans ?_
    · omega
    · exact rfl
    · exact Int.emod_eq_of_lt (by omega) (by show _ < (65536 : Int); omega)
  have p4 : getN (wire k t i s d a m l ++ rest) 4 2 = i := by
    have e : wire k t i s d a m l ++ rest = ([80 + k, t] ++ beN (18 + l.length) 2) ++ (beN i 2 ++ (beN at_ 2 ++ beN S 2 ++ wTail s d ++ l ++ rest)) := by rw [e0, ew]; simp only [List.append_assoc]
    rw [e]
    refine (getN_mid ?_ ?_).trans ?_
    · omega
    · rw [List.length_append, beN_len]; rfl
    · exact Int.emod_eq_of_lt (by omega) (by show _ < (65536 : Int); omega)
  have p6 : getN (wire k t i s d a m l ++ rest) 6 2 = at_ := by
    have e : wire k t i s d a m l ++ rest = ([80 + k, t] ++ beN (18 + l.length) 2 ++ beN i 2) ++ (beN at_ 2 ++ (beN S 2 ++ wTail s d ++ l ++ rest)) := by rw [e0, ew]; simp only [List.append_assoc]
    rw [e]
    refine (getN_mid ?_ ?_).trans ?_
    · omega
    · rw [List.length_append, List.length_append, beN_len, beN_len]; rfl
    · exact Int.emod_eq_of_lt (by omega) (by show _ < (65536 : Int); omega)
  have p10 : getN (wire k t i s d a m l ++ rest) 10 4 = s := by
    have e : wire k t i s d a m l ++ rest = (wHead k t i s d a m l.length ++ beN S 2) ++ (beN s 4 ++ (beN d 4 ++ l ++ rest)) := by rw [e0, wTail]; simp only [List.append_assoc]
    rw [e]
    refine (getN_mid ?_ ?_).trans ?_
    · omega
    · rw [List.length_append, hh, beN_len]
    · exact Int.emod_eq_of_lt (by omega) (by show _ < (4294967296 : Int); omega)
  have p14 : getN (wire k t i s d a m l ++ rest) 14 4 = d := by
    have e : wire k t i s d a m l ++ rest = (wHead k t i s d a m l.length ++ beN S 2 ++ beN s 4) ++ (beN d 4 ++ (l ++ rest)) := by rw [e0, wTail]; simp only [List.append_assoc]
    rw [e]
    refine (getN_mid ?_ ?_).trans ?_
    · omega
    · rw [List.length_append, List.length_append, hh, beN_len, beN_len]
    · exact Int.emod_eq_of_lt (by omega) (by show _ < (4294967296 : Int); omega)
  refine ⟨?_, f0, f1, p2, p4, by rw [p6, hA], p10, p14, by rw [ed, List.take_left]⟩
  have hlen : (wire k t i s d a m l ++ rest).length = 18 + l.length + rest.length := by rw [List.length_append, wire_len]
  unfold rdErr
  rw [if_neg (by omega), if_neg (by omega), etake, hS, if_neg (by rw [hsum]; decide), p2, if_neg (by omega), if_neg (by omega), if_neg (by omega)]
end Go.Port
