/- frag: the pieces of one packet, in whatever order they come: the plain part. No program here. -/
import Derived.Test.YtlpdapfihgpheaaDoorFragQ
import Derived.Test.YtlpdapfihgpheaaDoorFragW
set_option linter.unusedSimpArgs false
set_option linter.unusedVariables false
namespace Go.Port
theorem putAt_get {α : Type} {l p : List α} {o : Nat} (h : o + p.length ≤ l.length) (i : Nat) : (putAt l o p)[i]? = if i < o then l[i]? else if i < o + p.length then p[i - o]? else l[i]? := by
  unfold putAt
  have h1 : (l.take o).length = o := by rw [List.length_take]; omega
  have h2 : (l.take o ++ p).length = o + p.length := by rw [List.length_append, h1]
  by_cases ha : i < o
  · rw [if_pos ha, List.getElem?_append_left (by omega), List.getElem?_append_left (by omega), List.getElem?_take, if_pos ha]
  rw [if_neg ha]
  by_cases hb : i < o + p.length
  · rw [if_pos hb, List.getElem?_append_left (by omega), List.getElem?_append_right (by omega), h1]
  · rw [if_neg hb, List.getElem?_append_right (by omega), h2, List.getElem?_drop]
    congr 1
    omega
/-- The body of piece x of j + 1. -/
def pcB (l : List Int) (q j x : Nat) : List Int := if x = j then l.drop (j * (q * 8)) else (l.drop (x * (q * 8))).take (q * 8)
/-- How a packet is cut. -/
structure CutL (l : List Int) (q j : Nat) : Prop where
  q0 : 1 ≤ q
  lo : j * (q * 8) < l.length
  hi : l.length ≤ 4000
section
variable {l : List Int} {q j : Nat}
theorem mul_lt8 {q x y : Nat} (h : x < y) : x * (q * 8) + q * 8 ≤ y * (q * 8) := by
  have h1 : (x + 1) * (q * 8) ≤ y * (q * 8) := Nat.mul_le_mul_right _ h
  rw [Nat.add_mul, Nat.one_mul] at h1
  exact h1
theorem CutL.len (hc : CutL l q j) {x : Nat} (hx : x ≤ j) : x * (q * 8) + (pcB l q j x).length ≤ l.length ∧ 0 < (pcB l q j x).length ∧ (x < j → (pcB l q j x).length = q * 8) ∧ (x = j → x * (q * 8) + (pcB l q j x).length = l.length) := by
  have h0 := hc.lo
  have hq := hc.q0
  unfold pcB
  by_cases he : x = j
  · subst he
    rw [if_pos rfl, List.length_drop]
    omega
  · rw [if_neg he, List.length_take, List.length_drop]
    have := mul_lt8 (q := q) (x := x) (y := j) (by omega)
    omega
theorem CutL.get (hc : CutL l q j) {x i : Nat} (hx : x ≤ j) (h1 : x * (q * 8) ≤ i) (h2 : i < x * (q * 8) + (pcB l q j x).length) : (pcB l q j x)[i - x * (q * 8)]? = l[i]? := by
  obtain ⟨_, _, hl, _⟩ := hc.len hx
  unfold pcB
  by_cases he : x = j
  · subst he
    rw [if_pos rfl, List.getElem?_drop]
    congr 1
    omega
  · have := hl (by omega)
    rw [if_neg he, List.getElem?_take, if_pos (by omega), List.getElem?_drop]
    congr 1
    omega
theorem CutL.apart (hc : CutL l q j) {x y i : Nat} (hx : x ≤ j) (hy : y ≤ j) (hne : x ≠ y) (h1 : x * (q * 8) ≤ i) (h2 : i < x * (q * 8) + (pcB l q j x).length) : ¬ (y * (q * 8) ≤ i ∧ i < y * (q * 8) + (pcB l q j y).length) := by
  rintro ⟨h3, h4⟩
  rcases Nat.lt_or_gt_of_ne hne with h | h
  · have := mul_lt8 (q := q) h
    have := (hc.len hx).2.2.1 (by omega)
    omega
  · have := mul_lt8 (q := q) h
    have := (hc.len hy).2.2.1 (by omega)
    omega
theorem CutL.find (hc : CutL l q j) {i : Nat} (hi : i < l.length) : ∃ x, x ≤ j ∧ x * (q * 8) ≤ i ∧ i < x * (q * 8) + (pcB l q j x).length := by
  have hq := hc.q0
  by_cases h : j * (q * 8) ≤ i
  · exact ⟨j, Nat.le_refl _, h, by have := (hc.len (Nat.le_refl j)).2.2.2 rfl; omega⟩
  · have h1 : i / (q * 8) < j := (Nat.div_lt_iff_lt_mul (by omega)).2 (by omega)
    have h2 := Nat.div_mul_le_self i (q * 8)
    have h3 := Nat.lt_div_mul_add (a := i) (b := q * 8) (by omega)
    refine ⟨i / (q * 8), by omega, h2, ?_⟩
    rw [(hc.len (by omega)).2.2.1 h1]
    exact h3
end
/-- A heap to which some of the pieces came. -/
structure OfP (u t : Int) (l : List Int) (q j : Nat) (bs : List Bool) (h : Hp) : Prop where
  began : h.began = u
  ttl : h.ttl = t
  bad : h.bad = false
  bl : h.body.length = 4000
  hl : h.has.length = 4000
  has : ∀ x, x ≤ j → ∀ i, x * (q * 8) ≤ i → i < x * (q * 8) + (pcB l q j x).length → h.has[i]? = bs[x]?
  body : ∀ i, i < l.length → h.has[i]? = some true → h.body[i]? = l[i]?
  fin : h.fin = if bs[j]? = some true then (l.length : Int) else -1
  height : h.height ≤ l.length
theorem OfP.new {u t : Int} {l : List Int} {q j : Nat} (hc : CutL l q j) : OfP u t l q j (List.replicate (j + 1) false) (newH u t) where
  began := rfl
  ttl := rfl
  bad := rfl
  bl := List.length_replicate
  hl := List.length_replicate
  has := fun x hx i h1 h2 => by
    have := (hc.len hx).1
    have := hc.hi
    show (List.replicate 4000 false)[i]? = _
    rw [List.getElem?_replicate, if_pos (by omega), List.getElem?_replicate, if_pos (by omega)]
  body := fun i _ h => by
    have h2 : (List.replicate 4000 false)[i]? = some true := h
    rw [List.getElem?_replicate] at h2
    split at h2 <;> cases h2
  fin := by
    rw [List.getElem?_replicate, if_pos (Nat.lt_succ_self j), if_neg (by simp)]
    rfl
  height := by
    show (0 : Int) ≤ _
    omega
theorem at_eight {x q : Nat} : (8 * ((x * q : Nat) : Int)).toNat = x * (q * 8) := by
  rw [show (8 : Int) * ((x * q : Nat) : Int) = ((8 * (x * q) : Nat) : Int) by omega, Int.toNat_natCast]
  rw [Nat.mul_comm 8, Nat.mul_assoc]
section
variable {u t : Int} {l : List Int} {q j x : Nat} {bs : List Bool} {h : Hp}
theorem OfP.fits (hc : CutL l q j) (ho : OfP u t l q j bs h) (hx : x ≤ j) (hb : bs[x]? = some false) : wrongH h ((x * q : Nat) : Int) (decide (x ≠ j)) (pcB l q j x).length = false := by
  obtain ⟨h1, h2, h3, h4⟩ := hc.len hx
  have hi := hc.hi
  have he : 8 * ((x * q : Nat) : Int) = ((x * (q * 8) : Nat) : Int) := by
    rw [show (8 : Int) * ((x * q : Nat) : Int) = ((8 * (x * q) : Nat) : Int) by omega, Nat.mul_comm 8, Nat.mul_assoc]
  have hf := ho.fin
  have hh := ho.height
  have hno : true ∉ (h.has.drop (8 * ((x * q : Nat) : Int)).toNat).take (pcB l q j x).length := fun hm => by
    obtain ⟨y, hy⟩ := List.getElem?_of_mem hm
    rw [List.getElem?_take] at hy
    split at hy
    · rw [List.getElem?_drop, at_eight, ho.has x hx _ (by omega) (by omega), hb] at hy
      cases hy
    · cases hy
  unfold wrongH
  rw [he] at hno ⊢
  rw [decide_eq_false hno, decide_eq_false (by omega : ¬ (pcB l q j x).length = 0), decide_eq_false (by omega : ¬ (4000 : Int) < _ + _)]
  by_cases hxj : x = j
  · have hdn : decide (x ≠ j) = false := decide_eq_false (by omega)
    have hb2 : bs[j]? = some false := hxj ▸ hb
    rw [hb2, if_neg (by simp)] at hf
    rw [hdn, hf, decide_eq_false (by have := h4 hxj; omega : ¬ (((x * (q * 8) : Nat) : Int) + ((pcB l q j x).length : Int) < h.height))]
    rfl
  · have hdn : decide (x ≠ j) = true := decide_eq_true hxj
    have h5 := h3 (by omega)
    rw [hdn, decide_eq_false (by omega : ¬ ¬ ((pcB l q j x).length : Int) % 8 = 0)]
    have h6 : (decide (0 ≤ h.fin) && ((!true) || decide (h.fin < ((x * (q * 8) : Nat) : Int) + ((pcB l q j x).length : Int)))) = false := by
      rw [hf]
      split
      · rw [decide_eq_false (by omega : ¬ ((l.length : Int) < _))]
        simp
      · rfl
    rw [h6]
    rfl
theorem OfP.put (hc : CutL l q j) (ho : OfP u t l q j bs h) (hbl : bs.length = j + 1) (hx : x ≤ j) : OfP u t l q j (bs.set x true) (putH h ((x * q : Nat) : Int) (decide (x ≠ j)) t (pcB l q j x)) := by
  obtain ⟨h1, h2, h3, h4⟩ := hc.len hx
  have hi := hc.hi
  have hhl := ho.hl
  have hbo := ho.bl
  have e1 : (putH h ((x * q : Nat) : Int) (decide (x ≠ j)) t (pcB l q j x)).has = putAt h.has (x * (q * 8)) (List.replicate (pcB l q j x).length true) := by unfold putH; rw [at_eight]
  have e2 : (putH h ((x * q : Nat) : Int) (decide (x ≠ j)) t (pcB l q j x)).body = putAt h.body (x * (q * 8)) (pcB l q j x) := by unfold putH; rw [at_eight]
  have hle1 : x * (q * 8) + (List.replicate (pcB l q j x).length true).length ≤ h.has.length := by rw [List.length_replicate]; omega
  have hle2 : x * (q * 8) + (pcB l q j x).length ≤ h.body.length := by omega
  refine ⟨ho.began, ?_, ho.bad, ?_, ?_, fun y hy i h5 h6 => ?_, fun i hil h5 => ?_, ?_, ?_⟩
  · show min h.ttl t = t
    rw [ho.ttl]
    omega
  · rw [e2, putAt_len hle2]; exact hbo
  · rw [e1, putAt_len hle1]; exact hhl
  · rw [e1, putAt_get hle1, List.length_replicate]
    by_cases hxy : x = y
    · subst hxy
      rw [if_neg (by omega), if_pos (by omega), List.getElem?_replicate, if_pos (by omega), List.getElem?_set_self (by omega)]
    · have hap := hc.apart hy hx (Ne.symm hxy) h5 h6
      rw [List.getElem?_set_ne hxy]
      have := ho.has y hy i h5 h6
      split
      · exact this
      · split
        · exfalso; omega
        · exact this
  · rw [e1, putAt_get hle1, List.length_replicate] at h5
    rw [e2, putAt_get hle2]
    split at h5
    · rename_i h7
      rw [if_pos h7]
      exact ho.body i hil h5
    · rename_i h7
      rw [if_neg h7]
      split at h5
      · rename_i h8
        rw [if_pos h8]
        exact hc.get hx (by omega) h8
      · rename_i h8
        rw [if_neg h8]
        exact ho.body i hil h5
  · have hf := ho.fin
    unfold putH
    dsimp only
    by_cases hxj : x = j
    · have hdn : decide (x ≠ j) = false := decide_eq_false (by omega)
      rw [hdn, if_neg (by decide), hxj, List.getElem?_set_self (by omega), if_pos rfl]
      have he : 8 * ((j * q : Nat) : Int) = ((j * (q * 8) : Nat) : Int) := by
        rw [show (8 : Int) * ((j * q : Nat) : Int) = ((8 * (j * q) : Nat) : Int) by omega, Nat.mul_comm 8, Nat.mul_assoc]
      rw [he]
      have := (hc.len (Nat.le_refl j)).2.2.2 rfl
      omega
    · have hdn : decide (x ≠ j) = true := decide_eq_true hxj
      rw [hdn, if_pos rfl, List.getElem?_set_ne hxj]
      exact hf
  · have hh := ho.height
    show max h.height (8 * ((x * q : Nat) : Int) + ((pcB l q j x).length : Int)) ≤ _
    have he : 8 * ((x * q : Nat) : Int) = ((x * (q * 8) : Nat) : Int) := by
      rw [show (8 : Int) * ((x * q : Nat) : Int) = ((8 * (x * q) : Nat) : Int) by omega, Nat.mul_comm 8, Nat.mul_assoc]
    rw [he]
    omega
/-- Whole just where all came. -/
theorem OfP.whole (hc : CutL l q j) (ho : OfP u t l q j bs h) (hbl : bs.length = j + 1) : wholeH h = !decide (false ∈ bs) := by
  have hi := hc.hi
  have hf := ho.fin
  have hhl := ho.hl
  unfold wholeH
  by_cases hm : false ∈ bs
  · rw [decide_eq_true hm]
    obtain ⟨x, hx⟩ := List.getElem?_of_mem hm
    have hxj : x ≤ j := by have := (List.getElem?_eq_some_iff.1 hx).1; omega
    by_cases hj : bs[j]? = some true
    · rw [if_pos hj] at hf
      obtain ⟨h1, h2, h3, h4⟩ := hc.len hxj
      have h5 := ho.has x hxj (x * (q * 8)) (Nat.le_refl _) (by omega)
      rw [hx] at h5
      have h6 : false ∈ h.has.take h.fin.toNat := by
        refine List.mem_of_getElem? (i := x * (q * 8)) ?_
        rw [List.getElem?_take, if_pos (by omega), h5]
      rw [decide_eq_true h6]
      simp
    · rw [if_neg hj] at hf
      rw [hf]
      rfl
  · rw [decide_eq_false hm]
    have hall : ∀ x, x ≤ j → bs[x]? = some true := fun x hx => by
      rw [List.getElem?_eq_getElem (by omega)]
      cases hb : bs[x]'(by omega) with
      | true => rfl
      | false => exact absurd (hb ▸ List.getElem_mem _) hm
    rw [if_pos (hall j (Nat.le_refl j))] at hf
    have h6 : false ∉ h.has.take h.fin.toNat := fun h7 => by
      obtain ⟨i, h8⟩ := List.getElem?_of_mem h7
      rw [List.getElem?_take] at h8
      split at h8
      · obtain ⟨x, hx, h9, h10⟩ := hc.find (i := i) (by omega)
        rw [ho.has x hx i h9 h10, hall x hx] at h8
        cases h8
      · cases h8
    rw [decide_eq_false h6, decide_eq_false (by omega)]
    rfl
/-- .. and then it is the packet's body. -/
theorem OfP.done (hc : CutL l q j) (ho : OfP u t l q j bs h) (hbl : bs.length = j + 1) (hm : false ∉ bs) : h.fin = l.length ∧ h.body.take l.length = l := by
  have hi := hc.hi
  have hf := ho.fin
  have hhl := ho.hl
  have hbo := ho.bl
  have hall : ∀ x, x ≤ j → bs[x]? = some true := fun x hx => by
    rw [List.getElem?_eq_getElem (by omega)]
    cases hb : bs[x]'(by omega) with
    | true => rfl
    | false => exact absurd (hb ▸ List.getElem_mem _) hm
  rw [if_pos (hall j (Nat.le_refl j))] at hf
  refine ⟨hf, List.ext_getElem? fun i => ?_⟩
  rw [List.getElem?_take]
  split
  · rename_i hil
    obtain ⟨x, hx, h9, h10⟩ := hc.find hil
    exact ho.body i hil ((ho.has x hx i h9 h10).trans (hall x hx))
  · rename_i hil
    rw [List.getElem?_eq_none (by omega)]
/-- A piece that came already is wrong. -/
theorem OfP.again (hc : CutL l q j) (ho : OfP u t l q j bs h) (hx : x ≤ j) (hb : bs[x]? = some true) (m : Bool) : wrongH h ((x * q : Nat) : Int) m (pcB l q j x).length = true := by
  obtain ⟨h1, h2, h3, h4⟩ := hc.len hx
  have h6 : true ∈ (h.has.drop (8 * ((x * q : Nat) : Int)).toNat).take (pcB l q j x).length := by
    refine List.mem_of_getElem? (i := 0) ?_
    rw [List.getElem?_take, if_pos h2, List.getElem?_drop, at_eight, ho.has x hx _ (by omega) (by omega), hb]
  unfold wrongH
  rw [decide_eq_true h6, Bool.or_true]
end
end Go.Port
