/- Who does most: exactly. The plain law of HeavyPlays; no program here. -/
import Derived.Test.YtaofimndclgpdaaDoorHeavyH
import Derived.Test.YtaofimndclgpdaaDoorHeavyM
set_option linter.unusedSimpArgs false
set_option linter.unusedVariables false
namespace Go.Port
/-- The least of all and m. -/
def LeastH (m : Int) (l : List (Int × Int)) (q : Int) : Prop := q ≤ m ∧ (∀ e ∈ l, q ≤ e.2) ∧ (q = m ∨ ∃ e ∈ l, e.2 = q)
theorem LeastH.one {m : Int} {l : List (Int × Int)} {q q' : Int} (h : LeastH m l q) (h' : LeastH m l q') : q = q' := by
  obtain ⟨h1, h2, h3⟩ := h
  obtain ⟨g1, g2, g3⟩ := h'
  have a : q ≤ q' := by
    rcases g3 with g3 | ⟨e, he, g3⟩
    · omega
    · have := h2 e he; omega
  have b : q' ≤ q := by
    rcases h3 with h3 | ⟨e, he, h3⟩
    · omega
    · have := g2 e he; omega
  omega
/-- What an Add leaves. -/
inductive AddS (n : Nat) (k : Int) : Int → List (Int × Int) → Int → List (Int × Int) → Int → Prop
  | zero (l : List (Int × Int)) (less : Int) : AddS n k 0 l less l less
  | put (m : Int) (l : List (Int × Int)) (less : Int) (hm : 0 < m) (h : hasH l k ∨ l.length < n) : AddS n k m l less (putH k m l) less
  | step (m : Int) (l : List (Int × Int)) (less q : Int) (l' : List (Int × Int)) (less' : Int) (hm : 0 < m) (h : ¬ hasH l k) (hn : ¬ l.length < n) (hq : LeastH m l q) (hr : AddS n k (m - q) (takH q l) (less + q) l' less') : AddS n k m l less l' less'
theorem AddS.det {n : Nat} {k m : Int} {l : List (Int × Int)} {less : Int} {l1 l2 : List (Int × Int)} {s1 s2 : Int} (h : AddS n k m l less l1 s1) : AddS n k m l less l2 s2 → l1 = l2 ∧ s1 = s2 := by
  induction h with
  | zero l less =>
    intro h'
    cases h' with
    | zero => exact ⟨rfl, rfl⟩
    | put _ _ _ hm _ => omega
    | step _ _ _ q _ _ hm _ _ _ _ => omega
  | put m l less hm h =>
    intro h'
    cases h' with
    | zero => omega
    | put _ _ _ _ _ => exact ⟨rfl, rfl⟩
    | step _ _ _ q _ _ _ h2 h3 _ _ => exact (h.elim h2 h3).elim
  | step m l less q l' less' hm h hn hq hr ih =>
    intro h'
    cases h' with
    | zero => omega
    | put _ _ _ _ h2 => exact (h2.elim h hn).elim
    | step _ _ _ q' _ _ _ _ _ hq' hr' =>
      obtain rfl := hq.one hq'
      exact ih hr'
/-- Told alike by every key: the same, in whatever order. -/
theorem perm_lk {a b : List (Int × Int)} (ha : OkH a) (hb : OkH b) (h : ∀ k, lkH a k = lkH b k) : a.Perm b := by
  have nd : ∀ {c : List (Int × Int)}, OkH c → c.Nodup := fun hc => (List.pairwise_map.1 hc.1).imp fun {a b} hab e => hab (congrArg Prod.fst e)
  have half : ∀ {c d : List (Int × Int)}, OkH c → OkH d → (∀ k, lkH c k = lkH d k) → ∀ e ∈ c, e ∈ d := fun {c d} hc hd hk e he => by
    have h1 := lk_in hc he
    have h2 := hc.2 e he
    rw [hk] at h1
    have h3 : ∃ x ∈ d, x.1 = e.1 := by
      apply Classical.byContradiction
      intro hx
      have h4 := lk_out (l := d) (k := e.1) fun x hx1 hx2 => hx ⟨x, hx1, hx2⟩
      omega
    obtain ⟨x, hx, hxe⟩ := h3
    have h5 := lk_in hd hx
    rw [hxe, h1] at h5
    have h6 : e = x := Prod.ext hxe.symm h5
    rw [h6]
    exact hx
  exact (List.perm_ext_iff_of_nodup (nd ha) (nd hb)).2 fun e => ⟨half ha hb h e, half hb ha (fun k => (h k).symm) e⟩
theorem puts_perm {l r r' : List (Int × Int)} (hl : OkH l) (hr : OkH r) (h : r.Perm r') : (putsH l r).Perm (putsH l r') := by
  have hr' := OkH.perm h hr
  refine perm_lk (puts_all (n := 0) hl hr.2).1 (puts_all (n := 0) hl hr'.2).1 fun k => ?_
  rw [puts_lk hr, puts_lk hr', lk_perm h hr]
theorem tak_perm {q : Int} {a b : List (Int × Int)} (h : a.Perm b) : (takH q a).Perm (takH q b) := by
  induction h with
  | nil => exact .refl _
  | cons x _ ih =>
    rw [takH, takH]
    split
    · exact ih
    · exact .cons _ ih
  | swap x y l =>
    rw [takH, takH, takH, takH]
    split <;> split
    · exact .refl _
    · exact .refl _
    · exact .refl _
    · exact .swap _ _ _
  | trans _ _ h1 h2 => exact h1.trans h2
/-- What a Merge leaves. -/
def MergeS (n : Nat) (l : List (Int × Int)) (less : Int) (l2 : List (Int × Int)) (less2 : Int) (l' : List (Int × Int)) (less' : Int) : Prop :=
  ∃ r, r.Perm l2 ∧ (((putsH l r).length ≤ n ∧ l' = putsH l r ∧ less' = less + less2) ∨
    (n < (putsH l r).length ∧ ∃ (q : Int) (zs : List Int), zs.Perm ((putsH l r).map (·.2)) ∧ zs.Pairwise (fun x y => x ≤ y) ∧ zs[zs.length - 1 - n]? = some q ∧ l' = takH q (putsH l r) ∧ less' = less + less2 + q))
theorem MergeS.det {n : Nat} {l l2 l1 l3 : List (Int × Int)} {less less2 s1 s3 : Int} (hl : OkH l) (hl2 : OkH l2) (h : MergeS n l less l2 less2 l1 s1) (h' : MergeS n l less l2 less2 l3 s3) : l1.Perm l3 ∧ s1 = s3 := by
  obtain ⟨r, hr, h⟩ := h
  obtain ⟨r', hr', h'⟩ := h'
  have hp : (putsH l r).Perm (putsH l r') := puts_perm hl (OkH.perm hr.symm hl2) (hr.trans hr'.symm)
  have hlen := hp.length_eq
  rcases h with ⟨h1, rfl, rfl⟩ | ⟨h1, q, zs, h2, h3, h4, rfl, rfl⟩
  · rcases h' with ⟨g1, rfl, rfl⟩ | ⟨g1, _⟩
    · exact ⟨hp, rfl⟩
    · omega
  · rcases h' with ⟨g1, _⟩ | ⟨g1, q', zs', g2, g3, g4, rfl, rfl⟩
    · omega
    · have e : zs = zs' := by
        have e1 : zs.Perm zs' := h2.trans ((hp.map _).trans g2.symm)
        exact List.Perm.eq_of_pairwise (le := fun x y => x ≤ y) (fun a b _ _ u v => by omega) h3 g3 e1
      subst e
      rw [h4] at g4
      obtain rfl := Option.some.inj g4
      exact ⟨tak_perm hp, rfl⟩
end Go.Port
namespace Go.Proofs.YtaofimndclgpdaaDoor
open Go.RowKit Go.Port Go.Proofs
open Go.Proofs (ltOf)
/-- A top of counts. -/
def TopL (less : Int) (l : List (Int × Int)) (d : List Ct) : Prop := d.Perm (l.map fun e => (e.1, e.2, less)) ∧ d.Pairwise (fun x y => ltOf cfC y x = false)
theorem TopL.one {less : Int} {l l' : List (Int × Int)} {d d' : List Ct} (hl : l.Perm l') (h : TopL less l d) (h' : TopL less l' d') : d = d' := by
  have hp : d.Perm d' := h.1.trans ((hl.map _).trans h'.1.symm)
  refine List.Perm.eq_of_pairwise (le := fun x y => ltOf cfC y x = false) (fun a b ha hb h1 h2 => ?_) h.2 h'.2 hp
  simp only [ltOf, decide_eq_false_iff_not, cfC_neg] at h1 h2
  have e2 : a.2.2 = less := by
    obtain ⟨y, _, rfl⟩ := List.mem_map.1 (h.1.mem_iff.1 ha)
    rfl
  have e3 : b.2.2 = less := by
    obtain ⟨y, _, rfl⟩ := List.mem_map.1 (h'.1.mem_iff.1 hb)
    rfl
  obtain ⟨a1, a2, a3⟩ := a
  obtain ⟨b1, b2, b3⟩ := b
  dsimp only at *
  rw [show a1 = b1 by omega, show a2 = b2 by omega, show a3 = b3 by omega]
/-- What many have, of a top. -/
theorem TopL.many {less : Int} {l : List (Int × Int)} {d : List Ct} (h : TopL less l d) {n : Nat} {x : Ct} (hx : d[n]? = some x) : ∃ zs : List Int, zs.Perm (l.map (·.2)) ∧ zs.Pairwise (fun x y => x ≤ y) ∧ zs[zs.length - 1 - n]? = some x.2.1 := by
  obtain ⟨hn, hxe⟩ := List.getElem?_eq_some_iff.1 hx
  refine ⟨(d.map (·.2.1)).reverse, ?_, ?_, ?_⟩
  · refine (List.reverse_perm _).trans ((h.1.map _).trans ?_)
    rw [List.map_map]
    exact .of_eq rfl
  · rw [List.pairwise_reverse, List.pairwise_map]
    refine h.2.imp fun {a b} hab => ?_
    simp only [ltOf, decide_eq_false_iff_not, cfC_neg] at hab
    omega
  · rw [List.length_reverse, List.length_map, List.getElem?_reverse (by rw [List.length_map]; omega), List.length_map, show d.length - 1 - (d.length - 1 - n) = n by omega, List.getElem?_map, hx]
    rfl
end Go.Proofs.YtaofimndclgpdaaDoor
