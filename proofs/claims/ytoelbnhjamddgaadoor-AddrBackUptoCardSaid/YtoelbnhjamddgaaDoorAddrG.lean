/- Prefixes of a range, and of a cover: each address once, as few as can be. The plain law. No program here. -/
import Derived.Test.YtoelbnhjamddgaaDoorAddrD
set_option linter.unusedSimpArgs false
set_option linter.unusedVariables false
namespace Go.Port
/-- How many of some have an address. -/
def cntH : List Sp → Int → Int
  | [], _ => 0
  | s :: l, x => (if pxHas s.1 s.2 x then 1 else 0) + cntH l x
theorem cntH_snoc (s : Sp) (x : Int) : ∀ l : List Sp, cntH (l ++ [s]) x = cntH l x + (if pxHas s.1 s.2 x then 1 else 0)
  | [] => by show (_ + 0 : Int) = 0 + _; omega
  | t :: l => by rw [List.cons_append, cntH, cntH, cntH_snoc s x l]; omega
theorem cntH_step {l : List Sp} {i : Nat} {s : Sp} (h : l[i]? = some s) (x : Int) : cntH (l.take (i + 1)) x = cntH (l.take i) x + (if pxHas s.1 s.2 x then 1 else 0) := by
  rw [List.take_add_one, h]
  exact cntH_snoc s x _
theorem cntH_bd : ∀ (l : List Sp) (x : Int), 0 ≤ cntH l x ∧ cntH l x ≤ l.length
  | [], _ => ⟨Int.le_refl _, Int.le_refl _⟩
  | s :: l, x => by
    have := cntH_bd l x
    rw [cntH, List.length_cons]
    split <;> omega
theorem twoP_sz (n : Int) : twoP n = szP n := rfl
theorem best_px {low high n : Int} (hb : IsBest low high n) (h0 : 0 ≤ low) (h1 : low ≤ high) (h2 : high ≤ 4294967295) : pxE low n = 0 := by
  obtain ⟨hn, ⟨hf1, hf2⟩, _⟩ := hb
  unfold pxE
  have hB : pxB low n := ⟨⟨h0, by omega⟩, hn⟩
  rw [if_neg (fun h => h hB), if_neg]
  rw [← twoP_sz]
  exact fun h => h hf1
theorem px_fit {low n : Int} (h : pxE low n = 0) : low % twoP n = 0 := by
  have hB := pxE_0 h
  unfold pxE at h
  rw [if_neg (fun hh => hh hB)] at h
  split at h
  · cases h
  · rename_i h1
    exact Classical.not_not.1 h1
theorem spr_px {high : Int} (h2 : high ≤ 4294967295) : ∀ {l : List Sp} {low : Int}, 0 ≤ low → Spr high low l → ∀ s ∈ l, pxE s.1 s.2 = 0
  | [], _, _, _, s, hs => by cases hs
  | (a, n) :: l, low, h0, ⟨h1, e, hb, hl⟩, s, hs => by
    subst e
    rcases List.mem_cons.1 hs with rfl | hs
    · exact best_px hb h0 h1 h2
    · have := twoP_pos n
      exact spr_px h2 (by omega) hl s hs
theorem spr_has {high : Int} {x : Int} : ∀ {l : List Sp} {low : Int}, Spr high low l → (hasS (l.map spanP) x ↔ low ≤ x ∧ x ≤ high)
  | [], low, h => by
    have h1 : high < low := h
    rw [List.map_nil, hasS_nil]
    exact ⟨fun h => h.elim, by omega⟩
  | (a, n) :: l, low, ⟨h1, e, hb, hl⟩ => by
    subst e
    have h3 := twoP_pos n
    have h4 := hb.2.1.2
    rw [List.map_cons, hasS_cons, spr_has hl]
    unfold spanP
    dsimp only
    omega
theorem spr_cnt {high : Int} {x : Int} (h2 : high ≤ 4294967295) : ∀ {l : List Sp} {low : Int}, 0 ≤ low → Spr high low l → cntH l x = if low ≤ x ∧ x ≤ high then 1 else 0
  | [], low, h0, h => by
    have h1 : high < low := h
    rw [cntH, if_neg (by omega)]
  | (a, n) :: l, low, h0, ⟨h1, e, hb, hl⟩ => by
    subst e
    have h3 := twoP_pos n
    have h4 := hb.2.1.2
    have hp := best_px hb h0 h1 h2
    have ih := spr_cnt (x := x) h2 (low := a + twoP n) (by omega) hl
    rw [cntH, ih]
    have hsz := twoP_sz n
    by_cases hx : a ≤ x ∧ x ≤ a + twoP n - 1
    · have hh : pxHas (a, n).1 (a, n).2 x := by unfold pxHas; dsimp only; rw [← hsz]; exact ⟨hp, by omega, hx.1, hx.2⟩
      rw [if_pos hh, if_neg (by omega), if_pos (by omega)]
      rfl
    · have hh : ¬ pxHas (a, n).1 (a, n).2 x := fun h => by
        unfold pxHas at h
        dsimp only at h
        rw [← hsz] at h
        exact hx ⟨h.2.2.1, h.2.2.2⟩
      rw [if_neg hh]
      by_cases hy : a + twoP n ≤ x ∧ x ≤ high
      · rw [if_pos hy, if_pos (by omega)]
        rfl
      · rw [if_neg hy, if_neg (by omega)]
        rfl
/-- No two that are neighbours make one. -/
theorem spr_two {high : Int} (h2 : high ≤ 4294967295) : ∀ {l : List Sp} {low : Int} {i : Nat} {a b n : Int}, Spr high low l → l[i]? = some (a, n) → l[i + 1]? = some (b, n) → b = a + twoP n ∧ (0 < n → ¬ pxE a (n - 1) = 0)
  | [], _, _, _, _, _, _, h, _ => by simp at h
  | (a, n) :: l, low, 0, a', b, n', ⟨h1, e, hb, hl⟩, hi, hj => by
    subst e
    simp only [List.getElem?_cons_zero, Option.some.injEq, Prod.mk.injEq] at hi
    obtain ⟨rfl, rfl⟩ := hi
    cases l with
    | nil => simp at hj
    | cons t r =>
      obtain ⟨t1, t2⟩ := t
      simp only [List.getElem?_cons_succ, List.getElem?_cons_zero, Option.some.injEq, Prod.mk.injEq] at hj
      obtain ⟨rfl, rfl⟩ := hj
      obtain ⟨h3, e2, hb2, _⟩ := hl
      refine ⟨e2, fun hn hp => ?_⟩
      have hf := px_fit hp
      have h4 := twoP_half (n := t2 - 1) (by have := hb.1; omega)
      rw [show t2 - 1 + 1 = t2 by omega] at h4
      have h5 := hb2.2.1.2
      exact hb.2.2 (t2 - 1) (by omega) (by omega) ⟨hf, by omega⟩
  | (a, n) :: l, low, i + 1, a', b, n', ⟨h1, e, hb, hl⟩, hi, hj => spr_two h2 hl (by simpa using hi) (by simpa using hj)
/- Covers. -/
theorem cov_has {x : Int} : ∀ {M out : List Sp}, CovOf M out → (hasS (out.map spanP) x ↔ hasS M x)
  | [], out, h => by
    rw [show out = [] from h]
    rfl
  | s :: r, out, ⟨u, v, e, h1, h2⟩ => by
    rw [e, List.map_append, hasS_app, spr_has h1, cov_has h2, hasS_cons]
theorem cov_px : ∀ {M out : List Sp}, (∀ s ∈ M, 0 ≤ s.1 ∧ s.2 ≤ 4294967295) → CovOf M out → ∀ s ∈ out, pxE s.1 s.2 = 0
  | [], out, _, h, s, hs => by
    rw [show out = [] from h] at hs
    cases hs
  | t :: r, out, hb, ⟨u, v, e, h1, h2⟩, s, hs => by
    have ht := hb t (List.Mem.head _)
    rw [e] at hs
    rcases List.mem_append.1 hs with hs | hs
    · exact spr_px ht.2 ht.1 h1 s hs
    · exact cov_px (fun x hx => hb x (List.mem_cons_of_mem _ hx)) h2 s hs
/-- Those whose prefixes may be. -/
def OkX (l : List Sp) : Prop := ∀ s ∈ l, pxE s.1 s.2 = 0
theorem okX_bd {l : List Sp} (h : OkX l) {n : Int} (hn : hasS (l.map spanP) n) : 0 ≤ n ∧ n ≤ 4294967295 := by
  obtain ⟨t, ht, hb⟩ := hn
  obtain ⟨s, hs, rfl⟩ := List.mem_map.1 ht
  have h1 := h s hs
  have h2 := px_top h1
  have h3 := pxE_0 h1
  unfold pxB at h3
  unfold spanP at hb
  rw [← twoP_sz] at h2
  dsimp only at hb
  omega
theorem cover_bd {l M : List Sp} (h : OkX l) (hg : Gap M) (hs : ∀ n, hasS M n ↔ hasS (l.map spanP) n) : ∀ s ∈ M, 0 ≤ s.1 ∧ s.2 ≤ 4294967295 := fun s hm => by
  have hle := hg.all s hm
  have h1 := okX_bd h ((hs s.1).1 ⟨s, hm, Int.le_refl _, hle⟩)
  have h2 := okX_bd h ((hs s.2).1 ⟨s, hm, hle, Int.le_refl _⟩)
  omega
theorem cover_px {l out : List Sp} (h : OkX l) (hc : CoverP l out) : OkX out := by
  obtain ⟨M, hg, hs, hcv⟩ := hc
  exact cov_px (cover_bd h hg hs) hcv
theorem cover_has {l out : List Sp} (hc : CoverP l out) (x : Int) : hasS (out.map spanP) x ↔ hasS (l.map spanP) x := by
  obtain ⟨M, hg, hs, hcv⟩ := hc
  rw [cov_has hcv, hs]
theorem cover_self {l out : List Sp} (hc : CoverP l out) : CoverP out out := by
  obtain ⟨M, hg, hs, hcv⟩ := hc
  exact ⟨M, hg, fun n => (cov_has hcv).symm, hcv⟩
theorem okX_has {l : List Sp} (h : OkX l) (x : Int) : (∃ s ∈ l, pxHas s.1 s.2 x) ↔ hasS (l.map spanP) x := by
  constructor
  · rintro ⟨s, hs, hp⟩
    exact ⟨spanP s, List.mem_map.2 ⟨s, hs, rfl⟩, hp.2.2⟩
  · intro hx
    have hb := okX_bd h hx
    obtain ⟨t, ht, hb2⟩ := hx
    obtain ⟨s, hs, rfl⟩ := List.mem_map.1 ht
    exact ⟨s, hs, h s hs, hb, hb2⟩
theorem firstP_0 : ∀ {l : List Sp}, OkX l → firstP l = 0
  | [], _ => rfl
  | s :: l, h => by
    have h1 := h s (List.Mem.head _)
    rw [firstP, if_neg (fun hh => hh h1)]
    exact firstP_0 fun x hx => h x (List.mem_cons_of_mem _ hx)
theorem allE_of {l : List Sp} (h : OkX l) (hl : l.length ≤ 200) : allE l = 0 := by
  unfold allE
  rw [if_neg (by omega)]
  exact firstP_0 h
/- As few as can be. -/
theorem twoP_dvd {n m : Int} (hnm : n ≤ m) (hm : m ≤ 32) : ∃ k, twoP n = twoP m * k := by
  obtain ⟨d, rfl⟩ : ∃ d : Nat, m = n + d := ⟨(m - n).toNat, by omega⟩
  refine ⟨2 ^ d, ?_⟩
  unfold twoP
  rw [← Int.pow_add]
  congr 1
  omega
/-- Of two that have an address together one is inside the other. -/
theorem px_nest {a n b m x : Int} (h1 : pxE a n = 0) (h2 : pxE b m = 0) (hnm : n ≤ m) (hx : a ≤ x ∧ x ≤ a + twoP n - 1) (hy : b ≤ x ∧ x ≤ b + twoP m - 1) : a ≤ b ∧ b + twoP m - 1 ≤ a + twoP n - 1 := by
  have hB := pxE_0 h2
  obtain ⟨k, hk⟩ := twoP_dvd hnm hB.2.2
  obtain ⟨p, hp⟩ := Int.dvd_of_emod_eq_zero (px_fit h1)
  obtain ⟨q, hq⟩ := Int.dvd_of_emod_eq_zero (px_fit h2)
  have ht := twoP_pos m
  generalize hz : twoP m = z at *
  have ea : a = z * (k * p) := by rw [hp, hk, Int.mul_assoc]
  have e1 : a + twoP n = z * (k * p + k) := by rw [Int.mul_add, ← ea, ← hk]
  have i1 : k * p < q + 1 := by
    have : z * (k * p) < z * (q + 1) := by rw [Int.mul_add, Int.mul_one, ← ea, ← hq]; omega
    exact Int.lt_of_mul_lt_mul_left this (by omega)
  have i2 : q < k * p + k := by
    have : z * q < z * (k * p + k) := by rw [← e1, ← hq]; omega
    exact Int.lt_of_mul_lt_mul_left this (by omega)
  have j1 : z * (k * p) ≤ z * q := Int.mul_le_mul_of_nonneg_left (by omega) (by omega)
  have j2 : z * (q + 1) ≤ z * (k * p + k) := Int.mul_le_mul_of_nonneg_left (by omega) (by omega)
  rw [← ea, ← hq] at j1
  rw [← e1, Int.mul_add, ← hq, Int.mul_one] at j2
  omega
/-- Where a prefix is within a range, and begins where one of its parts begins, that one is as great. -/
theorem spr_at {high : Int} (h2 : high ≤ 4294967295) {p k : Int} (hp : pxE p k = 0) (hh : p + twoP k - 1 ≤ high) : ∀ {l : List Sp} {low : Int}, 0 ≤ low → low ≤ p → Spr high low l → ∀ s ∈ l, s.1 ≤ p + twoP k - 1 → p ≤ s.1 + twoP s.2 - 1 → s.2 ≤ k
  | [], _, _, _, _, s, hs, _, _ => by cases hs
  | (a, n) :: l, low, h0, hlp, ⟨h1, e, hb, hl⟩, s, hs, g1, g2 => by
    subst e
    have hpn := best_px hb h0 h1 h2
    have tn := twoP_pos n
    have tk := twoP_pos k
    have hkB := pxE_0 hp
    -- the head holds p, or ends ahead of it
    by_cases hin : p ≤ a + twoP n - 1
    · have hnk : n ≤ k := by
        by_cases hnk : n ≤ k
        · exact hnk
        · exfalso
          have hnest := px_nest hp hpn (by omega) (x := p) ⟨Int.le_refl _, by omega⟩ ⟨hlp, hin⟩
          have ep : p = a := by omega
          subst ep
          exact hb.2.2 k hkB.2.1 (by omega) ⟨px_fit hp, hh⟩
      rcases List.mem_cons.1 hs with rfl | hs
      · exact hnk
      · exfalso
        have hnest := px_nest hpn hp hnk (x := p) ⟨hlp, hin⟩ ⟨Int.le_refl _, by omega⟩
        have hge : ∀ {l : List Sp} {low : Int}, Spr high low l → ∀ s ∈ l, low ≤ s.1 := by
          intro l
          induction l with
          | nil => intro low _ s hs; cases hs
          | cons t r ih =>
            rintro low ⟨_, e, _, hr⟩ s hs
            have tt := twoP_pos t.2
            rcases List.mem_cons.1 hs with e1 | hs'
            · have e : t.1 = low := e
              rw [e1]
              omega
            · have := ih hr s hs'
              omega
        have := hge hl s hs
        omega
    · rcases List.mem_cons.1 hs with rfl | hs
      · dsimp only at g2; omega
      · exact spr_at h2 hp hh (by omega) (by omega) hl s hs g1 g2
/-- What a piece is made of: each part has one of the old ones inside. -/
theorem spr_old {l : List Sp} (hl : OkX l) {high low : Int} (h2 : high ≤ 4294967295) (h0 : 0 ≤ low) (hin : ∀ s ∈ l, hasS [(low, high)] s.1 → low ≤ s.1 ∧ s.1 + twoP s.2 - 1 ≤ high)
    (hmeet : ∀ s ∈ l, s.1 < low → s.1 + twoP s.2 - 1 < low) (hcov : ∀ n, low ≤ n → n ≤ high → hasS (l.map spanP) n) {out : List Sp} (h : Spr high low out) : ∀ s ∈ out, ∃ p ∈ l, s.1 ≤ p.1 ∧ p.1 ≤ s.1 + twoP s.2 - 1 := by
  intro s hs
  have hrg : low ≤ s.1 ∧ s.1 ≤ high := by
    have h3 := (spr_has (x := s.1) h).1 ⟨spanP s, List.mem_map.2 ⟨s, hs, rfl⟩, by unfold spanP; have := twoP_pos s.2; dsimp only; omega⟩
    exact h3
  obtain ⟨t, ht, hb⟩ := hcov s.1 hrg.1 hrg.2
  obtain ⟨p, hp, rfl⟩ := List.mem_map.1 ht
  unfold spanP at hb
  dsimp only at hb
  have hpl : low ≤ p.1 := by
    by_cases h : p.1 < low
    · have := hmeet p hp h; omega
    · omega
  have hph := hin p hp (hasS_one.2 ⟨hpl, by omega⟩)
  have hle := spr_at h2 (hl p hp) hph.2 h0 hpl h s hs hb.2 (by have := twoP_pos s.2; omega)
  have hsp := spr_px h2 h0 h s hs
  have hn := px_nest hsp (hl p hp) hle (x := s.1) ⟨Int.le_refl _, by have := twoP_pos s.2; omega⟩ hb
  exact ⟨p, hp, hn.1, by have := twoP_pos p.2; omega⟩
/-- Parts that stand one behind the other. -/
def Stand : Int → List Sp → Prop
  | _, [] => True
  | low, s :: l => low ≤ s.1 ∧ Stand (s.1 + twoP s.2) l
theorem stand_of {high : Int} : ∀ {l : List Sp} {low : Int}, Spr high low l → Stand low l
  | [], _, _ => trivial
  | (a, n) :: l, low, ⟨_, e, _, hl⟩ => by
    subst e
    exact ⟨Int.le_refl _, stand_of hl⟩
theorem stand_few : ∀ {out : List Sp} {low : Int} {l : List Sp}, Stand low out → (∀ s ∈ out, ∃ p ∈ l, s.1 ≤ p.1 ∧ p.1 ≤ s.1 + twoP s.2 - 1) → out.length ≤ (l.filter fun p => decide (low ≤ p.1)).length
  | [], _, _, _, _ => Nat.zero_le _
  | s :: out, low, l, ⟨h1, h2⟩, h => by
    obtain ⟨p, hp, hb1, hb2⟩ := h s (List.Mem.head _)
    have ih := stand_few (l := l) h2 fun x hx => h x (List.mem_cons_of_mem _ hx)
    have ts := twoP_pos s.2
    have hlt : (l.filter fun p => decide (s.1 + twoP s.2 ≤ p.1)).length < (l.filter fun p => decide (low ≤ p.1)).length := by
      clear ih h
      induction l with
      | nil => cases hp
      | cons q r ihr =>
        have hmono : (r.filter fun p => decide (s.1 + twoP s.2 ≤ p.1)).length ≤ (r.filter fun p => decide (low ≤ p.1)).length := by
          clear ihr hp
          induction r with
          | nil => exact Nat.le_refl _
          | cons y r ihr =>
            rw [List.filter_cons, List.filter_cons]
            by_cases hy1 : s.1 + twoP s.2 ≤ y.1
            · rw [if_pos (decide_eq_true hy1), if_pos (decide_eq_true (by omega)), List.length_cons, List.length_cons]
              omega
            · rw [if_neg (fun hh => hy1 (of_decide_eq_true hh))]
              split
              · rw [List.length_cons]; omega
              · exact ihr
        rw [List.filter_cons, List.filter_cons]
        rcases List.mem_cons.1 hp with rfl | hp
        · rw [if_neg (fun hh => by have := of_decide_eq_true hh; omega), if_pos (decide_eq_true (by omega)), List.length_cons]
          omega
        · have := ihr hp
          by_cases hy1 : s.1 + twoP s.2 ≤ q.1
          · rw [if_pos (decide_eq_true hy1), if_pos (decide_eq_true (by omega)), List.length_cons, List.length_cons]
            omega
          · rw [if_neg (fun hh => hy1 (of_decide_eq_true hh))]
            split
            · rw [List.length_cons]; omega
            · exact this
    rw [List.length_cons]
    omega
theorem stand_app : ∀ {x y : List Sp} {low high : Int}, Spr high low x → low ≤ high + 1 → (Stand (high + 1) y) → Stand low (x ++ y)
  | [], y, low, high, h, hle, hy => by
    have h1 : high < low := h
    obtain rfl : low = high + 1 := by omega
    exact hy
  | (a, n) :: x, y, low, high, ⟨h1, e, hb, hl⟩, hle, hy => by
    subst e
    exact ⟨Int.le_refl _, stand_app hl (by have h5 : a + twoP n - 1 ≤ high := hb.2.1.2; show a + twoP n ≤ high + 1; omega) hy⟩
theorem stand_low {low low' : Int} (h : low ≤ low') : ∀ {l : List Sp}, Stand low' l → Stand low l
  | [], _ => trivial
  | s :: l, hs => ⟨Int.le_trans h hs.1, hs.2⟩
theorem cov_stand : ∀ {M out : List Sp} {low : Int}, Gap M → (∀ s ∈ M, low ≤ s.1) → CovOf M out → Stand low out
  | [], out, _, _, _, h => by
    rw [show out = [] from h]
    trivial
  | s :: r, out, low, hg, hlo, ⟨u, v, e, h1, h2⟩ => by
    rw [e]
    have hle := hg.head
    refine stand_low (hlo s (List.Mem.head _)) (stand_app h1 (by omega) ?_)
    exact cov_stand hg.tail (fun t ht => by have := hg.above t ht; omega) h2
theorem cov_old {l : List Sp} (hl : OkX l) : ∀ {M out : List Sp}, (∀ s ∈ M, 0 ≤ s.1 ∧ s.2 ≤ 4294967295) → (∀ s ∈ M, (∀ p ∈ l, hasS [s] p.1 → s.1 ≤ p.1 ∧ p.1 + twoP p.2 - 1 ≤ s.2) ∧ (∀ p ∈ l, p.1 < s.1 → p.1 + twoP p.2 - 1 < s.1) ∧ ∀ n, s.1 ≤ n → n ≤ s.2 → hasS (l.map spanP) n) → CovOf M out → ∀ s ∈ out, ∃ p ∈ l, s.1 ≤ p.1 ∧ p.1 ≤ s.1 + twoP s.2 - 1
  | [], out, _, _, h, s, hs => by
    rw [show out = [] from h] at hs
    cases hs
  | t :: r, out, hb, hM, ⟨u, v, e, h1, h2⟩, s, hs => by
    have ht := hb t (List.Mem.head _)
    obtain ⟨m1, m2, m3⟩ := hM t (List.Mem.head _)
    rw [e] at hs
    rcases List.mem_append.1 hs with hs | hs
    · exact spr_old hl ht.2 ht.1 m1 m2 m3 h1 s hs
    · exact cov_old hl (fun x hx => hb x (List.mem_cons_of_mem _ hx)) (fun x hx => hM x (List.mem_cons_of_mem _ hx)) h2 s hs
/-- An unbroken row of numbers is within one piece. -/
theorem gap_run {M : List Sp} (hg : Gap M) {a b : Int} (hab : a ≤ b) (h : ∀ n, a ≤ n → n ≤ b → hasS M n) {s : Sp} (hs : s ∈ M) {x : Int} (hx : a ≤ x ∧ x ≤ b) (hsx : s.1 ≤ x ∧ x ≤ s.2) : s.1 ≤ a ∧ b ≤ s.2 := by
  have apart : ∀ {M : List Sp}, Gap M → ∀ s ∈ M, ∀ t ∈ M, s = t ∨ s.2 + 1 < t.1 ∨ t.2 + 1 < s.1 := by
    intro M
    induction M with
    | nil => intro _ s hs; cases hs
    | cons u r ih =>
      intro hg s hs t ht
      rcases List.mem_cons.1 hs with e1 | hs' <;> rcases List.mem_cons.1 ht with e2 | ht'
      · exact .inl (e1.trans e2.symm)
      · exact .inr (.inl (by rw [e1]; exact hg.above t ht'))
      · exact .inr (.inr (by rw [e2]; exact hg.above s hs'))
      · exact ih hg.tail s hs' t ht'
  constructor
  · by_cases hlt : s.1 ≤ a
    · exact hlt
    · exfalso
      obtain ⟨t, ht, hb⟩ := h (s.1 - 1) (by omega) (by omega)
      rcases apart hg s hs t ht with rfl | h1 | h1 <;> omega
  · by_cases hlt : b ≤ s.2
    · exact hlt
    · exfalso
      obtain ⟨t, ht, hb⟩ := h (s.2 + 1) (by omega) (by omega)
      rcases apart hg s hs t ht with rfl | h1 | h1 <;> omega
theorem cover_few {l out : List Sp} (h : OkX l) (hc : CoverP l out) : out.length ≤ l.length := by
  obtain ⟨M, hg, hs, hcv⟩ := hc
  have hbd := cover_bd h hg hs
  have hst := cov_stand (low := 0) hg (fun s hm => (hbd s hm).1) hcv
  have hrun : ∀ p ∈ l, ∀ n, p.1 ≤ n → n ≤ p.1 + twoP p.2 - 1 → hasS M n := fun p hp n h1 h2 => (hs n).2 ⟨spanP p, List.mem_map.2 ⟨p, hp, rfl⟩, h1, h2⟩
  have hold := cov_old h hbd (fun s hm => ⟨fun p hp hh => by
      have tp := twoP_pos p.2
      exact gap_run hg (a := p.1) (b := p.1 + twoP p.2 - 1) (by omega) (hrun p hp) hm (x := p.1) ⟨Int.le_refl _, by omega⟩ (hasS_one.1 hh), fun p hp hlt => by
      have tp := twoP_pos p.2
      by_cases hle : p.1 + twoP p.2 - 1 < s.1
      · exact hle
      · exfalso
        have := gap_run hg (a := p.1) (b := p.1 + twoP p.2 - 1) (by omega) (hrun p hp) hm (x := s.1) ⟨by omega, by omega⟩ ⟨Int.le_refl _, hg.all s hm⟩
        omega, fun n h1 h2 => (hs n).1 ⟨s, hm, h1, h2⟩⟩) hcv
  have := stand_few hst hold
  have h3 := List.length_filter_le (fun p : Sp => decide (0 ≤ p.1)) l
  omega
end Go.Port
