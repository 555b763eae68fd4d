/- Rules as texts: the plain law. No program here. -/
import Derived.Test.YtoelbnhjamddgaaDoorDiffP
import Derived.Test.YtoelbnhjamddgaaDoorAddrU
set_option linter.unusedSimpArgs false
set_option linter.unusedVariables false
namespace Go.Port
open Go.Lib
/-- Words, each behind a space. -/
def tlW (ws : List (List UInt8)) : List UInt8 := (ws.map (fun x => 32 :: x)).flatten
theorem tlW_app (a b : List (List UInt8)) : tlW (a ++ b) = tlW a ++ tlW b := by unfold tlW; rw [List.map_append, List.flatten_append]
theorem tlW_cons (x : List UInt8) (b : List (List UInt8)) : tlW (x :: b) = 32 :: x ++ tlW b := by unfold tlW; rw [List.map_cons, List.flatten_cons]
theorem tlW_nil : tlW [] = [] := rfl
theorem join_tl : ∀ (x : List UInt8) (r : List (List UInt8)), join (x :: r) [32] = x ++ tlW r
  | x, [] => by rw [join_one, tlW_nil, List.append_nil]
  | x, y :: r => by rw [join_step, join_tl y r, tlW_cons]; rfl
/- The words of a rule. -/
def pW (ps : Bool) : List UInt8 := if ps then [112, 97, 115, 115] else [98, 108, 111, 99, 107]
def qW (qk : Bool) : List (List UInt8) := if qk then [[113, 117, 105, 99, 107]] else []
def vW (way : Int) : List (List UInt8) := if way = 1 then [[105, 110]] else if way = 2 then [[111, 117, 116]] else []
def kW (kind : Int) : List (List UInt8) := if kind = 1 then [[107, 105, 110, 100], [115, 116, 114, 101, 97, 109]] else if kind = 2 then [[107, 105, 110, 100], [115, 105, 110, 103, 108, 101]] else if kind = 3 then [[107, 105, 110, 100], [101, 99, 104, 111]] else []
def sW (l : List Sp) : List (List UInt8) := if l = [] then [] else [[112, 111, 114, 116], shL l]
def eW (kp : Bool) : List (List UInt8) := if kp then [[107, 101, 101, 112]] else []
def wordsR (r : Rc) : List (List UInt8) := pW r.ps :: (qW r.qk ++ (vW r.way ++ (kW r.kind ++ ([102, 114, 111, 109] :: pxT r.sa.toNat r.sl.toNat :: (sW r.lf ++ ([116, 111] :: pxT r.da.toNat r.dl.toNat :: (sW r.lt ++ eW r.kp)))))))
/-- A rule's text. -/
def shR (r : Rc) : List UInt8 := join (wordsR r) [32]
/-- A rule that may be. -/
structure RcOk (r : Rc) : Prop where
  way : 0 ≤ r.way ∧ r.way ≤ 2
  kind : 0 ≤ r.kind ∧ r.kind ≤ 3
  src : pxE r.sa r.sl = 0
  dst : pxE r.da r.dl = 0
  lf : OkS r.lf ∧ r.lf.length ≤ 10
  lt : OkS r.lt ∧ r.lt.length ≤ 10
theorem rc_ok {r : Rc} (h : r.err = 0) : RcOk r := by
  unfold Rc.err ruE at h
  split at h
  · cases h
  · rename_i h1
    split at h
    · rename_i h2; exact absurd h h2
    · rename_i h2
      split at h
      · rename_i h3; exact absurd h h3
      · rename_i h3
        split at h
        · cases h
        · rename_i h4
          split at h
          · rename_i h5; exact absurd h h5
          · rename_i h5
            split at h
            · rename_i h6; exact absurd h h6
            · rename_i h6
              exact ⟨by omega, by omega, Classical.not_not.1 h2, Classical.not_not.1 h3, ⟨(spE_0.1 (Classical.not_not.1 h5)).2, by omega⟩, ⟨(spE_0.1 (Classical.not_not.1 h6)).2, by omega⟩⟩
/- No word has a space. -/
theorem shE_sp (s : Sp) : (32 : UInt8) ∉ shE s := by
  unfold shE
  intro h
  rcases List.mem_append.1 h with h | h
  · exact dec_not (.inl (by decide)) h
  · split at h
    · rcases List.mem_cons.1 h with h | h
      · revert h; decide
      · exact dec_not (.inl (by decide)) h
    · cases h
theorem shL_sp (l : List Sp) : (32 : UInt8) ∉ shL l := by
  unfold shL
  split
  · decide
  · cases l with
    | nil => decide
    | cons s r =>
      rw [List.map_cons]
      exact mem_join _ _ (by decide) fun p hp => by
        rw [← List.map_cons] at hp
        obtain ⟨x, _, rfl⟩ := List.mem_map.1 hp
        exact shE_sp x
theorem pxT_sp (a n : Nat) : (32 : UInt8) ∉ pxT a n := by
  unfold pxT
  split
  · decide
  · intro h
    rcases List.mem_append.1 h with h | h
    · rcases List.mem_append.1 h with h | h
      · exact addrT_not (.inl (by decide)) (by decide) h
      · revert h; decide
    · exact dec_not (.inl (by decide)) h
theorem wordsR_sp (r : Rc) : ∀ p ∈ wordsR r, (32 : UInt8) ∉ p := by
  intro p hp
  unfold wordsR at hp
  have opt : ∀ {l : List (List UInt8)}, (∀ q ∈ l, (32 : UInt8) ∉ q) → p ∈ l → (32 : UInt8) ∉ p := fun h hm => h p hm
  rcases List.mem_cons.1 hp with rfl | hp
  · unfold pW; split <;> decide
  rcases List.mem_append.1 hp with hp | hp
  · refine opt (fun q hq => ?_) hp
    unfold qW at hq
    split at hq
    · rw [List.mem_singleton.1 hq]; decide
    · cases hq
  rcases List.mem_append.1 hp with hp | hp
  · refine opt (fun q hq => ?_) hp
    unfold vW at hq
    split at hq
    · rw [List.mem_singleton.1 hq]; decide
    · split at hq
      · rw [List.mem_singleton.1 hq]; decide
      · cases hq
  rcases List.mem_append.1 hp with hp | hp
  · refine opt (fun q hq => ?_) hp
    have two : ∀ {x y : List UInt8}, (32 : UInt8) ∉ x → (32 : UInt8) ∉ y → q ∈ [x, y] → (32 : UInt8) ∉ q := fun {x y} h1 h2 hm => by
      rcases List.mem_cons.1 hm with rfl | hm
      · exact h1
      · rw [List.mem_singleton.1 hm]; exact h2
    unfold kW at hq
    split at hq
    · exact two (by decide) (by decide) hq
    · split at hq
      · exact two (by decide) (by decide) hq
      · split at hq
        · exact two (by decide) (by decide) hq
        · cases hq
  have sp : ∀ l, p ∈ sW l → (32 : UInt8) ∉ p := fun l hm => by
    unfold sW at hm
    split at hm
    · cases hm
    · rcases List.mem_cons.1 hm with rfl | hm
      · decide
      · rw [List.mem_singleton.1 hm]; exact shL_sp l
  rcases List.mem_cons.1 hp with rfl | hp
  · decide
  rcases List.mem_cons.1 hp with rfl | hp
  · exact pxT_sp _ _
  rcases List.mem_append.1 hp with hp | hp
  · exact sp _ hp
  rcases List.mem_cons.1 hp with rfl | hp
  · decide
  rcases List.mem_cons.1 hp with rfl | hp
  · exact pxT_sp _ _
  rcases List.mem_append.1 hp with hp | hp
  · exact sp _ hp
  · unfold eW at hp
    split at hp
    · rw [List.mem_singleton.1 hp]; decide
    · cases hp
theorem shR_cut (r : Rc) : cutT 32 (shR r) = wordsR r := cut_join (wordsR_sp r)
/- The words tell the rule. -/
theorem ne_head {x : List UInt8} {s t : List (List UInt8)} (h : t.head? ≠ some x) : x :: s ≠ t := fun e => h (by rw [← e]; rfl)
theorem q_inj {a b : Bool} {s t : List (List UInt8)} (h1 : s.head? ≠ some [113, 117, 105, 99, 107]) (h2 : t.head? ≠ some [113, 117, 105, 99, 107]) (h : qW a ++ s = qW b ++ t) : a = b ∧ s = t := by
  cases a <;> cases b
  · exact ⟨rfl, h⟩
  · exact absurd h.symm (ne_head h1)
  · exact absurd h (ne_head h2)
  · exact ⟨rfl, List.tail_eq_of_cons_eq h⟩
theorem v_inj {a b : Int} {s t : List (List UInt8)} (ha : 0 ≤ a ∧ a ≤ 2) (hb : 0 ≤ b ∧ b ≤ 2) (h1 : s.head? ≠ some [105, 110] ∧ s.head? ≠ some [111, 117, 116]) (h2 : t.head? ≠ some [105, 110] ∧ t.head? ≠ some [111, 117, 116]) (h : vW a ++ s = vW b ++ t) : a = b ∧ s = t := by
  rcases (by omega : a = 0 ∨ a = 1 ∨ a = 2) with rfl | rfl | rfl <;> rcases (by omega : b = 0 ∨ b = 1 ∨ b = 2) with rfl | rfl | rfl
  · exact ⟨rfl, h⟩
  · exact absurd h.symm (ne_head h1.1)
  · exact absurd h.symm (ne_head h1.2)
  · exact absurd h (ne_head h2.1)
  · exact ⟨rfl, List.tail_eq_of_cons_eq h⟩
  · exact absurd (List.head_eq_of_cons_eq h) (by decide)
  · exact absurd h (ne_head h2.2)
  · exact absurd (List.head_eq_of_cons_eq h) (by decide)
  · exact ⟨rfl, List.tail_eq_of_cons_eq h⟩
theorem k_inj {a b : Int} {s t : List (List UInt8)} (ha : 0 ≤ a ∧ a ≤ 3) (hb : 0 ≤ b ∧ b ≤ 3) (h1 : s.head? ≠ some [107, 105, 110, 100]) (h2 : t.head? ≠ some [107, 105, 110, 100]) (h : kW a ++ s = kW b ++ t) : a = b ∧ s = t := by
  have two : ∀ {x x' y : List UInt8}, y :: x :: s = y :: x' :: t → x = x' ∧ s = t := fun h => ⟨List.head_eq_of_cons_eq (List.tail_eq_of_cons_eq h), List.tail_eq_of_cons_eq (List.tail_eq_of_cons_eq h)⟩
  rcases (by omega : a = 0 ∨ a = 1 ∨ a = 2 ∨ a = 3) with rfl | rfl | rfl | rfl <;> rcases (by omega : b = 0 ∨ b = 1 ∨ b = 2 ∨ b = 3) with rfl | rfl | rfl | rfl
  all_goals first
    | exact ⟨rfl, h⟩
    | exact absurd h.symm (ne_head h1)
    | exact absurd h (ne_head h2)
    | exact ⟨rfl, (two h).2⟩
    | exact absurd (two h).1 (by decide)
theorem s_inj {l m : List Sp} {s t : List (List UInt8)} (h1 : s.head? ≠ some [112, 111, 114, 116]) (h2 : t.head? ≠ some [112, 111, 114, 116]) (hl : OkS l) (hm : OkS m) (h : sW l ++ s = sW m ++ t) : l = m ∧ s = t := by
  unfold sW at h
  by_cases hl0 : l = [] <;> by_cases hm0 : m = []
  · rw [if_pos hl0, if_pos hm0] at h
    exact ⟨hl0.trans hm0.symm, h⟩
  · rw [if_pos hl0, if_neg hm0] at h
    exact absurd h.symm (ne_head h1)
  · rw [if_neg hl0, if_pos hm0] at h
    exact absurd h (ne_head h2)
  · rw [if_neg hl0, if_neg hm0] at h
    have h3 := List.tail_eq_of_cons_eq h
    have h4 : shL l = shL m := List.head_eq_of_cons_eq h3
    have h5 := sh_cut hl0
    rw [h4, sh_cut hm0] at h5
    refine ⟨?_, List.tail_eq_of_cons_eq h3⟩
    have : ∀ {l m : List Sp}, OkS l → OkS m → m.map shE = l.map shE → l = m := by
      intro l
      induction l with
      | nil => intro m _ _ h; cases m with
        | nil => rfl
        | cons _ _ => cases h
      | cons x r ih =>
        intro m hl hm h
        cases m with
        | nil => cases h
        | cons y q =>
          rw [List.map_cons, List.map_cons] at h
          have e1 := List.head_eq_of_cons_eq h
          have e2 := List.tail_eq_of_cons_eq h
          have hx := partR_sh (hl x (List.Mem.head _))
          have hy := partR_sh (hm y (List.Mem.head _))
          rw [e1, hx] at hy
          rw [Option.some.inj hy, ih (fun z hz => hl z (List.mem_cons_of_mem _ hz)) (fun z hz => hm z (List.mem_cons_of_mem _ hz)) e2]
    exact this hl hm h5
theorem e_inj {a b : Bool} (h : eW a = eW b) : a = b := by
  cases a <;> cases b
  · rfl
  · cases h
  · cases h
  · rfl
theorem px_inj {a n b m : Int} (h1 : pxE a n = 0) (h2 : pxE b m = 0) (h : pxT a.toNat n.toNat = pxT b.toNat m.toNat) : a = b ∧ n = m := by
  have B1 := pxE_0 h1
  have B2 := pxE_0 h2
  unfold pxB at B1 B2
  have e1 := pxR_T (a := a.toNat) (n := n.toNat) (by rw [Int.toNat_of_nonneg B1.1.1, Int.toNat_of_nonneg B1.2.1]; exact h1)
  have e2 := pxR_T (a := b.toNat) (n := m.toNat) (by rw [Int.toNat_of_nonneg B2.1.1, Int.toNat_of_nonneg B2.2.1]; exact h2)
  rw [h, e2] at e1
  simp only [Option.some.injEq, Prod.mk.injEq] at e1
  omega
theorem kW_head (k : Int) (t : List (List UInt8)) : (kW k ++ ([102, 114, 111, 109] :: t)).head? = some [107, 105, 110, 100] ∨ (kW k ++ ([102, 114, 111, 109] :: t)).head? = some [102, 114, 111, 109] := by
  unfold kW
  split
  · exact .inl rfl
  · split
    · exact .inl rfl
    · split
      · exact .inl rfl
      · exact .inr rfl
theorem vW_head (v : Int) {s : List (List UInt8)} : (vW v ++ s).head? = some [105, 110] ∨ (vW v ++ s).head? = some [111, 117, 116] ∨ (vW v ++ s).head? = s.head? := by
  unfold vW
  split
  · exact .inl rfl
  · split
    · exact .inr (.inl rfl)
    · exact .inr (.inr rfl)
theorem shR_inj {a b : Rc} (ha : RcOk a) (hb : RcOk b) (h : shR a = shR b) : a = b := by
  have hw : wordsR a = wordsR b := by rw [← shR_cut, ← shR_cut, h]
  obtain ⟨ps, qk, kp, way, kind, sa, sl, da, dl, lf, lt⟩ := a
  obtain ⟨ps', qk', kp', way', kind', sa', sl', da', dl', lf', lt'⟩ := b
  unfold wordsR at hw
  dsimp only at hw
  have e0 := List.head_eq_of_cons_eq hw
  have hw := List.tail_eq_of_cons_eq hw
  have hps : ps = ps' := by
    cases ps <;> cases ps'
    · rfl
    · exact absurd e0 (by decide)
    · exact absurd e0 (by decide)
    · rfl
  have noQ : ∀ (v k : Int) (t : List (List UInt8)), (vW v ++ (kW k ++ ([102, 114, 111, 109] :: t))).head? ≠ some [113, 117, 105, 99, 107] := fun v k t => by
    rcases vW_head v (s := kW k ++ ([102, 114, 111, 109] :: t)) with e | e | e <;> rw [e]
    · decide
    · decide
    · rcases kW_head k t with e | e <;> rw [e] <;> decide
  obtain ⟨hqk, hw⟩ := q_inj (noQ _ _ _) (noQ _ _ _) hw
  have noV : ∀ (k : Int) (t : List (List UInt8)), (kW k ++ ([102, 114, 111, 109] :: t)).head? ≠ some [105, 110] ∧ (kW k ++ ([102, 114, 111, 109] :: t)).head? ≠ some [111, 117, 116] := fun k t => by
    rcases kW_head k t with e | e <;> rw [e] <;> decide
  obtain ⟨hway, hw⟩ := v_inj ha.way hb.way (noV _ _) (noV _ _) hw
  obtain ⟨hkind, hw⟩ := k_inj ha.kind hb.kind (by rw [List.head?_cons]; decide) (by rw [List.head?_cons]; decide) hw
  have hw := List.tail_eq_of_cons_eq hw
  obtain ⟨hsa, hsl⟩ := px_inj ha.src hb.src (List.head_eq_of_cons_eq hw)
  have hw := List.tail_eq_of_cons_eq hw
  obtain ⟨hlf, hw⟩ := s_inj (by rw [List.head?_cons]; decide) (by rw [List.head?_cons]; decide) ha.lf.1 hb.lf.1 hw
  have hw := List.tail_eq_of_cons_eq hw
  obtain ⟨hda, hdl⟩ := px_inj ha.dst hb.dst (List.head_eq_of_cons_eq hw)
  have hw := List.tail_eq_of_cons_eq hw
  have noE : ∀ k : Bool, (eW k).head? ≠ some [112, 111, 114, 116] := fun k => by cases k <;> decide
  obtain ⟨hlt, hw⟩ := s_inj (noE _) (noE _) ha.lt.1 hb.lt.1 hw
  have hkp := e_inj hw
  simp only [Rc.mk.injEq]
  dsimp only at hlf hlt hsa hsl hda hdl hway hkind
  exact ⟨hps, hqk, hkp, hway, hkind, hsa, hsl, hda, hdl, hlf, hlt⟩
theorem shR_text (r : Rc) : shR r = pW r.ps ++ tlW (qW r.qk) ++ tlW (vW r.way) ++ tlW (kW r.kind) ++ [32, 102, 114, 111, 109, 32] ++ pxT r.sa.toNat r.sl.toNat ++ tlW (sW r.lf) ++ [32, 116, 111, 32] ++ pxT r.da.toNat r.dl.toNat ++ tlW (sW r.lt) ++ tlW (eW r.kp) := by
  unfold shR wordsR
  rw [join_tl]
  simp only [tlW_app, tlW_cons, List.append_assoc, List.cons_append, List.nil_append]
end Go.Port
