/- SumAdds: the walk. -/
import Derived.Test.YtlmhhnodhgmmdaaDoorSumAddsF
namespace Go.Proofs.YtlmhhnodhgmmdaaDoor.sumAdds
open Go.RowKit Go.Port

def addV (x y : Int) : Int := if isWord x && isWord y then addW x y else 0
def addE (x y : Int) : Int := if isWord x && isWord y then 0 else 1
def updV (x y z : Int) : Int := if isWord x && isWord y && isWord z then 65535 - addW (addW (65535 - x) (65535 - y)) z else 0
def updE (x y z : Int) : Int := if isWord x && isWord y && isWord z then 0 else 1
def padB (n s : Int) : Bool := decide (0 ≤ n) && decide (n ≤ 1000000) && decide (1 ≤ s) && decide (s ≤ 64)
def padV (n s : Int) : Int := if padB n s then (n + s - 1) / s * s else 0
def padE (n s : Int) : Int := if padB n s then 0 else 1

theorem Add (x y : Int) (w : World) : Calls Tryd.prog 14 #[.int .i64 x, .int .i64 y] w fun e w' => e = .returned (.tuple #[.int .i64 (addV x y), errV (addE x y)]) ∧ w = w' := by
  cases e1 : isWord x <;> cases e2 : isWord y <;> simp only [addV, addE, errV, e1, e2, Bool.and_true, Bool.and_false, Bool.false_and, if_true, if_false, reduceIte, Bool.false_eq_true, Bool.and_self]
  · exact sum_Add_no x y w (.inl e1)
  · exact sum_Add_no x y w (.inl e1)
  · exact sum_Add_no x y w (.inr e2)
  · have := isWord_iff.1 e1; have := isWord_iff.1 e2
    exact sum_Add x y w (by omega) (by omega) (by omega) (by omega)
theorem Update (x y z : Int) (w : World) : Calls Tryd.prog 16 #[.int .i64 x, .int .i64 y, .int .i64 z] w fun e w' => e = .returned (.tuple #[.int .i64 (updV x y z), errV (updE x y z)]) ∧ w = w' := by
  cases e1 : isWord x <;> cases e2 : isWord y <;> cases e3 : isWord z <;> simp only [updV, updE, errV, e1, e2, e3, Bool.and_true, Bool.and_false, Bool.false_and, if_true, if_false, reduceIte, Bool.false_eq_true, Bool.and_self]
  all_goals first
    | exact sum_Update_no x y z w (.inl e1)
    | exact sum_Update_no x y z w (.inr (.inl e2))
    | exact sum_Update_no x y z w (.inr (.inr e3))
    | (have := isWord_iff.1 e1; have := isWord_iff.1 e2; have := isWord_iff.1 e3
       exact sum_Update x y z w (by omega) (by omega) (by omega) (by omega) (by omega) (by omega))
theorem padB_iff {n s : Int} : padB n s = true ↔ 0 ≤ n ∧ n ≤ 1000000 ∧ 1 ≤ s ∧ s ≤ 64 := by simp [padB, and_assoc]
theorem Pad (n s : Int) (w : World) : Calls Tryd.prog 17 #[.int .i64 n, .int .i64 s] w fun e w' => e = .returned (.tuple #[.int .i64 (padV n s), errV (padE n s)]) ∧ w = w' := by
  cases e1 : padB n s <;> simp only [padV, padE, errV, e1, if_true, if_false, reduceIte, Bool.false_eq_true]
  · refine sum_Pad_no n s w ?_
    by_cases h : 0 ≤ n ∧ n ≤ 1000000 ∧ 1 ≤ s ∧ s ≤ 64
    · rw [padB_iff.2 h] at e1; cases e1
    · omega
  · have := padB_iff.1 e1
    exact sum_Pad n s w (by omega) (by omega) (by omega) (by omega)

theorem same_self (k : Int) (w : World) (hg : Laid w) : Calls Tryd.prog 15 #[errV k, .int .i64 k] w fun r w' => r = .returned (.bool true) ∧ Below w.heap.size w w' :=
  (same_Error k k w hg).mono fun _ _ h => by rw [beq_self_eq_true] at h; exact h

set_option maxRecDepth 100000 in
set_option maxHeartbeats 2000000 in
theorem walk (a0 : Option Addr) (len cap : Nat) (l : List Int) (x y z n s : Int) (w : World) (h : IsRow w .u8 a0 len cap l) (hl : Octets l) (hn : len ≤ 140737488351232) (hg : Laid w) :
    Calls Tryd.prog 3 #[.slice a0 len cap, .int .i64 x, .int .i64 y, .int .i64 z, .int .i64 n, .int .i64 s] w fun e w' => e = .returned (.bool true) ∧ Below w.heap.size w w' := by
  have H := Lib.hid h
  obtain ⟨t0, t1⟩ := total_bd hl
  have HG := Lib.hid hg
  clear h hg
  refine fr_enter 134 Tryd.func3 rfl Tryd.ntmps3 (by simp) ?_
  intro f hf
  have s0 := fr_args hf 0 _ (by decide) rfl
  have s1 := fr_args hf 1 _ (by decide) rfl
  have s2 := fr_args hf 2 _ (by decide) rfl
  have s3 := fr_args hf 3 _ (by decide) rfl
  have s4 := fr_args hf 4 _ (by decide) rfl
  have s5 := fr_args hf 5 _ (by decide) rfl
  clear hf
  go_upto_region 8 with (first | (go_at_call 9; refine (sum_Sum H.out hl (by omega)).mono ?_; rintro e w1 ⟨rfl, rfl⟩) | (go_at_call 11; refine (sum_Valid H.out hl (by omega)).mono ?_; rintro e w1 ⟨rfl, rfl⟩) | (go_at_call 10; refine (ref_Total H.out hl (by omega)).mono ?_; rintro e w1 ⟨rfl, rfl⟩) | (go_at_call 12; refine (ref_Word _ _).mono ?_; rintro e w1 ⟨rfl, rfl⟩) | ((with_reducible refine fr_condb (fun h => ?_) (fun h => ?_) (by decide)) <;> (try simp only [decide_eq_true_eq, decide_eq_false_iff_not, Bool.and_eq_true, Bool.or_eq_true, Bool.and_eq_false_iff, Bool.or_eq_false_iff, Bool.not_eq_true', Bool.not_eq_false', reduceCtorEq] at h) <;> (try (exfalso; omega))))
  refine fr_cut (fun f' w' => w = w' ∧ f' 1 = .int .i64 x ∧ f' 2 = .int .i64 y ∧ f' 3 = .int .i64 z ∧ f' 4 = .int .i64 n ∧ f' 5 = .int .i64 s ∧ f' 13 = .bool (isWord x) ∧ f' 14 = .bool (isWord y) ∧ f' 15 = .bool (isWord z) ∧ f' 16 = .int .i64 1 ∧ f' 17 = .int .i64 0 ∧ f' 46 = .bool (isWord x && isWord y)) ?_ ?_
  · intro K hK
    cases e1 : isWord x
    all_goals
      go_upto_if 99999 with (first | ((with_reducible refine fr_condb (fun h => ?_) (fun h => ?_) (by decide)) <;> (try simp only [decide_eq_true_eq, decide_eq_false_iff_not, Bool.and_eq_true, Bool.or_eq_true, Bool.and_eq_false_iff, Bool.or_eq_false_iff, Bool.not_eq_true', Bool.not_eq_false', reduceCtorEq] at h) <;> (try (exfalso; omega))) | ((with_reducible refine done ?_); exact ⟨rfl, by go_simp, by go_simp, by go_simp, by go_simp, by go_simp, by go_simp, by go_simp, by go_simp, by go_simp, by go_simp, by go_simp⟩))
  clear s0 s1 s2 s3 s4 s5 f
  rintro f w' ⟨rfl, s1, s2, s3, s4, s5, s13, s14, s15, s16, s17, s46⟩
  go_upto_if 46 with fail
  refine fr_cut (fun f' w' => w = w' ∧ f' 1 = .int .i64 x ∧ f' 2 = .int .i64 y ∧ f' 3 = .int .i64 z ∧ f' 4 = .int .i64 n ∧ f' 5 = .int .i64 s ∧ f' 13 = .bool (isWord x) ∧ f' 14 = .bool (isWord y) ∧ f' 15 = .bool (isWord z) ∧ f' 16 = .int .i64 (addE x y) ∧ f' 17 = .int .i64 (addV x y)) ?_ ?_
  · intro K hK
    refine fr_cond s46 (by decide) (fun hb => ?_) (fun hb => ?_)
    · have hE := Lib.hid (show addE x y = 0 by rw [addE, hb]; rfl)
      have hV := Lib.hid (show addV x y = addW x y by rw [addV, hb]; rfl)
      rw [Bool.and_eq_true] at hb
      have q1 := isWord_iff.1 hb.1
      have q2 := isWord_iff.1 hb.2
      clear hb s46
      go_upto_if 99999 with (first | ((with_reducible refine fr_condb (fun h => ?_) (fun h => ?_) (by decide)) <;> (try simp only [decide_eq_true_eq, decide_eq_false_iff_not, Bool.and_eq_true, Bool.or_eq_true, Bool.and_eq_false_iff, Bool.or_eq_false_iff, Bool.not_eq_true', Bool.not_eq_false', reduceCtorEq] at h) <;> (try (exfalso; omega))) | (go_at_call 13; refine (ref_Add _ _ _ (by omega) (by omega) (by omega) (by omega)).mono ?_; rintro e w1 ⟨rfl, rfl⟩) | ((with_reducible refine done ?_); exact ⟨rfl, by go_simp, by go_simp, by go_simp, by go_simp, by go_simp, by go_simp, by go_simp, by go_simp, by rw [hE.out]; go_simp, by rw [hV.out]; go_simp⟩))
    · have hE := Lib.hid (show addE x y = 1 by rw [addE, hb]; rfl)
      have hV := Lib.hid (show addV x y = 0 by rw [addV, hb]; rfl)
      clear hb s46
      refine wp_skip (hK f w ⟨rfl, s1, s2, s3, s4, s5, s13, s14, s15, by rw [hE.out]; exact s16, by rw [hV.out]; exact s17⟩)
  clear s1 s2 s3 s4 s5 s13 s14 s15 s16 s17 s46 f
  rintro f w' ⟨rfl, s1, s2, s3, s4, s5, s13, s14, s15, s16, s17⟩
  go_upto_region 17 with (first | (go_at_call 14; refine (Add _ _ _).mono ?_; rintro e w1 ⟨rfl, rfl⟩) | (go_at_call 15; refine (same_self _ _ HG.out).mono ?_; rintro e w1 ⟨rfl, hb1⟩) | ((with_reducible refine fr_condb (fun h => ?_) (fun h => ?_) (by decide)) <;> (try simp only [decide_eq_true_eq, decide_eq_false_iff_not, Bool.and_eq_true, Bool.or_eq_true, Bool.and_eq_false_iff, Bool.or_eq_false_iff, Bool.not_eq_true', Bool.not_eq_false', reduceCtorEq] at h) <;> (try (exfalso; omega))))
  have HG1 := Lib.hid (HG.out.below hb1)
  have HB1 := Lib.hid hb1
  clear hb1
  refine fr_cut (fun f' w' => w1 = w' ∧ f' 1 = .int .i64 x ∧ f' 2 = .int .i64 y ∧ f' 3 = .int .i64 z ∧ f' 4 = .int .i64 n ∧ f' 5 = .int .i64 s ∧ f' 16 = .int .i64 1 ∧ f' 17 = .int .i64 0 ∧ f' 72 = .bool (isWord x && isWord y && isWord z)) ?_ ?_
  · intro K hK
    cases e1 : isWord x <;> cases e2 : isWord y
    all_goals
      go_upto_if 99999 with (first | ((with_reducible refine fr_condb (fun h => ?_) (fun h => ?_) (by decide)) <;> (try simp only [decide_eq_true_eq, decide_eq_false_iff_not, Bool.and_eq_true, Bool.or_eq_true, Bool.and_eq_false_iff, Bool.or_eq_false_iff, Bool.not_eq_true', Bool.not_eq_false', reduceCtorEq] at h) <;> (try (exfalso; omega))) | ((with_reducible refine done ?_); exact ⟨rfl, by go_simp, by go_simp, by go_simp, by go_simp, by go_simp, by go_simp, by go_simp, by go_simp⟩))
  clear s1 s2 s3 s4 s5 s13 s14 s15 s16 s17 f
  rintro f w' ⟨rfl, s1, s2, s3, s4, s5, s16, s17, s72⟩
  go_upto_if 72 with fail
  refine fr_cut (fun f' w' => w1 = w' ∧ f' 1 = .int .i64 x ∧ f' 2 = .int .i64 y ∧ f' 3 = .int .i64 z ∧ f' 4 = .int .i64 n ∧ f' 5 = .int .i64 s ∧ f' 16 = .int .i64 (updE x y z) ∧ f' 17 = .int .i64 (updV x y z)) ?_ ?_
  · intro K hK
    refine fr_cond s72 (by decide) (fun hb => ?_) (fun hb => ?_)
    · have hE := Lib.hid (show updE x y z = 0 by rw [updE, hb]; rfl)
      have hV := Lib.hid (show updV x y z = 65535 - addW (addW (65535 - x) (65535 - y)) z by rw [updV, hb]; rfl)
      rw [Bool.and_eq_true, Bool.and_eq_true] at hb
      have q1 := isWord_iff.1 hb.1.1
      have q2 := isWord_iff.1 hb.1.2
      have q3 := isWord_iff.1 hb.2
      obtain ⟨g0, g1⟩ := addW_bd (a := 65535 - x) (b := 65535 - y) (by omega) (by omega) (by omega) (by omega)
      obtain ⟨g2, g3⟩ := addW_bd (a := addW (65535 - x) (65535 - y)) (b := z) (by omega) (by omega) (by omega) (by omega)
      clear hb s72
      go_upto_if 99999 with (first | ((with_reducible refine fr_condb (fun h => ?_) (fun h => ?_) (by decide)) <;> (try simp only [decide_eq_true_eq, decide_eq_false_iff_not, Bool.and_eq_true, Bool.or_eq_true, Bool.and_eq_false_iff, Bool.or_eq_false_iff, Bool.not_eq_true', Bool.not_eq_false', reduceCtorEq] at h) <;> (try (exfalso; omega))) | (go_at_call 13; refine (ref_Add _ _ _ (by omega) (by omega) (by omega) (by omega)).mono ?_; rintro e w1 ⟨rfl, rfl⟩) | ((with_reducible refine done ?_); exact ⟨rfl, by go_simp, by go_simp, by go_simp, by go_simp, by go_simp, by rw [hE.out]; go_simp, by rw [hV.out]; go_simp⟩))
    · have hE := Lib.hid (show updE x y z = 1 by rw [updE, hb]; rfl)
      have hV := Lib.hid (show updV x y z = 0 by rw [updV, hb]; rfl)
      clear hb s72
      refine wp_skip (hK f w1 ⟨rfl, s1, s2, s3, s4, s5, by rw [hE.out]; exact s16, by rw [hV.out]; exact s17⟩)
  clear s1 s2 s3 s4 s5 s16 s17 s72 f
  rintro f w' ⟨rfl, s1, s2, s3, s4, s5, s16, s17⟩
  go_upto_region 26 with (first | (go_at_call 16; refine (Update _ _ _ _).mono ?_; rintro e w2 ⟨rfl, rfl⟩) | (go_at_call 15; refine (same_self _ _ HG1.out).mono ?_; rintro e w2 ⟨rfl, hb2⟩) | ((with_reducible refine fr_condb (fun h => ?_) (fun h => ?_) (by decide)) <;> (try simp only [decide_eq_true_eq, decide_eq_false_iff_not, Bool.and_eq_true, Bool.or_eq_true, Bool.and_eq_false_iff, Bool.or_eq_false_iff, Bool.not_eq_true', Bool.not_eq_false', reduceCtorEq] at h) <;> (try (exfalso; omega))))
  have HG2 := Lib.hid (HG1.out.below hb2)
  have HB2 := Lib.hid (HB1.out.trans (hb2.mono HB1.out.size))
  clear hb2
  refine fr_cut (fun f' w' => w2 = w' ∧ f' 4 = .int .i64 n ∧ f' 5 = .int .i64 s ∧ f' 16 = .int .i64 1 ∧ f' 17 = .int .i64 0 ∧ f' 111 = .bool (padB n s)) ?_ ?_
  · intro K hK
    have hP := Lib.hid (show padB n s = (decide (0 ≤ n) && decide (n ≤ 1000000) && decide (1 ≤ s) && decide (s ≤ 64)) from rfl)
    by_cases c1 : 0 ≤ n
    · by_cases c2 : n ≤ 1000000
      · by_cases c3 : 1 ≤ s
        · by_cases c4 : s ≤ 64
          · go_upto_if 99999 with (first | ((with_reducible refine fr_condb (fun h => ?_) (fun h => ?_) (by decide)) <;> (try simp only [decide_eq_true_eq, decide_eq_false_iff_not, Bool.and_eq_true, Bool.or_eq_true, Bool.and_eq_false_iff, Bool.or_eq_false_iff, Bool.not_eq_true', Bool.not_eq_false', reduceCtorEq] at h) <;> (try (exfalso; omega))) | ((with_reducible refine done ?_); exact ⟨rfl, by go_simp, by go_simp, by go_simp, by go_simp, by rw [hP.out]; go_simp⟩))
          · go_upto_if 99999 with (first | ((with_reducible refine fr_condb (fun h => ?_) (fun h => ?_) (by decide)) <;> (try simp only [decide_eq_true_eq, decide_eq_false_iff_not, Bool.and_eq_true, Bool.or_eq_true, Bool.and_eq_false_iff, Bool.or_eq_false_iff, Bool.not_eq_true', Bool.not_eq_false', reduceCtorEq] at h) <;> (try (exfalso; omega))) | ((with_reducible refine done ?_); exact ⟨rfl, by go_simp, by go_simp, by go_simp, by go_simp, by rw [hP.out]; go_simp⟩))
        · go_upto_if 99999 with (first | ((with_reducible refine fr_condb (fun h => ?_) (fun h => ?_) (by decide)) <;> (try simp only [decide_eq_true_eq, decide_eq_false_iff_not, Bool.and_eq_true, Bool.or_eq_true, Bool.and_eq_false_iff, Bool.or_eq_false_iff, Bool.not_eq_true', Bool.not_eq_false', reduceCtorEq] at h) <;> (try (exfalso; omega))) | ((with_reducible refine done ?_); exact ⟨rfl, by go_simp, by go_simp, by go_simp, by go_simp, by rw [hP.out]; go_simp⟩))
      · go_upto_if 99999 with (first | ((with_reducible refine fr_condb (fun h => ?_) (fun h => ?_) (by decide)) <;> (try simp only [decide_eq_true_eq, decide_eq_false_iff_not, Bool.and_eq_true, Bool.or_eq_true, Bool.and_eq_false_iff, Bool.or_eq_false_iff, Bool.not_eq_true', Bool.not_eq_false', reduceCtorEq] at h) <;> (try (exfalso; omega))) | ((with_reducible refine done ?_); exact ⟨rfl, by go_simp, by go_simp, by go_simp, by go_simp, by rw [hP.out]; go_simp⟩))
    · go_upto_if 99999 with (first | ((with_reducible refine fr_condb (fun h => ?_) (fun h => ?_) (by decide)) <;> (try simp only [decide_eq_true_eq, decide_eq_false_iff_not, Bool.and_eq_true, Bool.or_eq_true, Bool.and_eq_false_iff, Bool.or_eq_false_iff, Bool.not_eq_true', Bool.not_eq_false', reduceCtorEq] at h) <;> (try (exfalso; omega))) | ((with_reducible refine done ?_); exact ⟨rfl, by go_simp, by go_simp, by go_simp, by go_simp, by rw [hP.out]; go_simp⟩))
  clear s1 s2 s3 s4 s5 s16 s17 f
  rintro f w' ⟨rfl, s4, s5, s16, s17, s111⟩
  go_upto_if 111 with fail
  refine fr_cut (fun f' w' => w2 = w' ∧ f' 4 = .int .i64 n ∧ f' 5 = .int .i64 s ∧ f' 16 = .int .i64 (padE n s) ∧ f' 17 = .int .i64 (padV n s)) ?_ ?_
  · intro K hK
    have HK := Lib.hid hK
    clear hK
    refine fr_cond s111 (by decide) (fun hb => ?_) (fun hb => ?_)
    · have hE := Lib.hid (show padE n s = 0 by rw [padE, hb]; rfl)
      have hV := Lib.hid (show padV n s = (n + s - 1) / s * s by rw [padV, hb]; rfl)
      obtain ⟨q1, q2, q3, q4⟩ := padB_iff.1 hb
      clear hb s111
      obtain ⟨m1, m2⟩ := pad_mod n s q3
      obtain ⟨m3, m4⟩ := pad_bd q1 q2 q3 q4
      have hF := fun p (h1 : n ≤ p) (h2 : p ≤ (n + s - 1) / s * s) (h3 : p % s = 0) => pad_first q3 h1 h2 h3
      have hN := fun p (h2 : p ≤ (n + s - 1) / s * s) (h3 : ¬ p % s = 0) => pad_not q3 h2 h3
      have HF := Lib.hid hF
      have HN := Lib.hid hN
      obtain ⟨M, hM⟩ : ∃ M, M = (n + s - 1) / s * s := ⟨_, rfl⟩
      rw [← hM] at m1 m2 m3 m4 hV HF HN
      clear hM hF hN
      go_upto_if 99999 with (first | ((with_reducible refine fr_condb (fun h => ?_) (fun h => ?_) (by decide)) <;> (try simp only [decide_eq_true_eq, decide_eq_false_iff_not, Bool.and_eq_true, Bool.or_eq_true, Bool.and_eq_false_iff, Bool.or_eq_false_iff, Bool.not_eq_true', Bool.not_eq_false', reduceCtorEq] at h) <;> (try (exfalso; omega))) | fail)
      refine fr_loop (fun m f' w' => w2 = w' ∧ f' 4 = .int .i64 n ∧ f' 5 = .int .i64 s ∧ f' 16 = .int .i64 0 ∧ ∃ p : Int, f' 17 = .int .i64 p ∧ n ≤ p ∧ p ≤ M ∧ (m : Int) = M - p) (M - n).toNat ⟨rfl, by go_simp, by go_simp, by go_simp, n, by go_simp, by omega, m1, by omega⟩ ?_
      clear s4 s5 s16 s17 f
      rintro m f w' ⟨rfl, s4, s5, s16, p, s17, p1, p2, p3⟩ K' hK'
      have e := Int.tmod_eq_emod_of_nonneg (a := p) (b := s) (by omega)
      by_cases hm : p % s = 0
      · have hp := HF.out p p1 p2 hm
        have hm' : ((p % s) != 0) = false := by simp [hm]
        have HP := Lib.hid hp
        clear hm hp hK'
        go_upto_if 99999 with (first | ((with_reducible refine fr_condb (fun h => ?_) (fun h => ?_) (by decide)) <;> (try simp only [decide_eq_true_eq, decide_eq_false_iff_not, Bool.and_eq_true, Bool.or_eq_true, Bool.and_eq_false_iff, Bool.or_eq_false_iff, Bool.not_eq_true', Bool.not_eq_false', reduceCtorEq] at h) <;> (try (exfalso; omega))) | (exact HK.out _ _ (done ⟨rfl, by go_simp, by go_simp, by rw [hE.out]; go_simp, by rw [hV.out, ← HP.out]; go_simp⟩)))
      · have hp := HN.out p p2 hm
        have hm' : ((p % s) != 0) = true := by simp [hm]
        clear hm
        have HI := Lib.hid (show ∃ m' : Nat, m' < m ∧ n ≤ p + 1 ∧ p + 1 ≤ M ∧ (m' : Int) = M - (p + 1) from ⟨m - 1, by omega, by omega, hp, by omega⟩)
        go_upto_if 99999 with (first | ((with_reducible refine fr_condb (fun h => ?_) (fun h => ?_) (by decide)) <;> (try simp only [decide_eq_true_eq, decide_eq_false_iff_not, Bool.and_eq_true, Bool.or_eq_true, Bool.and_eq_false_iff, Bool.or_eq_false_iff, Bool.not_eq_true', Bool.not_eq_false', reduceCtorEq] at h) <;> (try (exfalso; omega))) | ((with_reducible refine done ?_); obtain ⟨m', i1, i2, i3, i4⟩ := HI.out; exact ⟨m', i1, rfl, by go_simp, by go_simp, by go_simp, p + 1, by go_simp, i2, i3, i4⟩))
    · have hE := Lib.hid (show padE n s = 1 by rw [padE, hb]; rfl)
      have hV := Lib.hid (show padV n s = 0 by rw [padV, hb]; rfl)
      clear hb s111
      refine wp_skip (HK.out f w2 ⟨rfl, s4, s5, by rw [hE.out]; exact s16, by rw [hV.out]; exact s17⟩)
  clear s4 s5 s16 s17 s111 f
  rintro f w' ⟨rfl, s4, s5, s16, s17⟩
  go_upto_if 99999 with (first | ((with_reducible refine fr_condb (fun h => ?_) (fun h => ?_) (by decide)) <;> (try simp only [decide_eq_true_eq, decide_eq_false_iff_not, Bool.and_eq_true, Bool.or_eq_true, Bool.and_eq_false_iff, Bool.or_eq_false_iff, Bool.not_eq_true', Bool.not_eq_false', reduceCtorEq] at h) <;> (try (exfalso; omega))) | (go_at_call 17; refine (Pad _ _ _).mono ?_; rintro e w3 ⟨rfl, rfl⟩) | (go_at_call 15; refine (same_self _ _ HG2.out).mono ?_; rintro e w3 ⟨rfl, hb3⟩; have HB3 := Lib.hid (HB2.out.trans (hb3.mono HB2.out.size)); clear hb3) | ((with_reducible refine fr_ret1 12 ?_ ?_ ?_); decide; rfl; exact ⟨by go_simp, HB3.out⟩))
end Go.Proofs.YtlmhhnodhgmmdaaDoor.sumAdds
