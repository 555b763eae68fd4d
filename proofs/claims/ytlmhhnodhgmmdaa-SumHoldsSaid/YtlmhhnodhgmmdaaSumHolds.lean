/- SumHolds: the walk. -/
import Derived.Test.YtlmhhnodhgmmdaaSumHoldsB
import Derived.Test.YtlmhhnodhgmmdaaSumHoldsC
namespace Go.Proofs.Ytlmhhnodhgmmdaa.sumHolds
open Go.RowKit Go.Port

/-- May the two words change their places? -/
def swapB (len : Nat) (i k : Int) : Bool := decide ((len : Int) % 2 = 0 ∧ 0 ≤ i ∧ 0 ≤ k ∧ wrap64 (wrap64 (2 * i) + 1) < len ∧ wrap64 (wrap64 (2 * k) + 1) < len ∧ i < 4000 ∧ k < 4000)

theorem swapB_bd {len : Nat} {i k : Int} (h : swapB len i k = true) : (len : Int) % 2 = 0 ∧ 0 ≤ i ∧ i < 4000 ∧ 0 ≤ k ∧ k < 4000 ∧ 2 * i + 1 < len ∧ 2 * k + 1 < len := by
  simp only [swapB, decide_eq_true_eq] at h
  obtain ⟨h1, h2, h3, h4, h5, h6, h7⟩ := h
  rw [IntWalk.wrap64_in (2 * i) (by omega), IntWalk.wrap64_in _ (by omega)] at h4
  rw [IntWalk.wrap64_in (2 * k) (by omega), IntWalk.wrap64_in _ (by omega)] at h5
  omega

set_option maxRecDepth 100000 in
set_option maxHeartbeats 2000000 in
theorem walk (a0 : Option Addr) (len cap : Nat) (l : List Int) (at_ tb i k : Int) (w : World) (h : IsRow w .u8 a0 len cap l) (hl : Octets l) (hn : len ≤ 140737488351232)
    (t0 : 0 ≤ tb) (t1 : tb ≤ 255) :
    Calls Try.prog 4 #[.slice a0 len cap, .int .i64 at_, .int .u8 tb, .int .i64 i, .int .i64 k] w fun e w' => e = .returned (.bool true) ∧ Below w.heap.size w w' := by
  have H := Lib.hid h
  have HL := Lib.hid h.len
  clear h
  have e12 : total [1, 2] = 258 := by decide
  have e55 : (total [255, 255] == 65535) = true := by decide
  have E12 := Lib.hid e12
  have E55 := Lib.hid e55
  have o12 : Octets [1, 2] := by intro x hx; simp at hx; omega
  have o55 : Octets [255, 255] := by intro x hx; simp at hx; omega
  have r12 : IsRow (w.alloc (.cells #[.int .u8 1, .int .u8 2] 5)) .u8 (some ⟨w.heap.size, 0, none⟩) 2 2 [1, 2] := isRow_new w .u8 5 [1, 2]
  have r55 : IsRow ((w.alloc (.cells #[.int .u8 1, .int .u8 2] 5)).alloc (.cells #[.int .u8 255, .int .u8 255] 5)) .u8 (some ⟨w.heap.size + 1, 0, none⟩) 2 2 [255, 255] := isRow_new' _ .u8 5 [255, 255] (by simp)
  have R12 := Lib.hid r12
  have R55 := Lib.hid r55
  clear e12 e55 r12 r55
  refine fr_enter 270 Try.func4 rfl Try.ntmps4 (by simp) ?_
  intro f hf
  have s0 := fr_args hf 0 _ (by decide) rfl
  have s1 := fr_args hf 1 _ (by decide) rfl
  have s2 := fr_args hf 2 _ (by decide) rfl
  have s3 := fr_args hf 3 _ (by decide) rfl
  have s4 := fr_args hf 4 _ (by decide) rfl
  clear hf
  go_upto_region 4 with (first | (go_at_call 8; refine (sum_Sum R12.out o12 (by omega)).mono ?_; rintro e w1 ⟨rfl, rfl⟩; dsimp only; rw [E12.out]) | (go_at_call 9; refine (sum_Valid R55.out o55 (by omega)).mono ?_; rintro e w1 ⟨rfl, rfl⟩; dsimp only; rw [E55.out]) | ((with_reducible refine fr_condb (fun h => ?_) (fun h => ?_) (by decide)) <;> (try simp only [decide_eq_true_eq, decide_eq_false_iff_not, Bool.and_eq_true, Bool.or_eq_true, Bool.and_eq_false_iff, Bool.or_eq_false_iff, Bool.not_eq_true', Bool.not_eq_false', reduceCtorEq] at h) <;> (try (exfalso; omega))))
  have hb2 : Below w.heap.size w ((w.alloc (.cells #[.int .u8 1, .int .u8 2] 5)).alloc (.cells #[.int .u8 255, .int .u8 255] 5)) := ((Below.refl _ _).alloc (Nat.le_refl _) _).alloc (by simp) _
  generalize ((w.alloc (.cells #[.int .u8 1, .int .u8 2] 5)).alloc (.cells #[.int .u8 255, .int .u8 255] 5)) = w2 at hb2 ⊢
  refine fr_cut (fun f' w' => w2 = w' ∧ f' 0 = .slice a0 len cap ∧ f' 1 = .int .i64 at_ ∧ f' 2 = .int .u8 tb ∧ f' 3 = .int .i64 i ∧ f' 4 = .int .i64 k ∧ f' 12 = .slice none 0 0) ?_ ?_
  · intro K hK
    go_upto_if 99999 with (first | ((with_reducible refine fr_condb (fun h => ?_) (fun h => ?_) (by decide)) <;> (try simp only [decide_eq_true_eq, decide_eq_false_iff_not, Bool.and_eq_true, Bool.or_eq_true, Bool.and_eq_false_iff, Bool.or_eq_false_iff, Bool.not_eq_true', Bool.not_eq_false', reduceCtorEq] at h) <;> (try (exfalso; omega))) | ((with_reducible refine done ?_); exact ⟨rfl, by go_simp, by go_simp, by go_simp, by go_simp, by go_simp, by go_simp⟩))
  clear s0 s1 s2 s3 s4 R12 R55 E12 E55 o12 o55 f
  rintro f w' ⟨rfl, s0, s1, s2, s3, s4, s12⟩
  have H2 := Lib.hid (H.out.below hb2 (Nat.le_refl _))
  have r0 : ∀ w : World, IsRow (w.alloc (.cells #[.int .u8 0] 5)) .u8 (some ⟨w.heap.size, 0, none⟩) 1 1 [0] := fun w => isRow_new w .u8 5 [0]
  have R0 := Lib.hid r0
  obtain ⟨B, hB⟩ : ∃ B, B = w2.heap.size := ⟨_, rfl⟩
  have z2 : B ≤ w2.heap.size := by omega
  have zB : w.heap.size ≤ B := by have := hb2.size; omega
  have HB := Lib.hid hB
  have Hb2 := Lib.hid hb2
  clear hB r0 hb2
  go_upto_region 8 with (first
    | ((with_reducible refine fr_append 29 30 Try.underlying26 u8info (B := B) Own.nil (R0.out _) (by decide) (by decide) (by simp; omega) (by decide) ?_ ?_ ?_); (go_simp); (go_simp); intro v3 w3 own3 hb3; have z3 : B ≤ w3.heap.size := (by have := hb3.size; simp at this; omega); have Own3 := Lib.hid (own3.below (below_alloc w3 (.cells #[.int .u8 0] 5)) (Nat.le_refl _)); have hb23 := Lib.hid (((Below.refl B w2).alloc z2 _).trans hb3); clear own3 hb3)
    | ((with_reducible refine fr_append 32 33 Try.underlying26 u8info (B := B) Own3.out (R0.out _) (by decide) (by decide) (by simp; omega) (by decide) ?_ ?_ ?_); (go_simp); (go_simp); intro v4 w4 own4 hb4; have z4 : B ≤ w4.heap.size := (by have := hb4.size; simp at this; omega); have Own4 := Lib.hid own4; have hb24 := Lib.hid ((hb23.out.alloc z3 _).trans hb4); clear own4 hb4)
    | ((with_reducible refine fr_append 35 36 Try.underlying26 u8info (B := B) Own4.out (H2.out.below hb24.out (by rw [HB.out]; exact Nat.le_refl _)) (by have := HL.out; simp; omega) (by decide) z4 (by decide) ?_ ?_ ?_); (go_simp); (go_simp); intro v5 w5 own5 hb5; have z5 : B ≤ w5.heap.size := (by have := hb5.size; omega); have Own5 := Lib.hid own5; have hb25 := Lib.hid (hb24.out.trans hb5); clear own5 hb5)
    | ((with_reducible refine fr_condb (fun h => ?_) (fun h => ?_) (by decide)) <;> (try simp only [decide_eq_true_eq, decide_eq_false_iff_not, Bool.and_eq_true, Bool.or_eq_true, Bool.and_eq_false_iff, Bool.or_eq_false_iff, Bool.not_eq_true', Bool.not_eq_false', reduceCtorEq] at h) <;> (try (exfalso; omega))))
  have own5 : Own w5 5 .u8 B v5 (0 :: 0 :: l) := Own5.out
  have o5 : Octets (0 :: 0 :: l) := (hl.cons (by omega) (by omega)).cons (by omega) (by omega)
  obtain ⟨g, cap', hv5, hBg, hg5⟩ : ∃ g cap', v5 = .slice (some ⟨g, 0, none⟩) (len + 2) cap' ∧ B ≤ g ∧ g < w5.heap.size := by
    obtain ⟨g, c, h1, h2, h3⟩ := own5.form (by simp)
    exact ⟨g, c, by rw [h1, HL.out]; rfl, h2, h3⟩
  subst hv5
  have R5 := Lib.hid own5.row
  have c50 := own5.cell (i := 0) (by simp)
  have c51 := own5.cell (i := 1) (by simp)
  have f50 := own5.frozen 0
  have f51 := own5.frozen 1
  have Own5 := Lib.hid own5
  obtain ⟨n, hn5⟩ : ∃ n, n = 65535 - total (0 :: 0 :: l) := ⟨_, rfl⟩
  have n0 : 0 ≤ n := by have := total_bd o5; omega
  have n1 : n ≤ 65535 := by have := total_bd o5; omega
  have HN := Lib.hid hn5.symm
  clear hn5 own5 Own4 hb24 hb23 Own3 R0
  go_upto_region 13 with (first | (go_at_call 8; refine (sum_Sum R5.out o5 (by omega)).mono ?_; rintro e w6 ⟨rfl, rfl⟩; dsimp only; rw [HN.out]) | ((with_reducible refine fr_condb (fun h => ?_) (fun h => ?_) (by decide)) <;> (try simp only [decide_eq_true_eq, decide_eq_false_iff_not, Bool.and_eq_true, Bool.or_eq_true, Bool.and_eq_false_iff, Bool.or_eq_false_iff, Bool.not_eq_true', Bool.not_eq_false', reduceCtorEq] at h) <;> (try (exfalso; omega))))
  have own6 : Own ((w5.setCell ⟨g, 0, none⟩ (.int .u8 (n / 256))).setCell ⟨g, 1, none⟩ (.int .u8 (n % 256))) 5 .u8 B (.slice (some ⟨g, 0, none⟩) (len + 2) cap') (n / 256 :: n % 256 :: l) := (Own5.out.set 0 _).set 1 _
  have hb26 : Below B w2 ((w5.setCell ⟨g, 0, none⟩ (.int .u8 (n / 256))).setCell ⟨g, 1, none⟩ (.int .u8 (n % 256))) := (hb25.out.setCell hBg _).setCell hBg _
  generalize ((w5.setCell ⟨g, 0, none⟩ (.int .u8 (n / 256))).setCell ⟨g, 1, none⟩ (.int .u8 (n % 256))) = w6 at own6 hb26 ⊢
  have o6 : Octets (n / 256 :: n % 256 :: l) := (hl.cons (by omega) (by omega)).cons (by omega) (by omega)
  have V6 : total (n / 256 :: n % 256 :: l) = 65535 := total_valid l hl n HN.out.symm
  have V6b : Hid ((total (n / 256 :: n % 256 :: l) == 65535) = true) := beq_iff_eq.2 V6
  have HV6 := Lib.hid V6
  have R6 := Lib.hid own6.row
  have Own6 := Lib.hid own6
  have Hb26 := Lib.hid hb26
  clear V6 own6 hb26 hb25 c50 c51 f50 f51
  go_upto_region 15 with (first | (go_at_call 9; refine (sum_Valid R6.out o6 (by omega)).mono ?_; rintro e w7 ⟨rfl, rfl⟩; dsimp only; rw [V6b.out]) | ((with_reducible refine fr_condb (fun h => ?_) (fun h => ?_) (by decide)) <;> (try simp only [decide_eq_true_eq, decide_eq_false_iff_not, Bool.and_eq_true, Bool.or_eq_true, Bool.and_eq_false_iff, Bool.or_eq_false_iff, Bool.not_eq_true', Bool.not_eq_false', reduceCtorEq] at h) <;> (try (exfalso; omega))))
  refine fr_cut (fun f' w' => w6 = w' ∧ f' 0 = .slice a0 len cap ∧ f' 1 = .int .i64 at_ ∧ f' 2 = .int .u8 tb ∧ f' 3 = .int .i64 i ∧ f' 4 = .int .i64 k ∧ f' 12 = .slice (some ⟨g, 0, none⟩) (len + 2) cap' ∧ f' 13 = .int .i64 n ∧ f' 94 = .bool (swapB len i k)) ?_ ?_
  · intro K hK
    go_upto_if 99999 with (first | ((with_reducible refine fr_condb (fun h => ?_) (fun h => ?_) (by decide)) <;> (try simp only [decide_eq_true_eq, decide_eq_false_iff_not, Bool.and_eq_true, Bool.or_eq_true, Bool.and_eq_false_iff, Bool.or_eq_false_iff, Bool.not_eq_true', Bool.not_eq_false', reduceCtorEq] at h) <;> (try (exfalso; omega))) | fail)
    all_goals
      refine done ?_
      cases hsw : swapB len i k
    all_goals first
      | (go_simp; done)
      | (simp only [swapB, decide_eq_true_eq, decide_eq_false_iff_not] at hsw; first | omega | (simp; omega) | (exfalso; omega) | trace_state)
  clear s0 s1 s2 s3 s4 s12 o5 R5 Own5 V6b f
  rintro f w' ⟨rfl, s0, s1, s2, s3, s4, s12, s13, s94⟩
  go_upto_if 94 with fail
  refine fr_cut (fun f' w' => Below w6.heap.size w6 w' ∧ f' 0 = .slice a0 len cap ∧ f' 1 = .int .i64 at_ ∧ f' 2 = .int .u8 tb ∧ f' 12 = .slice (some ⟨g, 0, none⟩) (len + 2) cap' ∧ f' 13 = .int .i64 n) ?_ ?_
  · intro K hK
    have HK := Lib.hid hK
    clear hK
    refine fr_cond s94 (by decide) (fun hsw => ?_) (fun hsw => ?_)
    · obtain ⟨q1, q2, q3, q4, q5, q6, q7⟩ := swapB_bd hsw
      obtain ⟨i, rfl⟩ := Int.eq_ofNat_of_zero_le q2
      obtain ⟨k, rfl⟩ := Int.eq_ofNat_of_zero_le q4
      have r6 := H2.out.below Hb26.out (by rw [HB.out]; exact Nat.le_refl _)
      obtain ⟨b, o, rfl, _, _⟩ := H.out.at_ (i := 2 * i) (by omega)
      refine swapped _ K f b o len cap i k l w6 r6 hl hn s0 s3 s4 (by omega) (by omega) (by omega) (by omega) ?_
      intro f' w' hb hf
      exact HK.out f' w' ⟨hb, by rw [hf 0 (by omega) (by omega)]; exact s0, by rw [hf 1 (by omega) (by omega)]; exact s1, by rw [hf 2 (by omega) (by omega)]; exact s2, by rw [hf 12 (by omega) (by omega)]; exact s12, by rw [hf 13 (by omega) (by omega)]; exact s13⟩
    · exact wp_skip (HK.out f w6 ⟨Below.refl _ _, s0, s1, s2, s12, s13⟩)
  clear s0 s1 s2 s3 s4 s12 s13 s94 f
  rintro f w7 ⟨hb7, s0, s1, s2, s12, s13⟩
  have Hb7 := Lib.hid (Hb26.out.trans (hb7.mono (by have := Hb26.out.size; omega)))
  have r7 := H2.out.below Hb7.out (by rw [HB.out]; exact Nat.le_refl _)
  have own7 := Own6.out.below hb7 (Nat.le_refl _)
  go_step
  show restCode.wp _ _ _ _
  by_cases hs : at_ < 0 ∨ len ≤ at_ ∨ ∃ p : Nat, at_ = p ∧ p < len ∧ nth l p = tb
  · exact same _ f a0 len cap at_ tb l w7 r7 s0 s1 s2 hs ⟨rfl, Hb2.out.trans (Hb7.out.mono zB)⟩
  · obtain ⟨p, rfl⟩ := Int.eq_ofNat_of_zero_le (a := at_) (by omega)
    have hp : p < len := by omega
    refine changed _ f B a0 len cap p g cap' tb n l w7 r7 hl hn s0 s1 s2 s12 s13 t0 t1 hp (fun he => hs (.inr (.inr ⟨p, rfl, hp, he⟩))) HN.out.symm HV6.out own7 (by have := Hb7.out.size; omega) ?_
    intro w8 hb8
    exact ⟨rfl, Hb2.out.trans ((Hb7.out.trans hb8).mono zB)⟩
end Go.Proofs.Ytlmhhnodhgmmdaa.sumHolds
