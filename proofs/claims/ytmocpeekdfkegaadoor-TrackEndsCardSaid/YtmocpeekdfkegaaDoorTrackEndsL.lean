/- TrackEnds: the plain law. -/
import Derived.Test.YtmocpeekdfkegaaDoorTrackG
set_option linter.unusedSimpArgs false
set_option linter.unusedVariables false
namespace Go.Port
theorem seg1_ok {f t q a x y s d : Int} {n : Nat} (hf : 0 ≤ f ∧ f ≤ 65535) (ht : 0 ≤ t ∧ t ≤ 65535) (hs : 0 ≤ s ∧ s ≤ 4294967295) (hd : 0 ≤ d ∧ d ≤ 4294967295) (hq : 0 ≤ q ∧ q ≤ 4294967295) (ha : 0 ≤ a ∧ a ≤ 4294967295) (hx : 0 ≤ x ∧ x ≤ 65535) (hy : 0 ≤ y ∧ y ≤ 15) (hn : n ≤ 10) : Go.Proofs.YtmocpeekdfkegaaDoor.segE 1 f t q a x y s d n = 0 := by
  unfold Go.Proofs.YtmocpeekdfkegaaDoor.segE
  rw [if_neg (by unfold Go.Proofs.YtmocpeekdfkegaaDoor.segP1; omega), if_neg (by unfold Go.Proofs.YtmocpeekdfkegaaDoor.segP2; omega), if_neg (by unfold Go.Proofs.YtmocpeekdfkegaaDoor.segP3; omega), if_neg (by have := Go.Proofs.YtmocpeekdfkegaaDoor.sgSize_bd 1; omega)]
end Go.Port
namespace Go.Proofs.YtmocpeekdfkegaaDoor.trackEnds
open Go.RowKit Go.Port
theorem begin_cases (k s f d t sf sto q a wn y : Int) (n : Nat) (rule now : Int) : (∃ K, K ≠ 0 ∧ beginR k s f d t sf sto q a wn y n rule now = (K, .zero)) ∨
    ((0 ≤ now ∧ now ≤ 1000000) ∧ segE k sf sto q a wn y s d n = 0 ∧ beginR k s f d t sf sto q a wn y n rule now = (0, newFl k s f d t q wn y n rule now)) := by
  unfold beginR
  split
  · exact .inl ⟨1, by decide, rfl⟩
  split
  · exact .inl ⟨_, by assumption, rfl⟩
  split
  · exact .inl ⟨3, by decide, rfl⟩
  split
  · exact .inl ⟨6, by decide, rfl⟩
  · exact .inr ⟨by omega, by rename_i h _ _; exact Classical.not_not.1 h, rfl⟩
section
variable {f t x y now : Int}
theorem near_self (a : Int) : nearI a a (max 1 100) = 1 := by
  unfold nearI
  exact if_pos ⟨by omega, by omega, .inl (by omega)⟩
theorem end_is (q y : Int) (n : Nat) (s e : Int) (hs : s = if hasI y 2 then 1 else 0) (he : e = if hasI y 1 then 1 else 0) : endI q y n = (q + n + s + e) % 4294967296 := by rw [hs, he]; rfl
theorem err_ok {st un sp h0 h1 w0 w1 : Int} {d0 d1 : Bool} (hf : 0 ≤ f ∧ f ≤ 65535) (ht : 0 ≤ t ∧ t ≤ 65535) (h : (1 ≤ st ∧ st ≤ 4) ∧ (0 ≤ un ∧ un ≤ 2000000) ∧ (1 ≤ sp ∧ sp ≤ 1000000) ∧ (0 ≤ h0 ∧ h0 ≤ 4294967295) ∧ (0 ≤ h1 ∧ h1 ≤ 4294967295) ∧ (0 ≤ w0 ∧ w0 ≤ 65535) ∧ 0 ≤ w1 ∧ w1 ≤ 65535) : Fl.err ⟨1, 1, f, 2, t, st, un, sp, h0, h1, w0, w1, d0, d1, 0⟩ = 0 :=
  fl_ok (by unfold keyOk; omega) (by omega) ⟨.inl rfl, .inl (by decide)⟩
theorem begin_is (hx : 0 ≤ x ∧ x ≤ 4294967295) : newFl 1 1 f 2 t x 100 2 0 0 now = ⟨1, 1, f, 2, t, 1, now + 30, 1, (x + 1) % 4294967296, 0, 100, 0, false, false, 0⟩ := by
  have e : endI x 2 0 = (x + 1) % 4294967296 := by rw [end_is x 2 0 1 0 (by decide) (by decide)]; simp
  unfold newFl
  rw [e]
  rfl
theorem step1 (hf : 0 ≤ f ∧ f ≤ 65535) (ht : 0 ≤ t ∧ t ≤ 65535) (hx : 0 ≤ x ∧ x ≤ 4294967295) (hn : 0 ≤ now ∧ now ≤ 900000) : stepR ⟨1, 1, f, 2, t, 1, now + 30, 1, (x + 1) % 4294967296, 0, 100, 0, false, false, 0⟩ f t x 0 100 2 0 0 (now + 1) = (0, ⟨1, 1, f, 2, t, 1, now + 1 + 30, 2, (x + 1) % 4294967296, 0, 100, 0, false, false, 0⟩) := by
  have e : endI x 2 0 = (x + 1) % 4294967296 := by rw [end_is x 2 0 1 0 (by decide) (by decide)]; simp
  rw [stepR_7 (z := ⟨1, 1, f, 2, t, 1, now + 30, 1, (x + 1) % 4294967296, 0, 100, 0, false, false, 0⟩) (.inl rfl) (err_ok hf ht (by omega)) (by omega) (seg1_ok (s := 1) (d := 2) hf ht (by decide) (by decide) hx (by omega) (by omega) (by omega) (by omega)) (by simp [saidB]) (by dsimp only; omega) (by
    unfold goOn
    rw [if_pos rfl, if_pos rfl]
    dsimp only [streamS0]
    rw [if_neg (by decide), if_pos rfl, if_neg (by rw [e]; simp)])]
  rfl
theorem step2 (hf : 0 ≤ f ∧ f ≤ 65535) (ht : 0 ≤ t ∧ t ≤ 65535) (hx : 0 ≤ x ∧ x ≤ 4294967295) (hy : 0 ≤ y ∧ y ≤ 4294967295) (hn : 0 ≤ now ∧ now ≤ 900000) : stepR ⟨1, 1, f, 2, t, 1, now + 1 + 30, 2, (x + 1) % 4294967296, 0, 100, 0, false, false, 0⟩ t f y ((x + 1) % 4294967296) 100 10 0 1 (now + 2) = (0, ⟨1, 1, f, 2, t, 2, now + 2 + 300, 3, (x + 1) % 4294967296, (y + 1) % 4294967296, 100, 100, false, false, 0⟩) := by
  have e : endI y 10 0 = (y + 1) % 4294967296 := by rw [end_is y 10 0 1 0 (by decide) (by decide)]; simp
  rw [stepR_7 (z := ⟨1, 1, f, 2, t, 2, now + 1 + 30, 2, (x + 1) % 4294967296, (y + 1) % 4294967296, 100, 100, false, false, 0⟩) (.inr rfl) (err_ok hf ht (by omega)) (by omega) (seg1_ok (s := 2) (d := 1) ht hf (by decide) (by decide) hy (by omega) (by omega) (by omega) (by omega)) (by simp [saidB, K5.turn]) (by dsimp only; omega) (by
    unfold goOn
    rw [if_pos rfl, if_neg (by decide)]
    dsimp only [streamS1]
    rw [if_neg (by decide), if_pos rfl, if_neg (by simp), e])]
  rfl
/-- The numbers of the talk. -/
theorem step3 {p q : Int} (hf : 0 ≤ f ∧ f ≤ 65535) (ht : 0 ≤ t ∧ t ≤ 65535) (hp : 0 ≤ p ∧ p ≤ 4294967295) (hq : 0 ≤ q ∧ q ≤ 4294967295) (hn : 0 ≤ now ∧ now ≤ 900000) : stepR ⟨1, 1, f, 2, t, 2, now + 2 + 300, 3, p, q, 100, 100, false, false, 0⟩ f t p q 100 8 3 0 (now + 3) = (0, ⟨1, 1, f, 2, t, 2, now + 3 + 300, 4, (p + 3) % 4294967296, q, 100, 100, false, false, 0⟩) := by
  have e : endI p 8 3 = (p + 3) % 4294967296 := by rw [end_is p 8 3 0 0 (by decide) (by decide)]; simp
  have ea : aheadI ((p + 3) % 4294967296) p = 1 := if_pos ⟨by omega, by omega⟩
  rw [stepR_7 (z := ⟨1, 1, f, 2, t, 2, now + 2 + 300, 3, (p + 3) % 4294967296, q, 100, 100, false, false, 0⟩) (.inl rfl) (err_ok hf ht (by omega)) (by omega) (seg1_ok (s := 1) (d := 2) hf ht (by decide) (by decide) hp hq (by omega) (by omega) (by omega)) (by simp [saidB]) (by dsimp only; omega) (by
    unfold goOn
    rw [if_pos rfl, if_pos rfl]
    exact stream0_some (by decide) (by decide) (by rw [near_self, near_self]; simp; decide) (by simp) (by rw [e, if_pos ea]) (by decide) (by decide))]
  rfl
theorem step4 {p q : Int} (hf : 0 ≤ f ∧ f ≤ 65535) (ht : 0 ≤ t ∧ t ≤ 65535) (hp : 0 ≤ p ∧ p ≤ 4294967295) (hq : 0 ≤ q ∧ q ≤ 4294967295) (hn : 0 ≤ now ∧ now ≤ 900000) : stepR ⟨1, 1, f, 2, t, 2, now + 3 + 300, 4, (p + 3) % 4294967296, q, 100, 100, false, false, 0⟩ f t ((p + 3) % 4294967296) q 100 9 0 0 (now + 4) = (0, ⟨1, 1, f, 2, t, 3, now + 4 + 60, 5, (p + 4) % 4294967296, q, 100, 100, true, false, 0⟩) := by
  have e : endI ((p + 3) % 4294967296) 9 0 = (p + 4) % 4294967296 := by rw [end_is _ 9 0 0 1 (by decide) (by decide)]; omega
  have ea : aheadI ((p + 4) % 4294967296) ((p + 3) % 4294967296) = 1 := if_pos ⟨by omega, by omega⟩
  rw [stepR_7 (z := ⟨1, 1, f, 2, t, 3, now + 3 + 300, 4, (p + 4) % 4294967296, q, 100, 100, true, false, 0⟩) (.inl rfl) (err_ok hf ht (by omega)) (by omega) (seg1_ok (s := 1) (d := 2) hf ht (by decide) (by decide) (by omega) hq (by omega) (by omega) (by omega)) (by simp [saidB]) (by dsimp only; omega) (by
    unfold goOn
    rw [if_pos rfl, if_pos rfl]
    exact stream0_some (by decide) (by decide) (by rw [near_self, near_self]; simp; decide) (by simp) (by rw [e, if_pos ea]) (by decide) (by decide))]
  rfl
theorem step5 {p q : Int} (hf : 0 ≤ f ∧ f ≤ 65535) (ht : 0 ≤ t ∧ t ≤ 65535) (hp : 0 ≤ p ∧ p ≤ 4294967295) (hq : 0 ≤ q ∧ q ≤ 4294967295) (hn : 0 ≤ now ∧ now ≤ 900000) : stepR ⟨1, 1, f, 2, t, 3, now + 4 + 60, 5, (p + 4) % 4294967296, q, 100, 100, true, false, 0⟩ t f q ((p + 4) % 4294967296) 100 9 0 1 (now + 5) = (0, ⟨1, 1, f, 2, t, 4, now + 5 + 10, 6, (p + 4) % 4294967296, (q + 1) % 4294967296, 100, 100, true, true, 0⟩) := by
  have e : endI q 9 0 = (q + 1) % 4294967296 := by rw [end_is _ 9 0 0 1 (by decide) (by decide)]; omega
  have ea : aheadI ((q + 1) % 4294967296) q = 1 := if_pos ⟨by omega, by omega⟩
  rw [stepR_7 (z := ⟨1, 1, f, 2, t, 4, now + 4 + 60, 5, (p + 4) % 4294967296, (q + 1) % 4294967296, 100, 100, true, true, 0⟩) (.inr rfl) (err_ok hf ht (by omega)) (by omega) (seg1_ok (s := 2) (d := 1) ht hf (by decide) (by decide) hq (by omega) (by omega) (by omega) (by omega)) (by simp [saidB, K5.turn]) (by dsimp only; omega) (by
    unfold goOn
    rw [if_pos rfl, if_neg (by decide)]
    exact stream1_some (by decide) (by decide) (by rw [near_self, near_self]; simp; decide) (by simp) (by rw [e, if_pos ea]) (by decide) (by decide))]
  rfl
theorem step6 {p q : Int} (hf : 0 ≤ f ∧ f ≤ 65535) (ht : 0 ≤ t ∧ t ≤ 65535) (hp : 0 ≤ p ∧ p ≤ 4294967295) (hq : 0 ≤ q ∧ q ≤ 4294967295) (hn : 0 ≤ now ∧ now ≤ 900000) : stepR ⟨1, 1, f, 2, t, 4, now + 5 + 10, 6, (p + 4) % 4294967296, (q + 1) % 4294967296, 100, 100, true, true, 0⟩ f t ((p + 4) % 4294967296) 0 1 0 1 0 (now + 6) = (6, .zero) := by
  have e : endI ((p + 4) % 4294967296) 0 1 = (p + 5) % 4294967296 := by rw [end_is _ 0 1 0 0 (by decide) (by decide)]; omega
  have ea : aheadI ((p + 5) % 4294967296) ((p + 4) % 4294967296) = 1 := if_pos ⟨by omega, by omega⟩
  rw [stepR_6 (.inl rfl) (err_ok hf ht (by omega)) (by omega) (seg1_ok (s := 1) (d := 2) hf ht (by decide) (by decide) (by omega) (by omega) (by omega) (by omega) (by omega)) (by simp [saidB]) (by dsimp only; omega) (by
    unfold goOn
    rw [if_pos rfl, if_pos rfl]
    dsimp only [streamS0]
    rw [if_neg (by decide), if_neg (by decide), if_neg (by rw [near_self]; simp; exact ⟨by decide, fun h => absurd (by decide) h⟩), if_pos ⟨rfl, by rw [e]; exact ea⟩])]
end
end Go.Proofs.YtmocpeekdfkegaaDoor.trackEnds
