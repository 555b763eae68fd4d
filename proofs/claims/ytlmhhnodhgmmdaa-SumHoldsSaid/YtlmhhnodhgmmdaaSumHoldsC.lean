/- SumHolds: a byte changes, or none does. -/
import Derived.Test.YtlmhhnodhgmmdaaSum
import Derived.Test.YtlmhhnodhgmmdaaSumRef
import Derived.Test.YtlmhhnodhgmmdaaFrame
import Derived.Deep.Cut
namespace Go.Proofs.Ytlmhhnodhgmmdaa.sumHolds
open Go.RowKit Go.Port

theorem u8sizeC : (Try.prog.info? 5).map (·.size) = some 1 := by kernel_rfl

/-- What stands behind the change of two words. -/
noncomputable def restCode : Code := tailOf 13 ((Try.f4.body).getD .skip)

set_option maxHeartbeats 400000 in
/-- No byte changes. -/
theorem same (R : Ending → World → Prop) (f : Nat → Value) (a0 : Option Addr) (len cap : Nat) (at_ tb : Int) (l : List Int) (wc : World) (h : IsRow wc .u8 a0 len cap l)
    (s0 : f 0 = .slice a0 len cap) (s1 : f 1 = .int .i64 at_) (s2 : f 2 = .int .u8 tb)
    (hs : at_ < 0 ∨ len ≤ at_ ∨ ∃ p : Nat, at_ = p ∧ p < len ∧ nth l p = tb) (hR : R (.returned (.bool true)) wc) :
    restCode.wp Try.prog (bodyPost Try.prog Try.f4 R) (Fr 270 f) wc := by
  have HR := Lib.hid hR
  have H := Lib.hid h
  clear hR h
  rcases hs with hs | hs | ⟨p, rfl, hp, hq⟩
  · conv => arg 2; whnf
    go_upto_if 99999 with (first | ((with_reducible refine fr_condb (fun h => ?_) (fun h => ?_) (by decide)) <;> (try simp only [decide_eq_true_eq, decide_eq_false_iff_not, Bool.and_eq_true, Bool.or_eq_true, Bool.and_eq_false_iff, Bool.or_eq_false_iff, Bool.not_eq_true', Bool.not_eq_false', reduceCtorEq] at h) <;> (try (exfalso; omega))) | ((with_reducible refine fr_ret1 10 ?_ ?_ ?_); decide; rfl; exact HR.out))
  · by_cases h0 : at_ < 0
    all_goals
      conv => arg 2; whnf
      go_upto_if 99999 with (first | ((with_reducible refine fr_condb (fun h => ?_) (fun h => ?_) (by decide)) <;> (try simp only [decide_eq_true_eq, decide_eq_false_iff_not, Bool.and_eq_true, Bool.or_eq_true, Bool.and_eq_false_iff, Bool.or_eq_false_iff, Bool.not_eq_true', Bool.not_eq_false', reduceCtorEq] at h) <;> (try (exfalso; omega))) | ((with_reducible refine fr_ret1 10 ?_ ?_ ?_); decide; rfl; exact HR.out))
  · obtain ⟨b, o, rfl, _, hc⟩ := H.out.at_ hp
    rw [hq] at hc
    clear hq
    conv => arg 2; whnf
    go_upto_if 99999 with (first | ((with_reducible refine fr_condb (fun h => ?_) (fun h => ?_) (by decide)) <;> (try simp only [decide_eq_true_eq, decide_eq_false_iff_not, Bool.and_eq_true, Bool.or_eq_true, Bool.and_eq_false_iff, Bool.or_eq_false_iff, Bool.not_eq_true', Bool.not_eq_false', reduceCtorEq] at h) <;> (try (exfalso; omega))) | ((with_reducible refine fr_ret1 10 ?_ ?_ ?_); decide; rfl; exact HR.out))

set_option maxHeartbeats 400000 in
/-- A byte changes. -/
theorem changed (R : Ending → World → Prop) (f : Nat → Value) (B : Nat) (a0 : Option Addr) (len cap p g cap' : Nat) (tb n : Int) (l : List Int) (wc : World) (h : IsRow wc .u8 a0 len cap l) (hl : Octets l) (hn : len ≤ 140737488351232)
    (s0 : f 0 = .slice a0 len cap) (s1 : f 1 = .int .i64 (p : Nat)) (s2 : f 2 = .int .u8 tb) (s12 : f 12 = .slice (some ⟨g, 0, none⟩) (len + 2) cap') (s13 : f 13 = .int .i64 n)
    (t0 : 0 ≤ tb) (t1 : tb ≤ 255) (hp : p < len) (hq : nth l p ≠ tb) (hN : n = 65535 - total (0 :: 0 :: l)) (hV : total (n / 256 :: n % 256 :: l) = 65535)
    (hown : Own wc 5 .u8 B (.slice (some ⟨g, 0, none⟩) (len + 2) cap') (n / 256 :: n % 256 :: l)) (hB : B ≤ wc.heap.size)
    (hR : ∀ w', Below B wc w' → R (.returned (.bool true)) w') :
    restCode.wp Try.prog (bodyPost Try.prog Try.f4 R) (Fr 270 f) wc := by
  have HR := Lib.hid hR
  have HL := Lib.hid h.len
  obtain ⟨b, o, rfl, _, hc⟩ := h.at_ hp
  have hne : (nth l p == tb) = false := by simp [hq]
  have n01 := total_bd ((hl.cons (x := 0) (by omega) (by omega)).cons (x := 0) (by omega) (by omega))
  have n0 : 0 ≤ n := by omega
  have n1 : n ≤ 65535 := by omega
  have oX : Octets (n / 256 :: n % 256 :: l) := (hl.cons (by omega) (by omega)).cons (by omega) (by omega)
  have oX' : Octets (n / 256 :: n % 256 :: l.set p tb) := ((hl.set t0 t1).cons (by omega) (by omega)).cons (by omega) (by omega)
  have Hq := Lib.hid hq
  have HN := Lib.hid hN
  have HV := Lib.hid hV
  have Own0 := Lib.hid hown
  have ej : p + 2 - (p + 2) % 2 = p + 2 - p % 2 := by omega
  obtain ⟨x0, x1⟩ := oX.nth (p + 2 - p % 2)
  obtain ⟨x2, x3⟩ := oX.nth (p + 2 - p % 2 + 1)
  obtain ⟨y0, y1⟩ := oX'.nth (p + 2 - p % 2)
  obtain ⟨y2, y3⟩ := oX'.nth (p + 2 - p % 2 + 1)
  have ew : nth (n / 256 :: n % 256 :: l) (p + 2 - p % 2) * 256 + nth (n / 256 :: n % 256 :: l) (p + 2 - p % 2 + 1) = wordAt (n / 256 :: n % 256 :: l) (p + 2) := by unfold wordAt; rw [ej]
  have ew' : nth (n / 256 :: n % 256 :: l.set p tb) (p + 2 - p % 2) * 256 + nth (n / 256 :: n % 256 :: l.set p tb) (p + 2 - p % 2 + 1) = wordAt (n / 256 :: n % 256 :: l.set p tb) (p + 2) := by unfold wordAt; rw [ej]
  have EW := Lib.hid ew
  have EW' := Lib.hid ew'
  have lX : (n / 256 :: n % 256 :: l).length = len + 2 := by rw [HL.out]; rfl
  have LX := Lib.hid lX
  have hX' : (n / 256 :: n % 256 :: l).set (p + 2) tb = n / 256 :: n % 256 :: l.set p tb := rfl
  have HX' := Lib.hid hX'
  have lX' : (n / 256 :: n % 256 :: l.set p tb).length = len + 2 := by rw [← HX'.out, List.length_set, LX.out]
  have LX' := Lib.hid lX'
  have hw := wordAt_bd oX (p + 2)
  have hw' := wordAt_bd oX' (p + 2)
  obtain ⟨old, hold⟩ : ∃ o, o = wordAt (n / 256 :: n % 256 :: l) (p + 2) := ⟨_, rfl⟩
  obtain ⟨now, hnow⟩ : ∃ o, o = wordAt (n / 256 :: n % 256 :: l.set p tb) (p + 2) := ⟨_, rfl⟩
  have o0 : 0 ≤ old := by omega
  have o1 : old ≤ 65535 := by omega
  have m0 : 0 ≤ now := by omega
  have m1 : now ≤ 65535 := by omega
  have HO := Lib.hid hold
  have HM := Lib.hid hnow
  have k0 := hown.cell (i := p + 2 - p % 2) (by rw [lX]; omega)
  have kk := fun h => hown.cell (i := p + 2 - p % 2 + 1) h
  have KK := Lib.hid kk
  clear hR h hq hN hV hown n01 kk ew ew' ej lX hX' lX' hw hw' hold hnow
  conv => arg 2; whnf
  go_upto_if 177 with (first | fail | ((with_reducible refine fr_condb (fun h => ?_) (fun h => ?_) (by decide)) <;> (try simp only [decide_eq_true_eq, decide_eq_false_iff_not, Bool.and_eq_true, Bool.or_eq_true, Bool.and_eq_false_iff, Bool.or_eq_false_iff, Bool.not_eq_true', Bool.not_eq_false', reduceCtorEq] at h) <;> (try (exfalso; omega))))
  refine fr_cut (fun f' w' => wc = w' ∧ f' 12 = .slice (some ⟨g, 0, none⟩) (len + 2) cap' ∧ f' 13 = .int .i64 n ∧ f' 15 = .int .i64 (p + 2) ∧ f' 2 = .int .u8 tb ∧ f' 16 = .int .i64 old) ?_ ?_
  · intro K hK
    by_cases hodd : p + 2 - p % 2 + 1 < len + 2
    · have k1 := KK.out (by rw [LX.out]; exact hodd)
      go_upto_if 99999 with (first | ((with_reducible refine fr_condb (fun h => ?_) (fun h => ?_) (by decide)) <;> (try simp only [decide_eq_true_eq, decide_eq_false_iff_not, Bool.and_eq_true, Bool.or_eq_true, Bool.and_eq_false_iff, Bool.or_eq_false_iff, Bool.not_eq_true', Bool.not_eq_false', reduceCtorEq] at h) <;> (try (exfalso; omega))) | ((with_reducible refine done ?_); exact ⟨rfl, by go_simp, by go_simp, by go_simp, by go_simp, congrArg (Value.int IntKind.i64) (EW.out.trans HO.out.symm)⟩))
    · have e0 := Lib.hid (nth_out (l := n / 256 :: n % 256 :: l) (i := p + 2 - p % 2 + 1) (by rw [LX.out]; omega))
      have e1 := Lib.hid ((congrArg (nth (n / 256 :: n % 256 :: l) (p + 2 - p % 2) * 256 + ·) e0.out).symm.trans (EW.out.trans HO.out.symm))
      go_upto_if 99999 with (first | ((with_reducible refine fr_condb (fun h => ?_) (fun h => ?_) (by decide)) <;> (try simp only [decide_eq_true_eq, decide_eq_false_iff_not, Bool.and_eq_true, Bool.or_eq_true, Bool.and_eq_false_iff, Bool.or_eq_false_iff, Bool.not_eq_true', Bool.not_eq_false', reduceCtorEq] at h) <;> (try (exfalso; omega))) | ((with_reducible refine done ?_); exact ⟨rfl, by go_simp, by go_simp, by go_simp, by go_simp, congrArg (Value.int IntKind.i64) ((Int.add_zero _).symm.trans e1.out)⟩))
  clear s0 s1 s2 s12 s13 k0 x0 x1 x2 x3 hc hne KK EW f
  rintro f w' ⟨rfl, s12, s13, s15, s2, s16⟩
  go_upto_if 209 with (first | ((with_reducible refine fr_store 192 191 Own0.out (p + 2) tb u8sizeC (by omega) (by decide) ?_ ?_ ?_); (go_simp); (go_simp); intro w1 own1 hb1 z1; rw [HX'.out] at own1; have Own1 := Lib.hid own1; have Hb1 := Lib.hid hb1; have k0 := Own1.out.cell (i := p + 2 - p % 2) (by rw [LX'.out]; omega); have KK := Lib.hid (fun h => Own1.out.cell (i := p + 2 - p % 2 + 1) h); clear own1 hb1) | ((with_reducible refine fr_condb (fun h => ?_) (fun h => ?_) (by decide)) <;> (try simp only [decide_eq_true_eq, decide_eq_false_iff_not, Bool.and_eq_true, Bool.or_eq_true, Bool.and_eq_false_iff, Bool.or_eq_false_iff, Bool.not_eq_true', Bool.not_eq_false', reduceCtorEq] at h) <;> (try (exfalso; omega))))
  refine fr_cut (fun f' w' => w1 = w' ∧ f' 12 = .slice (some ⟨g, 0, none⟩) (len + 2) cap' ∧ f' 13 = .int .i64 n ∧ f' 16 = .int .i64 old ∧ f' 17 = .int .i64 now) ?_ ?_
  · intro K hK
    by_cases hodd : p + 2 - p % 2 + 1 < len + 2
    · have k1 := KK.out (by rw [LX'.out]; exact hodd)
      go_upto_if 99999 with (first | ((with_reducible refine fr_condb (fun h => ?_) (fun h => ?_) (by decide)) <;> (try simp only [decide_eq_true_eq, decide_eq_false_iff_not, Bool.and_eq_true, Bool.or_eq_true, Bool.and_eq_false_iff, Bool.or_eq_false_iff, Bool.not_eq_true', Bool.not_eq_false', reduceCtorEq] at h) <;> (try (exfalso; omega))) | ((with_reducible refine done ?_); exact ⟨rfl, by go_simp, by go_simp, by go_simp, congrArg (Value.int IntKind.i64) (EW'.out.trans HM.out.symm)⟩))
    · have e0 := Lib.hid (nth_out (l := n / 256 :: n % 256 :: l.set p tb) (i := p + 2 - p % 2 + 1) (by rw [LX'.out]; omega))
      have e1 := Lib.hid ((congrArg (nth (n / 256 :: n % 256 :: l.set p tb) (p + 2 - p % 2) * 256 + ·) e0.out).symm.trans (EW'.out.trans HM.out.symm))
      go_upto_if 99999 with (first | ((with_reducible refine fr_condb (fun h => ?_) (fun h => ?_) (by decide)) <;> (try simp only [decide_eq_true_eq, decide_eq_false_iff_not, Bool.and_eq_true, Bool.or_eq_true, Bool.and_eq_false_iff, Bool.or_eq_false_iff, Bool.not_eq_true', Bool.not_eq_false', reduceCtorEq] at h) <;> (try (exfalso; omega))) | ((with_reducible refine done ?_); exact ⟨rfl, by go_simp, by go_simp, by go_simp, congrArg (Value.int IntKind.i64) ((Int.add_zero _).symm.trans e1.out)⟩))
  clear s12 s13 s15 s2 s16 k0 KK EW' y0 y1 y2 y3 f
  rintro f w' ⟨rfl, s12, s13, s16, s17⟩
  have seen : total (n / 256 :: n % 256 :: l.set p tb) = 65535 → old = 0 ∧ now = 65535 ∨ old = 65535 ∧ now = 0 := by
    intro hv
    have := total_seen oX (j := p + 2) (x := tb) (by rw [LX.out]; omega) t0 t1 (by exact Hq.out) HV.out (by rw [HX'.out]; exact hv)
    rw [HX'.out, ← HM.out, ← HO.out] at this
    exact this
  obtain ⟨V, hV⟩ : ∃ V, V = (total (n / 256 :: n % 256 :: l.set p tb) == 65535) := ⟨_, rfl⟩
  have hvs : V = false ∨ old = 0 ∧ now = 65535 ∨ old = 65535 ∧ now = 0 := by
    cases hv : V
    · exact .inl rfl
    · exact .inr (seen (by rw [hv] at hV; exact eq_of_beq hV.symm))
  have HVs := Lib.hid hvs
  have HV2 := Lib.hid hV.symm
  have r1 := Lib.hid Own1.out.row
  clear hV seen hvs
  go_upto_region 34 with fail
  refine fr_cut (fun f' w' => w1 = w' ∧ f' 12 = .slice (some ⟨g, 0, none⟩) (len + 2) cap' ∧ f' 13 = .int .i64 n ∧ f' 16 = .int .i64 old ∧ f' 17 = .int .i64 now ∧ f' 239 = .bool false) ?_ ?_
  · intro K hK
    go_upto_if 99999 with (first | ((with_reducible refine fr_condb (fun h => ?_) (fun h => ?_) (by decide)) <;> (try simp only [decide_eq_true_eq, decide_eq_false_iff_not, Bool.and_eq_true, Bool.or_eq_true, Bool.and_eq_false_iff, Bool.or_eq_false_iff, Bool.not_eq_true', Bool.not_eq_false', reduceCtorEq] at h) <;> (try (exfalso; omega))) | (go_at_call 9; refine (sum_Valid r1.out oX' (by omega)).mono ?_; rintro e w2 ⟨rfl, rfl⟩; dsimp only; rw [HV2.out]) | ((with_reducible refine done ?_); exact ⟨rfl, by go_simp, by go_simp, by go_simp, by go_simp, by rcases HVs.out with h | h | h <;> simp_all [upd_at]⟩))
  rintro f w' ⟨rfl, s12, s13, s16, s17, s239⟩
  obtain ⟨m, hm⟩ : ∃ m, m = 65535 - addW (addW (65535 - n) (65535 - old)) now := ⟨_, rfl⟩
  obtain ⟨q0, q1⟩ : 0 ≤ m ∧ m ≤ 65535 := by
    obtain ⟨a0, a1⟩ := addW_bd (a := 65535 - n) (b := 65535 - old) (by omega) (by omega) (by omega) (by omega)
    obtain ⟨a2, a3⟩ := addW_bd (a := addW (65535 - n) (65535 - old)) (b := now) a0 a1 m0 m1
    omega
  have fin := total_update hl (j := p) (x := tb) (by have := HL.out; omega) t0 t1 n m HN.out (by rw [hm, HO.out, HM.out, wordAt_cons2, wordAt_cons2])
  have HMm := Lib.hid hm.symm
  have oY : Octets (m / 256 :: m % 256 :: l.set p tb) := ((hl.set t0 t1).cons (by omega) (by omega)).cons (by omega) (by omega)
  have c0 := Own1.out.cell (i := 0) (by simp)
  have c1 := Own1.out.cell (i := 1) (by simp)
  have f0 := Own1.out.frozen 0
  have f1 := Own1.out.frozen 1
  have Fin := Lib.hid fin
  have Hl := Lib.hid hl
  clear hm HVs HV2 fin hl
  go_upto_region 41 with (first | (go_at_call 10; refine (sum_Update n old now _ n0 n1 o0 o1 m0 m1).mono ?_; rintro e w3 ⟨rfl, rfl⟩; dsimp only; rw [HMm.out]) | (with_reducible refine fr_cond s239 (by decide) (fun h => by cases h) (fun _ => ?_)) | ((with_reducible refine fr_condb (fun h => ?_) (fun h => ?_) (by decide)) <;> (try simp only [decide_eq_true_eq, decide_eq_false_iff_not, Bool.and_eq_true, Bool.or_eq_true, Bool.and_eq_false_iff, Bool.or_eq_false_iff, Bool.not_eq_true', Bool.not_eq_false', reduceCtorEq] at h) <;> (try (exfalso; omega))))
  have own2 : Own ((w1.setCell ⟨g, 0, none⟩ (.int .u8 (m / 256))).setCell ⟨g, 1, none⟩ (.int .u8 (m % 256))) 5 .u8 B (.slice (some ⟨g, 0, none⟩) (len + 2) cap') (m / 256 :: m % 256 :: l.set p tb) := (Own1.out.set 0 _).set 1 _
  have hBg : B ≤ g := (World.ownsRow.lt Own1.out g rfl).1
  have hb2 : Below B wc ((w1.setCell ⟨g, 0, none⟩ (.int .u8 (m / 256))).setCell ⟨g, 1, none⟩ (.int .u8 (m % 256))) := (Hb1.out.setCell hBg _).setCell hBg _
  generalize ((w1.setCell ⟨g, 0, none⟩ (.int .u8 (m / 256))).setCell ⟨g, 1, none⟩ (.int .u8 (m % 256))) = w2 at own2 hb2 ⊢
  have r2 := Lib.hid own2.row
  have Hb2 := Lib.hid hb2
  clear own2 hb2 c0 c1 f0 f1
  rcases Fin.out with hT | ⟨hm0, hT⟩
  · have hT : Hid ((total (m / 256 :: m % 256 :: l.set p tb) == 65535) = true) := beq_iff_eq.2 hT
    go_upto_if 99999 with (first | ((with_reducible refine fr_condb (fun h => ?_) (fun h => ?_) (by decide)) <;> (try simp only [decide_eq_true_eq, decide_eq_false_iff_not, Bool.and_eq_true, Bool.or_eq_true, Bool.and_eq_false_iff, Bool.or_eq_false_iff, Bool.not_eq_true', Bool.not_eq_false', reduceCtorEq] at h) <;> (try (exfalso; omega))) | (go_at_call 9; refine (sum_Valid r2.out oY (by omega)).mono ?_; rintro e w3 ⟨rfl, rfl⟩; dsimp only; rw [hT.out]) | ((with_reducible refine fr_ret1 10 ?_ ?_ ?_); decide; rfl; exact HR.out _ Hb2.out))
  · have hmb : (m == 0) = true := by simp [hm0]
    clear hm0
    have hT := Lib.hid hT
    go_upto_if 99999 with (first | ((with_reducible refine fr_condb (fun h => ?_) (fun h => ?_) (by decide)) <;> (try simp only [decide_eq_true_eq, decide_eq_false_iff_not, Bool.and_eq_true, Bool.or_eq_true, Bool.and_eq_false_iff, Bool.or_eq_false_iff, Bool.not_eq_true', Bool.not_eq_false', reduceCtorEq] at h) <;> (try (exfalso; omega))) | (go_at_call 9; refine (sum_Valid r2.out oY (by omega)).mono ?_; rintro e w3 ⟨rfl, rfl⟩; dsimp only; rw [hT.out]) | (go_at_call 11; refine (ref_Total r2.out oY (by omega)).mono ?_; rintro e w3 ⟨rfl, rfl⟩; dsimp only; rw [hT.out]) | ((with_reducible refine fr_ret1 10 ?_ ?_ ?_); decide; rfl; exact HR.out _ Hb2.out))
end Go.Proofs.Ytlmhhnodhgmmdaa.sumHolds
