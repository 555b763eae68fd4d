/- SumHolds: two words change their places. -/
import Derived.Test.YtlmhhnodhgmmdaaSum
import Derived.Test.YtlmhhnodhgmmdaaFrame
import Derived.Deep.Cut
namespace Go.Proofs.Ytlmhhnodhgmmdaa.sumHolds
open Go.RowKit Go.Port

theorem u8info : (Try.prog.info? 5).map (fun i => (i.zero, i.size, i.bytes)) = some (some (.int .u8 0), 1, 1) := by kernel_rfl
theorem u8size : (Try.prog.info? 5).map (·.size) = some 1 := by kernel_rfl

/-- The statement that changes two words' places. -/
noncomputable def swapCode : Code := thenOf (headOf (tailOf 12 ((Try.f4.body).getD .skip)))

set_option maxHeartbeats 1000000 in
theorem swapped (Q : Exit → Act → World → Prop) (K0 : Act → World → Prop) (f : Nat → Value) (b o len cap i k : Nat) (l : List Int) (wc : World) (h : IsRow wc .u8 (some ⟨b, o, none⟩) len cap l) (hl : Octets l) (hn : len ≤ 140737488351232)
    (s0 : f 0 = .slice (some ⟨b, o, none⟩) len cap) (s3 : f 3 = .int .i64 (i : Nat)) (s4 : f 4 = .int .i64 (k : Nat))
    (hi : 2 * i + 1 < len) (hk : 2 * k + 1 < len) (hi' : i < 4000) (hk' : k < 4000)
    (hQ : ∀ f' w', Below wc.heap.size wc w' → (∀ t, t < 14 → t ≠ 10 → f' t = f t) → K0 (Fr 270 f') w') :
    swapCode.wp Try.prog (Exit.then K0 Q) (Fr 270 f) wc := by
  conv => arg 2; whnf
  have H := Lib.hid h
  have HL := Lib.hid h.len
  have HQ := Lib.hid hQ
  clear h hQ
  refine fr_cut (fun f' w' => Below wc.heap.size wc w' ∧ ∀ t, t < 14 → t ≠ 10 → f' t = f t) ?_ (fun f' w' h => HQ.out f' w' h.1 h.2)
  intro K hK
  go_upto_region 18 with (first | ((with_reducible refine fr_append 95 96 Try.underlying26 u8info (B := wc.heap.size) Own.nil H.out (by have := HL.out; simp; omega) (by decide) (Nat.le_refl _) (by decide) ?_ ?_ ?_); (go_simp); (go_simp); intro v8 w8 own8 hb8) | ((with_reducible refine fr_condb (fun h => ?_) (fun h => ?_) (by decide)) <;> (try simp only [decide_eq_true_eq, decide_eq_false_iff_not, Bool.and_eq_true, Bool.or_eq_true, Bool.and_eq_false_iff, Bool.or_eq_false_iff, Bool.not_eq_true', Bool.not_eq_false', reduceCtorEq] at h) <;> (try (exfalso; omega))))
  obtain ⟨g8, cap8, hv8, hBg8, hg8⟩ : ∃ g cap', v8 = .slice (some ⟨g, 0, none⟩) len cap' ∧ wc.heap.size ≤ g ∧ g < w8.heap.size := by
    obtain ⟨g, c, h1, h2, h3⟩ := own8.form (by have := HL.out; simp; omega)
    exact ⟨g, c, by rw [h1, HL.out]; rfl, h2, h3⟩
  subst hv8
  have own8' : Own w8 5 .u8 wc.heap.size (.slice (some ⟨g8, 0, none⟩) len cap8) l := own8
  have Own8 := Lib.hid own8'
  clear own8 own8'
  have cell : ∀ wx, Below wc.heap.size wc wx → ∀ j, j < len → wx.cell? ⟨b, o + j, none⟩ = some (.int .u8 (nth l j)) := fun wx hx j hj => by
    obtain ⟨b', o', h1, _, h2⟩ := (H.out.below hx (Nat.le_refl _)).at_ hj
    simp only [Option.some.injEq, Addr.mk.injEq, and_true] at h1
    obtain ⟨rfl, rfl⟩ := h1
    exact h2
  have Cell := Lib.hid cell
  clear cell
  have hb8 := Lib.hid hb8
  have b1 := Cell.out _ hb8.out (2 * k) (by omega)
  go_upto_region 19 with ((with_reducible refine fr_store 106 105 Own8.out (2 * i) (nth l (2 * k)) u8size (by omega) (by decide) ?_ ?_ ?_); (go_simp); (go_simp); intro w9 own9 hb9 z9)
  have Own9 := Lib.hid own9
  have Hb9 := Lib.hid (hb8.out.trans hb9)
  have b2 := Cell.out _ Hb9.out (2 * k + 1) (by omega)
  clear b1 own9 hb9
  go_upto_region 20 with ((with_reducible refine fr_store 117 116 Own9.out (2 * i + 1) (nth l (2 * k + 1)) u8size (by omega) (by decide) ?_ ?_ ?_); (go_simp); (go_simp); intro w10 own10 hb10 z10)
  have Own10 := Lib.hid own10
  have Hb10 := Lib.hid (Hb9.out.trans hb10)
  have b3 := Cell.out _ Hb10.out (2 * i) (by omega)
  clear b2 own10 hb10
  go_upto_region 21 with ((with_reducible refine fr_store 126 125 Own10.out (2 * k) (nth l (2 * i)) u8size (by omega) (by decide) ?_ ?_ ?_); (go_simp); (go_simp); intro w11 own11 hb11 z11)
  have Own11 := Lib.hid own11
  have Hb11 := Lib.hid (Hb10.out.trans hb11)
  have b4 := Cell.out _ Hb11.out (2 * i + 1) (by omega)
  clear b3 own11 hb11
  go_upto_region 22 with ((with_reducible refine fr_store 137 136 Own11.out (2 * k + 1) (nth l (2 * i + 1)) u8size (by omega) (by decide) ?_ ?_ ?_); (go_simp); (go_simp); intro w12 own12 hb12 z12)
  have R12 := Lib.hid own12.row
  have Hb12 := Lib.hid (Hb11.out.trans hb12)
  have RL := Lib.hid (H.out.below Hb12.out (Nat.le_refl _))
  have HT := Lib.hid (total_swap l i k (by have := HL.out; omega) (by have := HL.out; omega))
  have o12 : Octets ((((l.set (2 * i) (nth l (2 * k))).set (2 * i + 1) (nth l (2 * k + 1))).set (2 * k) (nth l (2 * i))).set (2 * k + 1) (nth l (2 * i + 1))) := by
    have n1 := hl.nth (2 * k); have n2 := hl.nth (2 * k + 1); have n3 := hl.nth (2 * i); have n4 := hl.nth (2 * i + 1)
    exact (((hl.set n1.1 n1.2).set n2.1 n2.2).set n3.1 n3.2).set n4.1 n4.2
  clear own12 hb12 b4
  go_upto_if 99999 with (first | ((with_reducible refine fr_condb (fun h => ?_) (fun h => ?_) (by decide)) <;> (try simp only [decide_eq_true_eq, decide_eq_false_iff_not, Bool.and_eq_true, Bool.or_eq_true, Bool.and_eq_false_iff, Bool.or_eq_false_iff, Bool.not_eq_true', Bool.not_eq_false', reduceCtorEq] at h) <;> (try (exfalso; omega))) | (go_at_call 8; (first | ((with_reducible refine (sum_Sum R12.out o12 (by omega)).mono ?_); rintro e w13 ⟨rfl, rfl⟩; dsimp only; rw [HT.out]) | ((with_reducible refine (sum_Sum RL.out hl (by omega)).mono ?_); rintro e w13 ⟨rfl, rfl⟩; dsimp only))) | ((with_reducible refine done ?_); exact ⟨Hb12.out, fun t h1 h2 => by simp (disch := omega) only [upd_ne]⟩))
end Go.Proofs.Ytlmhhnodhgmmdaa.sumHolds
