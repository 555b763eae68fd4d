/-
  FragPieces: pieces are pieces: they make the body, one behind the other, each at its place, none too great; they are as few as can be; cut once more they are themselves.
  No conditions.
-/
import Derived.Test.YtlmhhnodhgmmdaaRows
import Derived.Test.YtlmhhnodhgmmdaaOpen
import Derived.Test.YtlmhhnodhgmmdaaFragPieces
set_option linter.unusedSimpArgs false
set_option linter.unusedVariables false
namespace Go.Proofs.Ytlmhhnodhgmmdaa.fragPieces
open Go.ChangeShapes Go.WideShapes Go.ChangeAt Go.RowKit Go.Port

theorem walkA {H : Type} {enc : TypeId × Value → H} {W : World} {base : Nat} {v0 v1 : Value} (k0 : Value.okWide Try.prog W .any base 35 v0) (r0 : Rd enc Try.prog W 35 v0.cells.toList)
    (k1 : Value.okWide Try.prog W .any base 3 v1) (r1 : Rd enc Try.prog W 3 v1.cells.toList) :
    Calls Try.prog 5 #[v0, v1] W (Ret W [] (isV (.bool true))) := by
  obtain ⟨cs, rfl, hcs⟩ := agg_of Try.underlying35 k0
  rw [hcs] at r0
  obtain ⟨k, t, i, s, d, a, m, A, len, cap, l, rfl, hrow, _, _, _, hlen⟩ := rd_packet r0
  obtain ⟨n, rfl, _⟩ := rd_int Try.underlying3 k1 r1
  exact walk k t i s d a m A len cap l n W hrow hlen

theorem own : ownKnob Try.prog.godebug = none := by kernel_rfl
theorem laidOut : laidOutB Try.prog = true := by kernel_rfl
set_option maxRecDepth 100000 in
theorem lifted (os : Os) (started : os.Started) (H : Type) (enc : TypeId × Value → H) :
    ReturnsInHanded {} Try.checked os 5 .any (Rows.fragPiecesSpec.pre6 enc Try.prog Try.f5 Rows.fragPiecesRow.domain false) (Rows.fragPiecesSpec.post enc Try.prog Try.f5 false true false false) := by
  refine returnsInHanded_of_change_sized (C := Try.checked) own started (by kernel_rfl) Try.func5
    (ChangeSpec.witness6 (enc := enc) (C := Try.checked) false ⟨#[], #[.agg #[.int .i64 0, .int .i64 0, .int .i64 0, .int .i64 0, .int .i64 0, .int .i64 0, .bool false, .slice none 0 0], .int .i64 0], []⟩ 8 (by kernel_rfl) (by kernel_rfl) (by kernel_rfl) (by kernel_rfl)) ?_
  intro W base args ds gs before hval0 hW _ hsz0 _
  have hsz : (DataW.weightsEach Try.prog (Try.f5.params.toList ++ Rows.fragPiecesSpec.plain.varTypes Try.prog) (ds ++ gs)).all (· ≤ reachBytes) = true := hsz0
  clear hsz0
  have hval : ∀ (j : Nat) t v, Try.f5.params[j]? = some t → args[j]? = some v → Value.okWide Try.prog W .any base t v := hval0
  have hW' := hW
  obtain ⟨p, q, hA0, hV, rfl, hfz, hnd⟩ := hW
  have hA : DataW.TrodAll enc Try.prog W 0 (fun _ => true) true Try.f5.params.toList args.toList ds p := hA0
  obtain ⟨rfl, rfl⟩ := trodVars_none hV
  rw [List.append_nil] at hsz
  rw [Try.params5] at hA hval hsz
  have hall := fun W' hb => trodAll_stays (W' := W') laidOut hb (by kernel_rfl) hA
  obtain ⟨v0, vs0, d0, ds0, p0, q0, hargs, rfl, rfl, h0, r0⟩ := trodAll_cons hA
  obtain ⟨v1, vs1, d1, ds1, p1, q1, rfl, rfl, rfl, h1, r1⟩ := trodAll_cons r0
  obtain ⟨rfl, rfl, rfl⟩ := trodAll_nil r1
  obtain rfl : args = #[v0, v1] := by cases args; simp_all
  refine (walkA (hval 0 _ _ rfl rfl) (Rd.of hsz 0 h0 rfl rfl) (hval 1 _ _ rfl rfl) (Rd.of hsz 1 h1 rfl rfl)).mono fun e W' hR => ?_
  obtain ⟨v, L, rfl, hm, rfl, _⟩ := hR
  have hb := hm.below
  exact ⟨_, rfl, _, _, _, [], _, [], hW', trodAll_mk1 (shut_bool Try.underlying4 _), hall W' hb, rfl, hb.frame _, fun h => by cases h⟩
theorem over : Rows.fragPiecesRow.holds Try.pinned (OpenSpec.ofChange Rows.fragPiecesSpec) :=
  OpenClaim.holds_of_wide 5 Try.f5 rfl rfl rfl rfl rfl rfl rfl ⟨rfl, rfl, rfl, rfl, rfl⟩ rfl rfl rfl rfl rfl (by kernel_rfl) Try.func5 (by kernel_rfl)
    (of_decide_eq_true (by kernel_rfl)) (by unfold Func.isWrapper; first | (rw [if_pos (by decide +kernel)]; kernel_rfl) | (rw [if_neg (by decide +kernel)]; exact ⟨rfl, rfl⟩))
    (fun os started H enc _ => lifted os started H enc)
/-- The statement. -/
theorem proved : Rows.FragPiecesSaid := over
#print axioms proved
end Go.Proofs.Ytlmhhnodhgmmdaa.fragPieces
