/-
  HeavyTop: the greatest first: what is ahead falls, and is counted as it is told; as many as are asked for, or as there are.
  No conditions.
-/
import Derived.Test.YtbjohgkbefimeaaHeavyTopW
import Derived.Test.YtbjohgkbefimeaaRows
import Derived.Test.YtbjohgkbefimeaaRowP
import Derived.Test.YtbjohgkbefimeaaRead
import Derived.Test.YtbjohgkbefimeaaOpenH
set_option linter.unusedSimpArgs false
set_option linter.unusedVariables false
set_option maxRecDepth 100000
namespace Go.Proofs.Ytbjohgkbefimeaa.heavyTop
open Go.ChangeShapes Go.WideShapes Go.ChangeAt Go.RowKit Go.Port

set_option maxRecDepth 100000 in
theorem walkA {H : Type} {enc : TypeId × Value → H} {W : World} {base : Nat} {v0 v1 v2 : Value} (k0 : Value.okWide Try.prog W .any base 3 v0) (r0 : Rd enc Try.prog W 3 v0.cells.toList)
    (k1 : Value.okWide Try.prog W .any base 22 v1) (r1 : Rd enc Try.prog W 22 v1.cells.toList)
    (k2 : Value.okWide Try.prog W .any base 3 v2) (r2 : Rd enc Try.prog W 3 v2.cells.toList) :
    Calls Try.prog 4 #[v0, v1, v2] W (Ret W [] (isV (.bool true))) := by
  obtain ⟨n0, rfl, _⟩ := rd_int Try.underlying3 k0 r0
  obtain ⟨A, len, cap, rfl, hc⟩ := rd_slice Try.underlying22 k1
  rw [hc] at r1
  obtain ⟨A', len', cap', l, e1, e2, e3⟩ := rd_pairs r1
  simp only [List.cons.injEq, Value.slice.injEq, and_true] at e1
  obtain ⟨rfl, rfl, rfl⟩ := e1
  obtain ⟨n2, rfl, _⟩ := rd_int Try.underlying3 k2 r2
  exact walk e2 e3

theorem own : ownKnob Try.prog.godebug = none := by kernel_rfl
theorem laidOut : laidOutB Try.prog = true := by kernel_rfl
set_option maxRecDepth 100000 in
theorem lifted (os : Os) (started : os.Started) (H : Type) (enc : TypeId × Value → H) :
    ReturnsInHanded {} Try.checked os 4 .any (Rows.heavyTopSpec.pre6 enc Try.prog Try.f4 Rows.heavyTopRow.domain false) (Rows.heavyTopSpec.post enc Try.prog Try.f4 false true false false) := by
  refine returnsInHanded_of_change_sized (C := Try.checked) own started (by kernel_rfl) Try.func4
    (ChangeSpec.witness6 (enc := enc) (C := Try.checked) false ⟨#[], #[.int .i64 0, .slice none 0 0, .int .i64 0], []⟩ 8 (by kernel_rfl) (by kernel_rfl) (by kernel_rfl) (by kernel_rfl)) ?_
  intro W base args ds gs before hval0 hW _ hsz0 _
  have hsz : (DataW.weightsEach Try.prog (Try.f4.params.toList ++ Rows.heavyTopSpec.plain.varTypes Try.prog) (ds ++ gs)).all (· ≤ reachBytes) = true := hsz0
  clear hsz0
  have hval : ∀ (j : Nat) t v, Try.f4.params[j]? = some t → args[j]? = some v → Value.okWide Try.prog W .any base t v := hval0
  have hW' := hW
  obtain ⟨p, q, hA0, hV, rfl, hfz, hnd⟩ := hW
  have hA : DataW.TrodAll enc Try.prog W 0 (fun _ => true) true Try.f4.params.toList args.toList ds p := hA0
  obtain ⟨rfl, rfl⟩ := trodVars_none hV
  rw [List.append_nil] at hsz
  rw [Try.params4] at hA hval hsz
  have hall := fun W' hb => trodAll_stays (W' := W') laidOut hb (by kernel_rfl) hA
  obtain ⟨v0, vs0, d0, ds0, p0, q0, hargs, rfl, rfl, h0, r0⟩ := trodAll_cons hA
  obtain ⟨v1, vs1, d1, ds1, p1, q1, rfl, rfl, rfl, h1, r1⟩ := trodAll_cons r0
  obtain ⟨v2, vs2, d2, ds2, p2, q2, rfl, rfl, rfl, h2, r2⟩ := trodAll_cons r1
  obtain ⟨rfl, rfl, rfl⟩ := trodAll_nil r2
  obtain rfl : args = #[v0, v1, v2] := by cases args; simp_all
  refine (walkA (hval 0 _ _ rfl rfl) (Rd.of hsz 0 h0 rfl rfl) (hval 1 _ _ rfl rfl) (Rd.of hsz 1 h1 rfl rfl) (hval 2 _ _ rfl rfl) (Rd.of hsz 2 h2 rfl rfl)).mono fun e W' hR => ?_
  obtain ⟨v, L, rfl, hm, rfl, _⟩ := hR
  have hb := hm.below
  exact ⟨_, rfl, _, _, _, [], _, [], hW', trodAll_mk1 (shut_bool Try.underlying4 _), hall W' hb, rfl, hb.frame _, fun h => by cases h⟩
theorem over : Rows.heavyTopRow.holds Try.pinned (OpenSpec.ofChange Rows.heavyTopSpec) :=
  OpenClaim.holds_of_wide 4 Try.f4 rfl rfl rfl rfl rfl rfl rfl ⟨rfl, rfl, rfl, rfl, rfl⟩ rfl rfl rfl rfl rfl (by kernel_rfl) Try.func4 (by kernel_rfl)
    (of_decide_eq_true (by kernel_rfl)) (by unfold Func.isWrapper; first | (rw [if_pos (by decide +kernel)]; kernel_rfl) | (rw [if_neg (by decide +kernel)]; exact ⟨rfl, rfl⟩))
    (fun os started H enc _ => lifted os started H enc)
/-- The statement. -/
theorem proved : Rows.HeavyTopSaid := over
#print axioms proved
end Go.Proofs.Ytbjohgkbefimeaa.heavyTop
