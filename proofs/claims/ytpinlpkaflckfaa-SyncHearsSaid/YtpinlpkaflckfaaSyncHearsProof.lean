/-
  SyncHears: what is told is heard once, in order, outright: whatever is lost, comes twice, or comes late: what comes out is a beginning of what was told, each once; told again long enough, all of it.
  No conditions.
-/
import Derived.Test.YtpinlpkaflckfaaRows
import Derived.Test.YtpinlpkaflckfaaRowP
import Derived.Test.YtpinlpkaflckfaaRead
import Derived.Test.YtpinlpkaflckfaaSyncHears
set_option linter.unusedSimpArgs false
set_option linter.unusedVariables false
set_option maxRecDepth 100000
namespace Go.Proofs.Ytpinlpkaflckfaa.syncHears
open Go.ChangeShapes Go.WideShapes Go.ChangeAt Go.RowKit Go.Port

set_option maxRecDepth 100000 in
theorem walkA {H : Type} {enc : TypeId × Value → H} {W : World} {base : Nat} {v0 v1 : Value} (k0 : Value.okWide Try.prog W .any base 3 v0) (r0 : Rd enc Try.prog W 3 v0.cells.toList)
    (k1 : Value.okWide Try.prog W .any base 55 v1) (r1 : Rd enc Try.prog W 55 v1.cells.toList) :
    Calls Try.prog 6 #[v0, v1] W (Ret W [] (isV (.bool true))) := by
  have hi := Try.underlying3
  obtain ⟨n0, rfl, _⟩ := rd_int hi k0 r0
  obtain ⟨A, len, cap, rfl, hc⟩ := rd_slice Try.underlying55 k1
  rw [hc] at r1
  obtain ⟨A', len', cap', ls, h1, h2, _, _, _, _, h3⟩ := r1.rows Try.underlying55 Try.underlying71 hi (by kernel_rfl) (by kernel_rfl) (by kernel_rfl) (by kernel_rfl)
  simp only [List.cons.injEq, Value.slice.injEq, and_true] at h1
  obtain ⟨rfl, rfl, rfl⟩ := h1
  refine walk n0 A len cap _ W h2 fun i v hv => ?_
  rw [List.getElem?_map] at hv
  cases hr : ls[i]? with
  | none => rw [hr] at hv; cases hv
  | some r =>
    rw [hr] at hv
    exact ⟨r.1, r.2.1, r.2.2.1, r.2.2.2, (Option.some.inj hv).symm, (h3 r (List.mem_of_getElem? hr)).1⟩

theorem own : ownKnob Try.prog.godebug = none := by kernel_rfl
theorem laidOut : laidOutB Try.prog = true := by kernel_rfl
set_option maxRecDepth 100000 in
theorem lifted (os : Os) (started : os.Started) (H : Type) (enc : TypeId × Value → H) :
    ReturnsInHanded {} Try.checked os 6 .any (Rows.syncHearsSpec.pre6 enc Try.prog Try.f6 Rows.syncHearsRow.domain false) (Rows.syncHearsSpec.post enc Try.prog Try.f6 false true false false) := by
  refine returnsInHanded_of_change_sized (C := Try.checked) own started (by kernel_rfl) Try.func6
    (ChangeSpec.witness6 (enc := enc) (C := Try.checked) false ⟨#[], #[.int .i64 0, .slice none 0 0], []⟩ 8 (by kernel_rfl) (by kernel_rfl) (by kernel_rfl) (by kernel_rfl)) ?_
  intro W base args ds gs before hval0 hW _ hsz0 _
  have hsz : (DataW.weightsEach Try.prog (Try.f6.params.toList ++ Rows.syncHearsSpec.plain.varTypes Try.prog) (ds ++ gs)).all (· ≤ reachBytes) = true := hsz0
  clear hsz0
  have hval : ∀ (j : Nat) t v, Try.f6.params[j]? = some t → args[j]? = some v → Value.okWide Try.prog W .any base t v := hval0
  have hW' := hW
  obtain ⟨p, q, hA0, hV, rfl, hfz, hnd⟩ := hW
  have hA : DataW.TrodAll enc Try.prog W 0 (fun _ => true) true Try.f6.params.toList args.toList ds p := hA0
  obtain ⟨rfl, rfl⟩ := trodVars_none hV
  rw [List.append_nil] at hsz
  rw [Try.params6] at hA hval hsz
  have hall := fun W' hb => trodAll_stays (W' := W') laidOut hb (by kernel_rfl) hA
  obtain ⟨v0, vs0, d0, ds0, p0, q0, hargs, rfl, rfl, h0, r0⟩ := trodAll_cons hA
  obtain ⟨v1, vs1, d1, ds1, p1, q1, rfl, rfl, rfl, h1, r1⟩ := trodAll_cons r0
  obtain ⟨rfl, rfl, rfl⟩ := trodAll_nil r1
  obtain rfl : args = #[v0, v1] := by cases args; simp_all
  refine (walkA (hval 0 _ _ rfl rfl) (Rd.of hsz 0 h0 rfl rfl) (hval 1 _ _ rfl rfl) (Rd.of hsz 1 h1 rfl rfl)).mono fun e W' hR => ?_
  obtain ⟨v, L, rfl, hm, rfl, _⟩ := hR
  have hb := hm.below
  exact ⟨_, rfl, _, _, _, [], _, [], hW', trodAll_mk1 (shut_bool Try.underlying4 _), hall W' hb, rfl, hb.frame _, fun h => by cases h⟩
theorem over : Rows.syncHearsRow.holds Try.pinned (OpenSpec.ofChange Rows.syncHearsSpec) :=
  OpenClaim.holds_of_wide 6 Try.f6 rfl rfl rfl rfl rfl rfl rfl ⟨rfl, rfl, rfl, rfl, rfl⟩ rfl rfl rfl rfl rfl (by kernel_rfl) Try.func6 (by kernel_rfl)
    (of_decide_eq_true (by kernel_rfl)) (by unfold Func.isWrapper; first | (rw [if_pos (by decide +kernel)]; kernel_rfl) | (rw [if_neg (by decide +kernel)]; exact ⟨rfl, rfl⟩))
    (fun os started H enc _ => lifted os started H enc)
/-- The statement. -/
theorem proved : Rows.SyncHearsSaid := over
#print axioms proved
end Go.Proofs.Ytpinlpkaflckfaa.syncHears
