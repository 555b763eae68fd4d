/-
  SpanLaws: a number is in what is joined, met, left over, or in none, as it is in one and the other; what is in both, and in one alone, is all; twice none is itself; texts come back.
  Condition: the arguments hold together at most 1048576 values and letters (the second form).
-/
import Derived.Test.YtoelbnhjamddgaaGreatDoorCards
import Derived.Test.YtoelbnhjamddgaaGreatDoorTie
import Derived.Test.YtoelbnhjamddgaaGreatDoorLaidV
import Derived.Test.YtoelbnhjamddgaaGreatDoorOpenT
import Derived.Test.YtoelbnhjamddgaaGreatDoorSpanLaws
import Derived.WalkKit
import Derived.ProofKit
import Derived.OpenShut
import Derived.ChangeMaps5
import Derived.Deep.DeepHandedRow
import Derived.ShutString
import Derived.ChangeOld
set_option linter.unusedSimpArgs false
set_option linter.unusedVariables false
set_option maxRecDepth 100000
namespace Go.Proofs.YtoelbnhjamddgaaGreatDoor.spanLaws
open Go.ChangeShapes Go.WideShapes Go.ChangeAt Go.RowKit Go.Port

set_option maxRecDepth 100000 in
theorem walkA {H : Type} {enc : TypeId × Value → H} {W : World} {base : Nat} {v0 v1 v2 v3 : Value} {d0 d1 d2 d3 : DataW H} {p3 : List MemPlace} (k0 : Value.okWide Tryz.prog W .any base 43 v0) (r0 : Rd enc Tryz.prog W 43 v0.cells.toList)
    (k1 : Value.okWide Tryz.prog W .any base 43 v1) (r1 : Rd enc Tryz.prog W 43 v1.cells.toList)
    (k2 : Value.okWide Tryz.prog W .any base 3 v2) (r2 : Rd enc Tryz.prog W 3 v2.cells.toList)
    (k3 : Value.okWide Tryz.prog W .any base 9 v3) (_r3 : Rd enc Tryz.prog W 9 v3.cells.toList) (hg : Txe W)
    (h3 : DataW.Trod enc Tryz.prog W 0 (fun _ => true) true 9 v3 d3 p3) (hb : Rows.uptoSmall H ([d0, d1, d2, d3] ++ []) = true) :
    Calls Tryz.prog 5 #[v0, v1, v2, v3] W (Ret W [] (isV (.bool true))) := by
  obtain ⟨A, len, cap, rfl, hc⟩ := rd_slice Tryz.underlying43 k0
  rw [hc] at r0
  obtain ⟨A', len', cap', l, e1, e2, e3⟩ := rd_spans r0
  simp only [List.cons.injEq, Value.slice.injEq, and_true] at e1
  obtain ⟨rfl, rfl, rfl⟩ := e1
  obtain ⟨B, lenB, capB, rfl, hcB⟩ := rd_slice Tryz.underlying43 k1
  rw [hcB] at r1
  obtain ⟨B', lenB', capB', m, f1, f2, f3⟩ := rd_spans r1
  simp only [List.cons.injEq, Value.slice.injEq, and_true] at f1
  obtain ⟨rfl, rfl, rfl⟩ := f1
  obtain ⟨n2, rfl, _⟩ := rd_int Tryz.underlying3 k2 r2
  obtain ⟨s, rfl, rfl, _, _⟩ := Go.ChangeMaps.open_string Tryz.underlying9 k3 h3
  have hl := of_decide_eq_true hb
  simp only [List.append_nil, Rows.uptoBulkAll, Rows.uptoBulk] at hl
  rw [tx_data]
  exact walk hg e2 e3 f2 f3 (by omega)

set_option maxRecDepth 100000 in
theorem lifted (os : Os) (started : os.Started) (H : Type) (enc : TypeId × Value → H) (F : Stop.Interp) :
    ReturnsInHanded {} Tryz.checked os 5 .any ((Rows.OpenSpec.upto Rows.spanLawsSpec).preRow enc Tryz.prog Tryz.f5 Rows.spanLawsUptoRow.domain false Rows.spanLawsUptoRow.laid) (((Rows.OpenSpec.upto Rows.spanLawsSpec).at F).post enc Tryz.prog Tryz.f5 false true false false) := by
  have hx : DataW.whole enc Tryz.prog ((laidWorld os).forCall (fun _ _ => 0) ⟨#[], #[.slice none 0 0, .slice none 0 0, .int .i64 0, .string ⟨#[]⟩], []⟩).memory Tryz.f5.params.toList Rows.spanLawsSpec.vars false (#[.slice none 0 0, .slice none 0 0, .int .i64 0, .string ⟨#[]⟩] : Array Value).toList 8 = some ([.nil, .nil, .lit (.int .i64 0), .lit (.string [])], [], []) := by kernel_rfl
  refine returnsInHanded_of_row (C := Tryz.checked) (s := Rows.OpenSpec.upto Rows.spanLawsSpec) own started (by kernel_rfl) Tryz.func5
    (witness_row_at (enc := enc) (C := Tryz.checked) false (laidWorld os) #[.slice none 0 0, .slice none 0 0, .int .i64 0, .string ⟨#[]⟩] rfl (by kernel_rfl) (by kernel_rfl) (by kernel_rfl)
      (OpenSpec.preRow_of_cond 8 hx (by kernel_rfl) (fun k hk => by cases hk; kernel_rfl) (by kernel_rfl) (laidWorld_met os _))) ?_
  intro W base args ds gs before hval0 hW _ hcond hsz0 hL hSh _
  have hg := laid_of hL hSh
  have hsz : (DataW.weightsEach Tryz.prog (Tryz.f5.params.toList ++ Rows.spanLawsSpec.plain.varTypes Tryz.prog) (ds ++ gs)).all (· ≤ reachBytes) = true := hsz0
  clear hsz0
  have hval : ∀ (j : Nat) t v, Tryz.f5.params[j]? = some t → args[j]? = some v → Value.okWide Tryz.prog W .any base t v := hval0
  have hW' := hW
  obtain ⟨p, q, hA0, hV, rfl, hfz, hnd⟩ := hW
  have hA : DataW.TrodAll enc Tryz.prog W 0 (fun _ => true) true Tryz.f5.params.toList args.toList ds p := hA0
  obtain ⟨rfl, rfl⟩ := trodVars_none hV
  rw [List.append_nil] at hsz
  rw [Tryz.params5] at hA hval hsz
  have hall := fun W' hb => trodAll_stays (W' := W') laidOut hb (by kernel_rfl) hA
  obtain ⟨v0, vs0, d0, ds0, p0, q0, hargs, rfl, rfl, h0, r0⟩ := trodAll_cons hA
  obtain ⟨v1, vs1, d1, ds1, p1, q1, rfl, rfl, rfl, h1, r1⟩ := trodAll_cons r0
  obtain ⟨v2, vs2, d2, ds2, p2, q2, rfl, rfl, rfl, h2, r2⟩ := trodAll_cons r1
  obtain ⟨v3, vs3, d3, ds3, p3, q3, rfl, rfl, rfl, h3, r3⟩ := trodAll_cons r2
  obtain ⟨rfl, rfl, rfl⟩ := trodAll_nil r3
  obtain rfl : args = #[v0, v1, v2, v3] := by cases args; simp_all
  refine (walkA (hval 0 _ _ rfl rfl) (Rd.of hsz 0 h0 rfl rfl) (hval 1 _ _ rfl rfl) (Rd.of hsz 1 h1 rfl rfl) (hval 2 _ _ rfl rfl) (Rd.of hsz 2 h2 rfl rfl) (hval 3 _ _ rfl rfl) (Rd.of hsz 3 h3 rfl rfl) hg h3 (hcond _ rfl)).mono fun e W' hR => ?_
  obtain ⟨v, L, rfl, hm, rfl, _⟩ := hR
  have hb := hm.below
  exact ⟨_, rfl, _, _, _, [], _, [], hW', trodAll_mk1 (shut_bool Tryz.underlying4 _), hall W' hb, rfl, hb.frame _, fun h => by cases h⟩
theorem said : Rows.SpanLawsUptoSaid :=
  OpenClaim.holds_of_cond 5 Tryz.f5 rfl rfl rfl rfl rfl rfl rfl ⟨rfl, rfl, rfl, rfl, rfl⟩ rfl rfl rfl rfl rfl (by kernel_rfl) Tryz.func5 (by kernel_rfl)
    (of_decide_eq_true (by kernel_rfl)) (by unfold Func.isWrapper; first | (rw [if_pos (by decide +kernel)]; kernel_rfl) | (rw [if_neg (by decide +kernel)]; exact ⟨rfl, rfl⟩))
    (fun os started H enc _ F => by rw [OpenClaim.pre_eq_preRow]; exact lifted os started H enc F)
/-- No parameter wants a stand-in. -/
theorem plain (f : FuncId) (fn : Func) (hf : Tryz.pinned.checked.prog.funcNamed "portcullis/portlaw1.SpanLaws" = some f) (hfn : Tryz.pinned.checked.prog.funcs[f]? = some fn) :
    true = Tryz.pinned.checked.prog.looks [] ∧ ∀ (j : Nat) t, fn.params[j]? = some t → Tryz.pinned.checked.prog.wantsStandIn t = false := by
  obtain rfl : f = 5 := Option.some.inj ((show Tryz.prog.funcNamed "portcullis/portlaw1.SpanLaws" = some 5 by kernel_rfl).symm.trans hf) |>.symm
  obtain rfl : fn = Tryz.f5 := (Option.some.inj (Tryz.func5.symm.trans hfn)).symm
  refine ⟨by kernel_rfl, fun j t ht => ?_⟩
  rw [Tryz.params5] at ht
  have hm := Array.mem_of_getElem? ht
  obtain rfl | rfl | rfl : t = 43 ∨ t = 3 ∨ t = 9 := by simpa using hm
  · exact (show Tryz.prog.wantsStandIn 43 = false by kernel_rfl)
  · exact (show Tryz.prog.wantsStandIn 3 = false by kernel_rfl)
  · exact (show Tryz.prog.wantsStandIn 9 = false by kernel_rfl)
/-- The statement. -/
theorem proved : Rows.SpanLawsUptoCardSaid :=
  Claim7.holds_tied_plain_at .later [] _ _ _ _ said (fun _ h => by cases h) (by kernel_rfl) (fun _ h => by cases h) spanLawsUpto_row_tie rfl ⟨rfl, rfl⟩ (by kernel_rfl) rfl plain (by kernel_rfl)
#print axioms proved
end Go.Proofs.YtoelbnhjamddgaaGreatDoor.spanLaws
