/-
  FragBack: WHAT IS CUT IS PUT TOGETHER, outright: the pieces of a packet, in any order, come to it at the last of them, and not ahead of it; a second one of any makes it bad for good.
  No conditions.
-/
import Derived.Test.YtlpdapfihgpheaaDoorCards
import Derived.Test.YtlpdapfihgpheaaDoorTie
import Derived.Test.YtlpdapfihgpheaaDoorLaid
import Derived.Test.YtlpdapfihgpheaaDoorOpen
import Derived.Test.YtlpdapfihgpheaaDoorFragBackV
import Derived.WalkKit
import Derived.ProofKit
import Derived.OpenShut
import Derived.Deep.DeepHandedRow
import Derived.ShutString
import Derived.ChangeOld
set_option linter.unusedSimpArgs false
set_option linter.unusedVariables false
set_option maxRecDepth 100000
namespace Go.Proofs.YtlpdapfihgpheaaDoor.fragBack
open Go.ChangeShapes Go.WideShapes Go.ChangeAt Go.RowKit Go.Port

set_option maxRecDepth 100000 in
theorem walkA {H : Type} {enc : TypeId × Value → H} {W : World} {base : Nat} {v0 v1 v2 v3 : Value} (k0 : Value.okWide Tryd.prog W .any base 24 v0) (r0 : Rd enc Tryd.prog W 24 v0.cells.toList)
    (k1 : Value.okWide Tryd.prog W .any base 3 v1) (r1 : Rd enc Tryd.prog W 3 v1.cells.toList)
    (k2 : Value.okWide Tryd.prog W .any base 35 v2) (r2 : Rd enc Tryd.prog W 35 v2.cells.toList)
    (k3 : Value.okWide Tryd.prog W .any base 3 v3) (r3 : Rd enc Tryd.prog W 3 v3.cells.toList) (hg : Laid W) :
    Calls Tryd.prog 5 #[v0, v1, v2, v3] W (Ret W [] (isV (.bool true))) := by
  obtain ⟨cs, rfl, hcs⟩ := agg_of Tryd.underlying24 k0
  rw [hcs] at r0
  obtain ⟨k, t, i, s, d, a, m, A, len, cap, l, rfl, hrow, _, hc1, hc2, hlen⟩ := rd_packet r0
  obtain ⟨n, rfl, _⟩ := rd_int Tryd.underlying3 k1 r1
  obtain ⟨Ao, no, co, rfl, _⟩ := rd_slice Tryd.underlying35 k2
  obtain ⟨Ao', no', co', os, e, hord, _, hc3, hc4, hno⟩ := Rd.ints (cs := [.slice Ao no co]) r2 Tryd.underlying35 Tryd.underlying3 (by kernel_rfl) (by kernel_rfl)
  simp only [List.cons.injEq, Value.slice.injEq, and_true] at e
  obtain ⟨rfl, rfl, rfl⟩ := e
  obtain ⟨tw, rfl, _⟩ := rd_int Tryd.underlying3 k3 r3
  exact walk k t i s d a m n tw hg hrow hc1 hord (by omega)

set_option maxRecDepth 100000 in
theorem lifted (os : Os) (started : os.Started) (H : Type) (enc : TypeId × Value → H) (F : Stop.Interp) :
    ReturnsInHanded {} Tryd.checked os 5 .any ((OpenSpec.ofChange Rows.fragBackSpec).preRow enc Tryd.prog Tryd.f5 Rows.fragBackRow.domain false Rows.fragBackRow.laid) (((OpenSpec.ofChange Rows.fragBackSpec).at F).post enc Tryd.prog Tryd.f5 false true false false) := by
  have hx : DataW.whole enc Tryd.prog ((laidWorld os).forCall (fun _ _ => 0) ⟨#[], #[.agg #[.int .i64 0, .int .i64 0, .int .i64 0, .int .i64 0, .int .i64 0, .int .i64 0, .bool false, .slice none 0 0], .int .i64 0, .slice none 0 0, .int .i64 0], []⟩).memory Tryd.f5.params.toList Rows.fragBackSpec.vars false (#[.agg #[.int .i64 0, .int .i64 0, .int .i64 0, .int .i64 0, .int .i64 0, .int .i64 0, .bool false, .slice none 0 0], .int .i64 0, .slice none 0 0, .int .i64 0] : Array Value).toList 8 = some ([.agg [.lit (.int .i64 0), .lit (.int .i64 0), .lit (.int .i64 0), .lit (.int .i64 0), .lit (.int .i64 0), .lit (.int .i64 0), .lit (.bool false), .nil], .lit (.int .i64 0), .nil, .lit (.int .i64 0)], [], []) := by kernel_rfl
  refine returnsInHanded_of_row (C := Tryd.checked) (s := OpenSpec.ofChange Rows.fragBackSpec) own started (by kernel_rfl) Tryd.func5
    (witness_row_at (enc := enc) (C := Tryd.checked) false (laidWorld os) #[.agg #[.int .i64 0, .int .i64 0, .int .i64 0, .int .i64 0, .int .i64 0, .int .i64 0, .bool false, .slice none 0 0], .int .i64 0, .slice none 0 0, .int .i64 0] rfl (by kernel_rfl) (by kernel_rfl) (by kernel_rfl)
      (OpenSpec.preRow_of_cond 8 hx (by kernel_rfl) (fun k hk => by cases hk) (by kernel_rfl) (laidWorld_met os _))) ?_
  intro W base args ds gs before hval0 hW _ _ hsz0 hL hSh _
  have hg := laid_of hL
  have hsz : (DataW.weightsEach Tryd.prog (Tryd.f5.params.toList ++ Rows.fragBackSpec.plain.varTypes Tryd.prog) (ds ++ gs)).all (· ≤ reachBytes) = true := hsz0
  clear hsz0
  have hval : ∀ (j : Nat) t v, Tryd.f5.params[j]? = some t → args[j]? = some v → Value.okWide Tryd.prog W .any base t v := hval0
  have hW' := hW
  obtain ⟨p, q, hA0, hV, rfl, hfz, hnd⟩ := hW
  have hA : DataW.TrodAll enc Tryd.prog W 0 (fun _ => true) true Tryd.f5.params.toList args.toList ds p := hA0
  obtain ⟨rfl, rfl⟩ := trodVars_none hV
  rw [List.append_nil] at hsz
  rw [Tryd.params5] at hA hval hsz
  have hall := fun W' hb => trodAll_stays (W' := W') laidOut hb (by kernel_rfl) hA
  obtain ⟨v0, vs0, d0, ds0, p0, q0, hargs, rfl, rfl, h0, r0⟩ := trodAll_cons hA
  obtain ⟨v1, vs1, d1, ds1, p1, q1, rfl, rfl, rfl, h1, r1⟩ := trodAll_cons r0
  obtain ⟨v2, vs2, d2, ds2, p2, q2, rfl, rfl, rfl, h2, r2⟩ := trodAll_cons r1
  obtain ⟨v3, vs3, d3, ds3, p3, q3, rfl, rfl, rfl, h3, r3⟩ := trodAll_cons r2
  obtain ⟨rfl, rfl, rfl⟩ := trodAll_nil r3
  obtain rfl : args = #[v0, v1, v2, v3] := by cases args; simp_all
  refine (walkA (hval 0 _ _ rfl rfl) (Rd.of hsz 0 h0 rfl rfl) (hval 1 _ _ rfl rfl) (Rd.of hsz 1 h1 rfl rfl) (hval 2 _ _ rfl rfl) (Rd.of hsz 2 h2 rfl rfl) (hval 3 _ _ rfl rfl) (Rd.of hsz 3 h3 rfl rfl) hg).mono fun e W' hR => ?_
  obtain ⟨v, L, rfl, hm, rfl, _⟩ := hR
  have hb := hm.below
  exact ⟨_, rfl, _, _, _, [], _, [], hW', trodAll_mk1 (shut_bool Tryd.underlying4 _), hall W' hb, rfl, hb.frame _, fun h => by cases h⟩
theorem said : Rows.FragBackSaid :=
  OpenClaim.holds_of_cond 5 Tryd.f5 rfl rfl rfl rfl rfl rfl rfl ⟨rfl, rfl, rfl, rfl, rfl⟩ rfl rfl rfl rfl rfl (by kernel_rfl) Tryd.func5 (by kernel_rfl)
    (of_decide_eq_true (by kernel_rfl)) (by unfold Func.isWrapper; first | (rw [if_pos (by decide +kernel)]; kernel_rfl) | (rw [if_neg (by decide +kernel)]; exact ⟨rfl, rfl⟩))
    (fun os started H enc _ F => by rw [OpenClaim.pre_eq_preRow]; exact lifted os started H enc F)
/-- No parameter wants a stand-in. -/
theorem plain (f : FuncId) (fn : Func) (hf : Tryd.pinned.checked.prog.funcNamed "portcullis/portlaw2.FragBack" = some f) (hfn : Tryd.pinned.checked.prog.funcs[f]? = some fn) :
    true = Tryd.pinned.checked.prog.looks [] ∧ ∀ (j : Nat) t, fn.params[j]? = some t → Tryd.pinned.checked.prog.wantsStandIn t = false := by
  obtain rfl : f = 5 := Option.some.inj ((show Tryd.prog.funcNamed "portcullis/portlaw2.FragBack" = some 5 by kernel_rfl).symm.trans hf) |>.symm
  obtain rfl : fn = Tryd.f5 := (Option.some.inj (Tryd.func5.symm.trans hfn)).symm
  refine ⟨by kernel_rfl, fun j t ht => ?_⟩
  rw [Tryd.params5] at ht
  have hm := Array.mem_of_getElem? ht
  obtain rfl | rfl | rfl | rfl : t = 24 ∨ t = 3 ∨ t = 35 ∨ t = 3 := by simpa using hm
  · exact (show Tryd.prog.wantsStandIn 24 = false by kernel_rfl)
  · exact (show Tryd.prog.wantsStandIn 3 = false by kernel_rfl)
  · exact (show Tryd.prog.wantsStandIn 35 = false by kernel_rfl)
  · exact (show Tryd.prog.wantsStandIn 3 = false by kernel_rfl)
/-- The statement. -/
theorem proved : Rows.FragBackCardSaid :=
  Claim7.holds_tied_plain_at .later [] _ _ _ _ said (fun _ h => by cases h) (by kernel_rfl) (fun _ h => by cases h) fragBack_row_tie rfl ⟨rfl, rfl⟩ (by kernel_rfl) rfl plain (by kernel_rfl)
#print axioms proved
end Go.Proofs.YtlpdapfihgpheaaDoor.fragBack
