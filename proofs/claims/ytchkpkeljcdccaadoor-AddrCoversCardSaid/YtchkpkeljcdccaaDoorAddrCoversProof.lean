/-
  AddrCovers: what any prefix has, and is inside, the fewest prefixes from any address to any other one, and of any prefixes.
  No conditions.
-/
import Derived.Test.YtchkpkeljcdccaaDoorCards
import Derived.Test.YtchkpkeljcdccaaDoorTie
import Derived.Test.YtchkpkeljcdccaaDoorLaid
import Derived.Test.YtchkpkeljcdccaaDoorOpenV
import Derived.Test.YtchkpkeljcdccaaDoorAddrCovers
import Derived.WalkKit
import Derived.ProofKit
import Derived.OpenShut
import Derived.Deep.DeepHandedRow
import Derived.ShutString
import Derived.ChangeOld
set_option linter.unusedSimpArgs false
set_option linter.unusedVariables false
set_option maxRecDepth 100000
namespace Go.Proofs.YtchkpkeljcdccaaDoor.addrCovers
open Go.ChangeShapes Go.WideShapes Go.ChangeAt Go.RowKit Go.Port

set_option maxRecDepth 100000 in
theorem walkA {H : Type} {enc : TypeId × Value → H} {W : World} {base : Nat} {v0 v1 v2 v3 v4 v5 : Value} (k0 : Value.okWide Tryd.prog W .any base 23 v0) (r0 : Rd enc Tryd.prog W 23 v0.cells.toList)
    (k1 : Value.okWide Tryd.prog W .any base 23 v1) (r1 : Rd enc Tryd.prog W 23 v1.cells.toList)
    (k2 : Value.okWide Tryd.prog W .any base 3 v2) (r2 : Rd enc Tryd.prog W 3 v2.cells.toList)
    (k3 : Value.okWide Tryd.prog W .any base 3 v3) (r3 : Rd enc Tryd.prog W 3 v3.cells.toList)
    (k4 : Value.okWide Tryd.prog W .any base 3 v4) (r4 : Rd enc Tryd.prog W 3 v4.cells.toList)
    (k5 : Value.okWide Tryd.prog W .any base 24 v5) (r5 : Rd enc Tryd.prog W 24 v5.cells.toList) (hg : Laid W) :
    Calls Tryd.prog 3 #[v0, v1, v2, v3, v4, v5] W (Ret W [] (isV (.bool true))) := by
  obtain ⟨cs, rfl, hcs⟩ := agg_of Tryd.underlying23 k0
  rw [hcs] at r0
  obtain ⟨⟨pa, pn⟩, rfl⟩ := rd_px r0
  obtain ⟨cs, rfl, hcs⟩ := agg_of Tryd.underlying23 k1
  rw [hcs] at r1
  obtain ⟨⟨qa, qn⟩, rfl⟩ := rd_px r1
  obtain ⟨n2, rfl, _⟩ := rd_int Tryd.underlying3 k2 r2
  obtain ⟨n3, rfl, _⟩ := rd_int Tryd.underlying3 k3 r3
  obtain ⟨n4, rfl, _⟩ := rd_int Tryd.underlying3 k4 r4
  obtain ⟨A, len, cap, rfl, hc⟩ := rd_slice Tryd.underlying24 k5
  rw [hc] at r5
  obtain ⟨A', len', cap', l, e1, e2, e3⟩ := rd_pxs r5
  simp only [List.cons.injEq, Value.slice.injEq, and_true] at e1
  obtain ⟨rfl, rfl, rfl⟩ := e1
  exact walk hg e2 e3

set_option maxRecDepth 100000 in
theorem lifted (os : Os) (started : os.Started) (H : Type) (enc : TypeId × Value → H) (F : Stop.Interp) :
    ReturnsInHanded {} Tryd.checked os 3 .any ((OpenSpec.ofChange Rows.addrCoversSpec).preRow enc Tryd.prog Tryd.f3 Rows.addrCoversRow.domain false Rows.addrCoversRow.laid) (((OpenSpec.ofChange Rows.addrCoversSpec).at F).post enc Tryd.prog Tryd.f3 false true false false) := by
  have hx : DataW.whole enc Tryd.prog ((laidWorld os).forCall (fun _ _ => 0) ⟨#[], #[.agg #[.int .i64 0, .int .i64 0], .agg #[.int .i64 0, .int .i64 0], .int .i64 0, .int .i64 0, .int .i64 0, .slice none 0 0], []⟩).memory Tryd.f3.params.toList Rows.addrCoversSpec.vars false (#[.agg #[.int .i64 0, .int .i64 0], .agg #[.int .i64 0, .int .i64 0], .int .i64 0, .int .i64 0, .int .i64 0, .slice none 0 0] : Array Value).toList 8 = some ([.agg [.lit (.int .i64 0), .lit (.int .i64 0)], .agg [.lit (.int .i64 0), .lit (.int .i64 0)], .lit (.int .i64 0), .lit (.int .i64 0), .lit (.int .i64 0), .nil], [], []) := by kernel_rfl
  refine returnsInHanded_of_row (C := Tryd.checked) (s := OpenSpec.ofChange Rows.addrCoversSpec) own started (by kernel_rfl) Tryd.func3
    (witness_row_at (enc := enc) (C := Tryd.checked) false (laidWorld os) #[.agg #[.int .i64 0, .int .i64 0], .agg #[.int .i64 0, .int .i64 0], .int .i64 0, .int .i64 0, .int .i64 0, .slice none 0 0] rfl (by kernel_rfl) (by kernel_rfl) (by kernel_rfl)
      (OpenSpec.preRow_of_cond 8 hx (by kernel_rfl) (fun k hk => by cases hk) (by kernel_rfl) (laidWorld_met os _))) ?_
  intro W base args ds gs before hval0 hW _ _ hsz0 hL _ _
  have hg : Laid W := laid_of hL
  have hsz : (DataW.weightsEach Tryd.prog (Tryd.f3.params.toList ++ Rows.addrCoversSpec.plain.varTypes Tryd.prog) (ds ++ gs)).all (· ≤ reachBytes) = true := hsz0
  clear hsz0
  have hval : ∀ (j : Nat) t v, Tryd.f3.params[j]? = some t → args[j]? = some v → Value.okWide Tryd.prog W .any base t v := hval0
  have hW' := hW
  obtain ⟨p, q, hA0, hV, rfl, hfz, hnd⟩ := hW
  have hA : DataW.TrodAll enc Tryd.prog W 0 (fun _ => true) true Tryd.f3.params.toList args.toList ds p := hA0
  obtain ⟨rfl, rfl⟩ := trodVars_none hV
  rw [List.append_nil] at hsz
  rw [Tryd.params3] at hA hval hsz
  have hall := fun W' hb => trodAll_stays (W' := W') laidOut hb (by kernel_rfl) hA
  obtain ⟨v0, vs0, d0, ds0, p0, q0, hargs, rfl, rfl, h0, r0⟩ := trodAll_cons hA
  obtain ⟨v1, vs1, d1, ds1, p1, q1, rfl, rfl, rfl, h1, r1⟩ := trodAll_cons r0
  obtain ⟨v2, vs2, d2, ds2, p2, q2, rfl, rfl, rfl, h2, r2⟩ := trodAll_cons r1
  obtain ⟨v3, vs3, d3, ds3, p3, q3, rfl, rfl, rfl, h3, r3⟩ := trodAll_cons r2
  obtain ⟨v4, vs4, d4, ds4, p4, q4, rfl, rfl, rfl, h4, r4⟩ := trodAll_cons r3
  obtain ⟨v5, vs5, d5, ds5, p5, q5, rfl, rfl, rfl, h5, r5⟩ := trodAll_cons r4
  obtain ⟨rfl, rfl, rfl⟩ := trodAll_nil r5
  obtain rfl : args = #[v0, v1, v2, v3, v4, v5] := by cases args; simp_all
  refine (walkA (hval 0 _ _ rfl rfl) (Rd.of hsz 0 h0 rfl rfl) (hval 1 _ _ rfl rfl) (Rd.of hsz 1 h1 rfl rfl) (hval 2 _ _ rfl rfl) (Rd.of hsz 2 h2 rfl rfl) (hval 3 _ _ rfl rfl) (Rd.of hsz 3 h3 rfl rfl) (hval 4 _ _ rfl rfl) (Rd.of hsz 4 h4 rfl rfl) (hval 5 _ _ rfl rfl) (Rd.of hsz 5 h5 rfl rfl) hg).mono fun e W' hR => ?_
  obtain ⟨v, L, rfl, hm, rfl, _⟩ := hR
  have hb := hm.below
  exact ⟨_, rfl, _, _, _, [], _, [], hW', trodAll_mk1 (shut_bool Tryd.underlying4 _), hall W' hb, rfl, hb.frame _, fun h => by cases h⟩
theorem said : Rows.AddrCoversSaid :=
  OpenClaim.holds_of_cond 3 Tryd.f3 rfl rfl rfl rfl rfl rfl rfl ⟨rfl, rfl, rfl, rfl, rfl⟩ rfl rfl rfl rfl rfl (by kernel_rfl) Tryd.func3 (by kernel_rfl)
    (of_decide_eq_true (by kernel_rfl)) (by unfold Func.isWrapper; first | (rw [if_pos (by decide +kernel)]; kernel_rfl) | (rw [if_neg (by decide +kernel)]; exact ⟨rfl, rfl⟩))
    (fun os started H enc _ F => by rw [OpenClaim.pre_eq_preRow]; exact lifted os started H enc F)
/-- No parameter wants a stand-in. -/
theorem plain (f : FuncId) (fn : Func) (hf : Tryd.pinned.checked.prog.funcNamed "portcullis/portlaw1.AddrCovers" = some f) (hfn : Tryd.pinned.checked.prog.funcs[f]? = some fn) :
    true = Tryd.pinned.checked.prog.looks [] ∧ ∀ (j : Nat) t, fn.params[j]? = some t → Tryd.pinned.checked.prog.wantsStandIn t = false := by
  obtain rfl : f = 3 := Option.some.inj ((show Tryd.prog.funcNamed "portcullis/portlaw1.AddrCovers" = some 3 by kernel_rfl).symm.trans hf) |>.symm
  obtain rfl : fn = Tryd.f3 := (Option.some.inj (Tryd.func3.symm.trans hfn)).symm
  refine ⟨by kernel_rfl, fun j t ht => ?_⟩
  rw [Tryd.params3] at ht
  have hm := Array.mem_of_getElem? ht
  obtain rfl | rfl | rfl : t = 23 ∨ t = 3 ∨ t = 24 := by simpa using hm
  · exact (show Tryd.prog.wantsStandIn 23 = false by kernel_rfl)
  · exact (show Tryd.prog.wantsStandIn 3 = false by kernel_rfl)
  · exact (show Tryd.prog.wantsStandIn 24 = false by kernel_rfl)
/-- The statement. -/
theorem proved : Rows.AddrCoversCardSaid :=
  Claim7.holds_tied_plain_at .later [] _ _ _ _ said (fun _ h => by cases h) (by kernel_rfl) (fun _ h => by cases h) addrCovers_row_tie rfl ⟨rfl, rfl⟩ (by kernel_rfl) rfl plain (by kernel_rfl)
#print axioms proved
end Go.Proofs.YtchkpkeljcdccaaDoor.addrCovers
