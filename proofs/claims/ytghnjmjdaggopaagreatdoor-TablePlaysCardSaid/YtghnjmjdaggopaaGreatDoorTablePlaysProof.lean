/-
  TablePlays: any flows that begin, are offered to, come from elsewhere, or go, at any times: what is refused, what is there.
  No conditions.
-/
import Derived.Test.YtghnjmjdaggopaaGreatDoorCards
import Derived.Test.YtghnjmjdaggopaaGreatDoorTie
import Derived.Test.YtghnjmjdaggopaaGreatDoorLaid
import Derived.Test.YtghnjmjdaggopaaGreatDoorTabJ
import Derived.Test.YtghnjmjdaggopaaGreatDoorFuE
import Derived.WalkKit
import Derived.ProofKit
import Derived.OpenShut
import Derived.Deep.DeepHandedRow
import Derived.ShutString
import Derived.ChangeOld
set_option linter.unusedSimpArgs false
set_option linter.unusedVariables false
set_option maxRecDepth 100000
namespace Go.Proofs.YtghnjmjdaggopaaGreatDoor.tablePlays
open Go.ChangeShapes Go.WideShapes Go.ChangeAt Go.RowKit Go.Port

set_option maxRecDepth 100000 in
theorem walkA {H : Type} {enc : TypeId × Value → H} {W : World} {base : Nat} {v0 v1 v2 v3 : Value} (k0 : Value.okWide Tryz.prog W .any base 3 v0) (r0 : Rd enc Tryz.prog W 3 v0.cells.toList)
    (k1 : Value.okWide Tryz.prog W .any base 22 v1) (r1 : Rd enc Tryz.prog W 22 v1.cells.toList) (k2 : Value.okWide Tryz.prog W .any base 23 v2) (r2 : Rd enc Tryz.prog W 23 v2.cells.toList)
    (k3 : Value.okWide Tryz.prog W .any base 24 v3) (r3 : Rd enc Tryz.prog W 24 v3.cells.toList) (hg : Laid W) :
    Calls Tryz.prog 3 #[v0, v1, v2, v3] W (Ret W [] (isV (.bool true))) := by
  have hi := Tryz.underlying3
  obtain ⟨n0, rfl, _⟩ := rd_int hi k0 r0
  obtain ⟨A, len, cap, rfl, hc⟩ := rd_slice Tryz.underlying22 k1
  rw [hc] at r1
  obtain ⟨A', len', cap', ls, h1, h2, _, _, _, _, h3⟩ := r1.rows Tryz.underlying22 Tryz.underlying35 hi (by kernel_rfl) (by kernel_rfl) (by kernel_rfl) (by kernel_rfl)
  simp only [List.cons.injEq, Value.slice.injEq, and_true] at h1
  obtain ⟨rfl, rfl, rfl⟩ := h1
  obtain ⟨A2, n2, c2, rfl, hc⟩ := rd_slice Tryz.underlying23 k2
  rw [hc] at r2
  obtain ⟨A2', n2', c2', fl, e2, g1, g2⟩ := rd_flows r2
  simp only [List.cons.injEq, Value.slice.injEq, and_true] at e2
  obtain ⟨rfl, rfl, rfl⟩ := e2
  obtain ⟨A3, n3, c3, rfl, hc⟩ := rd_slice Tryz.underlying24 k3
  rw [hc] at r3
  obtain ⟨A3', n3', c3', sl, e3, g3, g4, g5⟩ := rd_segments r3
  simp only [List.cons.injEq, Value.slice.injEq, and_true] at e3
  obtain ⟨rfl, rfl, rfl⟩ := e3
  refine walk hg h2 (fun i v hv => ?_) g1 g2 g3 g4 g5
  rw [List.getElem?_map] at hv
  cases hr : ls[i]? with
  | none => rw [hr] at hv; cases hv
  | some r =>
    rw [hr] at hv
    obtain ⟨q1, q2, _⟩ := h3 r (List.mem_of_getElem? hr)
    exact ⟨r.1, r.2.1, r.2.2.1, r.2.2.2, (Option.some.inj hv).symm, q1, q2⟩

set_option maxRecDepth 100000 in
theorem lifted (os : Os) (started : os.Started) (H : Type) (enc : TypeId × Value → H) (F : Stop.Interp) :
    ReturnsInHanded {} Tryz.checked os 3 .any ((OpenSpec.ofChange Rows.tablePlaysSpec).preRow enc Tryz.prog Tryz.f3 Rows.tablePlaysRow.domain false Rows.tablePlaysRow.laid) (((OpenSpec.ofChange Rows.tablePlaysSpec).at F).post enc Tryz.prog Tryz.f3 false true false false) := by
  have hx : DataW.whole enc Tryz.prog ((laidWorld os).forCall (fun _ _ => 0) ⟨#[], #[.int .i64 0, .slice none 0 0, .slice none 0 0, .slice none 0 0], []⟩).memory Tryz.f3.params.toList Rows.tablePlaysSpec.vars false (#[.int .i64 0, .slice none 0 0, .slice none 0 0, .slice none 0 0] : Array Value).toList 8 = some ([.lit (.int .i64 0), .nil, .nil, .nil], [], []) := by kernel_rfl
  refine returnsInHanded_of_row (C := Tryz.checked) (s := OpenSpec.ofChange Rows.tablePlaysSpec) own started (by kernel_rfl) Tryz.func3
    (witness_row_at (enc := enc) (C := Tryz.checked) false (laidWorld os) #[.int .i64 0, .slice none 0 0, .slice none 0 0, .slice none 0 0] rfl (by kernel_rfl) (by kernel_rfl) (by kernel_rfl)
      (OpenSpec.preRow_of_cond 8 hx (by kernel_rfl) (fun k hk => by cases hk) (by kernel_rfl) (laidWorld_met os _))) ?_
  intro W base args ds gs before hval0 hW _ _ hsz0 hL hSh _
  have hg := laid_of hL
  have hsz : (DataW.weightsEach Tryz.prog (Tryz.f3.params.toList ++ Rows.tablePlaysSpec.plain.varTypes Tryz.prog) (ds ++ gs)).all (· ≤ reachBytes) = true := hsz0
  clear hsz0
  have hval : ∀ (j : Nat) t v, Tryz.f3.params[j]? = some t → args[j]? = some v → Value.okWide Tryz.prog W .any base t v := hval0
  have hW' := hW
  obtain ⟨p, q, hA0, hV, rfl, hfz, hnd⟩ := hW
  have hA : DataW.TrodAll enc Tryz.prog W 0 (fun _ => true) true Tryz.f3.params.toList args.toList ds p := hA0
  obtain ⟨rfl, rfl⟩ := trodVars_none hV
  rw [List.append_nil] at hsz
  rw [Tryz.params3] at hA hval hsz
  have hall := fun W' hb => trodAll_stays (W' := W') laidOut hb (by kernel_rfl) hA
  obtain ⟨v0, vs0, d0, ds0, p0, q0, hargs, rfl, rfl, h0, r0⟩ := trodAll_cons hA
  obtain ⟨v1, vs1, d1, ds1, p1, q1, rfl, rfl, rfl, h1, r1⟩ := trodAll_cons r0
  obtain ⟨v2, vs2, d2, ds2, p2, q2, rfl, rfl, rfl, h2, r2⟩ := trodAll_cons r1
  obtain ⟨v3, vs3, d3, ds3, p3, q3, rfl, rfl, rfl, h3, r3⟩ := trodAll_cons r2
  obtain ⟨rfl, rfl, rfl⟩ := trodAll_nil r3
  obtain rfl : args = #[v0, v1, v2, v3] := by cases args; simp_all
  refine (walkA (hval 0 _ _ rfl rfl) (Rd.of hsz 0 h0 rfl rfl) (hval 1 _ _ rfl rfl) (Rd.of hsz 1 h1 rfl rfl) (hval 2 _ _ rfl rfl) (Rd.of hsz 2 h2 rfl rfl) (hval 3 _ _ rfl rfl) (Rd.of hsz 3 h3 rfl rfl) hg).mono fun e W' hR => ?_
  obtain ⟨v, L, rfl, hm, rfl, _⟩ := hR
  have hb := hm.below
  exact ⟨_, rfl, _, _, _, [], _, [], hW', trodAll_mk1 (shut_bool Tryz.underlying4 _), hall W' hb, rfl, hb.frame _, fun h => by cases h⟩
theorem said : Rows.TablePlaysSaid :=
  OpenClaim.holds_of_cond 3 Tryz.f3 rfl rfl rfl rfl rfl rfl rfl ⟨rfl, rfl, rfl, rfl, rfl⟩ rfl rfl rfl rfl rfl (by kernel_rfl) Tryz.func3 (by kernel_rfl)
    (of_decide_eq_true (by kernel_rfl)) (by unfold Func.isWrapper; first | (rw [if_pos (by decide +kernel)]; kernel_rfl) | (rw [if_neg (by decide +kernel)]; exact ⟨rfl, rfl⟩))
    (fun os started H enc _ F => by rw [OpenClaim.pre_eq_preRow]; exact lifted os started H enc F)
/-- No parameter wants a stand-in. -/
theorem plain (f : FuncId) (fn : Func) (hf : Tryz.pinned.checked.prog.funcNamed "portcullis/portlaw2.TablePlays" = some f) (hfn : Tryz.pinned.checked.prog.funcs[f]? = some fn) :
    true = Tryz.pinned.checked.prog.looks [] ∧ ∀ (j : Nat) t, fn.params[j]? = some t → Tryz.pinned.checked.prog.wantsStandIn t = false := by
  obtain rfl : f = 3 := Option.some.inj ((show Tryz.prog.funcNamed "portcullis/portlaw2.TablePlays" = some 3 by kernel_rfl).symm.trans hf) |>.symm
  obtain rfl : fn = Tryz.f3 := (Option.some.inj (Tryz.func3.symm.trans hfn)).symm
  refine ⟨by kernel_rfl, fun j t ht => ?_⟩
  rw [Tryz.params3] at ht
  have hm := Array.mem_of_getElem? ht
  obtain rfl | rfl | rfl | rfl : t = 3 ∨ t = 22 ∨ t = 23 ∨ t = 24 := by simpa using hm
  · exact (show Tryz.prog.wantsStandIn 3 = false by kernel_rfl)
  · exact (show Tryz.prog.wantsStandIn 22 = false by kernel_rfl)
  · exact (show Tryz.prog.wantsStandIn 23 = false by kernel_rfl)
  · exact (show Tryz.prog.wantsStandIn 24 = false by kernel_rfl)
/-- The statement. -/
theorem proved : Rows.TablePlaysCardSaid :=
  Claim7.holds_tied_plain_at .later [] _ _ _ _ said (fun _ h => by cases h) (by kernel_rfl) (fun _ h => by cases h) tablePlays_row_tie rfl ⟨rfl, rfl⟩ (by kernel_rfl) rfl plain (by kernel_rfl)
#print axioms proved
end Go.Proofs.YtghnjmjdaggopaaGreatDoor.tablePlays
