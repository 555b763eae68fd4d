/-
  SyncTells: any notes that are told, heard of, and due, at any times: what is refused, what is told again, what is left.
  No conditions.
-/
import Derived.Test.YtmocpeekdfkegaaDoorCards
import Derived.Test.YtmocpeekdfkegaaDoorTie
import Derived.Test.YtmocpeekdfkegaaDoorLaid
import Derived.Test.YtmocpeekdfkegaaDoorOpenF
import Derived.Test.YtmocpeekdfkegaaDoorSyncTells
import Derived.WalkKit
import Derived.ProofKit
import Derived.OpenShut
import Derived.Deep.DeepHandedRow
import Derived.ShutString
import Derived.ChangeOld
set_option linter.unusedSimpArgs false
set_option linter.unusedVariables false
set_option maxRecDepth 100000
namespace Go.Proofs.YtmocpeekdfkegaaDoor
open Go.Port Go.RowKit
section
variable {H : Type} {enc : TypeId × Value → H} {w : World}
set_option maxRecDepth 100000 in
theorem rd_note {cs : List Value} (h : Rd enc Tryd.prog w 57 cs) : ∃ x : Nt, cs = x.row := by
  have hT := Tryd.underlying57
  have hl : cs.length = 17 := (h.struct hT).1.trans (by kernel_rfl)
  match cs, hl with
  | [a, b, x0, x1, x2, x3, x4, x5, x6, x7, x8, x9, x10, x11, x12, x13, x14], _ =>
    have hi := Tryd.underlying3
    obtain ⟨wh, e0, _⟩ := Rd.i64 (cs := [a]) (h.field hT 0 0 1 3 rfl (by kernel_rfl)) hi
    obtain ⟨sq, e1, _⟩ := Rd.i64 (cs := [b]) (h.field hT 1 1 1 3 rfl (by kernel_rfl)) hi
    obtain ⟨k, s, f, d, t, st, un, sp, h0, h1, w0, w1, d0, d1, nm, e2⟩ := rd_flow (cs := [x0, x1, x2, x3, x4, x5, x6, x7, x8, x9, x10, x11, x12, x13, x14]) (h.field hT 2 2 15 27 rfl (by kernel_rfl))
    simp only [List.cons.injEq, and_true] at e0 e1
    subst e0 e1
    rw [e2]
    exact ⟨⟨wh, sq, ⟨k, s, f, d, t, st, un, sp, h0, h1, w0, w1, d0, d1, nm⟩⟩, rfl⟩
set_option maxRecDepth 100000 in
theorem rd_notes {cs : List Value} (h : Rd enc Tryd.prog w 50 cs) : ∃ A len cap, ∃ l : List Nt, cs = [.slice A len cap] ∧ IsSl w 17 A len cap (l.flatMap Nt.row) ∧ len = l.length := by
  obtain ⟨A, len, cap, l, h1, h2, h3, _⟩ := h.slice Tryd.underlying50 (f := Nt.row) (ok := fun _ => True) (sz := 17) (by kernel_rfl) (by decide) (fun _ => rfl) (fun cs hc => by
    obtain ⟨x, rfl⟩ := rd_note hc
    exact ⟨x, rfl, trivial⟩)
  exact ⟨A, len, cap, l, h1, h2, h3⟩
end
end Go.Proofs.YtmocpeekdfkegaaDoor
namespace Go.Proofs.YtmocpeekdfkegaaDoor.syncTells
open Go.ChangeShapes Go.WideShapes Go.ChangeAt Go.RowKit Go.Port

set_option maxRecDepth 100000 in
theorem walkA {H : Type} {enc : TypeId × Value → H} {W : World} {base : Nat} {v0 v1 v2 : Value} (k0 : Value.okWide Tryd.prog W .any base 3 v0) (r0 : Rd enc Tryd.prog W 3 v0.cells.toList)
    (k1 : Value.okWide Tryd.prog W .any base 49 v1) (r1 : Rd enc Tryd.prog W 49 v1.cells.toList) (k2 : Value.okWide Tryd.prog W .any base 50 v2) (r2 : Rd enc Tryd.prog W 50 v2.cells.toList) (hg : Laid W) :
    Calls Tryd.prog 6 #[v0, v1, v2] W (Ret W [] (isV (.bool true))) := by
  have hi := Tryd.underlying3
  obtain ⟨n0, rfl, _⟩ := rd_int hi k0 r0
  obtain ⟨A, len, cap, rfl, hc⟩ := rd_slice Tryd.underlying49 k1
  rw [hc] at r1
  obtain ⟨A', len', cap', ls, h1, h2, _, _, _, _, h3⟩ := r1.rows Tryd.underlying49 Tryd.underlying47 hi (by kernel_rfl) (by kernel_rfl) (by kernel_rfl) (by kernel_rfl)
  simp only [List.cons.injEq, Value.slice.injEq, and_true] at h1
  obtain ⟨rfl, rfl, rfl⟩ := h1
  obtain ⟨A2, n2, c2, rfl, hc2⟩ := rd_slice Tryd.underlying50 k2
  rw [hc2] at r2
  obtain ⟨A2', n2', c2', ns, e1, g1, g2⟩ := rd_notes r2
  simp only [List.cons.injEq, Value.slice.injEq, and_true] at e1
  obtain ⟨rfl, rfl, rfl⟩ := e1
  refine walk n0 A len cap _ A2 n2 c2 ns W hg h2 (fun i v hv => ?_) g1 g2
  rw [List.getElem?_map] at hv
  cases hr : ls[i]? with
  | none => rw [hr] at hv; cases hv
  | some r =>
    rw [hr] at hv
    exact ⟨r.1, r.2.1, r.2.2.1, r.2.2.2, (Option.some.inj hv).symm, (h3 r (List.mem_of_getElem? hr)).1⟩

set_option maxRecDepth 100000 in
theorem lifted (os : Os) (started : os.Started) (H : Type) (enc : TypeId × Value → H) (F : Stop.Interp) :
    ReturnsInHanded {} Tryd.checked os 6 .any ((OpenSpec.ofChange Rows.syncTellsSpec).preRow enc Tryd.prog Tryd.f6 Rows.syncTellsRow.domain false Rows.syncTellsRow.laid) (((OpenSpec.ofChange Rows.syncTellsSpec).at F).post enc Tryd.prog Tryd.f6 false true false false) := by
  have hx : DataW.whole enc Tryd.prog ((laidWorld os).forCall (fun _ _ => 0) ⟨#[], #[.int .i64 0, .slice none 0 0, .slice none 0 0], []⟩).memory Tryd.f6.params.toList Rows.syncTellsSpec.vars false (#[.int .i64 0, .slice none 0 0, .slice none 0 0] : Array Value).toList 8 = some ([.lit (.int .i64 0), .nil, .nil], [], []) := by kernel_rfl
  refine returnsInHanded_of_row (C := Tryd.checked) (s := OpenSpec.ofChange Rows.syncTellsSpec) own started (by kernel_rfl) Tryd.func6
    (witness_row_at (enc := enc) (C := Tryd.checked) false (laidWorld os) #[.int .i64 0, .slice none 0 0, .slice none 0 0] rfl (by kernel_rfl) (by kernel_rfl) (by kernel_rfl)
      (OpenSpec.preRow_of_cond 8 hx (by kernel_rfl) (fun k hk => by cases hk) (by kernel_rfl) (laidWorld_met os _))) ?_
  intro W base args ds gs before hval0 hW _ _ hsz0 hL _ _
  have hg : Laid W := laid_of hL
  have hsz : (DataW.weightsEach Tryd.prog (Tryd.f6.params.toList ++ Rows.syncTellsSpec.plain.varTypes Tryd.prog) (ds ++ gs)).all (· ≤ reachBytes) = true := hsz0
  clear hsz0
  have hval : ∀ (j : Nat) t v, Tryd.f6.params[j]? = some t → args[j]? = some v → Value.okWide Tryd.prog W .any base t v := hval0
  have hW' := hW
  obtain ⟨p, q, hA0, hV, rfl, hfz, hnd⟩ := hW
  have hA : DataW.TrodAll enc Tryd.prog W 0 (fun _ => true) true Tryd.f6.params.toList args.toList ds p := hA0
  obtain ⟨rfl, rfl⟩ := trodVars_none hV
  rw [List.append_nil] at hsz
  rw [Tryd.params6] at hA hval hsz
  have hall := fun W' hb => trodAll_stays (W' := W') laidOut hb (by kernel_rfl) hA
  obtain ⟨v0, vs0, d0, ds0, p0, q0, hargs, rfl, rfl, h0, r0⟩ := trodAll_cons hA
  obtain ⟨v1, vs1, d1, ds1, p1, q1, rfl, rfl, rfl, h1, r1⟩ := trodAll_cons r0
  obtain ⟨v2, vs2, d2, ds2, p2, q2, rfl, rfl, rfl, h2, r2⟩ := trodAll_cons r1
  obtain ⟨rfl, rfl, rfl⟩ := trodAll_nil r2
  obtain rfl : args = #[v0, v1, v2] := by cases args; simp_all
  refine (walkA (hval 0 _ _ rfl rfl) (Rd.of hsz 0 h0 rfl rfl) (hval 1 _ _ rfl rfl) (Rd.of hsz 1 h1 rfl rfl) (hval 2 _ _ rfl rfl) (Rd.of hsz 2 h2 rfl rfl) hg).mono fun e W' hR => ?_
  obtain ⟨v, L, rfl, hm, rfl, _⟩ := hR
  have hb := hm.below
  exact ⟨_, rfl, _, _, _, [], _, [], hW', trodAll_mk1 (shut_bool Tryd.underlying4 _), hall W' hb, rfl, hb.frame _, fun h => by cases h⟩
theorem said : Rows.SyncTellsSaid :=
  OpenClaim.holds_of_cond 6 Tryd.f6 rfl rfl rfl rfl rfl rfl rfl ⟨rfl, rfl, rfl, rfl, rfl⟩ rfl rfl rfl rfl rfl (by kernel_rfl) Tryd.func6 (by kernel_rfl)
    (of_decide_eq_true (by kernel_rfl)) (by unfold Func.isWrapper; first | (rw [if_pos (by decide +kernel)]; kernel_rfl) | (rw [if_neg (by decide +kernel)]; exact ⟨rfl, rfl⟩))
    (fun os started H enc _ F => by rw [OpenClaim.pre_eq_preRow]; exact lifted os started H enc F)
/-- No parameter wants a stand-in. -/
theorem plain (f : FuncId) (fn : Func) (hf : Tryd.pinned.checked.prog.funcNamed "portcullis/portlaw2.SyncTells" = some f) (hfn : Tryd.pinned.checked.prog.funcs[f]? = some fn) :
    true = Tryd.pinned.checked.prog.looks [] ∧ ∀ (j : Nat) t, fn.params[j]? = some t → Tryd.pinned.checked.prog.wantsStandIn t = false := by
  obtain rfl : f = 6 := Option.some.inj ((show Tryd.prog.funcNamed "portcullis/portlaw2.SyncTells" = some 6 by kernel_rfl).symm.trans hf) |>.symm
  obtain rfl : fn = Tryd.f6 := (Option.some.inj (Tryd.func6.symm.trans hfn)).symm
  refine ⟨by kernel_rfl, fun j t ht => ?_⟩
  rw [Tryd.params6] at ht
  have hm := Array.mem_of_getElem? ht
  obtain rfl | rfl | rfl : t = 3 ∨ t = 49 ∨ t = 50 := by simpa using hm
  · exact (show Tryd.prog.wantsStandIn 3 = false by kernel_rfl)
  · exact (show Tryd.prog.wantsStandIn 49 = false by kernel_rfl)
  · exact (show Tryd.prog.wantsStandIn 50 = false by kernel_rfl)
/-- The statement. -/
theorem proved : Rows.SyncTellsCardSaid :=
  Claim7.holds_tied_plain_at .later [] _ _ _ _ said (fun _ h => by cases h) (by kernel_rfl) (fun _ h => by cases h) syncTells_row_tie rfl ⟨rfl, rfl⟩ (by kernel_rfl) rfl plain (by kernel_rfl)
#print axioms proved
end Go.Proofs.YtmocpeekdfkegaaDoor.syncTells
