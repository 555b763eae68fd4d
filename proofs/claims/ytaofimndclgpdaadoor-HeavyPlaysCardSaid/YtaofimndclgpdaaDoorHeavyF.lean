/- maps.Clone at counts. -/
import Derived.Test.YtaofimndclgpdaaDoorHeavyE
import Derived.Shelf.SlMaps.Clone
set_option linter.unusedSimpArgs false
set_option linter.unusedVariables false
namespace Go.Proofs.YtaofimndclgpdaaDoor
open Go.RowKit Go.Port Go.Proofs
set_option maxRecDepth 100000 in
set_option maxHeartbeats 2000000 in
theorem clone_world (b : Nat) (es : Array MapEntry) (clock : Nat) (w : World) (hb : w.heap[b]? = some (.map es clock)) :
    Calls Tryd.prog 23 #[.map (some b)] w fun e w' => e = .returned (.map (some w.heap.size)) ∧ w' = w.alloc (.map es clock) := by
  have hq := fun w => run_eql_map_nil_sl (P := Tryd.prog) w 48 _ _ (some b) Tryd.underlying48
  go_enter Tryd.func23, Tryd.ntmps23
  go_wp2
  rw [run_callFunc_extern Tryd.func34 (by kernel_rfl) (by kernel_rfl) (by kernel_rfl) (e := Extern.MapsClone.clone) (by kernel_rfl), run_maps_clone_sl w 48 hb]
  simp only [Result.andThen]
  rw [Oper.upon_value]
  go_wp2
  rw [run_typeAssert_map_sl _ 48 20 _ _ _ Tryd.underlying48]
  simp only [Result.andThen]
  rw [Oper.upon_value]
  go_wp2
  go_ret
  exact ⟨rfl, rfl⟩
theorem clone_cn {r ck : Nat} {C : Cn} {w : World} (hr : w.heap[r]? = some (kObj kvI (hM C) ck)) : Calls Tryd.prog 23 #[.map (some r)] w (Ret w [] (fun v L => ∃ r2 : Nat, v = .map (some r2) ∧ L = [[(r2, kObj kvI (hM C) ck)]])) :=
  (clone_world r _ ck w hr).mono fun e w' h => by
    obtain ⟨rfl, rfl⟩ := h
    exact ⟨_, _, rfl, (Mem.refl w).new _, _, rfl, rfl⟩
end Go.Proofs.YtaofimndclgpdaaDoor
