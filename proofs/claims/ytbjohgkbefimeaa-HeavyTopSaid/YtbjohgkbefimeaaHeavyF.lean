/- maps.Clone at counts. -/
import Derived.Test.YtbjohgkbefimeaaHeavyE
import Derived.Shelf.SlMaps.Clone
set_option linter.unusedSimpArgs false
set_option linter.unusedVariables false
namespace Go.Proofs.Ytbjohgkbefimeaa
open Go.RowKit Go.Port Go.Proofs
set_option maxHeartbeats 2000000 in
theorem clone_world (b : Nat) (es : Array MapEntry) (clock : Nat) (w : World) (hb : w.heap[b]? = some (.map es clock)) :
    Calls Try.prog 16 #[.map (some b)] w fun e w' => e = .returned (.map (some w.heap.size)) ∧ w' = w.alloc (.map es clock) := by
  have hq := fun w => run_eql_map_nil_sl (P := Try.prog) w 42 _ _ (some b) Try.underlying42
  go_enter Try.func16, Try.ntmps16
  go_wp2
  rw [run_callFunc_extern Try.func26 (by kernel_rfl) (by kernel_rfl) (by kernel_rfl) (e := Extern.MapsClone.clone) (by kernel_rfl), run_maps_clone_sl w 42 hb]
  simp only [Result.andThen]
  rw [Oper.upon_value]
  go_wp2
  rw [run_typeAssert_map_sl _ 42 20 _ _ _ Try.underlying42]
  simp only [Result.andThen]
  rw [Oper.upon_value]
  go_wp2
  go_ret
  exact ⟨rfl, rfl⟩
theorem clone_cn {r ck : Nat} {C : Cn} {w : World} (hr : w.heap[r]? = some (kObj kvI (hM C) ck)) : Calls Try.prog 16 #[.map (some r)] w (Ret w [] (fun v L => ∃ r2 : Nat, v = .map (some r2) ∧ L = [[(r2, kObj kvI (hM C) ck)]])) :=
  (clone_world r _ ck w hr).mono fun e w' h => by
    obtain ⟨rfl, rfl⟩ := h
    exact ⟨_, _, rfl, (Mem.refl w).new _, _, rfl, rfl⟩
end Go.Proofs.Ytbjohgkbefimeaa
