/- Answers of track: a flow in a cell and an error. -/
import Derived.Test.YtcnnldlpcpcemaaDoorTrackB
import Derived.Test.YtcnnldlpcpcemaaDoorSegBd
set_option linter.unusedSimpArgs false
set_option linter.unusedVariables false
namespace Go.Proofs.YtcnnldlpcpcemaaDoor
open Go.RowKit Go.Port
attribute [local irreducible] Calls
theorem qx_retD2 {P : Program} {w0 : World} {D : List Nat} {n : Nat} {g : Nat → Value} {F : List (Nat × Value)} {L : List Ch} {fn : Func} {R : Value → List Ch → Prop} {t u b : Nat} {T sz : Nat} [TyT P T sz true] {x : Value} {cs : List Value} {T' : TypeId} {fr : Nat × Nat} (i : Nat) (L' : List Ch) (h : fn.results = #[.cell t T, .tmp u])
    (ht : evn n (get g F) (.tmp t) = .pointer (some ⟨b, 0, none⟩)) (hL : L[i]? = some [(b, .cells cs.toArray T' fr)]) (hl : cs.length = sz) (hx : evn n (get g F) (.tmp u) = x) (hR : R (.tuple #[.agg cs.toArray, x]) L') (hM : ∀ w, Mem w0 w D L → Mem w0 w D L') :
    QX w0 D n (bodyPost P fn (Ret w0 D R)) .ret g F L :=
  .mk fun w hm => by
    have h1 : (Fr n (get g F)).tmps.getD t undef = .pointer (some ⟨b, 0, none⟩) := by rw [← ht, ← Fr.evn]; rfl
    have h2 : (Fr n (get g F)).tmps.getD u undef = x := by rw [← hx, ← Fr.evn]; rfl
    have h4 := loadVar_agg (P := P) (T := T) (w := w) (b := b) (off := 0) hl (fun j v hj => cell_of_cells (hm.at i hL (b, .cells cs.toArray T' fr) (by simp)) (by rw [Nat.zero_add]; exact hj))
    refine bodyPost_ret (v := .tuple #[.agg cs.toArray, x]) ?_ Fr.defers ⟨_, L', rfl, hM w hm, hR⟩
    generalize (Fr n (get g F)).tmps = tm at h1 h2
    simp [results, h, h1, h2, h4, asAddr, -Array.getD_eq_getD_getElem?]
def StepR (r : Int × Fl) (v : Value) (L : List Ch) : Prop := v = .tuple #[.agg r.2.row.toArray, er r.1] ∧ L = []
theorem lifeI_bd (k s : Int) : 0 ≤ lifeI k s ∧ lifeI k s ≤ 300 := by unfold lifeI; repeat' split
                                                                     all_goals omega
end Go.Proofs.YtcnnldlpcpcemaaDoor
