/- Regions of any order in which either of two operations may come first. No program here. -/
import Derived.Test.YtchkpkeljcdccaaAny
set_option linter.unusedSimpArgs false
set_option linter.unusedVariables false
namespace Go.Port
open Go.RowKit
section
variable {P : Program} {w0 : World} {D : List Nat} {n q : Nat} {ops : Array Oper} {Q : Exit → Act → World → Prop} {g : Nat → Value} {F : List (Nat × Value)} {L Ls : List Ch} {done : List Nat} {d : Nat}
theorem op_of_SX {k : Nat} {o : Oper} (hi : ops[k]? = some o) {K : Act → World → Prop} {w : World} (h1 : wpList P ops (Exit.then K (np Q)) [o] (Fr n (get g F)) w) : wpOp P ops (np Q) k K (Fr n (get g F)) w := by
  unfold wpList at h1
  unfold wpOp
  simp only [hi]
  split at h1
  · rename_i hw
    rw [if_pos hw]
    rcases h1 with h1 | ⟨h1, a, w', h2⟩
    · refine .inl ?_
      unfold Oper.wp at h1 ⊢
      generalize (execOp (Fr n (get g F)).eval o).run P w = r at h1 ⊢
      cases r with
      | ok x w' =>
        cases x <;> simp only [Oper.upon] at h1 ⊢ <;> first
          | exact h1
          | (refine Calls.mono h1 fun e w'' he => ?_
             cases e with
             | returned v => exact he
             | panicked ch => exact he
             | outgrown => obtain ⟨a, w, hh⟩ := he; exact ⟨a, w, hh⟩)
      | halt x w' => cases x <;> simp only [Oper.upon] at h1 ⊢ <;> exact h1
    · exact .inr ⟨h1, a, w', h2⟩
  · rename_i hw
    rw [if_neg hw]; exact h1
def twoH (ops : Array Oper) (done : List Nat) (i j : Nat) : Bool := Nat.blt done.length ops.size && decide (Region.ready .any ops (doneArr ops.size done) = [i, j])
/-- Either may come first. -/
theorem ah_both (i j : Nat) {o o' : Oper} (ht : twoH ops done i j = true) (hi : ops[i]? = some o) (hj : ops[j]? = some o')
    (h : SX P w0 D n 0 ops (Exit.then (fun a w => heldS w0 D Ls w ∧ wpAnyH P .any ops (np Q) (heldS w0 D Ls) (ops.size - (i :: done).length) (doneArr ops.size (i :: done)) a w) (np Q)) [o] g F (Ls ++ L))
    (h' : SX P w0 D n 0 ops (Exit.then (fun a w => heldS w0 D Ls w ∧ wpAnyH P .any ops (np Q) (heldS w0 D Ls) (ops.size - (j :: done).length) (doneArr ops.size (j :: done)) a w) (np Q)) [o'] g F (Ls ++ L)) : AH P w0 D n ops Q Ls done g F L := .mk fun w hm => by
  simp only [twoH, Bool.and_eq_true, decide_eq_true_eq] at ht
  have hlt : done.length < ops.size := Nat.le_of_ble_eq_true ht.1
  have e : ∀ k : Nat, ops.size - done.length = (ops.size - (k :: done).length) + 1 := fun k => by rw [List.length_cons]; omega
  rw [e i]
  refine wpAnyH_all ht.2 (by simp) fun x hx => ?_
  have : x = i ∨ x = j := by simpa using hx
  rcases this with rfl | rfl
  · exact op_of_SX hi (h.out w hm)
  · rw [show ops.size - (i :: done).length = ops.size - (x :: done).length by simp]
    exact op_of_SX hj (h'.out w hm)
end
end Go.Port
