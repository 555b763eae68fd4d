/- Regions of any order in which pieces of memory are read beside calls and stores of other ones. No program here. -/
import Derived.Test.YtchkpkeljcdccaaSxMore
import Derived.OrdersHeld
set_option linter.unusedSimpArgs false
set_option linter.unusedVariables false
namespace Go.Port
open Go.RowKit

/-- What pieces tell is there; and all that was there at first. -/
def heldS (w0 : World) (D : List Nat) (Ls : List Ch) (w : World) : Prop := Mem w0 w D Ls
def doneArr (m : Nat) : List Nat → Array Bool
  | [] => Array.replicate m false
  | k :: l => (doneArr m l).setIfInBounds k true
/-- The rest of a region of any order: Ls is read, L may change; done tells which are behind us. -/
def AH (P : Program) (w0 : World) (D : List Nat) (n : Nat) (ops : Array Oper) (Q : Exit → Act → World → Prop) (Ls : List Ch) (done : List Nat) (g : Nat → Value) (F : List (Nat × Value)) (L : List Ch) : Prop :=
  ∀ w, Mem w0 w D (Ls ++ L) → wpAnyH P .any ops (np Q) (heldS w0 D Ls) (ops.size - done.length) (doneArr ops.size done) (Fr n (get g F)) w
attribute [irreducible] AH
section
variable {P : Program} {w0 : World} {D : List Nat} {n q : Nat} {ops : Array Oper} {Q : Exit → Act → World → Prop} {g : Nat → Value} {F : List (Nat × Value)} {L Ls : List Ch} {done : List Nat} {d : Nat}
theorem AH.mk (h : ∀ w, Mem w0 w D (Ls ++ L) → wpAnyH P .any ops (np Q) (heldS w0 D Ls) (ops.size - done.length) (doneArr ops.size done) (Fr n (get g F)) w) : AH P w0 D n ops Q Ls done g F L := by unfold AH; exact h
theorem AH.out (h : AH P w0 D n ops Q Ls done g F L) : ∀ w, Mem w0 w D (Ls ++ L) → wpAnyH P .any ops (np Q) (heldS w0 D Ls) (ops.size - done.length) (doneArr ops.size done) (Fr n (get g F)) w := by unfold AH at h; exact h
theorem at_held (h : AH P w0 D n ops Q Ls done g F L) : AH P w0 D n ops Q Ls done g F L := h
theorem cx_held {id : Nat} {l : List Oper} (Ls L' : List Ch) (hm : P.follows .mixedOrders = true) (hL : ∀ w, Mem w0 w D L → Mem w0 w D (Ls ++ L')) (h : AH P w0 D n l.toArray Q Ls [] g F L') : CX P w0 D n Q (.region id l.toArray true) g F L :=
  .mk fun w hw => wp_mono (wp_region_held (Q := np Q) (S := heldS w0 D Ls) hm (h.out _ (hL _ hw.drew))) fun e a w q => by
    cases e <;> first | exact q | exact q.elim
def takeH (ops : Array Oper) (done : List Nat) (k : Nat) : Bool := Nat.blt done.length ops.size && Region.noSelect ops && Region.free .any ops (doneArr ops.size done) k && (Region.ready .any ops (doneArr ops.size done)).contains k
def loneH (ops : Array Oper) (done : List Nat) (k : Nat) : Bool := Nat.blt done.length ops.size && decide (Region.ready .any ops (doneArr ops.size done) = [k])
def overH (ops : Array Oper) (done : List Nat) : Bool := decide (Region.ready .any ops (doneArr ops.size done) = [])
theorem ah_take {k : Nat} {o : Oper} {v : Value} (ht : takeH ops done k = true) (hi : ops[k]? = some o) (hd : o.dst = some d)
    (hy : YieldsIf P ops (heldS w0 D Ls) o v (Fr n (get g F))) (h : AH P w0 D n ops Q Ls (k :: done) g ((d, v) :: F) L) : AH P w0 D n ops Q Ls done g F L := .mk fun w hm => by
  simp only [takeH, Bool.and_eq_true] at ht
  have hlt : done.length < ops.size := Nat.le_of_ble_eq_true ht.1.1.1
  have h1 := h.out w hm
  have e : ops.size - done.length = (ops.size - (k :: done).length) + 1 := by rw [List.length_cons]; omega
  rw [e]
  refine wpAnyH_take hi ht.1.1.2 ht.1.2 ht.2 (fun c a w q => q.elim) hy (hm.drop (L' := Ls)) ?_
  rw [hd, Fr.put, get_put]
  exact h1
def valOpL : Op → Bool
  | .load .. => true
  | .nilCheck _ => false
  | o => valOp o
theorem valOpL_run {ρ : Operand → Value} {o : Oper} (h : valOpL o.op = true) (w : World) : (∃ v w', (execOp ρ o).run P w = .ok (.value v) w') ∨ ∃ h w', (execOp ρ o).run P w = .halt h w' := by
  obtain ⟨dst, op, ty, pos, af, gd⟩ := o
  cases op with
  | load t a => exact andThen_value
  | nilCheck x => simp [valOpL] at h
  | _ => exact valOp_run (by simpa [valOpL] using h) w
/-- What only computes, or reads what is held, or what was there at first. -/
theorem ah_pure (k : Nat) {o : Oper} (ht : takeH ops done k = true) (hi : ops[k]? = some o) (hval : valOpL o.op = true) (hg : o.guard = none) (hd : o.dst = some d) (hdn : Nat.blt d n = true)
    (h : ∃ v, SX P w0 D n 2 ops (isF n g ((d, v) :: F)) [o] g F Ls ∧ AH P w0 D n ops Q Ls (k :: done) g ((d, v) :: F) L) : AH P w0 D n ops Q Ls done g F L := by
  obtain ⟨v, h1, h2⟩ := h
  refine ah_take (v := v) ht hi hd (.inl ⟨by simp [Region.wanted, hg], fun w hS => ?_⟩) h2
  have h3 := h1.out2 (q := 0) w hS
  unfold wpStill at h3
  rw [if_pos (by simp [Region.wanted, hg])] at h3
  unfold Oper.still at h3
  have key : ∀ u, (Fr n (get g F)).put o.dst u = Fr n (get g ((d, v) :: F)) → u = v := by
    intro u hu
    rw [hd, Fr.put, get_put] at hu
    have hlt : d < n := Nat.le_of_ble_eq_true hdn
    have h4 := congrArg (fun a : Act => a.tmps.getD d undef) hu
    simp only [Fr.getD hlt] at h4
    have h5 : ∀ x, get g ((d, x) :: F) d = x := fun x => by show (bif Nat.beq d d then x else _) = x; rw [Nat.beq_refl]; rfl
    rwa [h5, h5] at h4
  rcases valOpL_run (P := P) (ρ := (Fr n (get g F)).eval) hval w with ⟨u, w', hr⟩ | ⟨x, w', hr⟩
  · rw [hr] at h3 ⊢
    obtain ⟨rfl, _, h4⟩ := h3
    rw [key u h4]
  · rw [hr] at h3; exact h3.elim
theorem ah_nil (k : Nat) {x : Operand} {ty : TypeId} {pos : String} {af : Array Edge} {p : Addr} (ht : takeH ops done k = true) (hi : ops[k]? = some { dst := some d, op := .nilCheck x, type := ty, pos := pos, after := af, guard := none }) (hx : evn n (get g F) x = .pointer (some p))
    (h : AH P w0 D n ops Q Ls (k :: done) g ((d, .pointer (some p)) :: F) L) : AH P w0 D n ops Q Ls done g F L :=
  ah_take ht hi rfl (.inl ⟨by simp [Region.wanted], fun w _ => by rw [Fr.evn]; simp only [execOp, hx]; rfl⟩) h
theorem ah_skip (k : Nat) {j t : Nat} {want b : Bool} {o : Oper} (ht : takeH ops done k = true) (hi : ops[k]? = some o) (hg : o.guard = some (j, want)) (hdst : o.dst = some d) (hd : (ops[j]?).bind (·.dst) = some t) (htn : Nat.blt t n = true) (hv : get g F t = .bool b) (hb : b = !want)
    (h : AH P w0 D n ops Q Ls (k :: done) g ((d, undef) :: F) L) : AH P w0 D n ops Q Ls done g F L :=
  ah_take ht hi hdst (.inr ⟨wanted_no hg hd htn hv hb, rfl⟩) h
theorem ah_lone (k : Nat) {o : Oper} (ht : loneH ops done k = true) (hi : ops[k]? = some o) (h : SX P w0 D n 0 ops (Exit.then (fun a w => heldS w0 D Ls w ∧ wpAnyH P .any ops (np Q) (heldS w0 D Ls) (ops.size - (k :: done).length) (doneArr ops.size (k :: done)) a w) (np Q)) [o] g F (Ls ++ L)) : AH P w0 D n ops Q Ls done g F L := .mk fun w hm => by
  simp only [loneH, Bool.and_eq_true, decide_eq_true_eq] at ht
  have hlt : done.length < ops.size := Nat.le_of_ble_eq_true ht.1
  have e : ops.size - done.length = (ops.size - (k :: done).length) + 1 := by rw [List.length_cons]; omega
  rw [e]
  refine wpAnyH_all ht.2 (by simp) fun i hi' => ?_
  have : i = k := by simpa using hi'
  subst this
  have h1 := h.out w hm
  unfold wpList at h1
  unfold wpOp
  simp only [hi]
  split at h1
  · rename_i hw
    rw [if_pos hw]
    rcases h1 with h1 | ⟨h1, a, w', h2⟩
    · refine .inl ?_
      unfold Oper.wp at h1 ⊢
      generalize (execOp (Fr n (get g F)).eval o).run P w = r at h1 ⊢
      cases r with
      | ok x w' =>
        cases x <;> simp only [Oper.upon] at h1 ⊢ <;> first
          | exact h1
          | (refine Calls.mono h1 fun e w'' he => ?_
             cases e with
             | returned v => exact he
             | panicked ch => exact he
             | outgrown => obtain ⟨a, w, hh⟩ := he; exact ⟨a, w, hh⟩)
      | halt x w' => cases x <;> simp only [Oper.upon] at h1 ⊢ <;> exact h1
    · exact .inr ⟨h1, a, w', h2⟩
  · rename_i hw
    rw [if_neg hw]; exact h1
theorem qx_held {k : Nat} {L' : List Ch} (hL : ∀ w, Mem w0 w D L' → Mem w0 w D (Ls ++ L)) (h : AH P w0 D n ops Q Ls (k :: done) g F L) : QX w0 D n (Exit.then (fun a w => heldS w0 D Ls w ∧ wpAnyH P .any ops (np Q) (heldS w0 D Ls) (ops.size - (k :: done).length) (doneArr ops.size (k :: done)) a w) (np Q)) .normal g F L' := .mk fun w hm =>
  have hm' := hL w hm
  ⟨hm'.drop (L' := Ls), h.out w hm'⟩
theorem held_mid1 {c : Ch} {w : World} (h : Mem w0 w D (c :: (Ls ++ L))) : Mem w0 w D (Ls ++ (c :: L)) := h.permL List.perm_middle
theorem held_mid2 {c c' : Ch} {w : World} (h : Mem w0 w D (c :: c' :: (Ls ++ L))) : Mem w0 w D (Ls ++ (c :: c' :: L)) := h.permL (List.perm_middle.trans (List.Perm.cons _ List.perm_middle))
theorem at_reg (id : Nat) {l : Array Oper} {b : Bool} (h : CX P w0 D n Q (.region id l b) g F L) : CX P w0 D n Q (.region id l b) g F L := h
theorem ah_over (ht : overH ops done = true) (h : QX w0 D n Q .normal g F (Ls ++ L)) : AH P w0 D n ops Q Ls done g F L := .mk fun w hm => by
  simp only [overH, decide_eq_true_eq] at ht
  exact wpAnyH_done (Q := np Q) ht (h.out w hm) _
/- Which pieces are held. -/
theorem cx_held0 {id : Nat} {l : List Oper} (hm : P.follows .mixedOrders = true) (h : AH P w0 D n l.toArray Q [] [] g F L) : CX P w0 D n Q (.region id l.toArray true) g F L := cx_held [] L hm (fun _ h => h) h
theorem cx_heldA {id : Nat} {l : List Oper} {c : Ch} (hm : P.follows .mixedOrders = true) (h : AH P w0 D n l.toArray Q [c] [] g F L) : CX P w0 D n Q (.region id l.toArray true) g F (c :: L) := cx_held [c] L hm (fun _ h => h) h
theorem cx_heldB {id : Nat} {l : List Oper} {c c0 : Ch} (hm : P.follows .mixedOrders = true) (h : AH P w0 D n l.toArray Q [c] [] g F (c0 :: L)) : CX P w0 D n Q (.region id l.toArray true) g F (c0 :: c :: L) := cx_held [c] (c0 :: L) hm (fun _ h => rot1.mem h) h
theorem cx_heldC {id : Nat} {l : List Oper} {c c0 c1 : Ch} (hm : P.follows .mixedOrders = true) (h : AH P w0 D n l.toArray Q [c] [] g F (c0 :: c1 :: L)) : CX P w0 D n Q (.region id l.toArray true) g F (c0 :: c1 :: c :: L) := cx_held [c] (c0 :: c1 :: L) hm (fun _ h => rot2.mem h) h
theorem ah_over0 (ht : overH ops done = true) (h : QX w0 D n Q .normal g F L) : AH P w0 D n ops Q [] done g F L := ah_over ht h
theorem ah_over1 {c : Ch} (ht : overH ops done = true) (h : QX w0 D n Q .normal g F (c :: L)) : AH P w0 D n ops Q [c] done g F L := ah_over ht h
theorem ah_over2 {c c' : Ch} (ht : overH ops done = true) (h : QX w0 D n Q .normal g F (c :: c' :: L)) : AH P w0 D n ops Q [c, c'] done g F L := ah_over ht h
end
end Go.Port
