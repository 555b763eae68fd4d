/- Loops over functions: what is walked as anywhere holds in a round, and with deferred calls, too. No program here. -/
import Derived.Test.YtaofimndclgpdaaDoorEngB
import Derived.RangeFuncNested
import Derived.RangeFuncBound
import Derived.RangeFuncCalls
import Derived.RangeFuncLeaves
import Derived.OwnWalkIn
import Derived.TacticsInMore
import Derived.OrdersIn
set_option linter.unusedSimpArgs false
set_option linter.unusedVariables false
namespace Go.Port
open Go.RowKit
/-- The fence of a round, or of none. -/
def fR (r : Option Nat) : Fence := { Fence.wide with round := r }
/-- An act with deferred calls. -/
def Dn (d : List Deferred) (a : Act) : Act := ⟨a.tmps, a.defers ++ d⟩
/-- An operation that may be in a round. -/
def calmO (o : Oper) : Bool := match o.op with
  | .defer _ => false
  | _ => true
theorem calm_of {o : Oper} (h : calmO o = true) : ∀ c, o.op ≠ .defer c := fun c e => by
  unfold calmO at h
  rw [e] at h
  cases h
theorem rowsIn_wide {n : Nat} {P : Program} {row : String} {args : Array Value} {w : World} {R : Value → World → Prop} (h : Rows P row args w R) : RowsIn Fence.wide n P row args w R := fun c cs _ => by
  obtain ⟨v, w', r, s⟩ := h c cs
  exact ⟨v, w', r, stepsIn_wide.2 s⟩
theorem calls_fR {r : Option Nat} {n : Nat} {P : Program} {f : FuncId} {args : Array Value} {w : World} {R : Ending → World → Prop} (h : Calls P f args w R) : CallsIn (fR r) n P f args w R := by
  cases r with
  | none => exact callsIn_wide.2 h
  | some l => exact CallsIn.inRound l (callsIn_wide.2 h)
section
variable {P : Program} {ops : Array Oper} {Q Q' : Exit → Act → World → Prop} {r : Option Nat} {m : Nat} {d : List Deferred}
theorem dn_put {a : Act} {v : Value} {t : Option Tmp} : (Dn d a).put t v = Dn d (a.put t v) := by cases t <;> rfl
theorem dn_fr {n : Nat} {f : Nat → Value} : Dn [] (Fr n f) = Fr n f := by rw [Fr.is]; rfl
theorem op_in {o : Oper} {a : Act} {w : World} {K K' : Act → World → Prop} (hd : calmO o = true) (hK : ∀ a w, K a w → K' (Dn d a) w) (hp : ∀ e a w, e ≠ .normal → Q' e a w → Q e (Dn d a) w) (h : o.wp P a w K Q') : o.wpIn (fR r) m P (Dn d a) w K' Q := by
  have hK' : ∀ v w, K (a.put o.dst v) w → K' ((Dn d a).put o.dst v) w := fun v w h => by
    rw [dn_put]; exact hK _ _ h
  refine ⟨fun _ _ => trivial, ?_⟩
  rw [Oper.semAt_eq _ _ _ (calm_of hd)]
  have he : (Dn d a).eval = a.eval := rfl
  rw [he]
  unfold Oper.wp at h
  revert h
  cases (execOp a.eval o).run P w with
  | ok x w' =>
    cases x with
    | value v => exact hK' _ _
    | skip => exact hK' _ _
    | defer d' =>
      intro h
      have h2 := hK _ _ h
      rw [← dn_put] at h2
      exact h2
    | enter f args =>
      intro h
      refine ⟨(fun hh => by cases hh), ?_⟩
      refine CallsIn.mono (calls_fR h) fun e w'' he => ?_
      cases e with
      | returned v => exact hK' _ _ he
      | panicked c => exact hp _ _ _ (by simp) he
      | outgrown => exact (let ⟨a, w, h⟩ := he; ⟨Dn d a, w, hp _ _ _ (by simp) h⟩)
    | row row args =>
      intro h
      exact ⟨(fun hh => by cases hh), RowsIn.mono (rowsIn_wide h) fun v w'' hv => hK' _ _ hv⟩
    | _ => exact fun h => h.elim
  | halt x w' =>
    cases x with
    | panic v => exact hp _ _ _ (by simp)
    | _ => exact fun h => h.elim
theorem list_in (hp : ∀ e a w, Q' e a w → Q e (Dn d a) w) (hQ : ∀ a w, ¬ Q .outgrown a w) : ∀ {rest : List Oper} {a : Act} {w : World}, rest.all calmO = true → wpList P ops Q' rest a w → wpListIn (fR r) m P ops Q rest (Dn d a) w
  | [], a, w, _, h => hp _ _ _ h
  | o :: rest, a, w, hc, h => by
    rw [List.all_cons, Bool.and_eq_true] at hc
    unfold wpList at h
    unfold wpListIn
    have e : (Dn d a).tmps = a.tmps := rfl
    rw [e]
    split at h
    · rename_i hw
      rw [if_pos hw]
      rcases h with h | ⟨_, a', w', h⟩
      · exact op_in hc.1 (fun a w hk => list_in hp hQ hc.2 hk) (fun e a w _ => hp e a w) h
      · exact (hQ _ _ (hp _ _ _ h)).elim
    · rename_i hw
      rw [if_neg hw, dn_put]
      exact ⟨fun _ _ => trivial, list_in hp hQ hc.2 h⟩
theorem any_in (hp : ∀ e a w, Q' e a w → Q e (Dn d a) w) (hQ : ∀ a w, ¬ Q .outgrown a w) (hc : ∀ (i : Nat) (o : Oper), ops[i]? = some o → calmO o = true) {md : Region.Mode} : ∀ {fuel : Nat} {listed : Array Bool} {a : Act} {w : World}, wpAny P md ops Q' fuel listed a w → wpAnyIn (fR r) m P md ops Q fuel listed (Dn d a) w
  | 0, _, _, _, h => ⟨h.1, hp _ _ _ h.2⟩
  | fuel + 1, listed, a, w, h => by
    refine ⟨fun e => hp _ _ _ (h.1 e), fun i hi => ?_⟩
    have h2 := h.2 i hi
    unfold wpOp at h2
    unfold wpOpIn
    revert h2
    cases ho : ops[i]? with
    | none => exact fun h => any_in hp hQ hc h
    | some o =>
      dsimp only
      have e : (Dn d a).tmps = a.tmps := rfl
      rw [e]
      intro h2
      split at h2
      · rename_i hw
        rw [if_pos hw]
        rcases h2 with h2 | ⟨_, a', w', h2⟩
        · exact op_in (hc i o ho) (fun a w hk => any_in hp hQ hc hk) (fun e a w _ => hp e a w) h2
        · exact (hQ _ _ (hp _ _ _ h2)).elim
      · rename_i hw
        rw [if_neg hw, dn_put]
        exact ⟨fun _ _ => trivial, any_in hp hQ hc h2⟩
end
/-- Exits that do not grow out. -/
class NoOut (Q : Exit → Act → World → Prop) : Prop where
  no : ∀ a w, ¬ Q .outgrown a w
instance {K : Act → World → Prop} {Q : Exit → Act → World → Prop} [h : NoOut Q] : NoOut (Exit.then K Q) := ⟨h.no⟩
instance {i : Nat} {Q : Exit → Act → World → Prop} [h : NoOut Q] : NoOut (Exit.inBlock i Q) := ⟨h.no⟩
instance {Q : Exit → Act → World → Prop} [h : NoOut Q] : NoOut (np Q) := ⟨h.no⟩
/-- What exits ask of acts with deferred calls, told of acts without. -/
class Push (d : List Deferred) (Q : Exit → Act → World → Prop) (Q' : outParam (Exit → Act → World → Prop)) : Prop where
  push : ∀ e a w, Q' e a w → Q e (Dn d a) w
instance {d : List Deferred} {K : Act → World → Prop} {Q Q' : Exit → Act → World → Prop} [h : Push d Q Q'] : Push d (Exit.then K Q) (Exit.then (fun a w => K (Dn d a) w) Q') := ⟨fun e a w => by cases e <;> first | exact id | exact h.push _ a w⟩
instance {d : List Deferred} {i : Nat} {Q Q' : Exit → Act → World → Prop} [h : Push d Q Q'] : Push d (Exit.inBlock i Q) (Exit.inBlock i Q') := ⟨fun e a w => by
  cases e with
  | exit j =>
    show (if j = i then _ else _) → (if j = i then _ else _)
    split <;> exact h.push _ a w
  | _ => exact h.push _ a w⟩
/-- A function's exits, at a number of deferred calls. -/
def Un (d : List Deferred) (Q : Exit → Act → World → Prop) : Exit → Act → World → Prop := fun e a w => Q e (Dn d a) w
instance {d : List Deferred} {F : Fence} {n : Nat} {P : Program} {fn : Func} {R : Ending → World → Prop} : Push d (bodyPostM F n P fn R) (Un d (bodyPostM F n P fn R)) := ⟨fun _ _ _ h => h⟩
instance {F : Fence} {n : Nat} {P : Program} {fn : Func} {w : World} {D : List Nat} {R : Value → List Ch → Prop} : NoOut (bodyPostM F n P fn (Ret w D R)) := ⟨fun _ _ ⟨_, _, h, _⟩ => by cases h⟩
/-- A piece of code in a round, or with deferred calls. -/
def CI (P : Program) (w0 : World) (D : List Nat) (n : Nat) (r : Option Nat) (m : Nat) (d : List Deferred) (Q : Exit → Act → World → Prop) (c : Code) (g : Nat → Value) (F : List (Nat × Value)) (L : List Ch) : Prop := ∀ w, Mem w0 w D L → c.wpIn (fR r) m P Q (Dn d (Fr n (get g F))) w
attribute [irreducible] CI
section
variable {P : Program} {w0 : World} {D : List Nat} {n m : Nat} {r : Option Nat} {d : List Deferred} {ops : Array Oper} {Q Q' : Exit → Act → World → Prop} {g : Nat → Value} {F : List (Nat × Value)} {L : List Ch}
theorem CI.mk {c : Code} (h : ∀ w, Mem w0 w D L → c.wpIn (fR r) m P Q (Dn d (Fr n (get g F))) w) : CI P w0 D n r m d Q c g F L := by unfold CI; exact h
theorem CI.out {c : Code} (h : CI P w0 D n r m d Q c g F L) : ∀ w, Mem w0 w D L → c.wpIn (fR r) m P Q (Dn d (Fr n (get g F))) w := by unfold CI at h; exact h
theorem ci_seq {x y : Code} (h : CI P w0 D n r m d (Exit.then (y.wpIn (fR r) m P Q) Q) x g F L) : CI P w0 D n r m d Q (.seq x y) g F L := .mk fun w hm => wpIn_seq (h.out w hm)
theorem ci_region [hQ : NoOut Q] [hP : Push d Q Q'] {id : Nat} {l : List Oper} (hc : l.all calmO = true) (h : SX P w0 D n 0 l.toArray Q' l g F L) : CI P w0 D n r m d Q (.region id l.toArray false) g F L :=
  .mk fun w hm => wpIn_region_lit (list_in hP.push hQ.no hc (h.out w hm))
theorem ci_held [hQ : NoOut Q] [hP : Push d Q Q'] {id : Nat} {l : List Oper} (Ls L' : List Ch) (hc : l.all calmO = true) (hm : P.follows .mixedOrders = true) (hL : ∀ w, Mem w0 w D L → Mem w0 w D (Ls ++ L')) (h : AH P w0 D n l.toArray Q' Ls [] g F L') : CI P w0 D n r m d Q (.region id l.toArray true) g F L :=
  .mk fun w hw => Code.wpIn_mono (fun e a w q => by cases e <;> first | exact q | exact q.elim) (wpIn_region_any (Q := np Q) hm (any_in (Q' := np Q') (fun e a w q => by cases e <;> first | exact q.elim | exact hP.push _ _ _ q) (NoOut.no (Q := np Q)) (fun i o ho => List.all_eq_true.1 hc o (List.mem_of_getElem? (by simpa using ho))) (wpAny_of_held (S := heldS w0 D Ls) _ _ _ _ (h.out _ (hL _ hw.drew)))))
theorem ci_held0 [NoOut Q] [Push d Q Q'] {id : Nat} {l : List Oper} (hc : l.all calmO = true) (hm : P.follows .mixedOrders = true) (h : AH P w0 D n l.toArray Q' [] [] g F L) : CI P w0 D n r m d Q (.region id l.toArray true) g F L := ci_held [] L hc hm (fun _ h => h) h
theorem ci_heldA [NoOut Q] [Push d Q Q'] {id : Nat} {l : List Oper} {c : Ch} (hc : l.all calmO = true) (hm : P.follows .mixedOrders = true) (h : AH P w0 D n l.toArray Q' [c] [] g F L) : CI P w0 D n r m d Q (.region id l.toArray true) g F (c :: L) := ci_held [c] L hc hm (fun _ h => h) h
theorem ci_held2 [NoOut Q] [Push d Q Q'] {id : Nat} {l : List Oper} {c c' : Ch} (hc : l.all calmO = true) (hm : P.follows .mixedOrders = true) (h : AH P w0 D n l.toArray Q' [c, c'] [] g F L) : CI P w0 D n r m d Q (.region id l.toArray true) g F (c :: c' :: L) := ci_held [c, c'] L hc hm (fun _ h => h) h
theorem ci_skip [hP : Push d Q Q'] (h : QX w0 D n Q' .normal g F L) : CI P w0 D n r m d Q .skip g F L := .mk fun w hm => wpIn_skip (hP.push _ _ _ (h.out w hm))
theorem ci_label [hP : Push d Q Q'] {i : Nat} (h : QX w0 D n Q' .normal g F L) : CI P w0 D n r m d Q (.label i) g F L := .mk fun w hm => wpIn_label (hP.push _ _ _ (h.out w hm))
theorem ci_ret [hP : Push d Q Q'] (h : QX w0 D n Q' .ret g F L) : CI P w0 D n r m d Q .ret g F L := .mk fun w hm => wpIn_ret (hP.push _ _ _ (h.out w hm))
theorem ci_exit [hP : Push d Q Q'] {i : Nat} (h : QX w0 D n Q' (.exit i) g F L) : CI P w0 D n r m d Q (.exit i) g F L := .mk fun w hm => wpIn_exit (hP.push _ _ _ (h.out w hm))
theorem ci_block {i : Nat} {c : Code} (h : CI P w0 D n r m d (Exit.inBlock i Q) c g F L) : CI P w0 D n r m d Q (.block i c) g F L := .mk fun w hm => wpIn_block (h.out w hm)
theorem ci_cond {t : Nat} {x y : Code} {b : Bool} (hb : evn n (get g F) (.tmp t) = .bool b) (h1 : b = true → CI P w0 D n r m d Q x g F L) (h2 : b = false → CI P w0 D n r m d Q y g F L) : CI P w0 D n r m d Q (.cond (.tmp t) x y) g F L :=
  .mk fun w hm => wpIn_cond_split (t := b) (by show (Fr n (get g F)).eval (.tmp t) = _; rw [Fr.evn]; exact hb) (fun h => (h1 h).out w hm) (fun h => (h2 h).out w hm)
theorem qi_then {y : Code} {Q'' : Exit → Act → World → Prop} (h : CI P w0 D n r m d Q y g F L) : QX w0 D n (Exit.then (fun a w => y.wpIn (fR r) m P Q (Dn d a) w) Q'') .normal g F L := .mk fun w hm => h.out w hm
end
end Go.Port
