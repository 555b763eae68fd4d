/- Iterators: calls of yield; loops whose rounds' worlds are told anew. No program here. -/
import Derived.Test.YtaofimndclgpdaaDoorRngB
import Derived.Test.YtaofimndclgpdaaDoorEngB
set_option linter.unusedSimpArgs false
set_option linter.unusedVariables false
namespace Go.Port
open Go.RowKit
section
variable {P : Program} {ops : Array Oper} {Q : Exit → Act → World → Prop} {r : Option Nat} {m : Nat} {d : List Deferred}
/-- The first operations of a region as anywhere, the others by themselves. -/
theorem list_in2 {K : Act → World → Prop} {l2 : List Oper} (hK : ∀ a w, K a w → wpListIn (fR r) m P ops Q l2 (Dn d a) w) : ∀ {rest : List Oper} {a : Act} {w : World}, rest.all calmO = true → wpList P ops (Exit.then K (fun _ _ _ => False)) rest a w → wpListIn (fR r) m P ops Q (rest ++ l2) (Dn d a) w
  | [], a, w, _, h => hK _ _ h
  | o :: rest, a, w, hc, h => by
    rw [List.all_cons, Bool.and_eq_true] at hc
    unfold wpList at h
    rw [List.cons_append]
    unfold wpListIn
    have e : (Dn d a).tmps = a.tmps := rfl
    rw [e]
    split at h
    · rename_i hw
      rw [if_pos hw]
      rcases h with h | ⟨_, a', w', h⟩
      · exact op_in hc.1 (fun a w hk => list_in2 hK hc.2 hk) (fun e a w hn h => by cases e <;> first | exact h.elim | exact absurd rfl hn) h
      · exact h.elim
    · rename_i hw
      rw [if_neg hw, dn_put]
      exact ⟨fun _ _ => trivial, list_in2 hK hc.2 h⟩
end
section
variable {P : Program} {w0 : World} {D : List Nat} {n q : Nat} {ops : Array Oper} {Q : Exit → Act → World → Prop} {g : Nat → Value} {F : List (Nat × Value)} {L : List Ch}
variable {ty : TypeId} {pos : String} {af : Array Edge} {d : Nat}
theorem cx_regionY {id : Nat} {l : List Oper} (k : Nat) (hc : (l.take k).all calmO = true)
    (h : SX P w0 D n 0 l.toArray (Exit.then (fun a w => wpListIn (fR none) 2 P l.toArray Q (l.drop k) a w) (fun _ _ _ => False)) (l.take k) g F L) : CX P w0 D n Q (.region id l.toArray false) g F L :=
  .mk fun w hm => (wpIn_wide (n := 2)).1 (wpIn_region_lit (by
    have h2 := list_in2 (d := []) (r := none) (m := 2) (Q := Q) (fun a w h => by
      have e : Dn [] a = a := by unfold Dn; rw [List.append_nil]
      rw [e]; exact h) hc (h.out w hm)
    rw [dn_fr, List.take_append_drop] at h2
    exact h2))
theorem run_yieldF {l t : Nat} {la : List Operand} {ats : Array TypeId} {dst : Option Nat} {vs : List Value} {fn : FuncId} {tmps : Array Value} {assign body : Code} (hx : evn n (get g F) (.tmp t) = .func (.yield l) #[] #[]) (hv : evs n (get g F) la = vs) {w : World} (hy : (Instr.yield l vs.toArray).run P w = .ok (.round l fn tmps assign body) w) :
    (execOp (evn n (get g F)) { dst := dst, op := .call { callee := .value (.tmp t), args := la.toArray, argTypes := ats }, type := ty, pos := pos, after := af, guard := none }).run P w = .ok (.round l fn tmps assign body) w := by
  subst hv
  simp only [execOp, resolve, hx]
  simp [Deferred.ofValue, evs_map, invoke, go_sem] at hy ⊢
  exact hy
instance {fn : Func} {α : Type} {S Sp : List α → Prop} {J Jx : List α → World → Prop} : NoOut (bodyPost P fn (iterPost S Sp J Jx)) := ⟨fun _ _ ⟨⟨_, h⟩, _⟩ => by cases h⟩
theorem Mem.goes {Ws : Nat → Prop} {w w' : World} (h : Mem w w' [] []) : Moved Ws w w' := ⟨h.os, h.tape, h.output, h.size, fun k hk _ => h.old k hk (by simp)⟩
theorem IsSl.keep {w w' : World} {sz : Nat} {A : Option Addr} {len cap : Nat} {xs : List Value} (h : IsSl w sz A len cap xs) (hs : w.heap.size ≤ w'.heap.size) (hk : 0 < len → ∀ x o, A = some ⟨x, o, none⟩ → w'.heap[x]? = w.heap[x]?) : IsSl w' sz A len cap xs := by
  refine ⟨h.1, ?_⟩
  rcases h.2 with h0 | ⟨b, o, e, hb, hc, hx⟩
  · exact .inl h0
  · by_cases h0 : len = 0
    · exact .inl h0
    · refine .inr ⟨b, o, e, Nat.lt_of_lt_of_le hb hs, hc, fun i u hu => ?_⟩
      rw [World.cell?_of_block (w := w) (hk (by omega) b o e)]
      exact hx i u hu
theorem ci_mem {r : Option Nat} {m : Nat} {dd : List Deferred} {c : Code} {L' : List Ch} (h : CI P w0 D n r m dd Q c g F L') (hL : ∀ w, Mem w0 w D L → Mem w0 w D L') : CI P w0 D n r m dd Q c g F L := .mk fun w hm => h.out w (hL w hm)
theorem fold2 {p q : Tmp} {v u : Value} : (#[p, q].zip #[v, u]).foldl (fun t (p, v) => t.setIfInBounds p v) (Fr n (get g F)).tmps = (Fr n (get g ((q, u) :: (p, v) :: F))).tmps := by
  have e : (#[p, q].zip #[v, u]).foldl (fun t (p, v) => t.setIfInBounds p v) (Fr n (get g F)).tmps = ((Fr n (get g F)).tmps.setIfInBounds p v).setIfInBounds q u := by simp
  rw [e, Fr.set, get_put, Fr.set, get_put]
/-- A call of yield. -/
theorem qy_yield [hQ : NoOut Q] {l t : Nat} {la : List Operand} {ats : Array TypeId} {l2 : List Oper} {Qf : Exit → Act → World → Prop} (vs : List Value) (hx : evn n (get g F) (.tmp t) = .func (.yield l) #[] #[]) (hv : evs n (get g F) la = vs) (hc : l2.all calmO = true)
    (h : ∀ w, Mem w0 w D L → YieldAt (fR none) 1 P l vs.toArray w fun e W' => ∃ b, e = .returned (.bool b) ∧ SX P W' [] n 0 ops Q l2 g ((d, .bool b) :: F) []) :
    QX w0 D n (Exit.then (fun a w => wpListIn (fR none) 2 P ops Q ({ dst := some d, op := .call { callee := .value (.tmp t), args := la.toArray, argTypes := ats }, type := ty, pos := pos, after := af, guard := none } :: l2) a w) Qf) .normal g F L := .mk fun w hm => by
  show wpListIn (fR none) 2 P ops Q (_ :: l2) (Fr n (get g F)) w
  obtain ⟨fn, tmps, assign, body, hy, hR⟩ := h w hm
  unfold wpListIn
  rw [if_pos (by simp [Region.wanted])]
  refine ⟨fun _ _ => trivial, ?_⟩
  rw [Oper.semAt_eq _ _ _ (fun c e => by cases e), Fr.evn, run_yieldF hx hv hy, Oper.uponIn_round]
  refine ⟨fun h => (by cases h), RoundIn.mono hR ?_⟩
  rintro e W' ⟨b, rfl, hsx⟩
  show wpListIn _ _ _ _ _ l2 ((Fr n (get g F)).put (some d) (.bool b)) W'
  rw [Fr.put, get_put]
  have h2 := list_in (d := []) (r := none) (m := 2) (Q := Q) (Q' := Q) (fun e a w h => by
      have e : Dn [] a = a := by unfold Dn; rw [List.append_nil]
      rw [e]; exact h) hQ.no hc (hsx.out W' (Mem.refl W'))
  rw [dn_fr] at h2
  exact h2
/-- A loop: each round's world is told anew. -/
theorem cx_loopW {c : Code} (I : Nat → (Nat → Value) → World → Prop) (m : Nat) (h0 : ∀ w, Mem w0 w D L → I m (get g F) w)
    (round : ∀ m f w, I m f w → ∀ K : Act → World → Prop, (∀ m' f' w', m' < m → I m' f' w' → K (Fr n f') w') → CX P w [] n (Exit.then K Q) c f [] []) : CX P w0 D n Q (.loop c) g F L := by
  refine .mk fun w hm => ?_
  refine wp_loop_ghost (fun m a w => ∃ f, a = Fr n f ∧ I m f w) m ⟨get g F, rfl, h0 w hm⟩ ?_
  rintro m a w ⟨f, rfl, hI⟩
  exact (round m f w hI (fun a w => ∃ m', m' < m ∧ ∃ f, a = Fr n f ∧ I m' f w) fun m' f' w' hlt hI' => ⟨m', hlt, f', rfl, hI'⟩).out w (Mem.refl w)
/-- A call begins. -/
theorem cx_enterR {k : FuncId} {fn : Func} {c : Code} {args : List Value} {w : World} {R : Ending → World → Prop} (n : Nat)
    (hf : P.funcs[k]? = some fn) (hb : fn.body = some c) (hn : fn.ntmps = n) (ha : args.length ≤ n) (hF : (List.range args.length).zip args = F)
    (h : ∀ g, CX P w [] n (bodyPost P fn R) c g F []) : Calls P k args.toArray w R := by
  subst hF
  refine fr_enter n hf hb hn (by simpa using ha) fun f hf => ?_
  have hFF : FF f ((List.range args.length).zip args) := by
    have key : ∀ (l : List Value) (i : Nat), (∀ j, j < l.length → f (i + j) = l.getD j undef) → FF f ((List.range' i l.length).zip l) := by
      intro l
      induction l with
      | nil => intro i _; exact trivial
      | cons v l ih =>
        intro i hi
        rw [List.length_cons, List.range'_succ, List.zip_cons_cons]
        refine ⟨by simpa using hi 0 (by simp), ih (i + 1) fun j hj => ?_⟩
        have := hi (j + 1) (by simp; omega)
        rw [show i + 1 + j = i + (j + 1) by omega, this]
        simp
    rw [List.range_eq_range']
    refine key args 0 fun j hj => ?_
    rw [Nat.zero_add, hf j (by omega)]
    simp
  have h1 := (h f).out w (Mem.refl w)
  rw [← hFF.get] at h1
  exact h1
theorem qx_retR {fn : Func} {R : Ending → World → Prop} (h : fn.results = #[]) (hR : ∀ w, Mem w0 w D L → R (.returned (.tuple #[])) w) : QX w0 D n (bodyPost P fn R) .ret g F L :=
  .mk fun w hm => bodyPost_ret (results_none h _ _ _) Fr.defers (hR w hm)
theorem qx_endF {fn : Func} {R : Ending → World → Prop} (h : fn.results = #[]) (hR : ∀ w, Mem w0 w D L → R (.returned (.tuple #[])) w) : QX w0 D n (bodyPost P fn R) .normal g F L :=
  .mk fun w hm => bodyPost_end (results_none h _ _ _) Fr.defers (hR w hm)
end
end Go.Port
