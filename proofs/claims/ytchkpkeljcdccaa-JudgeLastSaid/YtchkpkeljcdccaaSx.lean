/- Steps of a call, told over slots and pieces of memory. No program here. -/
import Derived.Test.YtchkpkeljcdccaaMem
import Derived.IntWalk
import Derived.WalkLawsBesides
import Derived.Deep.Quiet
import Derived.StillTail
set_option linter.unusedSimpArgs false
set_option linter.unusedVariables false
namespace Go.Port
open Go.RowKit

/-- What a slot holds. -/
def get (g : Nat → Value) : List (Nat × Value) → Nat → Value
  | [], t => g t
  | (d, v) :: F, t => bif Nat.beq t d then v else get g F t
/-- What an operand is. -/
def evn (n : Nat) (f : Nat → Value) : Operand → Value
  | .tmp t => bif Nat.blt t n then f t else undef
  | .const v => v
  | .global k => .pointer (some ⟨k, 0, none⟩)
  | .func k => .func (.func k) #[] #[]
def evs (n : Nat) (f : Nat → Value) : List Operand → List Value
  | [] => []
  | x :: l => evn n f x :: evs n f l
theorem evs_map (n : Nat) (f : Nat → Value) (l : List Operand) : l.map (evn n f) = evs n f l := by
  induction l with
  | nil => rfl
  | cons x l ih => rw [List.map_cons, ih]; rfl
theorem Fr.evn {n : Nat} {f : Nat → Value} : (Fr n f).eval = Port.evn n f := by
  funext x
  cases x with
  | tmp t =>
    show (Fr n f).tmps.getD t undef = bif Nat.blt t n then f t else undef
    by_cases h : t < n
    · have : Nat.blt t n = true := by rw [Nat.blt]; exact Nat.ble_eq_true_of_le h
      rw [Fr.getD h, this]; rfl
    · have : Nat.blt t n = false := by
        cases hb : Nat.blt t n with
        | false => rfl
        | true => exact absurd (Nat.le_of_ble_eq_true hb) h
      rw [this, Fr.is]; simp [h]
  | const v => rfl
  | global k => rfl
  | func k => rfl
theorem get_put (g : Nat → Value) (F : List (Nat × Value)) (d : Nat) (v : Value) : upd (get g F) d v = get g ((d, v) :: F) := by
  funext t
  show (if t = d then v else get g F t) = bif Nat.beq t d then v else get g F t
  by_cases h : t = d
  · subst h; simp
  · have : Nat.beq t d = false := by
      cases hb : Nat.beq t d with
      | false => rfl
      | true => exact absurd (Nat.eq_of_beq_eq_true hb) h
    rw [if_neg h, this]; rfl

section
variable (P : Program) (w0 : World) (D : List Nat) (n : Nat)
/-- The rest of a region. q: 0: as it stands; 1: a region of any order that only looks; 2: its head, ahead of a row. -/
def SX (q : Nat) (ops : Array Oper) (Q : Exit → Act → World → Prop) (l : List Oper) (g : Nat → Value) (F : List (Nat × Value)) (L : List Ch) : Prop := match q with
  | 0 => ∀ w, Mem w0 w D L → wpList P ops Q l (Fr n (get g F)) w
  | 1 => wpQuiet P ops (fun w => Mem w0 w D L) (fun a' => ∀ w', Mem w0 w' D L → Q .normal a' w') l (Fr n (get g F))
  | _ => ∀ w, Mem w0 w D L → wpStill P ops w (fun a' => Q .normal a' w) l (Fr n (get g F))
/-- A piece of code. -/
def CX (Q : Exit → Act → World → Prop) (c : Code) (g : Nat → Value) (F : List (Nat × Value)) (L : List Ch) : Prop := ∀ w, Mem w0 w D L → c.wp P Q (Fr n (get g F)) w
/-- An exit. -/
def QX (Q : Exit → Act → World → Prop) (e : Exit) (g : Nat → Value) (F : List (Nat × Value)) (L : List Ch) : Prop := ∀ w, Mem w0 w D L → Q e (Fr n (get g F)) w
end
attribute [irreducible] SX CX QX

section
variable {P : Program} {w0 : World} {D : List Nat} {n q : Nat} {ops : Array Oper} {Q : Exit → Act → World → Prop} {g : Nat → Value} {F : List (Nat × Value)} {L : List Ch}
theorem SX.mk {l : List Oper} (h : ∀ w, Mem w0 w D L → wpList P ops Q l (Fr n (get g F)) w) : SX P w0 D n 0 ops Q l g F L := by unfold SX; exact h
theorem SX.out {l : List Oper} (h : SX P w0 D n 0 ops Q l g F L) : ∀ w, Mem w0 w D L → wpList P ops Q l (Fr n (get g F)) w := by unfold SX at h; exact h
theorem SX.mk1 {l : List Oper} (h : wpQuiet P ops (fun w => Mem w0 w D L) (fun a' => ∀ w', Mem w0 w' D L → Q .normal a' w') l (Fr n (get g F))) : SX P w0 D n 1 ops Q l g F L := by unfold SX; exact h
theorem SX.out1 {l : List Oper} (h : SX P w0 D n 1 ops Q l g F L) : wpQuiet P ops (fun w => Mem w0 w D L) (fun a' => ∀ w', Mem w0 w' D L → Q .normal a' w') l (Fr n (get g F)) := by unfold SX at h; exact h
theorem SX.mk2 {l : List Oper} {q : Nat} (h : ∀ w, Mem w0 w D L → wpStill P ops w (fun a' => Q .normal a' w) l (Fr n (get g F))) : SX P w0 D n (q + 2) ops Q l g F L := by unfold SX; exact h
theorem SX.out2 {l : List Oper} {q : Nat} (h : SX P w0 D n (q + 2) ops Q l g F L) : ∀ w, Mem w0 w D L → wpStill P ops w (fun a' => Q .normal a' w) l (Fr n (get g F)) := by unfold SX at h; exact h
/-- Three ways, each proved. -/
theorem SX.three {l : List Oper} {g' : Nat → Value} {F' : List (Nat × Value)} {l' : List Oper} (h : SX P w0 D n q ops Q l' g' F' L)
    (h0 : (∀ w, Mem w0 w D L → wpList P ops Q l' (Fr n (get g' F')) w) → ∀ w, Mem w0 w D L → wpList P ops Q l (Fr n (get g F)) w)
    (h1 : wpQuiet P ops (fun w => Mem w0 w D L) (fun a' => ∀ w', Mem w0 w' D L → Q .normal a' w') l' (Fr n (get g' F')) → wpQuiet P ops (fun w => Mem w0 w D L) (fun a' => ∀ w', Mem w0 w' D L → Q .normal a' w') l (Fr n (get g F)))
    (h2 : (∀ w, Mem w0 w D L → wpStill P ops w (fun a' => Q .normal a' w) l' (Fr n (get g' F'))) → ∀ w, Mem w0 w D L → wpStill P ops w (fun a' => Q .normal a' w) l (Fr n (get g F))) : SX P w0 D n q ops Q l g F L := by
  match q with
  | 0 => exact .mk (h0 h.out)
  | 1 => exact .mk1 (h1 h.out1)
  | q + 2 => exact .mk2 (h2 h.out2)
theorem CX.mk {c : Code} (h : ∀ w, Mem w0 w D L → c.wp P Q (Fr n (get g F)) w) : CX P w0 D n Q c g F L := by unfold CX; exact h
theorem CX.out {c : Code} (h : CX P w0 D n Q c g F L) : ∀ w, Mem w0 w D L → c.wp P Q (Fr n (get g F)) w := by unfold CX at h; exact h
theorem QX.mk {e : Exit} (h : ∀ w, Mem w0 w D L → Q e (Fr n (get g F)) w) : QX w0 D n Q e g F L := by unfold QX; exact h
theorem QX.out {e : Exit} (h : QX w0 D n Q e g F L) : ∀ w, Mem w0 w D L → Q e (Fr n (get g F)) w := by unfold QX at h; exact h

/- Code. -/
theorem cx_seq {x y : Code} (h : CX P w0 D n (Exit.then (y.wp P Q) Q) x g F L) : CX P w0 D n Q (.seq x y) g F L := .mk fun w hm => wp_seq (h.out w hm)
theorem cx_region {id : Nat} {l : List Oper} (h : SX P w0 D n 0 l.toArray Q l g F L) : CX P w0 D n Q (.region id l.toArray false) g F L := .mk fun w hm => wp_region_lit (h.out w hm)
theorem cx_skip (h : QX w0 D n Q .normal g F L) : CX P w0 D n Q .skip g F L := .mk fun w hm => wp_skip (h.out w hm)
theorem cx_label {i : Nat} (h : QX w0 D n Q .normal g F L) : CX P w0 D n Q (.label i) g F L := .mk fun w hm => wp_label (h.out w hm)
theorem cx_ret (h : QX w0 D n Q .ret g F L) : CX P w0 D n Q .ret g F L := .mk fun w hm => wp_ret (h.out w hm)
theorem cx_exit {i : Nat} (h : QX w0 D n Q (.exit i) g F L) : CX P w0 D n Q (.exit i) g F L := .mk fun w hm => wp_exit (h.out w hm)
theorem cx_block {i : Nat} {c : Code} (h : CX P w0 D n (Exit.inBlock i Q) c g F L) : CX P w0 D n Q (.block i c) g F L := .mk fun w hm => wp_block (h.out w hm)
theorem cx_cond {t : Nat} {x y : Code} {b : Bool} (hb : evn n (get g F) (.tmp t) = .bool b) (h1 : b = true → CX P w0 D n Q x g F L) (h2 : b = false → CX P w0 D n Q y g F L) : CX P w0 D n Q (.cond (.tmp t) x y) g F L :=
  .mk fun w hm => wp_cond_split (t := b) (by rw [Fr.evn]; exact hb) (fun h => (h1 h).out w hm) (fun h => (h2 h).out w hm)
theorem sx_nil (h : QX w0 D n Q .normal g F L) : SX P w0 D n q ops Q [] g F L := by
  match q with
  | 0 => exact .mk fun w hm => h.out w hm
  | 1 => exact .mk1 fun w hm => h.out w hm
  | q + 2 => exact .mk2 fun w hm => h.out w hm
/-- Operations that only look. -/
def looks : List Oper → Bool
  | [] => true
  | o :: l => match o.op with
    | .store .. | .alloc .. | .box .. | .buildSlice .. | .makeMap .. | .makeSlice .. | .mapUpdate .. | .insert .. | .mapEntry .. | .entryStore .. | .panic .. | .defer .. => false
    | .call c => match c.callee with
      | .builtin b => match b with
        | .len | .cap | .min | .max => looks l
        | _ => false
      | _ => looks l
    | _ => looks l
/-- A region of any order that only looks. -/
theorem cx_quiet {id : Nat} {l : List Oper} (_ : looks l = true) (hm : P.follows .mixedOrders = true) (hB : Region.lexB .any l.toArray = true) (h : SX P w0 D n 1 l.toArray Q l g F L) : CX P w0 D n Q (.region id l.toArray true) g F L :=
  .mk fun w hw => wp_region_quiet (C := fun w => Mem w0 w D L) hm hB hw.drew (by simpa using h.out1)
/-- A region whose head, of any order, looks, and whose tail is a row. -/
theorem cx_still {id : Nat} {l : List Oper} (k : Nat) (hd tl : List Oper) (hl : l = hd ++ tl) (hk : hd.length = k) (hm : P.follows .mixedOrders = true) (hB : Region.lexTailB .any l.toArray k = true)
    (h : SX P w0 D n 2 l.toArray (fun e a w => match e with | .normal => wpList P l.toArray Q tl a w | _ => True) hd g F L) : CX P w0 D n Q (.region id l.toArray true) g F L :=
  .mk fun w hw => wp_region_still_tail k hm hB (by
    have h1 := h.out2 (q := 0) _ hw.drew
    have e1 : l.take k = hd := by rw [hl, ← hk]; simp
    have e2 : l.drop k = tl := by rw [hl, ← hk]; simp
    rw [e1, e2]
    exact h1)
/-- .. one that calls, besides. -/
theorem cx_quiet' {id : Nat} {l : List Oper} (hm : P.follows .mixedOrders = true) (hB : Region.lexB .any l.toArray = true) (h : SX P w0 D n 1 l.toArray Q l g F L) : CX P w0 D n Q (.region id l.toArray true) g F L :=
  .mk fun w hw => wp_region_quiet (C := fun w => Mem w0 w D L) hm hB hw.drew (by simpa using h.out1)
theorem qx_tail {tl : List Oper} (h : SX P w0 D n 0 ops Q tl g F L) : QX w0 D n (fun e a w => match e with | .normal => wpList P ops Q tl a w | _ => True) .normal g F L := .mk fun w hm => h.out w hm
theorem qx_then {y : Code} {Q' : Exit → Act → World → Prop} (h : CX P w0 D n Q y g F L) : QX w0 D n (Exit.then (y.wp P Q) Q') .normal g F L := .mk fun w hm => h.out w hm
theorem qx_then_exit {i : Nat} {K : Act → World → Prop} (h : QX w0 D n Q (.exit i) g F L) : QX w0 D n (Exit.then K Q) (.exit i) g F L := .mk fun w hm => h.out w hm
theorem qx_then_ret {K : Act → World → Prop} (h : QX w0 D n Q .ret g F L) : QX w0 D n (Exit.then K Q) .ret g F L := .mk fun w hm => h.out w hm
theorem qx_in_normal {i : Nat} (h : QX w0 D n Q .normal g F L) : QX w0 D n (Exit.inBlock i Q) .normal g F L := .mk fun w hm => h.out w hm
theorem qx_in_ret {i : Nat} (h : QX w0 D n Q .ret g F L) : QX w0 D n (Exit.inBlock i Q) .ret g F L := .mk fun w hm => h.out w hm
theorem qx_in_here {i : Nat} (h : QX w0 D n Q .normal g F L) : QX w0 D n (Exit.inBlock i Q) (.exit i) g F L := .mk fun w hm => by simp only [Exit.inBlock, if_true]; exact h.out w hm
theorem qx_in_out {i j : Nat} (hne : Nat.beq j i = false) (h : QX w0 D n Q (.exit j) g F L) : QX w0 D n (Exit.inBlock i Q) (.exit j) g F L := .mk fun w hm => by
  have : ¬ j = i := fun e => by subst e; simp at hne
  simp only [Exit.inBlock, if_neg this]; exact h.out w hm
theorem qx_K {K : Act → World → Prop} (h : ∀ w, Mem w0 w D L → K (Fr n (get g F)) w) : QX w0 D n (Exit.then K Q) .normal g F L := .mk h
theorem cx_panicless {c : Code} {Q' : Exit → Act → World → Prop} (h : CX P w0 D n Q c g F L) (hq : ∀ e a w, Q e a w → Q' e a w) : CX P w0 D n Q' c g F L := .mk fun w hm => wp_mono (h.out w hm) hq
/-- What slots hold. -/
def FF (f : Nat → Value) : List (Nat × Value) → Prop
  | [] => True
  | (t, v) :: l => f t = v ∧ FF f l
theorem FF.get {f : Nat → Value} : ∀ {l : List (Nat × Value)}, FF f l → f = Port.get f l
  | [], _ => rfl
  | (t, v) :: l, h => by
    rw [← get_put, ← FF.get h.2]
    funext s
    simp only [upd]
    split
    · rename_i e; rw [e]; exact h.1
    · rfl
theorem cx_use {f : Nat → Value} {c : Code} {F : List (Nat × Value)} (hf : FF f F) (h : ∀ g, CX P w0 D n Q c g F L) : CX P w0 D n Q c f [] L := by
  have h1 := h f
  refine .mk fun w hm => ?_
  have h2 := h1.out w hm
  rw [← hf.get] at h2
  exact h2
/-- Slots are forgotten. -/
theorem cx_keep {c : Code} {F' : List (Nat × Value)} (hf : FF (get g F) F') (h : ∀ g, CX P w0 D n Q c g F' L) : CX P w0 D n Q c g F L := by
  have h1 := h (get g F)
  refine .mk fun w hm => ?_
  have h2 := h1.out w hm
  rw [← hf.get] at h2
  exact h2
theorem sx_keep {l : List Oper} {F' : List (Nat × Value)} (hf : FF (get g F) F') (h : ∀ g, SX P w0 D n q ops Q l g F' L) : SX P w0 D n q ops Q l g F L := by
  refine (h (get g F)).three ?_ ?_ ?_ <;> rw [← hf.get] <;> exact fun h => h
/-- Pieces of memory in another order; or forgotten. -/
theorem cx_mem {c : Code} {L' : List Ch} (h : CX P w0 D n Q c g F L') (hL : ∀ w, Mem w0 w D L → Mem w0 w D L') : CX P w0 D n Q c g F L := .mk fun w hm => h.out w (hL w hm)
theorem sx_mem {l : List Oper} {L' : List Ch} (h : SX P w0 D n 0 ops Q l g F L') (hL : ∀ w, Mem w0 w D L → Mem w0 w D L') : SX P w0 D n 0 ops Q l g F L := .mk fun w hm => h.out w (hL w hm)
theorem qx_mem {e : Exit} {L' : List Ch} (h : QX w0 D n Q e g F L') (hL : ∀ w, Mem w0 w D L → Mem w0 w D L') : QX w0 D n Q e g F L := .mk fun w hm => h.out w (hL w hm)
/-- Pieces of memory in another order. -/
def Rot (L L' : List Ch) : Prop := L'.flatten.Perm L.flatten
theorem Rot.mem {L' : List Ch} {w : World} (h : Rot L L') (hm : Mem w0 w D L) : Mem w0 w D L' := hm.perm h
theorem rot0 : Rot L L := .refl _
theorem rotN : Rot L ([] :: L) := .refl _
theorem rot1 {c0 c1 : Ch} : Rot (c0 :: c1 :: L) (c1 :: c0 :: L) := (List.perm_middle (l₁ := [c0])).symm.flatten
theorem rot2 {c0 c1 c2 : Ch} : Rot (c0 :: c1 :: c2 :: L) (c2 :: c0 :: c1 :: L) := (List.perm_middle (l₁ := [c0, c1])).symm.flatten
theorem rot3 {c0 c1 c2 c3 : Ch} : Rot (c0 :: c1 :: c2 :: c3 :: L) (c3 :: c0 :: c1 :: c2 :: L) := (List.perm_middle (l₁ := [c0, c1, c2])).symm.flatten
theorem rot4 {c0 c1 c2 c3 c4 : Ch} : Rot (c0 :: c1 :: c2 :: c3 :: c4 :: L) (c4 :: c0 :: c1 :: c2 :: c3 :: L) := (List.perm_middle (l₁ := [c0, c1, c2, c3])).symm.flatten
theorem rot5 {c0 c1 c2 c3 c4 c5 : Ch} : Rot (c0 :: c1 :: c2 :: c3 :: c4 :: c5 :: L) (c5 :: c0 :: c1 :: c2 :: c3 :: c4 :: L) := (List.perm_middle (l₁ := [c0, c1, c2, c3, c4])).symm.flatten
theorem rot6 {c0 c1 c2 c3 c4 c5 c6 : Ch} : Rot (c0 :: c1 :: c2 :: c3 :: c4 :: c5 :: c6 :: L) (c6 :: c0 :: c1 :: c2 :: c3 :: c4 :: c5 :: L) := (List.perm_middle (l₁ := [c0, c1, c2, c3, c4, c5])).symm.flatten
theorem rot7 {c0 c1 c2 c3 c4 c5 c6 c7 : Ch} : Rot (c0 :: c1 :: c2 :: c3 :: c4 :: c5 :: c6 :: c7 :: L) (c7 :: c0 :: c1 :: c2 :: c3 :: c4 :: c5 :: c6 :: L) := (List.perm_middle (l₁ := [c0, c1, c2, c3, c4, c5, c6])).symm.flatten
theorem rot8 {c0 c1 c2 c3 c4 c5 c6 c7 c8 : Ch} : Rot (c0 :: c1 :: c2 :: c3 :: c4 :: c5 :: c6 :: c7 :: c8 :: L) (c8 :: c0 :: c1 :: c2 :: c3 :: c4 :: c5 :: c6 :: c7 :: L) := (List.perm_middle (l₁ := [c0, c1, c2, c3, c4, c5, c6, c7])).symm.flatten
theorem rot9 {c0 c1 c2 c3 c4 c5 c6 c7 c8 c9 : Ch} : Rot (c0 :: c1 :: c2 :: c3 :: c4 :: c5 :: c6 :: c7 :: c8 :: c9 :: L) (c9 :: c0 :: c1 :: c2 :: c3 :: c4 :: c5 :: c6 :: c7 :: c8 :: L) := (List.perm_middle (l₁ := [c0, c1, c2, c3, c4, c5, c6, c7, c8])).symm.flatten
theorem mem_drop0 {c0 : Ch} {w : World} (h : Mem w0 w D (c0 :: L)) : Mem w0 w D L := h.tail
theorem mem_drop1 {c0 c1 : Ch} {w : World} (h : Mem w0 w D (c0 :: c1 :: L)) : Mem w0 w D (c0 :: L) := (rot1.mem h).tail
theorem sx_rot {l : List Oper} {L' : List Ch} (hr : Rot L L') (h : SX P w0 D n 0 ops Q l g F L') : SX P w0 D n 0 ops Q l g F L := sx_mem h fun _ hm => hr.mem hm
theorem cx_rot {c : Code} {L' : List Ch} (hr : Rot L L') (h : CX P w0 D n Q c g F L') : CX P w0 D n Q c g F L := cx_mem h fun _ hm => hr.mem hm
theorem qx_rot {e : Exit} {L' : List Ch} (hr : Rot L L') (h : QX w0 D n Q e g F L') : QX w0 D n Q e g F L := qx_mem h fun _ hm => hr.mem hm
theorem mem_drop2 {c0 c1 c2 : Ch} {w : World} (h : Mem w0 w D (c0 :: c1 :: c2 :: L)) : Mem w0 w D (c0 :: c1 :: L) := (rot2.mem h).tail
/-- A loop. -/
theorem cx_loop {c : Code} (I : Nat → (Nat → Value) → List Ch → Prop) (m : Nat) (h0 : I m (get g F) L)
    (round : ∀ m f L, I m f L → ∀ K : Act → World → Prop, (∀ m' g F L, m' < m → I m' (get g F) L → QX w0 D n (Exit.then K Q) .normal g F L) → CX P w0 D n (Exit.then K Q) c f [] L) : CX P w0 D n Q (.loop c) g F L := by
  refine .mk fun w hm => ?_
  refine wp_loop_ghost (fun m a w => ∃ f L, a = Fr n f ∧ Mem w0 w D L ∧ I m f L) m ⟨get g F, L, rfl, hm, h0⟩ ?_
  rintro m a w ⟨f, L, rfl, hm, hI⟩
  exact (round m f L hI (fun a w => ∃ m', m' < m ∧ ∃ f L, a = Fr n f ∧ Mem w0 w D L ∧ I m' f L) fun m' g F L' hlt hI' => .mk fun w' hm' => ⟨m', hlt, _, L', rfl, hm', hI'⟩).out w hm
/-- A cut: what follows sees only what is told. -/
theorem cx_cut {x y : Code} (R : (Nat → Value) → List Ch → Prop)
    (h1 : ∀ K : Act → World → Prop, (∀ g F L, R (get g F) L → QX w0 D n (Exit.then K Q) .normal g F L) → CX P w0 D n (Exit.then K Q) x g F L) (h2 : ∀ f L, R f L → CX P w0 D n Q y f [] L) : CX P w0 D n Q (.seq x y) g F L :=
  .mk fun w hm => wp_seq (wp_mono ((h1 (fun a w => ∃ f L, a = Fr n f ∧ Mem w0 w D L ∧ R f L) fun g F L hR => .mk fun w hm => ⟨_, L, rfl, hm, hR⟩).out w hm) fun e a w q => by
    cases e with
    | normal => obtain ⟨f, L, rfl, hm, hR⟩ := q; exact (h2 f L hR).out w hm
    | exit id => exact q
    | goto l => exact q
    | ret => exact q
    | panic ch => exact q
    | outgrown => exact q)
/- A call begins; it ends. -/
theorem cx_enter {k : FuncId} {fn : Func} {c : Code} {args : List Value} {F : List (Nat × Value)} {w : World} {R : Value → List Ch → Prop} (n : Nat) (L : List Ch)
    (hf : P.funcs[k]? = some fn) (hb : fn.body = some c) (hn : fn.ntmps = n) (ha : args.length ≤ n) (hF : (List.range args.length).zip args = F) (hm : Mem w w D L)
    (h : ∀ g, CX P w D n (bodyPost P fn (Ret w D R)) c g F L) : Calls P k args.toArray w (Ret w D R) := by
  subst hF
  refine fr_enter n hf hb hn (by simpa using ha) fun f hf => ?_
  have hFF : FF f ((List.range args.length).zip args) := by
    have key : ∀ (l : List Value) (i : Nat), (∀ j, j < l.length → f (i + j) = l.getD j undef) → FF f ((List.range' i l.length).zip l) := by
      intro l
      induction l with
      | nil => intro i _; exact trivial
      | cons v l ih =>
        intro i hi
        rw [List.length_cons, List.range'_succ, List.zip_cons_cons]
        refine ⟨by simpa using hi 0 (by simp), ih (i + 1) fun j hj => ?_⟩
        have := hi (j + 1) (by simp; omega)
        rw [show i + 1 + j = i + (j + 1) by omega, this]
        simp
    rw [List.range_eq_range']
    refine key args 0 fun j hj => ?_
    rw [Nat.zero_add, hf j (by omega)]
    simp
  have h1 := (h f).out w hm
  rw [← hFF.get] at h1
  exact h1
theorem qx_ret0 {fn : Func} {R : Value → List Ch → Prop} (L' : List Ch) (h : fn.results = #[]) (hR : R (.tuple #[]) L') (hL : ∀ w, Mem w0 w D L → Mem w0 w D L') : QX w0 D n (bodyPost P fn (Ret w0 D R)) .ret g F L :=
  .mk fun w hm => bodyPost_ret (results_none h _ _ _) Fr.defers ⟨_, L', rfl, hL w hm, hR⟩
theorem qx_end0 {fn : Func} {R : Value → List Ch → Prop} (L' : List Ch) (h : fn.results = #[]) (hR : R (.tuple #[]) L') (hL : ∀ w, Mem w0 w D L → Mem w0 w D L') : QX w0 D n (bodyPost P fn (Ret w0 D R)) .normal g F L :=
  .mk fun w hm => bodyPost_end (results_none h _ _ _) Fr.defers ⟨_, L', rfl, hL w hm, hR⟩
theorem qx_ret1 {fn : Func} {R : Value → List Ch → Prop} {t : Nat} {v : Value} (L' : List Ch) (h : fn.results = #[.tmp t]) (hv : evn n (get g F) (.tmp t) = v) (hR : R v L') (hL : ∀ w, Mem w0 w D L → Mem w0 w D L') : QX w0 D n (bodyPost P fn (Ret w0 D R)) .ret g F L :=
  .mk fun w hm => bodyPost_ret (results_tmp h _ _ _) Fr.defers ⟨_, L', rfl, hL w hm, by
    have : (Fr n (get g F)).tmps.getD t undef = v := by rw [← hv, ← Fr.evn]; rfl
    rw [this]; exact hR⟩
theorem qx_ret2 {fn : Func} {R : Value → List Ch → Prop} {t u : Nat} {v x : Value} (L' : List Ch) (h : fn.results = #[.tmp t, .tmp u]) (hv : evn n (get g F) (.tmp t) = v) (hx : evn n (get g F) (.tmp u) = x) (hR : R (.tuple #[v, x]) L') (hL : ∀ w, Mem w0 w D L → Mem w0 w D L') : QX w0 D n (bodyPost P fn (Ret w0 D R)) .ret g F L :=
  .mk fun w hm => bodyPost_ret (results_tmp2 h _ _ _) Fr.defers ⟨_, L', rfl, hL w hm, by
    have h1 : (Fr n (get g F)).tmps.getD t undef = v := by rw [← hv, ← Fr.evn]; rfl
    have h2 : (Fr n (get g F)).tmps.getD u undef = x := by rw [← hx, ← Fr.evn]; rfl
    rw [h1, h2]; exact hR⟩
theorem results_tmp3 {fn : Func} {t u s : Tmp} (h : fn.results = #[.tmp t, .tmp u, .tmp s]) (tmps : Array Value) (P : Program) (w : World) :
    (results fn tmps).run P w = .ok (.tuple #[tmps.getD t undef, tmps.getD u undef, tmps.getD s undef]) w := by
  simp [results, h]
theorem results_tmp4 {fn : Func} {t u s r : Tmp} (h : fn.results = #[.tmp t, .tmp u, .tmp s, .tmp r]) (tmps : Array Value) (P : Program) (w : World) :
    (results fn tmps).run P w = .ok (.tuple #[tmps.getD t undef, tmps.getD u undef, tmps.getD s undef, tmps.getD r undef]) w := by
  simp [results, h]
theorem qx_ret3 {fn : Func} {R : Value → List Ch → Prop} {t u s : Nat} {v x y : Value} (L' : List Ch) (h : fn.results = #[.tmp t, .tmp u, .tmp s]) (hv : evn n (get g F) (.tmp t) = v) (hx : evn n (get g F) (.tmp u) = x) (hy : evn n (get g F) (.tmp s) = y) (hR : R (.tuple #[v, x, y]) L') (hL : ∀ w, Mem w0 w D L → Mem w0 w D L') : QX w0 D n (bodyPost P fn (Ret w0 D R)) .ret g F L :=
  .mk fun w hm => bodyPost_ret (results_tmp3 h _ _ _) Fr.defers ⟨_, L', rfl, hL w hm, by
    have h1 : (Fr n (get g F)).tmps.getD t undef = v := by rw [← hv, ← Fr.evn]; rfl
    have h2 : (Fr n (get g F)).tmps.getD u undef = x := by rw [← hx, ← Fr.evn]; rfl
    have h3 : (Fr n (get g F)).tmps.getD s undef = y := by rw [← hy, ← Fr.evn]; rfl
    rw [h1, h2, h3]; exact hR⟩
theorem qx_ret4 {fn : Func} {R : Value → List Ch → Prop} {t u s r : Nat} {v x y z : Value} (L' : List Ch) (h : fn.results = #[.tmp t, .tmp u, .tmp s, .tmp r]) (hv : evn n (get g F) (.tmp t) = v) (hx : evn n (get g F) (.tmp u) = x) (hy : evn n (get g F) (.tmp s) = y) (hz : evn n (get g F) (.tmp r) = z) (hR : R (.tuple #[v, x, y, z]) L') (hL : ∀ w, Mem w0 w D L → Mem w0 w D L') : QX w0 D n (bodyPost P fn (Ret w0 D R)) .ret g F L :=
  .mk fun w hm => bodyPost_ret (results_tmp4 h _ _ _) Fr.defers ⟨_, L', rfl, hL w hm, by
    have h1 : (Fr n (get g F)).tmps.getD t undef = v := by rw [← hv, ← Fr.evn]; rfl
    have h2 : (Fr n (get g F)).tmps.getD u undef = x := by rw [← hx, ← Fr.evn]; rfl
    have h3 : (Fr n (get g F)).tmps.getD s undef = y := by rw [← hy, ← Fr.evn]; rfl
    have h4 : (Fr n (get g F)).tmps.getD r undef = z := by rw [← hz, ← Fr.evn]; rfl
    rw [h1, h2, h3, h4]; exact hR⟩

/- Operations: their guards. -/
variable {rest : List Oper} {op : Op} {ty : TypeId} {pos : String} {af : Array Edge} {d : Nat}
theorem yielded_fr {f : Nat → Value} {j t : Nat} (hd : (ops[j]?).bind (·.dst) = some t) (ht : Nat.blt t n = true) : yielded ops (Fr n f).tmps j = match f t with | .bool b => some b | _ => none := by
  unfold yielded
  rw [hd, Option.bind_some, Fr.get (Nat.le_of_ble_eq_true ht)]
  cases f t <;> rfl
theorem sx_pass {o : Oper} (hd : o.dst = some d) (hw : Region.wanted o (yielded ops (Fr n (get g F)).tmps) = false) (h : SX P w0 D n q ops Q rest g ((d, undef) :: F) L) : SX P w0 D n q ops Q (o :: rest) g F L := by
  have e : (Fr n (get g F)).put o.dst undef = Fr n (get g ((d, undef) :: F)) := by rw [hd, Fr.put, get_put]
  refine h.three ?_ ?_ ?_
  · intro h w hm
    unfold wpList
    rw [if_neg (by simp [hw]), e]
    exact h w hm
  · intro h
    unfold wpQuiet
    rw [if_neg (by simp [hw]), e]
    exact h
  · intro h w hm
    unfold wpStill
    rw [if_neg (by simp [hw]), e]
    exact h w hm
theorem sx_pass' {o : Oper} (hd : o.dst = none) (hw : Region.wanted o (yielded ops (Fr n (get g F)).tmps) = false) (h : SX P w0 D n q ops Q rest g F L) : SX P w0 D n q ops Q (o :: rest) g F L := by
  have e : (Fr n (get g F)).put o.dst undef = Fr n (get g F) := by rw [hd]; rfl
  refine h.three ?_ ?_ ?_
  · intro h w hm
    unfold wpList
    rw [if_neg (by simp [hw]), e]
    exact h w hm
  · intro h
    unfold wpQuiet
    rw [if_neg (by simp [hw]), e]
    exact h
  · intro h w hm
    unfold wpStill
    rw [if_neg (by simp [hw]), e]
    exact h w hm
theorem wanted_no {o : Oper} {j t : Nat} {want b : Bool} (hg : o.guard = some (j, want)) (hd : (ops[j]?).bind (·.dst) = some t) (ht : Nat.blt t n = true) (hv : get g F t = .bool b) (hb : b = !want) : Region.wanted o (yielded ops (Fr n (get g F)).tmps) = false := by
  simp only [Region.wanted, hg, yielded_fr hd ht, hv, hb]; cases want <;> rfl
theorem wanted_un {o : Oper} {j t : Nat} {want : Bool} (hg : o.guard = some (j, want)) (hd : (ops[j]?).bind (·.dst) = some t) (ht : Nat.blt t n = true) (hv : get g F t = undef) : Region.wanted o (yielded ops (Fr n (get g F)).tmps) = false := by
  simp only [Region.wanted, hg, yielded_fr hd ht, hv]; rfl
theorem sx_skip {j t : Nat} {want b : Bool} (hd : (ops[j]?).bind (·.dst) = some t) (ht : Nat.blt t n = true) (hv : get g F t = .bool b) (hb : b = !want) (h : SX P w0 D n q ops Q rest g ((d, undef) :: F) L) :
    SX P w0 D n q ops Q ({ dst := some d, op := op, type := ty, pos := pos, after := af, guard := some (j, want) } :: rest) g F L := sx_pass rfl (wanted_no rfl hd ht hv hb) h
theorem sx_skip' {j t : Nat} {want b : Bool} (hd : (ops[j]?).bind (·.dst) = some t) (ht : Nat.blt t n = true) (hv : get g F t = .bool b) (hb : b = !want) (h : SX P w0 D n q ops Q rest g F L) :
    SX P w0 D n q ops Q ({ dst := none, op := op, type := ty, pos := pos, after := af, guard := some (j, want) } :: rest) g F L := sx_pass' rfl (wanted_no rfl hd ht hv hb) h
theorem sx_skipu {j t : Nat} {want : Bool} (hd : (ops[j]?).bind (·.dst) = some t) (ht : Nat.blt t n = true) (hv : get g F t = undef) (h : SX P w0 D n q ops Q rest g ((d, undef) :: F) L) :
    SX P w0 D n q ops Q ({ dst := some d, op := op, type := ty, pos := pos, after := af, guard := some (j, want) } :: rest) g F L := sx_pass rfl (wanted_un rfl hd ht hv) h
theorem sx_want {j t : Nat} {want b : Bool} {dst : Option Nat} (hd : (ops[j]?).bind (·.dst) = some t) (ht : Nat.blt t n = true) (hv : get g F t = .bool b) (hb : b = want)
    (h : SX P w0 D n q ops Q ({ dst := dst, op := op, type := ty, pos := pos, after := af, guard := none } :: rest) g F L) :
    SX P w0 D n q ops Q ({ dst := dst, op := op, type := ty, pos := pos, after := af, guard := some (j, want) } :: rest) g F L := by
  have hw : Region.wanted { dst := dst, op := op, type := ty, pos := pos, after := af, guard := some (j, want) } (yielded ops (Fr n (get g F)).tmps) = true := by
    simp only [Region.wanted, yielded_fr hd ht, hv, hb]; cases want <;> rfl
  refine h.three ?_ ?_ ?_
  · intro h w hm
    have := h w hm
    unfold wpList at this ⊢
    rw [if_pos (by simp [Region.wanted])] at this
    rw [if_pos hw]
    exact this
  · intro h
    unfold wpQuiet at h ⊢
    rw [if_pos (by simp [Region.wanted])] at h
    rw [if_pos hw]
    exact h
  · intro h w hm
    have := h w hm
    unfold wpStill at this ⊢
    rw [if_pos (by simp [Region.wanted])] at this
    rw [if_pos hw]
    exact this
/-- A guard that is not known: both ways. -/
theorem sx_either {o : Oper} {j t : Nat} {want b : Bool} (hg : o.guard = some (j, want)) (hd : (ops[j]?).bind (·.dst) = some t) (hv : get g F t = .bool b) (h1 : b = want → SX P w0 D n q ops Q (o :: rest) g F L) (h2 : b = (!want) → SX P w0 D n q ops Q (o :: rest) g F L) :
    SX P w0 D n q ops Q (o :: rest) g F L := by
  cases b <;> cases want
  · exact h1 rfl
  · exact h2 rfl
  · exact h2 rfl
  · exact h1 rfl

theorem get_again {t : Nat} {v : Value} (h : get g F t = v) : get g ((t, v) :: F) = get g F := by
  funext s
  show (bif Nat.beq s t then v else get g F s) = _
  cases hb : Nat.beq s t with
  | true => have : s = t := Nat.eq_of_beq_eq_true hb; subst this; exact h.symm
  | false => rfl
/-- A guard that is known. -/
theorem sx_lit {o : Oper} {j t : Nat} {want b : Bool} (b' : Bool) (hg : o.guard = some (j, want)) (hd : (ops[j]?).bind (·.dst) = some t) (hv : get g F t = .bool b) (hb : b = b') (h : SX P w0 D n q ops Q (o :: rest) g ((t, .bool b') :: F) L) :
    SX P w0 D n q ops Q (o :: rest) g F L := by
  have e : get g ((t, .bool b') :: F) = get g F := get_again (by rw [hv, hb])
  refine h.three ?_ ?_ ?_ <;> rw [e] <;> exact fun h => h

theorem wpList_append {P : Program} {ops : Array Oper} {Q : Exit → Act → World → Prop} (l2 : List Oper) : ∀ (l1 : List Oper) (a : Act) (w : World), wpList P ops (Exit.then (wpList P ops Q l2) Q) l1 a w → wpList P ops Q (l1 ++ l2) a w
  | [], a, w, h => h
  | o :: l1, a, w, h => by
    unfold wpList at h
    rw [List.cons_append]
    unfold wpList
    split at h
    · rename_i hw
      rw [if_pos hw]
      rcases h with h | ⟨h1, h2⟩
      · refine .inl ?_
        have h' := Oper.wp_mono (K' := wpList P ops Q (l1 ++ l2)) (fun a w hh => wpList_append l2 l1 a w hh) h
        unfold Oper.wp at h' ⊢
        generalize (execOp a.eval o).run P w = r at h' ⊢
        cases r with
        | ok x w' =>
          cases x <;> simp only [Oper.upon] at h' ⊢ <;> first
            | exact h'
            | (refine Calls.mono h' fun e w'' he => ?_
               cases e with
               | returned v => exact he
               | panicked ch => exact he
               | outgrown => obtain ⟨a, w, hh⟩ := he; exact ⟨a, w, hh⟩)
        | halt x w' => cases x <;> simp only [Oper.upon] at h' ⊢ <;> exact h'
      · obtain ⟨a', w', hh⟩ := h2
        exact .inr ⟨h1, a', w', hh⟩
    · rename_i hw
      rw [if_neg hw]
      exact wpList_append l2 l1 _ w h

def clash (s : List (Nat × Value)) : Nat → Bool
  | t => match s with
    | [] => false
    | (d, _) :: r => Nat.beq t d || clash r t
def clashes (s : List (Nat × Value)) : List (Nat × Value) → Bool
  | [] => false
  | (t, _) :: r => clash s t || clashes s r
/-- F' is F, and slots beside. -/
def Beside (F' F : List (Nat × Value)) : Prop := F'.drop (F'.length - F.length) = F ∧ clashes (F'.take (F'.length - F.length)) F = false
theorem get_beside_aux (g : Nat → Value) (F : List (Nat × Value)) : ∀ s, clashes s F = false → get g (s ++ F) = get (get g s) F := by
  have h2 : ∀ (s : List (Nat × Value)) (t : Nat), clash s t = false → ∀ F, get g (s ++ F) t = get g F t := by
    intro s
    induction s with
    | nil => intro t _ F; rfl
    | cons e s ih =>
      intro t ht F
      obtain ⟨d, v⟩ := e
      simp only [clash, Bool.or_eq_false_iff] at ht
      show (bif Nat.beq t d then v else get g (s ++ F) t) = _
      rw [ht.1]; exact ih t ht.2 F
  intro s hs
  funext t
  have key : ∀ F : List (Nat × Value), clashes s F = false → get g (s ++ F) t = get (get g s) F t := by
    intro F
    induction F with
    | nil => intro _; rw [List.append_nil]; rfl
    | cons e F ih =>
      intro hc
      obtain ⟨d, v⟩ := e
      simp only [clashes, Bool.or_eq_false_iff] at hc
      show _ = bif Nat.beq t d then v else get (get g s) F t
      cases hb : Nat.beq t d with
      | true =>
        have : t = d := Nat.eq_of_beq_eq_true hb
        subst this
        rw [h2 s t hc.1]
        show (bif Nat.beq t t then v else _) = _
        rw [hb]; rfl
      | false =>
        rw [show (bif false then v else get (get g s) F t) = get (get g s) F t from rfl, ← ih hc.2]
        have : ∀ s : List (Nat × Value), get g (s ++ (d, v) :: F) t = get g (s ++ F) t := by
          intro s
          induction s with
          | nil => show (bif Nat.beq t d then v else get g F t) = _; rw [hb]; rfl
          | cons e s ih => obtain ⟨d', v'⟩ := e; show (bif Nat.beq t d' then v' else get g (s ++ (d, v) :: F) t) = bif Nat.beq t d' then v' else get g (s ++ F) t; rw [ih]
        exact this s
  exact key F hs
theorem Beside.get {F' F : List (Nat × Value)} (h : Beside F' F) (g : Nat → Value) : Port.get g F' = Port.get (Port.get g (F'.take (F'.length - F.length))) F := by
  have h1 := get_beside_aux g F _ h.2
  have h2 : F'.take (F'.length - F.length) ++ F = F' := by
    have := List.take_append_drop (F'.length - F.length) F'
    rw [h.1] at this; exact this
  rw [h2] at h1; exact h1
/-- One more operation at the same guard. -/
theorem wpList_alike {o o' : Oper} {a : Act} {w : World} {v : Value} (hgd : o.guard = o'.guard) (hdst : o.dst = o'.dst) (h1 : (execOp a.eval o).run P w = .ok (.value v) w) (h2 : (execOp a.eval o').run P w = .ok (.value v) w) (hno : ¬ o.asks P a w) (h : wpList P ops Q (o :: rest) a w) : wpList P ops Q (o' :: rest) a w := by
  unfold wpList at h ⊢
  have hw : Region.wanted o' (yielded ops a.tmps) = Region.wanted o (yielded ops a.tmps) := by simp only [Region.wanted, hgd]
  rw [hw, ← hdst]
  split at h
  · rename_i hx
    rw [if_pos hx]
    rcases h with h | h
    · refine .inl ?_
      unfold Oper.wp at h ⊢
      rw [h1, Oper.upon_value] at h
      rw [h2, Oper.upon_value, ← hdst]
      exact h
    · exact absurd h.1 hno
  · rename_i hx
    rw [if_neg hx]; exact h
/-- Operations that hang on a guard that is not known, and what is picked behind them: or. -/
theorem sx_or {o : Oper} {j t d x : Nat} {b : Bool} {gd : Option (Nat × Bool)} {l : List Oper} (grp : List Oper) (hg : o.guard = some (j, false)) (hd : (ops[j]?).bind (·.dst) = some t) (hv : get g F t = .bool b)
    (hl : o :: rest = grp ++ { dst := some d, op := .pick (.tmp t) (.const (.bool true)) (.tmp x), type := ty, pos := pos, after := af, guard := gd } :: l) (htn : Nat.blt t n = true) (hxn : Nat.blt x n = true)
    (h : ∃ c : Bool, (b = false → ∀ K : Act → World → Prop, (∀ g F' L', get g F' t = .bool b → get g F' x = .bool c → Beside F' F → L'.drop (L'.length - L.length) = L → QX w0 D n (Exit.then K Q) .normal g F' L') → SX P w0 D n 0 ops (Exit.then K Q) grp g F L) ∧
      (∀ g, SX P w0 D n 0 ops Q ({ dst := some d, op := .move (.const (.bool (b || c))), type := ty, pos := pos, after := af, guard := gd } :: l) g F L))
    (hno : b = true → ∀ K : Act → World → Prop, (∀ g F' L', get g F' t = .bool b → Beside F' F → L'.drop (L'.length - L.length) = L → QX w0 D n (Exit.then K Q) .normal g F' L') → SX P w0 D n 0 ops (Exit.then K Q) grp g F L) : SX P w0 D n 0 ops Q (o :: rest) g F L := by
  obtain ⟨c, hdo, hrest⟩ := h
  have hev : ∀ f, Port.evn n f (.tmp t) = f t := fun f => by show (bif Nat.blt t n then f t else undef) = _; rw [htn]; rfl
  have hex : ∀ f, Port.evn n f (.tmp x) = f x := fun f => by show (bif Nat.blt x n then f x else undef) = _; rw [hxn]; rfl
  have hmem : ∀ {w : World} {L' : List Ch}, L'.drop (L'.length - L.length) = L → Mem w0 w D L' → Mem w0 w D L := fun {w L'} hL hm => by
    rw [← hL]; exact Mem.dropl (L' := L'.take (L'.length - L.length)) (by rw [List.take_append_drop]; exact hm)
  have hnasks : ∀ (a : Act) (w : World) (v : Value), ¬ Oper.asks P { dst := some d, op := .move (.const v), type := ty, pos := pos, after := af, guard := gd } a w := fun a w v hh => by
    have h1 := hh.1
    have h2 : ((execOp a.eval { dst := some d, op := .move (.const v), type := ty, pos := pos, after := af, guard := gd }).runT P w #[]).2 = #[] := rfl
    rw [h2] at h1
    simp at h1
  have key : ∀ (g : Nat → Value) (F' : List (Nat × Value)) (L' : List Ch), get g F' t = .bool b → (b = false → get g F' x = .bool c) → Beside F' F → L'.drop (L'.length - L.length) = L → QX w0 D n (Exit.then (wpList P ops Q ({ dst := some d, op := .pick (.tmp t) (.const (.bool true)) (.tmp x), type := ty, pos := pos, after := af, guard := gd } :: l)) Q) .normal g F' L' := by
    intro g F' L' ht hx hF hL
    refine .mk fun w hm => ?_
    have h1 := (hrest (get g (F'.take (F'.length - F.length)))).out w (hmem hL hm)
    rw [← hF.get] at h1
    refine wpList_alike (o := { dst := some d, op := .move (.const (.bool (b || c))), type := ty, pos := pos, after := af, guard := gd }) (v := .bool (b || c)) rfl rfl rfl ?_ (hnasks _ _ _) h1
    rw [Fr.evn]
    simp only [execOp, hev, hex, ht]
    cases hb : b with
    | false => simp [asBool, hx hb, Port.evn, go_sem]
    | true => simp [asBool, Port.evn, go_sem]
  refine .mk fun w hm => ?_
  rw [hl]
  refine wpList_append _ _ _ _ ?_
  cases hb : b with
  | false => exact (hdo hb _ fun g F' L' ht hx hF hL => key g F' L' ht (fun _ => hx) hF hL).out w hm
  | true => exact (hno hb _ fun g F' L' ht hF hL => key g F' L' ht (fun e => by rw [hb] at e; cases e) hF hL).out w hm
/-- .. and. -/
theorem sx_and {o : Oper} {j t d x : Nat} {b : Bool} {gd : Option (Nat × Bool)} {l : List Oper} (grp : List Oper) (hg : o.guard = some (j, true)) (hd : (ops[j]?).bind (·.dst) = some t) (hv : get g F t = .bool b)
    (hl : o :: rest = grp ++ { dst := some d, op := .pick (.tmp t) (.tmp x) (.const (.bool false)), type := ty, pos := pos, after := af, guard := gd } :: l) (htn : Nat.blt t n = true) (hxn : Nat.blt x n = true)
    (h : ∃ c : Bool, (b = true → ∀ K : Act → World → Prop, (∀ g F' L', get g F' t = .bool b → get g F' x = .bool c → Beside F' F → L'.drop (L'.length - L.length) = L → QX w0 D n (Exit.then K Q) .normal g F' L') → SX P w0 D n 0 ops (Exit.then K Q) grp g F L) ∧
      (∀ g, SX P w0 D n 0 ops Q ({ dst := some d, op := .move (.const (.bool (b && c))), type := ty, pos := pos, after := af, guard := gd } :: l) g F L))
    (hno : b = false → ∀ K : Act → World → Prop, (∀ g F' L', get g F' t = .bool b → Beside F' F → L'.drop (L'.length - L.length) = L → QX w0 D n (Exit.then K Q) .normal g F' L') → SX P w0 D n 0 ops (Exit.then K Q) grp g F L) : SX P w0 D n 0 ops Q (o :: rest) g F L := by
  obtain ⟨c, hdo, hrest⟩ := h
  have hev : ∀ f, Port.evn n f (.tmp t) = f t := fun f => by show (bif Nat.blt t n then f t else undef) = _; rw [htn]; rfl
  have hex : ∀ f, Port.evn n f (.tmp x) = f x := fun f => by show (bif Nat.blt x n then f x else undef) = _; rw [hxn]; rfl
  have hmem : ∀ {w : World} {L' : List Ch}, L'.drop (L'.length - L.length) = L → Mem w0 w D L' → Mem w0 w D L := fun {w L'} hL hm => by
    rw [← hL]; exact Mem.dropl (L' := L'.take (L'.length - L.length)) (by rw [List.take_append_drop]; exact hm)
  have hnasks : ∀ (a : Act) (w : World) (v : Value), ¬ Oper.asks P { dst := some d, op := .move (.const v), type := ty, pos := pos, after := af, guard := gd } a w := fun a w v hh => by
    have h1 := hh.1
    have h2 : ((execOp a.eval { dst := some d, op := .move (.const v), type := ty, pos := pos, after := af, guard := gd }).runT P w #[]).2 = #[] := rfl
    rw [h2] at h1
    simp at h1
  have key : ∀ (g : Nat → Value) (F' : List (Nat × Value)) (L' : List Ch), get g F' t = .bool b → (b = true → get g F' x = .bool c) → Beside F' F → L'.drop (L'.length - L.length) = L → QX w0 D n (Exit.then (wpList P ops Q ({ dst := some d, op := .pick (.tmp t) (.tmp x) (.const (.bool false)), type := ty, pos := pos, after := af, guard := gd } :: l)) Q) .normal g F' L' := by
    intro g F' L' ht hx hF hL
    refine .mk fun w hm => ?_
    have h1 := (hrest (get g (F'.take (F'.length - F.length)))).out w (hmem hL hm)
    rw [← hF.get] at h1
    refine wpList_alike (o := { dst := some d, op := .move (.const (.bool (b && c))), type := ty, pos := pos, after := af, guard := gd }) (v := .bool (b && c)) rfl rfl rfl ?_ (hnasks _ _ _) h1
    rw [Fr.evn]
    simp only [execOp, hev, hex, ht]
    cases hb : b with
    | true => simp [asBool, hx hb, Port.evn, go_sem]
    | false => simp [asBool, Port.evn, go_sem]
  refine .mk fun w hm => ?_
  rw [hl]
  refine wpList_append _ _ _ _ ?_
  cases hb : b with
  | true => exact (hdo hb _ fun g F' L' ht hx hF hL => key g F' L' ht (fun _ => hx) hF hL).out w hm
  | false => exact (hno hb _ fun g F' L' ht hF hL => key g F' L' ht (fun e => by rw [hb] at e; cases e) hF hL).out w hm

/- Operations: what they give. -/
theorem sx_run {o : Oper} (v : Value) (hg : o.guard = none) (hd : o.dst = some d) (hrun : ∀ w, Mem w0 w D L → (execOp (evn n (get g F)) o).run P w = .ok (.value v) w) (h : SX P w0 D n q ops Q rest g ((d, v) :: F) L) : SX P w0 D n q ops Q (o :: rest) g F L := by
  have e : (Fr n (get g F)).put o.dst v = Fr n (get g ((d, v) :: F)) := by rw [hd, Fr.put, get_put]
  refine h.three ?_ ?_ ?_
  · intro h w hm
    refine wpList_plain hg fun K hK => ?_
    unfold Oper.wp
    rw [Fr.evn, hrun w hm, Oper.upon_value, e]
    exact hK _ _ (h w hm)
  · intro h
    unfold wpQuiet
    rw [if_pos (by simp [Region.wanted, hg])]
    refine ⟨v, fun w hm => ?_, by rw [e]; exact h⟩
    unfold Oper.quietAt
    rw [Fr.evn, hrun w hm]
    exact ⟨rfl, rfl⟩
  · intro h w hm
    unfold wpStill
    rw [if_pos (by simp [Region.wanted, hg])]
    unfold Oper.still
    rw [Fr.evn, hrun w hm]
    exact ⟨rfl, by rw [e]; exact h w hm⟩
/-- What is told without a look at the memory. -/
def Semc {α : Type} (P : Program) : Sem α → Option α
  | .pure a => some a
  | .program k => Semc P (k P)
  | _ => none
theorem semc_run {α : Type} {P : Program} : ∀ {s : Sem α} {a : α}, Semc P s = some a → ∀ w, s.run P w = .ok a w
  | .pure a, b, h, w => by simp [Semc] at h; subst h; rfl
  | .program k, b, h, w => by
    show (k P).run P w = _
    exact semc_run (by simpa [Semc] using h) w
  | .load .., _, h, _ => by simp [Semc] at h
  | .store .., _, h, _ => by simp [Semc] at h
  | .new .., _, h, _ => by simp [Semc] at h
  | .shape .., _, h, _ => by simp [Semc] at h
  | .freeze .., _, h, _ => by simp [Semc] at h
  | .frozen .., _, h, _ => by simp [Semc] at h
  | .getObj .., _, h, _ => by simp [Semc] at h
  | .setObj .., _, h, _ => by simp [Semc] at h
  | .choose .., _, h, _ => by simp [Semc] at h
  | .sys .., _, h, _ => by simp [Semc] at h
  | .mark .., _, h, _ => by simp [Semc] at h
  | .halt .., _, h, _ => by simp [Semc] at h
theorem sx_pure {v : Value} (hc : Semc P (execOp (evn n (get g F)) { dst := some d, op := op, type := ty, pos := pos, after := af, guard := none }) = some (.value v)) (h : SX P w0 D n q ops Q rest g ((d, v) :: F) L) :
    SX P w0 D n q ops Q ({ dst := some d, op := op, type := ty, pos := pos, after := af, guard := none } :: rest) g F L := sx_run v rfl rfl (fun w _ => semc_run hc w) h
theorem sx_move {x : Operand} (v : Value) (hx : evn n (get g F) x = v) (h : SX P w0 D n q ops Q rest g ((d, v) :: F) L) : SX P w0 D n q ops Q ({ dst := some d, op := .move x, type := ty, pos := pos, after := af, guard := none } :: rest) g F L :=
  sx_run v rfl rfl (fun w _ => by rw [← hx]; rfl) h
theorem sx_assign {x : Operand} (v : Value) (hx : evn n (get g F) x = v) (h : SX P w0 D n q ops Q rest g ((d, v) :: F) L) : SX P w0 D n q ops Q ({ dst := some d, op := .assign x, type := ty, pos := pos, after := af, guard := none } :: rest) g F L :=
  sx_run v rfl rfl (fun w _ => by rw [← hx]; rfl) h
end
end Go.Port
