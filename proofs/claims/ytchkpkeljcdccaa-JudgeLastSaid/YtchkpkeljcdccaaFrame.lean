/- Frames told by a function of the slot: small goals for functions with many slots. No program here. -/
import Derived.Test.YtchkpkeljcdccaaBase
import Derived.Deep.LoopGhost
set_option linter.unusedSimpArgs false
set_option linter.unusedVariables false
namespace Go.Port
open Go.RowKit

/-- A slot that holds nothing: so that a guard on it is seen to say no. -/
@[go_sem] theorem undef_is : undef = .tuple #[] := rfl
/-- Slot d set. -/
def upd (f : Nat → Value) (d : Nat) (v : Value) : Nat → Value := fun t => if t = d then v else f t
@[go_sem] theorem upd_at (f : Nat → Value) (d : Nat) (v : Value) (t : Nat) : upd f d v t = if t = d then v else f t := rfl

theorem upd_ne {f : Nat → Value} {d : Nat} {v : Value} {t : Nat} (h : t ≠ d) : upd f d v t = f t := if_neg h
theorem Fr.there (n : Nat) (f : Nat → Value) : ∃ a : Act, a = ⟨Array.ofFn (n := n) fun i => f i.val, []⟩ := ⟨_, rfl⟩
/-- A frame of n slots that holds f i in slot i. (Chosen, so that nobody unfolds it.) -/
noncomputable def Fr (n : Nat) (f : Nat → Value) : Act := Classical.choose (Fr.there n f)
theorem Fr.is (n : Nat) (f : Nat → Value) : Fr n f = ⟨Array.ofFn (n := n) fun i => f i.val, []⟩ := Classical.choose_spec (Fr.there n f)

section
variable {n : Nat} {f : Nat → Value} {t d : Nat} {v : Value}
@[go_sem] theorem Fr.get (h : t < n) : (Fr n f).tmps[t]? = some (f t) := by
  rw [Fr.is]; simp [h]
@[go_sem ↓] theorem Fr.getD (h : t < n) : (Fr n f).tmps.getD t undef = f t := by
  rw [Fr.is]; simp [h]
@[go_sem ↓] theorem Fr.eval (h : t < n) : (Fr n f).eval (.tmp t) = f t := Fr.getD h
@[go_sem ↓] theorem Fr.put : (Fr n f).put (some d) v = Fr n (upd f d v) := by
  rw [Fr.is, Fr.is]
  simp only [Act.put, Act.mk.injEq, and_true]
  apply Array.ext
  · simp
  · intro i h1 h2
    simp only [Array.getElem_ofFn, upd]
    rw [Array.getElem_setIfInBounds]
    by_cases h : d = i
    · subst h; simp
    · rw [if_neg h, if_neg (Ne.symm h), Array.getElem_ofFn]
    · simpa using h2
@[go_sem] theorem Fr.defers : (Fr n f).defers = [] := by rw [Fr.is]
@[go_sem ↓] theorem Fr.set : (Fr n f).tmps.setIfInBounds d v = (Fr n (upd f d v)).tmps := congrArg Act.tmps (Fr.put (n := n) (f := f) (d := d) (v := v))
@[go_sem ↓] theorem Fr.eta : (⟨(Fr n f).tmps, []⟩ : Act) = Fr n f := by rw [Fr.is]
@[go_sem] theorem Fr.size : (Fr n f).tmps.size = n := by rw [Fr.is]; simp
@[go_sem] theorem Fr.elem (h : t < (Fr n f).tmps.size) : (Fr n f).tmps[t] = f t := by
  have h' : t < n := by rw [Fr.size] at h; exact h
  have e := Fr.get (n := n) (f := f) h'
  rw [Array.getElem?_eq_getElem h] at e
  exact Option.some.inj e
end
theorem Fr.of_array (arr : Array Value) : (⟨arr, []⟩ : Act) = Fr arr.size fun i => arr.getD i undef := by
  rw [Fr.is]
  simp only [Act.mk.injEq, and_true]
  apply Array.ext
  · simp
  · intro i h1 h2; simp [h1]

section
variable {P : Program} {n : Nat} {f : Nat → Value} {w : World} {Q : Exit → Act → World → Prop} {ops : Array Oper} {rest : List Oper}

/-- A test on a slot. -/
theorem fr_cond {t : Nat} {x y : Code} {b : Bool} (hb : f t = .bool b) (ht : t < n) (h1 : b = true → x.wp P Q (Fr n f) w) (h2 : b = false → y.wp P Q (Fr n f) w) : (Code.cond (.tmp t) x y).wp P Q (Fr n f) w :=
  wp_cond_split (t := b) ((Fr.eval ht).trans hb) h1 h2
theorem fr_condb {t : Nat} {x y : Code} {b : Bool} (h1 : b = true → x.wp P Q (Fr n (upd f t (.bool b))) w) (h2 : b = false → y.wp P Q (Fr n (upd f t (.bool b))) w) (ht : t < n) : (Code.cond (.tmp t) x y).wp P Q (Fr n (upd f t (.bool b))) w :=
  fr_cond (b := b) (by simp [upd]) ht h1 h2
theorem fr_move {t d : Nat} {ty : TypeId} {pos : String} {af : Array Edge} (ht : t < n) (h : wpList P ops Q rest (Fr n (upd f d (f t))) w) :
    wpList P ops Q ({ dst := some d, op := .move (.tmp t), type := ty, pos := pos, after := af, guard := none } :: rest) (Fr n f) w :=
  wpList_plain rfl fun K hK => BigFrame.wp_move (.tmp t) rfl (by rw [Fr.eval ht, Fr.put]; exact hK _ _ h)
theorem fr_assign {t d : Nat} {ty : TypeId} {pos : String} {af : Array Edge} (ht : t < n) (h : wpList P ops Q rest (Fr n (upd f d (f t))) w) :
    wpList P ops Q ({ dst := some d, op := .assign (.tmp t), type := ty, pos := pos, after := af, guard := none } :: rest) (Fr n f) w :=
  wpList_plain rfl fun K hK => BigFrame.wp_assign (.tmp t) rfl (by rw [Fr.eval ht, Fr.put]; exact hK _ _ h)
theorem fr_assign_const {v : Value} {d : Nat} {ty : TypeId} {pos : String} {af : Array Edge} (h : wpList P ops Q rest (Fr n (upd f d v)) w) :
    wpList P ops Q ({ dst := some d, op := .assign (.const v), type := ty, pos := pos, after := af, guard := none } :: rest) (Fr n f) w :=
  wpList_plain rfl fun K hK => BigFrame.wp_assign (.const v) rfl (by rw [show (Fr n f).eval (.const v) = v from rfl, Fr.put]; exact hK _ _ h)
/-- A call begins. -/
theorem fr_ret1 {fn : Func} {R : Ending → World → Prop} (t : Nat) (ht : t < n) (h : fn.results = #[.tmp t]) (hR : R (.returned (f t)) w) : bodyPost P fn R .ret (Fr n f) w :=
  ret1 t h Fr.defers (by rw [Fr.getD ht]; exact hR)
theorem fr_ret2 {fn : Func} {R : Ending → World → Prop} (t u : Nat) (ht : t < n) (hu : u < n) (h : fn.results = #[.tmp t, .tmp u]) (hR : R (.returned (.tuple #[f t, f u])) w) : bodyPost P fn R .ret (Fr n f) w :=
  ret2 t u h Fr.defers (by rw [Fr.getD ht, Fr.getD hu]; exact hR)

/-- Where a piece of code has come to its end: the walk stops there. -/
def Done (p : Prop) : Prop := p
theorem done {p : Prop} (h : p) : Done p := h
theorem fr_mono {c : Code} {a : Act} {K K' : Act → World → Prop} (h : c.wp P (Exit.then K Q) a w) (hk : ∀ a w, K a w → K' a w) : c.wp P (Exit.then K' Q) a w :=
  wp_mono h fun e a w q => by
    cases e with
    | normal => exact hk _ _ q
    | exit id => exact q
    | goto l => exact q
    | ret => exact q
    | panic ch => exact q
    | outgrown => exact q
/-- A statement, and what follows it. -/
theorem fr_seq {x y : Code} (R : (Nat → Value) → World → Prop) (h1 : ∀ K : Act → World → Prop, (∀ f w, Done (R f w) → K (Fr n f) w) → x.wp P (Exit.then K Q) (Fr n f) w) (h2 : ∀ f w, R f w → y.wp P Q (Fr n f) w) : (Code.seq x y).wp P Q (Fr n f) w :=
  wp_seq (fr_mono (h1 (fun a w => ∃ g, a = Fr n g ∧ R g w) fun f w h => ⟨f, rfl, h⟩) fun a w ⟨g, ha, hg⟩ => ha ▸ h2 g w hg)
/-- A cut inside a row of statements. -/
theorem fr_cut {x : Code} {K : Act → World → Prop} (R : (Nat → Value) → World → Prop) (h1 : ∀ K : Act → World → Prop, (∀ f w, Done (R f w) → K (Fr n f) w) → x.wp P (Exit.then K Q) (Fr n f) w) (h2 : ∀ f w, R f w → K (Fr n f) w) : x.wp P (Exit.then K Q) (Fr n f) w :=
  fr_mono (h1 (fun a w => ∃ g, a = Fr n g ∧ R g w) fun f w h => ⟨f, rfl, h⟩) fun a w ⟨g, ha, hg⟩ => ha ▸ h2 g w hg
/-- A loop: what holds at each round's head, a number going down. -/
theorem fr_loop {c : Code} (I : Nat → (Nat → Value) → World → Prop) (m : Nat) (h0 : I m f w)
    (round : ∀ m f w, I m f w → ∀ K : Act → World → Prop, (∀ f' w', Done (∃ m', m' < m ∧ I m' f' w') → K (Fr n f') w') → c.wp P (Exit.then K Q) (Fr n f) w) : (Code.loop c).wp P Q (Fr n f) w := by
  refine wp_loop_ghost (fun m a w => ∃ f, a = Fr n f ∧ I m f w) m ⟨f, rfl, h0⟩ ?_
  rintro m a w ⟨f, rfl, hI⟩
  exact round m f w hI _ fun f' w' ⟨m', hlt, hI'⟩ => ⟨m', hlt, f', rfl, hI'⟩
end
/-- append(s, x...): onto a row of the call's own, whatever slice of numbers. -/
theorem fr_append {P : Program} {n : Nat} {f : Nat → Value} {w : World} {ops : Array Oper} {rest : List Oper} {Q : Exit → Act → World → Prop} (s x : Nat) {d : Nat} {t ty e : TypeId} {k : IntKind} {bytes : Nat} {pos : String} {af : Array Edge}
    (ht : P.underlying t = some (.slice e)) (hi : (P.info? e).map (fun i => (i.zero, i.size, i.bytes)) = some (some (.int k 0), 1, bytes))
    {B : Nat} {v : Value} {l : List Int} (hown : Own w e k B v l)
    {A : Option Addr} {len cap : Nat} {m : List Int} (hr : IsRow w k A len cap m)
    (hbytes : (l.length + m.length) * bytes ≤ 140737488355328) (hby : 0 < bytes) (hB : B ≤ w.heap.size) (hn : s < n ∧ x < n) (hs : f s = v) (hx : f x = .slice A len cap)
    (h : ∀ v' w', Own w' e k B v' (l ++ m) → Below B w w' → wpList P ops Q rest (Fr n (upd f d v')) w') :
    wpList P ops Q ({ dst := some d, op := .call { callee := .builtin .append, args := #[.tmp s, .tmp x], argTypes := #[t, t] }, type := ty, pos := pos, after := af, guard := none } :: rest) (Fr n f) w :=
  wp_append rfl (.tmp s) (.tmp x) t e k bytes rfl ht hi B v l ((Fr.eval hn.1).trans hs) hown A len cap m ((Fr.eval hn.2).trans hx) hr hbytes hby hB fun v' w' h1 h2 => by rw [Fr.put]; exact h v' w' h1 h2
/-- A store into a row of the call's own. -/
theorem fr_store {P : Program} {n : Nat} {f : Nat → Value} {w : World} {ops : Array Oper} {rest : List Oper} {Q : Exit → Act → World → Prop} (p x : Nat) {t ty : TypeId} {pos : String} {af : Array Edge} {e : TypeId} {k : IntKind}
    {B g cap len : Nat} {l : List Int} (hown : Own w e k B (.slice (some ⟨g, 0, none⟩) len cap) l) (i : Nat) (y : Int) (hc1 : (P.info? t).map (·.size) = some 1) (hi : i < len) (hn : p < n ∧ x < n) (hp : f p = .pointer (some ⟨g, i, none⟩)) (hx : f x = .int k y)
    (h : ∀ w', Own w' e k B (.slice (some ⟨g, 0, none⟩) len cap) (l.set i y) → Below B w w' → w'.heap.size = w.heap.size → wpList P ops Q rest (Fr n f) w') :
    wpList P ops Q ({ dst := none, op := .store t (.tmp p) (.tmp x), type := ty, pos := pos, after := af, guard := none } :: rest) (Fr n f) w :=
  wp_store (.tmp p) (.tmp x) hown i y hc1 hi ((Fr.eval hn.1).trans hp) ((Fr.eval hn.2).trans hx) h
/-- A call is entered. -/
theorem fr_enter {P : Program} {k : FuncId} {fn : Func} {c : Code} {args : Array Value} {w : World} {R : Ending → World → Prop} (n : Nat)
    (hf : P.funcs[k]? = some fn) (hb : fn.body = some c) (hn : fn.ntmps = n) (ha : args.size ≤ n)
    (h : ∀ f : Nat → Value, (∀ i, i < n → f i = args.getD i undef) → c.wp P (bodyPost P fn R) (Fr n f) w) : Calls P k args w R := by
  refine calls_of_wp hf hb ?_
  rw [Fr.of_array]
  have hs : (args ++ Array.replicate (fn.ntmps - args.size) undef).size = n := by simp; omega
  rw [hs]
  refine h _ fun i hi => ?_
  simp only [Array.getD_eq_getD_getElem?]
  by_cases h1 : i < args.size
  · rw [Array.getElem?_append_left h1]
  · rw [Array.getElem?_append_right (by omega), Array.getElem?_eq_none (xs := args) (by omega), Array.getElem?_replicate]
    split <;> rfl
/-- The frame's slots behind the entry, for the arguments and for the rest. -/
theorem fr_args {f : Nat → Value} {n : Nat} {args : Array Value} (h : ∀ i, i < n → f i = args.getD i undef) (i : Nat) (v : Value) (hi : i < n) (hv : args.getD i undef = v) : f i = v := (h i hi).trans hv
end Go.Port
