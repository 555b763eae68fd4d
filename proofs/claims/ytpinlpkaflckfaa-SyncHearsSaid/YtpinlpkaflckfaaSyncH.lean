/- Hearers: what waits, what comes out. No program here. -/
import Derived.Test.YtpinlpkaflckfaaSyncP
import Derived.Test.YtpinlpkaflckfaaMaps
import Derived.Test.YtpinlpkaflckfaaAnyC
set_option linter.unusedSimpArgs false
set_option linter.unusedVariables false
namespace Go.Port
open Go.RowKit
/-- What a map holds of a key. -/
def vlI (M : MI) (k : Int) : Option Value := (lkI M k).map (·.2)
theorem vlI_none {M : MI} {k : Int} (h : vlI M k = none) : lkI M k = none := by
  unfold vlI at h; simpa using h
theorem vlI_some {M : MI} {k : Int} {v : Value} (h : vlI M k = some v) : ∃ j, lkI M k = some (j, v) := by
  unfold vlI at h
  obtain ⟨⟨j, v'⟩, h1, rfl⟩ := Option.map_eq_some_iff.1 h
  exact ⟨j, h1⟩
theorem vlI_cons (e : Int × Value × Nat) (M : MI) (k : Int) : vlI (e :: M) k = if e.1 = k then some e.2.1 else vlI M k := by
  simp only [vlI, lkI]
  split
  · rfl
  · cases lkI M k <;> rfl
theorem vlI_put (M : MI) (q : Int) (v : Value) (ck : Nat) (k : Int) : vlI (M ++ [(q, v, ck)]) k = match vlI M k with | some p => some p | none => if q = k then some v else none := by
  induction M with
  | nil => rw [List.nil_append, vlI_cons]; rfl
  | cons e M ih =>
    rw [List.cons_append, vlI_cons, vlI_cons, ih]
    split <;> rfl
theorem vlI_del {k0 : Int} {v : Value} : ∀ {M : MI} {j : Nat}, lkI M k0 = some (j, v) → ∀ {k : Int}, k ≠ k0 → vlI (M.eraseIdx j) k = vlI M k
  | [], _, h, _, _ => by cases h
  | e :: M, j, h, k, hk => by
    unfold lkI at h
    by_cases he : e.1 = k0
    · rw [if_pos he] at h
      obtain ⟨rfl, _⟩ := Prod.mk.inj (Option.some.inj h)
      rw [List.eraseIdx_cons_zero, vlI_cons, if_neg (by omega)]
    · rw [if_neg he] at h
      obtain ⟨⟨j', v'⟩, h1, h2⟩ := Option.map_eq_some_iff.1 h
      obtain ⟨rfl, rfl⟩ := Prod.mk.inj h2
      rw [List.eraseIdx_cons_succ, vlI_cons, vlI_cons, vlI_del h1 hk]
theorem lkI_lt : ∀ {M : MI} {k : Int} {j : Nat} {v : Value}, lkI M k = some (j, v) → j < M.length
  | [], _, _, _, h => by cases h
  | e :: M, k, j, v, h => by
    unfold lkI at h
    by_cases he : e.1 = k
    · rw [if_pos he] at h
      obtain ⟨rfl, _⟩ := Prod.mk.inj (Option.some.inj h)
      simp
    · rw [if_neg he] at h
      obtain ⟨⟨j', v'⟩, h1, h2⟩ := Option.map_eq_some_iff.1 h
      obtain ⟨rfl, rfl⟩ := Prod.mk.inj h2
      have := lkI_lt h1
      rw [List.length_cons]
      omega
/-- All that waits was told: notes 1 .. n. -/
def Waits (N : Int → Nt) (n : Int) (M : MI) : Prop := ∀ e ∈ M, e.2.1 = .agg (N e.1).row.toArray ∧ e.1 ≤ n
/-- It was heard, or waits. -/
def Had (s : Int) (M : MI) (k : Int) : Prop := k ≤ s ∨ vlI M k ≠ none
theorem Waits.nil (N : Int → Nt) (n : Int) : Waits N n [] := fun e h => by cases h
theorem Waits.put {N : Int → Nt} {n : Int} {M : MI} (h : Waits N n M) {q : Int} (hq : q ≤ n) (ck : Nat) : Waits N n (M ++ [(q, .agg (N q).row.toArray, ck)]) := by
  intro e he
  rcases List.mem_append.1 he with h1 | h1
  · exact h e h1
  · obtain rfl := List.mem_singleton.1 h1
    exact ⟨rfl, hq⟩
theorem Waits.del {N : Int → Nt} {n : Int} {M : MI} (h : Waits N n M) (j : Nat) : Waits N n (M.eraseIdx j) := fun e he => h e (List.mem_of_mem_eraseIdx he)
theorem Waits.get {N : Int → Nt} {n : Int} : ∀ {M : MI} {k : Int} {j : Nat} {v : Value}, Waits N n M → lkI M k = some (j, v) → v = .agg (N k).row.toArray ∧ k ≤ n
  | [], _, _, _, _, h => by cases h
  | e :: M, k, j, v, hw, h => by
    unfold lkI at h
    by_cases he : e.1 = k
    · rw [if_pos he] at h
      obtain ⟨rfl, rfl⟩ := Prod.mk.inj (Option.some.inj h)
      subst he
      exact hw e (by simp)
    · rw [if_neg he] at h
      obtain ⟨⟨j', v'⟩, h1, h2⟩ := Option.map_eq_some_iff.1 h
      obtain ⟨rfl, rfl⟩ := Prod.mk.inj h2
      exact Waits.get (fun e he => hw e (by simp [he])) h1
theorem had_put {s : Int} {M : MI} {q : Int} {v : Value} {ck : Nat} {k : Int} (h : Had s M k ∨ k = q) : Had s (M ++ [(q, v, ck)]) k := by
  unfold Had at *
  rw [vlI_put]
  rcases h with (h | h) | rfl
  · exact .inl h
  · right
    cases hm : vlI M k with
    | none => exact absurd hm h
    | some p => simp
  · right
    cases vlI M k with
    | none => simp
    | some p => simp
theorem had_next {s : Int} {M : MI} {j : Nat} {v : Value} (hj : lkI M (s + 1) = some (j, v)) {k : Int} (h : Had s M k) : Had (s + 1) (M.eraseIdx j) k := by
  unfold Had at *
  by_cases hk : k ≤ s + 1
  · exact .inl hk
  · rw [vlI_del hj (by omega)]
    exact .inr (h.resolve_left (by omega))
/-- All that was had was heard, if nothing waits that is next. -/
theorem all_had {s n : Int} {M : MI} (h : ∀ k, 1 ≤ k → k ≤ n → Had s M k) (hs : 0 ≤ s) (hn : s ≤ n) (hz : lkI M (s + 1) = none) : s = n := by
  by_cases hlt : s < n
  · rcases h (s + 1) (by omega) (by omega) with h1 | h1
    · omega
    · exact absurd (by unfold vlI; rw [hz]; rfl) h1
  · omega
/-- The notes that come out, one behind the other. -/
def outN (N : Int → Nt) (s : Int) (m : Nat) : List Nt := (List.range m).map fun (i : Nat) => N (s + 1 + i)
theorem outN_len (N : Int → Nt) (s : Int) (m : Nat) : (outN N s m).length = m := by simp [outN]
theorem outN_snoc (N : Int → Nt) (s : Int) (m : Nat) : outN N s (m + 1) = outN N s m ++ [N (s + 1 + m)] := by simp [outN, List.range_succ]
theorem outN_at (N : Int → Nt) (s : Int) (m i : Nat) (h : i < m) : (outN N s m)[i]? = some (N (s + 1 + i)) := by simp [outN, h]
theorem Mem.pad2 {w0 w : World} {D : List Nat} {a b : Ch} (h : Mem w0 w D [a, b]) : Mem w0 w D [a, b, []] := h.perm (by simp)
theorem Mem.glue2 {w0 w : World} {D : List Nat} {x y : Nat × Obj} (h : Mem w0 w D [[x], [y]]) : Mem w0 w D [[x, y], []] := h.perm (by simp)
theorem Mem.glue3 {w0 w : World} {D : List Nat} {x y : Nat × Obj} {c : Ch} (h : Mem w0 w D [[x], [y], c]) : Mem w0 w D [[x, y], c] := h.perm (.refl _)
section
variable {P : Program} {w0 : World} {D : List Nat} {n q : Nat} {ops : Array Oper} {Q : Exit → Act → World → Prop} {g : Nat → Value} {F : List (Nat × Value)} {L Ls : List Ch} {done : List Nat} {d : Nat}
theorem ah_lookY (k : Nat) {T K E : Nat} [MpT P T K E] {z : Value} [ZvT P E z] (i : Nat) {x y : Operand} {ty : TypeId} {pos : String} {af : Array Edge} {r ck j : Nat} {key : Int} {M : MI} {v : Value} (ht : takeH ops done k = true) (hi : ops[k]? = some { dst := some d, op := .lookup T x y true, type := ty, pos := pos, after := af, guard := none })
    (hx : evn n (get g F) x = .map (some r)) (hy : evn n (get g F) y = .int .i64 key) (hL : Ls[i]? = some [(r, mObj M ck)]) (hk : lkI M key = some (j, v))
    (h : AH P w0 D n ops Q Ls (k :: done) g ((d, .tuple #[v, .bool true]) :: F) L) : AH P w0 D n ops Q Ls done g F L :=
  ah_take ht hi rfl (.inl ⟨by simp [Region.wanted], fun w hS => by
    have h1 := lookup_run (P := P) (T := T) (z := z) (k := key) (Mem.blk hS i hL)
    rw [hk] at h1
    rw [Fr.evn]
    show ((do pure (Next.value (← Instr.lookup T (evn n (get g F) x) (evn n (get g F) y) true))) : Sem Next).run P w = _
    rw [hx, hy]; exact run_v h1⟩) h
theorem ah_lookN (k : Nat) {T K E : Nat} [MpT P T K E] {z : Value} [ZvT P E z] (i : Nat) {x y : Operand} {ty : TypeId} {pos : String} {af : Array Edge} {r ck : Nat} {key : Int} {M : MI} (ht : takeH ops done k = true) (hi : ops[k]? = some { dst := some d, op := .lookup T x y true, type := ty, pos := pos, after := af, guard := none })
    (hx : evn n (get g F) x = .map (some r)) (hy : evn n (get g F) y = .int .i64 key) (hL : Ls[i]? = some [(r, mObj M ck)]) (hk : lkI M key = none)
    (h : AH P w0 D n ops Q Ls (k :: done) g ((d, .tuple #[z, .bool false]) :: F) L) : AH P w0 D n ops Q Ls done g F L :=
  ah_take ht hi rfl (.inl ⟨by simp [Region.wanted], fun w hS => by
    have h1 := lookup_run (P := P) (T := T) (z := z) (k := key) (Mem.blk hS i hL)
    rw [hk] at h1
    rw [Fr.evn]
    show ((do pure (Next.value (← Instr.lookup T (evn n (get g F) x) (evn n (get g F) y) true))) : Sem Next).run P w = _
    rw [hx, hy]; exact run_v h1⟩) h
theorem ah_over3 {c c' c'' : Ch} (ht : overH ops done = true) (h : QX w0 D n Q .normal g F (c :: c' :: c'' :: L)) : AH P w0 D n ops Q [c, c', c''] done g F L := ah_over ht h
theorem cx_held3 {id : Nat} {l : List Oper} {c c' c'' : Ch} (hm : P.follows .mixedOrders = true) (h : AH P w0 D n l.toArray Q [c, c', c''] [] g F L) : CX P w0 D n Q (.region id l.toArray true) g F (c :: c' :: c'' :: L) := cx_held [c, c', c''] L hm (fun _ hm => hm) h
variable {rest : List Oper}
theorem at_mapUp {dst : Option Nat} {T ty : TypeId} {m x y : Operand} {pos : String} {af : Array Edge} (h : SX P w0 D n q ops Q ({ dst := dst, op := .mapUpdate T m x y, type := ty, pos := pos, after := af, guard := none } :: rest) g F L) : SX P w0 D n q ops Q ({ dst := dst, op := .mapUpdate T m x y, type := ty, pos := pos, after := af, guard := none } :: rest) g F L := h
theorem at_del {dst : Option Nat} {ts : Array TypeId} {ty : TypeId} {m x : Operand} {pos : String} {af : Array Edge} (h : SX P w0 D n q ops Q ({ dst := dst, op := .call { callee := .builtin .delete, args := #[m, x], argTypes := ts }, type := ty, pos := pos, after := af, guard := none } :: rest) g F L) : SX P w0 D n q ops Q ({ dst := dst, op := .call { callee := .builtin .delete, args := #[m, x], argTypes := ts }, type := ty, pos := pos, after := af, guard := none } :: rest) g F L := h
end
end Go.Port
