/- heavy: New and Add as the laws call them; pairs in a row. -/
import Derived.Test.YtaofimndclgpdaaDoorHeavyG
set_option linter.unusedSimpArgs false
set_option linter.unusedVariables false
namespace Go.Port
/-- A pair's cells. -/
def encH (x : Int × Int) : List Value := [.int .i64 x.1, .int .i64 x.2]
def rowsH (l : List (Int × Int)) : List Value := l.flatMap encH
theorem rowsH_at : ∀ (l : List (Int × Int)) (i j : Nat) (x : Int × Int) (v : Value), l[i]? = some x → (encH x)[j]? = some v → (rowsH l)[i * 2 + j]? = some v
  | [], _, _, _, _, h, _ => by simp at h
  | y :: l, 0, j, x, v, h, hv => by
    have e : y = x := by simpa using h
    subst e
    rw [Nat.zero_mul, Nat.zero_add]
    show (encH y ++ rowsH l)[j]? = some v
    rw [List.getElem?_append_left (List.getElem?_eq_some_iff.1 hv).1]
    exact hv
  | y :: l, i + 1, j, x, v, h, hv => by
    show (encH y ++ rowsH l)[(i + 1) * 2 + j]? = some v
    rw [List.getElem?_append_right (by show 2 ≤ (i + 1) * 2 + j; omega), show (i + 1) * 2 + j - (encH y).length = i * 2 + j by show (i + 1) * 2 + j - 2 = _; omega]
    exact rowsH_at l i j x v (by simpa using h) hv
end Go.Port
namespace Go.Proofs.YtaofimndclgpdaaDoor
open Go.RowKit Go.Port
attribute [local irreducible] Calls
theorem new_ok {n : Nat} (h : 1 ≤ n ∧ n ≤ 20) (w : World) : Calls Tryd.prog 4 #[.int .i64 n] w (Ret w [] (fun v L => ∃ hb r : Nat, v = .tuple #[.pointer (some ⟨hb, 0, none⟩), .nilIface] ∧ L = [hvC n 0 0 hb r 0 []])) :=
  (heavy_New n w).mono fun e w' h2 => by
    obtain ⟨v, L, rfl, hm, h3⟩ := h2
    refine ⟨v, L, rfl, hm, ?_⟩
    rcases h3 with ⟨hx, _⟩ | ⟨_, h3⟩
    · omega
    · exact h3
theorem new_no {n : Int} (h : ¬ (1 ≤ n ∧ n ≤ 20)) (w : World) : Calls Tryd.prog 4 #[.int .i64 n] w (Ret w [] (isV (.tuple #[.pointer none, er 1]))) :=
  (heavy_New n w).mono fun e w' h2 => by
    obtain ⟨v, L, rfl, hm, h3⟩ := h2
    refine ⟨v, L, rfl, hm, ?_⟩
    rcases h3 with ⟨_, rfl, rfl⟩ | ⟨hx, _⟩
    · exact ⟨rfl, rfl⟩
    · exact absurd hx h
theorem add_ok {n : Nat} {less all key mine : Int} (k many : Int) {hb r ck : Nat} {C : Cn} {w : World} {D : List Nat} (hS : HvS n C ck less all key mine) (h1 : 1 ≤ many ∧ many ≤ 1000000) (h2 : all + many ≤ 1099511627776) (hD : D = (hvC n less all hb r ck C).map (·.1)) (hM0 : Mem w w D [hvC n less all hb r ck C]) :
    Calls Tryd.prog 6 #[.pointer (some ⟨hb, 0, none⟩), .int .i64 k, .int .i64 many] w (Ret w D (fun v L => v = .nilIface ∧ ∃ less' C' ck', L = [hvC n less' (all + many) hb r ck' C'] ∧ HvS n C' ck' less' (all + many) key (if k = key then mine + many else mine))) :=
  (heavy_Add k many hS hD hM0).mono fun e w' h3 => by
    obtain ⟨v, L, rfl, hm, h3⟩ := h3
    refine ⟨v, L, rfl, hm, ?_⟩
    rcases h3 with ⟨hx, _⟩ | ⟨_, hx, _⟩ | ⟨_, _, h3⟩
    · omega
    · omega
    · exact h3
theorem add_no {n : Nat} {less all key mine : Int} (k many : Int) {hb r ck : Nat} {C : Cn} {w : World} {D : List Nat} (hS : HvS n C ck less all key mine) (h1 : ¬ ((1 ≤ many ∧ many ≤ 1000000) ∧ all + many ≤ 1099511627776)) (hD : D = (hvC n less all hb r ck C).map (·.1)) (hM0 : Mem w w D [hvC n less all hb r ck C]) :
    Calls Tryd.prog 6 #[.pointer (some ⟨hb, 0, none⟩), .int .i64 k, .int .i64 many] w (Ret w D (fun v L => (∃ e : Nat, v = er e ∧ (e = 1 ∨ e = 4)) ∧ L = [hvC n less all hb r ck C])) :=
  (heavy_Add k many hS hD hM0).mono fun e w' h3 => by
    obtain ⟨v, L, rfl, hm, h3⟩ := h3
    refine ⟨v, L, rfl, hm, ?_⟩
    rcases h3 with ⟨hx, rfl, rfl⟩ | ⟨_, hx, rfl, rfl⟩ | ⟨hx, hx2, _⟩
    · exact ⟨⟨1, rfl, .inl rfl⟩, rfl⟩
    · exact ⟨⟨4, rfl, .inr rfl⟩, rfl⟩
    · omega
theorem cx_fold {P : Program} {w0 : World} {D : List Nat} {n : Nat} {c : Code} {Q : Exit → Act → World → Prop} {g : Nat → Value} {F : List (Nat × Value)} {L : List Ch} (h : CX P w0 D n Q c (get g F) [] L) : CX P w0 D n Q c g F L := .mk fun w hm => h.out w hm
end Go.Proofs.YtaofimndclgpdaaDoor
