/- Tables of flows: the plain part. No program here. -/
import Derived.Test.YtcnnldlpcpcemaaDoorMapsG
import Derived.Test.YtcnnldlpcpcemaaDoorTrackP
set_option linter.unusedSimpArgs false
set_option linter.unusedVariables false
namespace Go.Port
open Go.RowKit
instance : DecidableEq K5 := fun a b => decidable_of_iff (a.k = b.k ∧ a.s = b.s ∧ a.f = b.f ∧ a.d = b.d ∧ a.t = b.t) ⟨fun h => by
  obtain ⟨k, s, f, d, t⟩ := a
  obtain ⟨k', s', f', d', t'⟩ := b
  obtain ⟨h1, h2, h3, h4, h5⟩ := h
  dsimp only at h1 h2 h3 h4 h5
  subst h1 h2 h3 h4 h5
  rfl, fun h => by subst h; exact ⟨rfl, rfl, rfl, rfl, rfl⟩⟩
def kv5 (x : K5) : Value := .agg #[.int .i64 x.k, .int .i64 x.s, .int .i64 x.f, .int .i64 x.d, .int .i64 x.t]
def fval (x : Fl) : Value := .agg x.row.toArray
/-- A table's content: the flows by the first of their keys. -/
abbrev Tb := Mg K5 Fl
/-- Is it over? -/
def oldT (now : Int) (e : K5 × Fl × Nat) : Bool := decide (e.2.1.un ≤ now)
def stayT (now : Int) (C : Tb) : Tb := C.filter fun e => !oldT now e
/-- How many are not over. -/
def liveT (now : Int) (C : Tb) : Nat := (stayT now C).length
/-- The keys of those that are over. -/
def goneT (now : Int) (C : Tb) : List K5 := (C.filter (oldT now)).map fun e => ⟨e.2.1.k, e.2.1.s, e.2.1.f, e.2.1.d, e.2.1.t⟩
theorem lkG_mem {C : Tb} {ck : Nat} (h : MgOk C ck) {x : K5 × Fl × Nat} (hx : x ∈ C) : lkG C x.1 = some x.2.1 := by
  obtain ⟨_, _, _, _, h4⟩ := gM_some (val := fval) h.keys hx
  exact h4
/-- Who may begin has room: what was there by that key is over. -/
theorem stay_free {C : Tb} {ck : Nat} {now : Int} {k : K5} (h : MgOk C ck) (hk : ∀ z, lkG C k = some z → z.un ≤ now) : ∀ x ∈ stayT now C, x.1 ≠ k := fun x hx he => by
  obtain ⟨h1, h2⟩ := List.mem_filter.1 hx
  have h3 := hk x.2.1 (by rw [← he]; exact lkG_mem h h1)
  unfold oldT at h2
  simp at h2
  omega
theorem live_le (now : Int) (C : Tb) : liveT now C ≤ C.length := List.length_filter_le _ _
/-- Gone so far: those that came, and are over. -/
def goneS {κ α : Type} (S : List Nat) (old : κ × α × Nat → Bool) (C : Mg κ α) : Mg κ α := C.filter fun e => S.contains e.2.2 && old e
theorem gone_nil {κ α : Type} (old : κ × α × Nat → Bool) (C : Mg κ α) : goneS [] old C = [] := List.filter_eq_nil_iff.2 fun x _ => by simp
theorem gone_stay {κ α : Type} {old : κ × α × Nat → Bool} {C : Mg κ α} {S : List Nat} {x : κ × α × Nat} (hn : (C.map (·.2.2)).Nodup) (hx : x ∈ C) (ho : old x = false) : goneS (S ++ [x.2.2]) old C = goneS S old C := by
  refine List.filter_congr fun y hy => ?_
  by_cases he : y.2.2 = x.2.2
  · have e := inj_of_nodup hn hy hx he
    subst e
    simp [ho]
  · simp [he]
theorem gone_step {κ α : Type} {old : κ × α × Nat → Bool} : ∀ {C : Mg κ α} {S : List Nat} {x : κ × α × Nat}, (C.map (·.2.2)).Nodup → x ∈ C → x.2.2 ∉ S → old x = true → (goneS (S ++ [x.2.2]) old C).Perm (goneS S old C ++ [x])
  | [], _, _, _, h, _, _ => nomatch h
  | e :: C, S, x, hn, hx, hs, ho => by
    rw [List.map_cons, List.nodup_cons] at hn
    by_cases he : e.2.2 = x.2.2
    · have hex : e = x := by
        rcases List.mem_cons.1 hx with h | h
        · exact h.symm
        · exact absurd (by rw [he]; exact List.mem_map_of_mem (f := fun e : κ × α × Nat => e.2.2) h) hn.1
      subst hex
      unfold goneS
      rw [List.filter_cons, List.filter_cons, if_pos (by simp [ho]), if_neg (by simp [hs])]
      have h1 : C.filter (fun y => (S ++ [e.2.2]).contains y.2.2 && old y) = C.filter (fun y => S.contains y.2.2 && old y) := by
        refine List.filter_congr fun y hy => ?_
        have h2 : y.2.2 ≠ e.2.2 := fun h => hn.1 (by rw [← h]; exact List.mem_map_of_mem (f := fun e : κ × α × Nat => e.2.2) hy)
        simp [h2]
      rw [h1]
      exact (List.perm_append_singleton _ _).symm
    · have hxC : x ∈ C := by
        rcases List.mem_cons.1 hx with h | h
        · exact absurd (congrArg (fun y : κ × α × Nat => y.2.2) h).symm he
        · exact h
      have ih := gone_step hn.2 hxC hs ho
      unfold goneS at ih ⊢
      rw [List.filter_cons, List.filter_cons]
      have e1 : ((S ++ [x.2.2]).contains e.2.2 && old e) = (S.contains e.2.2 && old e) := by simp [he]
      rw [e1]
      split
      · exact ih.cons e
      · exact ih
theorem gone_all {κ α : Type} {val : α → Value} {C : Mg κ α} {S : List Nat} {old : κ × α × Nat → Bool} (h : leftK (gM val (C.filter (keepG S old))) S = []) : goneS S old C = C.filter old := by
  refine List.filter_congr fun y hy => ?_
  by_cases hb : y.2.2 ∈ S
  · simp [hb]
  · have h1 : (y.1, val y.2.1, y.2.2) ∈ leftK (gM val (C.filter (keepG S old))) S := by
      rw [leftK_mem]
      refine ⟨List.mem_map_of_mem (f := fun e : κ × α × Nat => (e.1, val e.2.1, e.2.2)) (List.mem_filter.2 ⟨hy, ?_⟩), hb⟩
      unfold keepG
      simp [hb]
    rw [h] at h1
    cases h1
/-- A flow's key. -/
def Fl.key (x : Fl) : K5 := ⟨x.k, x.s, x.f, x.d, x.t⟩
/-- Flows that begin one behind another one (TableFull). -/
def kF (j : Nat) : K5 := ⟨2, 1, j, 2, 9⟩
def fF (now : Int) (j : Nat) : Fl := ⟨2, 1, j, 2, 9, 1, now + 30, 1, 0, 0, 0, 0, false, false, 0⟩
def cF (now : Int) (i : Nat) : Tb := (List.range i).map fun j => (kF j, fF now j, j)
theorem kF_inj {i j : Nat} (h : kF i = kF j) : i = j := by
  have h1 : (kF i).f = (kF j).f := by rw [h]
  have h2 : ((i : Nat) : Int) = j := h1
  omega
theorem kF_first (j : Nat) : (kF j).first = kF j := by
  unfold K5.first
  rw [if_neg]
  have h : (kF j).turn.cmp (kF j) = 1 := by
    show orI5 [cmpI 2 2, cmpI 2 1, cmpI 9 j, cmpI 1 2, cmpI j 9] = 1
    rfl
  rw [h]
  decide
theorem cF_succ (now : Int) (i : Nat) : cF now (i + 1) = cF now i ++ [(kF i, fF now i, i)] := by
  unfold cF
  rw [List.range_succ, List.map_append]
  rfl
theorem cF_len (now : Int) (i : Nat) : (cF now i).length = i := by
  unfold cF
  rw [List.length_map, List.length_range]
theorem cF_ok (now : Int) : ∀ i, MgOk (cF now i) i
  | 0 => MgOk.nil
  | i + 1 => by
    rw [cF_succ]
    refine okG_snoc (cF_ok now i) (fun x hx he => ?_) _
    obtain ⟨j, hj, rfl⟩ := List.mem_map.1 hx
    have h1 := kF_inj he
    have h2 := List.mem_range.1 hj
    omega
theorem cF_no (now : Int) {i n : Nat} (h : i ≤ n) : ∀ x ∈ cF now i, x.1 ≠ kF n := fun x hx he => by
  obtain ⟨j, hj, rfl⟩ := List.mem_map.1 hx
  have h1 := kF_inj he
  have h2 := List.mem_range.1 hj
  omega
theorem cF_stay (now now' : Int) (i : Nat) (h : now' < now + 30) : stayT now' (cF now i) = cF now i := by
  refine List.filter_eq_self.2 fun x hx => ?_
  obtain ⟨j, _, rfl⟩ := List.mem_map.1 hx
  unfold oldT fF
  simp
  omega
theorem cF_gone (now : Int) (i : Nat) : stayT (now + 30) (cF now i) = [] := by
  refine List.filter_eq_nil_iff.2 fun x hx => ?_
  obtain ⟨j, _, rfl⟩ := List.mem_map.1 hx
  unfold oldT fF
  simp
end Go.Port
