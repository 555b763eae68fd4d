/- FragPlays: what its walk needs besides. -/
import Derived.Test.YtlpdapfihgpheaaDoorFragCC
import Derived.Test.YtlpdapfihgpheaaDoorErr
set_option linter.unusedSimpArgs false
set_option linter.unusedVariables false
namespace Go.Proofs.YtlpdapfihgpheaaDoor
open Go.RowKit Go.Port
attribute [local irreducible] Calls
theorem pool_Tick {life now u : Int} {pb r ck : Nat} {E : List (He Nm)} {w : World} {D : List Nat} (hE : PoolOk E ck) (hlen : E.length ≤ 8) (hlife : 1 ≤ life ∧ life ≤ 1000000) (hnow : 0 ≤ now ∧ now ≤ 1000000) (hok : ∀ x ∈ E, x.h.ok) (hD : D = (poolP life now pb r ck E).map (·.1)) (hM : Mem w w D [poolP life now pb r ck E]) :
    Calls Tryd.prog 12 #[.pointer (some ⟨pb, 0, none⟩), .int .i64 u] w (Ret w D (fun v L => ∃ n e now' E', v = .tuple #[.int .i64 n, er e] ∧ L = [poolP life now' pb r ck E'] ∧ ((TimeE now u e ∧ n = 0 ∧ now' = now ∧ E' = E) ∨ ((0 ≤ u ∧ u ≤ 1000000 ∧ now ≤ u) ∧ e = 0 ∧ n = (E.length : Int) - (liveH life u E).length ∧ now' = u ∧ E' = liveH life u E)))) := by
  subst hD
  refine (frag_Tick (life := life) (t := u) (hs := E.flatMap heapCh) hE (by omega) hlife hnow (fun z hz => (hok z hz).1) (fun w' h' z hz => heap_cell h' z hz) hM).mono fun e W' hR => hR.monoM fun v L h => ?_
  rw [live_is] at h
  rcases h with ⟨e, h1, rfl, rfl⟩ | ⟨h1, rfl, rfl⟩
  · exact ⟨_, fun w2 hm => hm, 0, e, now, E, rfl, rfl, .inl ⟨h1, rfl, rfl, rfl⟩⟩
  · refine ⟨[poolP life u pb r ck (liveH life u E)], fun w2 hm => hm.sub ?_, _, 0, u, _, ?_, rfl, .inr ⟨h1, rfl, rfl, rfl, rfl⟩⟩
    · simp only [List.flatten_cons, List.flatten_nil, List.append_nil, poolP, poolCh]
      exact ((flat_sub List.filter_sublist).cons_cons _).cons_cons _
    · rw [er, errV_zero]
theorem rpool_Tick {life now u : Int} {mb cap : Nat} {A : Option Addr} {cL : Ch} {RL : List Rh} {w : World} {D : List Nat} (hL : OwnR A cap cL RL) (hlen : RL.length ≤ 8) (hlife : 1 ≤ life ∧ life ≤ 1000000) (hnow : 0 ≤ now ∧ now ≤ 1000000) (hok : ∀ y ∈ RL, y.ok) (hD : D = (rpC life now mb A cap cL RL).map (·.1)) (hM : Mem w w D [rpC life now mb A cap cL RL]) :
    Calls Tryd.prog 11 #[.pointer (some ⟨mb, 0, none⟩), .int .i64 u] w (Ret w D (fun v L => ∃ n e now' RL' A' cap' cL', v = .tuple #[.int .i64 n, .int .i64 e] ∧ L = [rpC life now' mb A' cap' cL' RL'] ∧ OwnR A' cap' cL' RL' ∧ ((TimeE now u e ∧ n = 0 ∧ now' = now ∧ RL' = RL) ∨ ((0 ≤ u ∧ u ≤ 1000000 ∧ now ≤ u) ∧ e = 0 ∧ n = (RL.length : Int) - (liveR life u RL).length ∧ now' = u ∧ RL' = liveR life u RL)))) := by
  refine (ref_Tick (u := u) hL (by omega) hlife hnow (fun x hx => (hok x hx).2.2.2.2) hD hM).mono fun e W' hR => hR.mono fun v L h => ?_
  rcases h with ⟨e, h1, rfl, rfl⟩ | ⟨h1, rfl, A', cap', cL', rfl, h2⟩
  · exact ⟨0, e, now, RL, A, cap, cL, rfl, rfl, hL, .inl ⟨h1, rfl, rfl, rfl⟩⟩
  · exact ⟨_, 0, u, _, A', cap', cL', rfl, rfl, h2, .inr ⟨h1, rfl, rfl, rfl, rfl⟩⟩
theorem agree_tick {W : World} {cnt : Nat} {life now u : Int} {ck : Nat} {E : List (He Nm)} {RL : List Rh} {n n2 e e2 now' now2 : Int} {E' : List (He Nm)} {RL' : List Rh} (hI : Inv W cnt now ck E RL)
    (h1 : (TimeE now u e ∧ n = 0 ∧ now' = now ∧ E' = E) ∨ ((0 ≤ u ∧ u ≤ 1000000 ∧ now ≤ u) ∧ e = 0 ∧ n = (E.length : Int) - (liveH life u E).length ∧ now' = u ∧ E' = liveH life u E))
    (h2 : (TimeE now u e2 ∧ n2 = 0 ∧ now2 = now ∧ RL' = RL) ∨ ((0 ≤ u ∧ u ≤ 1000000 ∧ now ≤ u) ∧ e2 = 0 ∧ n2 = (RL.length : Int) - (liveR life u RL).length ∧ now2 = u ∧ RL' = liveR life u RL)) : n2 = n ∧ e2 = e ∧ now2 = now' ∧ Inv W cnt now' ck E' RL' := by
  unfold TimeE at h1 h2
  rcases h1 with ⟨a1, rfl, rfl, rfl⟩ | ⟨a1, rfl, rfl, rfl, rfl⟩
  · rcases h2 with ⟨b1, rfl, rfl, rfl⟩ | ⟨b1, _⟩
    · exact ⟨rfl, by omega, rfl, hI⟩
    · omega
  · rcases h2 with ⟨b1, _⟩ | ⟨b1, rfl, rfl, rfl, rfl⟩
    · omega
    · exact ⟨by rw [hI.rel.len, hI.rel.live.len], rfl, rfl, hI.tick ⟨a1.1, a1.2.1⟩⟩
theorem keep_row {w w' : World} {sz : Nat} {A : Option Addr} {len cap : Nat} {xs : List Value} (h : IsSl w sz A len cap xs) (hs : w.heap.size ≤ w'.heap.size) (hk : 0 < len → ∀ x o, A = some ⟨x, o, none⟩ → w'.heap[x]? = w.heap[x]?) : IsSl w' sz A len cap xs := by
  refine ⟨h.1, ?_⟩
  rcases h.2 with h0 | ⟨b, o, e, hb, hc, hx⟩
  · exact .inl h0
  · by_cases h0 : len = 0
    · exact .inl h0
    · refine .inr ⟨b, o, e, Nat.lt_of_lt_of_le hb hs, hc, fun i u hu => ?_⟩
      rw [World.cell?_of_block (w := w) (hk (by omega) b o e)]
      exact hx i u hu
/-- An argument's row is not in what the call made. -/
theorem arg_keep {W w : World} {c : Ch} {L : List Ch} (hm : Mem W w [] (c :: L)) {A : Option Addr} {n cp : Nat} {l : List Int} (h : IsRow W .u8 A n cp l) {w' : World} (hm' : Mem w w' (c.map (·.1)) []) : IsSl w' 1 A n cp (l.map (Value.int .u8)) := by
  have h1 : IsSl w 1 A n cp (l.map (Value.int .u8)) := h.mem hm.nil
  refine keep_row h1 hm'.size fun hn x o e => ?_
  have hap := hm.apart h
  rcases h.2 with h0 | ⟨b, o', e', hb, _⟩
  · omega
  · rw [e] at e'
    obtain ⟨rfl, rfl⟩ : x = b ∧ o = o' := by simpa using e'
    refine hm'.old x (Nat.lt_of_lt_of_le hb hm.size) ?_
    rcases hap with h2 | h2
    · omega
    · exact h2 x o e
theorem arg_at {W w : World} {c : Ch} {L : List Ch} (hm : Mem W w [] (c :: L)) {A : Option Addr} {n cp : Nat} {l : List Int} (h : IsRow W .u8 A n cp l) : ∃ z o, 0 < n → A = some ⟨z, o, none⟩ ∧ z < w.heap.size ∧ z ∉ c.map (·.1) ∧ CellsAt w z o (l.map (Value.int .u8)) := by
  have h1 : IsSl w 1 A n cp (l.map (Value.int .u8)) := h.mem hm.nil
  obtain ⟨z, o, h2⟩ := h1.base
  refine ⟨z, o, fun hn => ?_⟩
  obtain ⟨h3, h4, h5⟩ := h2 hn
  rcases hm.apart h with h6 | h6
  · omega
  · exact ⟨h3, h4, h6 z o h3, h5⟩
theorem same_Pk {p q : Pk} {w : World} (h : Same p q) (hp : IsRow w .u8 p.A p.n p.c p.l) (hq : IsRow w .u8 q.A q.n q.c q.l) : Calls Tryd.prog 9 #[.agg (Pk.row p).toArray, .agg (Pk.row q).toArray] w (Ret w [] (isV (.bool true))) := by
  obtain ⟨k, t, i, s, d, a, m, A, n, c, l⟩ := p
  obtain ⟨k', t', i', s', d', a', m', A', n', c', l'⟩ := q
  obtain ⟨h1, h2, h3, h4, h5, h6, h7, h8⟩ := h
  dsimp only at h1 h2 h3 h4 h5 h6 h7 h8
  subst h1 h2 h3 h4 h5 h7 h8
  exact same_Packet_self _ _ _ _ _ _ _ _ _ _ _ _ _ _ _ _ hp hq h6
end Go.Proofs.YtlpdapfihgpheaaDoor
