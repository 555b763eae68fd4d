/- frag and portref2: what Add answers, in one form. -/
import Derived.Test.YtlpdapfihgpheaaDoorFragAA
set_option linter.unusedSimpArgs false
set_option linter.unusedVariables false
namespace Go.Port
open Go.RowKit
theorem Ret.monoM {w w' : World} {D : List Nat} {R R' : Value → List Ch → Prop} {e : Ending} (h : Ret w D R e w') (hr : ∀ v L, R v L → ∃ L', (∀ w2, Mem w w2 D L → Mem w w2 D L') ∧ R' v L') : Ret w D R' e w' :=
  let ⟨v, L, h1, h2, h3⟩ := h
  let ⟨L', h4, h5⟩ := hr v L h3
  ⟨v, L', h1, h4 _ h2, h5⟩
theorem pad_nil {w w' : World} {D : List Nat} {c : Ch} (h : Mem w w' D [c]) : Mem w w' D [c, []] := h.perm (.refl _)
end Go.Port
namespace Go.Proofs.YtlpdapfihgpheaaDoor
open Go.RowKit Go.Port
attribute [local irreducible] Calls
/-- No packet. -/
def P0 : Pk := ⟨0, 0, 0, 0, 0, 0, false, none, 0, 0, []⟩
def Pk.key (x : Pk) : Nm := (x.k, x.s, x.d, x.i)
def Pk.flt (x : Pk) : Int := pktE x.k x.t x.i x.s x.d x.a x.l.length
/-- An answer: a packet, whether it is whole, the fault. -/
structure Ans where
  (p : Pk)
  (b : Bool)
  (e : Int)
/-- The packet that is whole. -/
def Pk.fin (x : Pk) (h : Hp) (A : Option Addr) (cap : Nat) : Pk := ⟨x.k, h.ttl, x.i, x.s, x.d, 0, false, A, h.fin.toNat, cap, h.body.take h.fin.toNat⟩
def putX (h : Hp) (x : Pk) : Hp := putH h x.a x.m x.t x.l
def wrongX (h : Hp) (x : Pk) : Bool := wrongH h x.a x.m x.l.length
def TimeE (now u e : Int) : Prop := (u < 0 ∨ 1000000 < u) ∧ e = 1 ∨ (0 ≤ u ∧ u ≤ 1000000 ∧ u < now) ∧ e = 6
def InP (P S : List (He Nm)) (y : He Nm) (x : Pk) (z : Ans) (E' : List (He Nm)) (cx : Ch) : Prop :=
  (y.h.bad = true ∧ z = ⟨P0, false, 6⟩ ∧ E' = P ++ y :: S ∧ cx = []) ∨
  (y.h.bad = false ∧ wrongX y.h x = true ∧ z = ⟨P0, false, 3⟩ ∧ E' = P ++ { y with h := { y.h with bad := true } } :: S ∧ cx = []) ∨
  (y.h.bad = false ∧ wrongX y.h x = false ∧ wholeH (putX y.h x) = false ∧ z = ⟨P0, false, 0⟩ ∧ E' = P ++ { y with h := putX y.h x } :: S ∧ cx = []) ∨
  (y.h.bad = false ∧ wrongX y.h x = false ∧ wholeH (putX y.h x) = true ∧ z = ⟨x.fin (putX y.h x) (some ⟨y.bb, 0, none⟩) (putX y.h x).fin.toNat, true, 0⟩ ∧ E' = P ++ S ∧ cx = [(y.bb, .cells ((putX y.h x).body.map (Value.int .u8)).toArray 5 (0, 0))])
def AddP (life now u : Int) (ck : Nat) (E : List (He Nm)) (x : Pk) (z : Ans) (now' : Int) (ck' : Nat) (E' : List (He Nm)) (cx : Ch) : Prop :=
  (x.flt ≠ 0 ∧ z = ⟨P0, false, x.flt⟩ ∧ now' = now ∧ ck' = ck ∧ E' = E ∧ cx = []) ∨
  (x.flt = 0 ∧ ∃ e, TimeE now u e ∧ z = ⟨P0, false, e⟩ ∧ now' = now ∧ ck' = ck ∧ E' = E ∧ cx = []) ∨
  (x.flt = 0 ∧ (0 ≤ u ∧ u ≤ 1000000 ∧ now ≤ u) ∧ now' = u ∧
    ((x.a = 0 ∧ x.m = false ∧ ck' = ck ∧ E' = liveH life u E ∧ ∃ A cap, z = ⟨{ x with A := A, n := x.l.length, c := cap }, true, 0⟩ ∧ OwnS 5 1 (.slice A x.l.length cap) x.l.length (x.l.map (Value.int .u8)) cx) ∨
    (¬ (x.a = 0 ∧ x.m = false) ∧ (∀ y ∈ liveH life u E, y.k ≠ x.key) ∧ 8 ≤ (liveH life u E).length ∧ ck' = ck ∧ E' = liveH life u E ∧ z = ⟨P0, false, 4⟩ ∧ cx = []) ∨
    (¬ (x.a = 0 ∧ x.m = false) ∧ (∀ y ∈ liveH life u E, y.k ≠ x.key) ∧ (liveH life u E).length < 8 ∧ ck' = ck + 1 ∧ ∃ hb bb sb, InP (liveH life u E) [] ⟨x.key, hb, bb, sb, ck, newH u x.t⟩ x z E' cx) ∨
    (¬ (x.a = 0 ∧ x.m = false) ∧ ck' = ck ∧ ∃ P S y, liveH life u E = P ++ y :: S ∧ y.k = x.key ∧ InP P S y x z E' cx)))
def RInP (P S : List Rh) (y : Rh) (h0 : Hp) (x : Pk) (z : Ans) (RL' : List Rh) (cx : Ch) : Prop :=
  (h0.bad = true ∧ z = ⟨P0, false, 6⟩ ∧ RL' = P ++ y :: S ∧ cx = []) ∨
  (h0.bad = false ∧ wrongX h0 x = true ∧ z = ⟨P0, false, 3⟩ ∧ RL' = P ++ { y with bad := true } :: S ∧ cx = []) ∨
  (h0.bad = false ∧ wrongX h0 x = false ∧ wholeH (putX h0 x) = false ∧ z = ⟨P0, false, 0⟩ ∧ cx = [] ∧ ∃ A' cap' c', OwnS 24 8 (.slice A' (y.n + 1) cap') (y.n + 1) ((y.all ++ [x]).flatMap Pk.row) c' ∧ RL' = P ++ { y with A := A', n := y.n + 1, cap := cap', all := y.all ++ [x], c := c' } :: S) ∨
  (h0.bad = false ∧ wrongX h0 x = false ∧ wholeH (putX h0 x) = true ∧ RL' = P ++ S ∧ ∃ A cap, z = ⟨x.fin (putX h0 x) A cap, true, 0⟩ ∧ OwnS 5 1 (.slice A (putX h0 x).fin.toNat cap) (putX h0 x).fin.toNat (((putX h0 x).body.take (putX h0 x).fin.toNat).map (Value.int .u8)) cx)
def RAddP (life now u : Int) (RL : List Rh) (h0 : Hp) (x : Pk) (z : Ans) (now' : Int) (RL' : List Rh) (cx : Ch) : Prop :=
  (x.flt ≠ 0 ∧ z = ⟨P0, false, x.flt⟩ ∧ now' = now ∧ RL' = RL ∧ cx = []) ∨
  (x.flt = 0 ∧ ∃ e, TimeE now u e ∧ z = ⟨P0, false, e⟩ ∧ now' = now ∧ RL' = RL ∧ cx = []) ∨
  (x.flt = 0 ∧ (0 ≤ u ∧ u ≤ 1000000 ∧ now ≤ u) ∧ now' = u ∧
    ((x.a = 0 ∧ x.m = false ∧ RL' = liveR life u RL ∧ z = ⟨x, true, 0⟩ ∧ cx = []) ∨
    (¬ (x.a = 0 ∧ x.m = false) ∧ (∀ y ∈ liveR life u RL, y.key ≠ x.key) ∧ 8 ≤ (liveR life u RL).length ∧ RL' = liveR life u RL ∧ z = ⟨P0, false, 4⟩ ∧ cx = []) ∨
    (¬ (x.a = 0 ∧ x.m = false) ∧ (∀ y ∈ liveR life u RL, y.key ≠ x.key) ∧ (liveR life u RL).length < 8 ∧ RInP (liveR life u RL) [] ⟨x, u, false, none, 0, 0, [], []⟩ (newH u x.t) x z RL' cx) ∨
    (¬ (x.a = 0 ∧ x.m = false) ∧ ∃ P S y, liveR life u RL = P ++ y :: S ∧ y.key = x.key ∧ RInP P S y h0 x z RL' cx)))
theorem in_P {life u : Int} {pb r ck : Nat} {P S : List (He Nm)} {y : He Nm} {x : Pk} {v : Value} {L : List Ch} {w : World} {D : List Nat} (h : InR life u pb r ck P S y x.k x.t x.i x.s x.d x.a x.m x.l v L) :
    ∃ z E' cx, (∀ w2, Mem w w2 D L → Mem w w2 D [poolP life u pb r ck E', cx]) ∧ v = .tuple #[.agg z.p.row.toArray, .bool z.b, er z.e] ∧ InP P S y x z E' cx := by
  rcases h with ⟨h1, rfl, rfl⟩ | ⟨h1, h2, rfl, rfl⟩ | ⟨h1, h2, h3, rfl, rfl⟩ | ⟨h1, h2, h3, rfl, rfl⟩
  · exact ⟨_, _, _, fun w2 hm => pad_nil hm, rfl, .inl ⟨h1, rfl, rfl, rfl⟩⟩
  · exact ⟨_, _, _, fun w2 hm => pad_nil hm, rfl, .inr (.inl ⟨h1, h2, rfl, rfl, rfl⟩)⟩
  · refine ⟨⟨P0, false, 0⟩, _, _, fun w2 hm => pad_nil hm, ?_, .inr (.inr (.inl ⟨h1, h2, h3, rfl, rfl, rfl⟩))⟩
    rw [er, errV_zero]
    rfl
  · refine ⟨⟨x.fin (putX y.h x) (some ⟨y.bb, 0, none⟩) (putX y.h x).fin.toNat, true, 0⟩, _, _, fun w2 hm => hm, ?_, .inr (.inr (.inr ⟨h1, h2, h3, rfl, rfl, rfl⟩))⟩
    rw [er, errV_zero]
    rfl
theorem rin_P {life u : Int} {mb : Nat} {P S : List Rh} {y : Rh} {h0 : Hp} {x : Pk} {v : Value} {L : List Ch} {w : World} {D : List Nat} (hx : x.n = x.l.length) (h : RInR life u mb P S y h0 x.k x.t x.i x.s x.d x.a x.m x.A x.c x.l v L) :
    ∃ z RL' cx A cap cL, OwnR A cap cL RL' ∧ (∀ w2, Mem w w2 D L → Mem w w2 D [rpC life u mb A cap cL RL', cx]) ∧ v = .tuple #[.agg z.p.row.toArray, .bool z.b, .int .i64 z.e] ∧ RInP P S y h0 x z RL' cx := by
  have e : (⟨x.k, x.t, x.i, x.s, x.d, x.a, x.m, x.A, x.l.length, x.c, x.l⟩ : Pk) = x := by rw [← hx]
  unfold RInR at h
  rw [e] at h
  rcases h with ⟨h1, rfl, A, cap, cL, h5, rfl⟩ | ⟨h1, h2, rfl, A, cap, cL, h5, rfl⟩ | ⟨h1, h2, h3, rfl, A, cap, cL, A', cap', c', h4, h5, rfl⟩ | ⟨h1, h2, h3, A, cap, cL, Ab, capb, cB, rfl, h5, h6, rfl⟩
  · exact ⟨⟨P0, false, 6⟩, _, _, A, cap, cL, h5, fun w2 hm => pad_nil hm, rfl, .inl ⟨h1, rfl, rfl, rfl⟩⟩
  · exact ⟨⟨P0, false, 3⟩, _, _, A, cap, cL, h5, fun w2 hm => pad_nil hm, rfl, .inr (.inl ⟨h1, h2, rfl, rfl, rfl⟩)⟩
  · exact ⟨⟨P0, false, 0⟩, _, _, A, cap, cL, h5, fun w2 hm => pad_nil hm, rfl, .inr (.inr (.inl ⟨h1, h2, h3, rfl, rfl, A', cap', c', h4, rfl⟩))⟩
  · exact ⟨⟨x.fin (putX h0 x) Ab capb, true, 0⟩, _, _, A, cap, cL, h5, fun w2 hm => hm, rfl, .inr (.inr (.inr ⟨h1, h2, h3, rfl, Ab, capb, rfl, h6⟩))⟩
theorem frag_AddP {x : Pk} (hx : x.n = x.l.length) {life now u : Int} {pb r ck : Nat} {E : List (He Nm)} {w : World} {D : List Nat} (hE : PoolOk E ck) (hlen : E.length ≤ 8) (hlife : 1 ≤ life ∧ life ≤ 1000000) (hnow : 0 ≤ now ∧ now ≤ 1000000) (hok : ∀ x ∈ E, x.h.ok)
    (hD : D = (poolP life now pb r ck E).map (·.1)) (hM : Mem w w D [poolP life now pb r ck E]) (hcap : x.n ≤ x.c) (hA : ∃ z o, 0 < x.n → x.A = some ⟨z, o, none⟩ ∧ z < w.heap.size ∧ z ∉ D ∧ CellsAt w z o (x.l.map (Value.int .u8))) :
    Calls Tryd.prog 14 #[.pointer (some ⟨pb, 0, none⟩), .agg (Pk.row x).toArray, .int .i64 u] w (Ret w D (fun v L => ∃ z now' ck' E' cx, v = .tuple #[.agg z.p.row.toArray, .bool z.b, er z.e] ∧ L = [poolP life now' pb r ck' E', cx] ∧ AddP life now u ck E x z now' ck' E' cx)) := by
  rw [hx] at hcap hA
  have h := frag_Add x.k x.t x.i x.s x.d x.a x.m (u := u) hE hlen hlife hnow hok hD hM hcap hA
  rw [← hx] at h
  refine h.mono fun e W' hR => hR.monoM fun v L h => ?_
  rcases h with ⟨h1, rfl, rfl⟩ | ⟨h1, e, h2, rfl, rfl⟩ | ⟨h1, h2, ⟨h3, h4, A', cap', c, rfl, rfl, h5⟩ | ⟨h3, h4, h5, rfl, rfl⟩ | ⟨h3, h4, h5, hb, bb, sb, h6⟩ | ⟨h3, P, S, y, h4, h5, h6⟩⟩
  · exact ⟨_, fun w2 hm => pad_nil hm, ⟨P0, false, x.flt⟩, _, _, _, _, rfl, rfl, .inl ⟨h1, rfl, rfl, rfl, rfl, rfl⟩⟩
  · exact ⟨_, fun w2 hm => pad_nil hm, ⟨P0, false, e⟩, _, _, _, _, rfl, rfl, .inr (.inl ⟨h1, e, h2, rfl, rfl, rfl, rfl, rfl⟩)⟩
  · refine ⟨_, fun w2 hm => hm, ⟨{ x with A := A', n := x.l.length, c := cap' }, true, 0⟩, u, ck, liveH life u E, c, ?_, rfl, .inr (.inr ⟨h1, h2, rfl, .inl ⟨h3, h4, rfl, rfl, A', cap', rfl, h5⟩⟩)⟩
    rw [er, errV_zero]
    rfl
  · exact ⟨_, fun w2 hm => pad_nil hm, ⟨P0, false, 4⟩, _, _, _, _, rfl, rfl, .inr (.inr ⟨h1, h2, rfl, .inr (.inl ⟨h3, h4, h5, rfl, rfl, rfl, rfl⟩)⟩)⟩
  · obtain ⟨z, E', cx, h7, h8, h9⟩ := in_P (w := w) (D := D) h6
    exact ⟨_, h7, z, u, ck + 1, E', cx, h8, rfl, .inr (.inr ⟨h1, h2, rfl, .inr (.inr (.inl ⟨h3, h4, h5, rfl, hb, bb, sb, h9⟩))⟩)⟩
  · obtain ⟨z, E', cx, h7, h8, h9⟩ := in_P (w := w) (D := D) h6
    exact ⟨_, h7, z, u, ck, E', cx, h8, rfl, .inr (.inr ⟨h1, h2, rfl, .inr (.inr (.inr ⟨h3, rfl, P, S, y, h4, h5, h9⟩))⟩)⟩
theorem ref_AddP {x : Pk} (hx : x.n = x.l.length) {life now u : Int} {mb cap : Nat} {A : Option Addr} {cL : Ch} {RL : List Rh} {h0 : Hp} {w : World} {D : List Nat} (hL : OwnR A cap cL RL) (hlen : RL.length ≤ 8) (hkey : (RL.map Rh.key).Nodup) (hok : ∀ y ∈ RL, y.ok) (hlife : 1 ≤ life ∧ life ≤ 1000000) (hnow : 0 ≤ now ∧ now ≤ 1000000)
    (hbod : ∀ y ∈ RL, ∀ p ∈ y.all, ∀ {w' : World}, Mem w w' D [] → IsSl w' 1 p.A p.n p.c (p.l.map (Value.int .u8))) (hbodx : ∀ {w' : World}, Mem w w' D [] → IsSl w' 1 x.A x.n x.c (x.l.map (Value.int .u8)))
    (hrel : ∀ y ∈ RL, y.key = x.key → y.bad = h0.bad ∧ (h0.bad = false → HeapR h0 (y.all.map Pk.pc) ∧ (y.all = [] → h0.ttl = x.t)))
    (hD : D = (rpC life now mb A cap cL RL).map (·.1)) (hM : Mem w w D [rpC life now mb A cap cL RL]) :
    Calls Tryd.prog 13 #[.pointer (some ⟨mb, 0, none⟩), .agg (Pk.row x).toArray, .int .i64 u] w (Ret w D (fun v L => ∃ z now' RL' cx A' cap' cL', v = .tuple #[.agg z.p.row.toArray, .bool z.b, .int .i64 z.e] ∧ L = [rpC life now' mb A' cap' cL' RL', cx] ∧ OwnR A' cap' cL' RL' ∧ RAddP life now u RL h0 x z now' RL' cx)) := by
  rw [hx] at hbodx
  have h := ref_Add x.k x.t x.i x.s x.d x.a x.m (u := u) hL hlen hkey hok hlife hnow hbod hbodx hrel hD hM
  have ex : (⟨x.k, x.t, x.i, x.s, x.d, x.a, x.m, x.A, x.l.length, x.c, x.l⟩ : Pk) = x := by rw [← hx]
  rw [← hx] at h
  refine h.mono fun e W' hR => hR.monoM fun v L h => ?_
  rcases h with ⟨h1, rfl, rfl⟩ | ⟨h1, e, h2, rfl, rfl⟩ | ⟨h1, h2, ⟨h3, h4, rfl, A', cap', c, h5, rfl⟩ | ⟨h3, h4, h5, rfl, A', cap', c, h6, rfl⟩ | ⟨h3, h4, h5, h6⟩ | ⟨h3, P, S, y, h4, h5, h6⟩⟩
  · exact ⟨_, fun w2 hm => pad_nil hm, ⟨P0, false, x.flt⟩, now, RL, [], A, cap, cL, rfl, rfl, hL, .inl ⟨h1, rfl, rfl, rfl, rfl⟩⟩
  · exact ⟨_, fun w2 hm => pad_nil hm, ⟨P0, false, e⟩, now, RL, [], A, cap, cL, rfl, rfl, hL, .inr (.inl ⟨h1, e, h2, rfl, rfl, rfl, rfl⟩)⟩
  · refine ⟨_, fun w2 hm => pad_nil hm, ⟨x, true, 0⟩, u, liveR life u RL, [], A', cap', c, ?_, rfl, h5, .inr (.inr ⟨h1, h2, rfl, .inl ⟨h3, h4, rfl, rfl, rfl⟩⟩)⟩
    show _ = Value.tuple #[.agg #[_, _, _, _, _, _, _, .slice x.A x.n x.c], _, _]
    rw [hx]
  · exact ⟨_, fun w2 hm => pad_nil hm, ⟨P0, false, 4⟩, u, liveR life u RL, [], A', cap', c, rfl, rfl, h6, .inr (.inr ⟨h1, h2, rfl, .inr (.inl ⟨h3, h4, h5, rfl, rfl, rfl⟩)⟩)⟩
  · rw [ex] at h6
    obtain ⟨z, RL', cx, A', cap', c, h7, h8, h9, h10⟩ := rin_P (w := w) (D := D) hx h6
    exact ⟨_, h8, z, u, RL', cx, A', cap', c, h9, rfl, h7, .inr (.inr ⟨h1, h2, rfl, .inr (.inr (.inl ⟨h3, h4, h5, h10⟩))⟩)⟩
  · obtain ⟨z, RL', cx, A', cap', c, h7, h8, h9, h10⟩ := rin_P (w := w) (D := D) hx h6
    exact ⟨_, h8, z, u, RL', cx, A', cap', c, h9, rfl, h7, .inr (.inr ⟨h1, h2, rfl, .inr (.inr (.inr ⟨h3, P, S, y, h4, h5, h10⟩))⟩)⟩
end Go.Proofs.YtlpdapfihgpheaaDoor
