/- frag and portref2: both answer alike. -/
import Derived.Test.YtlpdapfihgpheaaDoorFragBB
set_option linter.unusedSimpArgs false
set_option linter.unusedVariables false
namespace Go.Proofs.YtlpdapfihgpheaaDoor
open Go.RowKit Go.Port
/-- A heap, and what the document has of it. -/
def RelH (e : He Nm) (y : Rh) : Prop := e.k = y.key ∧ e.h.began = y.began ∧ e.h.bad = y.bad ∧ (y.bad = false → HeapR e.h (y.all.map Pk.pc) ∧ y.all ≠ [])
def RelL : List (He Nm) → List Rh → Prop
  | [], [] => True
  | e :: E, y :: RL => RelH e y ∧ RelL E RL
  | _, _ => False
theorem RelL.len : ∀ {E : List (He Nm)} {RL : List Rh}, RelL E RL → E.length = RL.length
  | [], [], _ => rfl
  | e :: E, y :: RL, h => by rw [List.length_cons, List.length_cons, h.2.len]
  | [], y :: RL, h => h.elim
  | e :: E, [], h => h.elim
theorem RelL.keys : ∀ {E : List (He Nm)} {RL : List Rh}, RelL E RL → E.map (·.k) = RL.map Rh.key
  | [], [], _ => rfl
  | e :: E, y :: RL, h => by rw [List.map_cons, List.map_cons, h.2.keys, h.1.1]
  | [], y :: RL, h => h.elim
  | e :: E, [], h => h.elim
theorem RelL.live {life u : Int} : ∀ {E : List (He Nm)} {RL : List Rh}, RelL E RL → RelL (liveH life u E) (liveR life u RL)
  | [], [], _ => trivial
  | e :: E, y :: RL, h => by
    unfold liveH liveR
    rw [List.filter_cons, List.filter_cons, h.1.2.1]
    split
    · exact ⟨h.1, h.2.live⟩
    · exact h.2.live
  | [], y :: RL, h => h.elim
  | e :: E, [], h => h.elim
theorem RelL.app : ∀ {E E' : List (He Nm)} {RL RL' : List Rh}, RelL E RL → RelL E' RL' → RelL (E ++ E') (RL ++ RL')
  | [], _, [], _, _, h' => h'
  | e :: E, _, y :: RL, _, h, h' => ⟨h.1, h.2.app h'⟩
  | [], _, y :: RL, _, h, _ => h.elim
  | e :: E, _, [], _, h, _ => h.elim
theorem RelL.split : ∀ {P : List (He Nm)} {e : He Nm} {S : List (He Nm)} {RL : List Rh}, RelL (P ++ e :: S) RL → ∃ P' y S', RL = P' ++ y :: S' ∧ RelL P P' ∧ RelH e y ∧ RelL S S'
  | [], e, S, y :: RL, h => ⟨[], y, RL, rfl, trivial, h.1, h.2⟩
  | [], e, S, [], h => h.elim
  | p :: P, e, S, y :: RL, h => by
    obtain ⟨P', y', S', h1, h2, h3, h4⟩ := RelL.split h.2
    exact ⟨y :: P', y', S', by rw [h1]; rfl, ⟨h.1, h2⟩, h3, h4⟩
  | p :: P, e, S, [], h => h.elim
theorem RelL.find {E : List (He Nm)} {RL : List Rh} (h : RelL E RL) {y : Rh} (hy : y ∈ RL) : ∃ e ∈ E, RelH e y := by
  induction E generalizing RL with
  | nil =>
    cases RL with
    | nil => cases hy
    | cons _ _ => exact h.elim
  | cons e E ih =>
    cases RL with
    | nil => exact h.elim
    | cons y' RL =>
      rcases List.mem_cons.1 hy with rfl | hy
      · exact ⟨e, List.Mem.head _, h.1⟩
      · obtain ⟨e', h1, h2⟩ := ih h.2 hy
        exact ⟨e', List.Mem.tail _ h1, h2⟩
theorem split_one {α β : Type} {f : α → β} : ∀ {P P' S S' : List α} {y y' : α}, ((P ++ y :: S).map f).Nodup → P ++ y :: S = P' ++ y' :: S' → f y = f y' → P = P' ∧ y = y' ∧ S = S'
  | [], [], S, S', y, y', _, h, _ => by
    simp only [List.nil_append, List.cons.injEq] at h
    exact ⟨rfl, h.1, h.2⟩
  | [], p' :: P', S, S', y, y', hn, h, hf => by
    simp only [List.nil_append, List.cons_append, List.cons.injEq] at h
    obtain ⟨rfl, rfl⟩ := h
    rw [List.nil_append, List.map_cons, List.nodup_cons] at hn
    exact absurd (hf ▸ List.mem_map_of_mem (List.mem_append.2 (.inr (List.Mem.head _)))) hn.1
  | p :: P, [], S, S', y, y', hn, h, hf => by
    simp only [List.nil_append, List.cons_append, List.cons.injEq] at h
    obtain ⟨rfl, rfl⟩ := h
    rw [List.cons_append, List.map_cons, List.nodup_cons] at hn
    exact absurd (hf ▸ List.mem_map_of_mem (List.mem_append.2 (.inr (List.Mem.head _)))) hn.1
  | p :: P, p' :: P', S, S', y, y', hn, h, hf => by
    simp only [List.cons_append, List.cons.injEq] at h
    rw [List.cons_append, List.map_cons, List.nodup_cons] at hn
    obtain ⟨rfl, h2, h3⟩ := split_one hn.2 h.2 hf
    exact ⟨by rw [h.1], h2, h3⟩
/-- What this side has of a key. -/
def hOf (E : List (He Nm)) (k : Nm) : Hp := ((E.find? (fun e => decide (e.k = k))).map (·.h)).getD (newH 0 0)
theorem hOf_eq {E : List (He Nm)} {ck : Nat} (h : PoolOk E ck) {e : He Nm} (he : e ∈ E) {k : Nm} (hk : e.k = k) : hOf E k = e.h := by
  unfold hOf
  cases hf : E.find? (fun e => decide (e.k = k)) with
  | none => exact absurd (decide_eq_true hk) (List.find?_eq_none.1 hf e he)
  | some e' =>
    have h1 := List.mem_of_find?_eq_some hf
    have h2 : e'.k = k := by simpa using List.find?_some hf
    have h3 := inj_of_nodup h.keys h1 he (h2.trans hk.symm)
    rw [h3]
    rfl
/-- The packets of two answers are alike. -/
def Same (p q : Pk) : Prop := p.k = q.k ∧ p.t = q.t ∧ p.i = q.i ∧ p.s = q.s ∧ p.d = q.d ∧ p.a = q.a ∧ p.m = q.m ∧ p.l = q.l
def RowOf (cx : Ch) (x p : Pk) : Prop := ∀ w, Has w cx → IsRow w .u8 x.A x.n x.c x.l → IsRow w .u8 p.A p.n p.c p.l
/-- Both pools, behind so many pieces. -/
structure Inv (W : World) (cnt : Nat) (now : Int) (ck : Nat) (E : List (He Nm)) (RL : List Rh) : Prop where
  pool : PoolOk E ck
  rel : RelL E RL
  eok : ∀ e ∈ E, e.h.ok
  rok : ∀ y ∈ RL, y.ok
  cnt : ∀ y ∈ RL, y.n ≤ cnt
  len : E.length ≤ 8
  now : 0 ≤ now ∧ now ≤ 1000000
  bod : ∀ y ∈ RL, ∀ p ∈ y.all, IsRow W .u8 p.A p.n p.c p.l
theorem heap_okay {h : Hp} {l : List Pc} (hr : HeapR h l) (hb : 0 ≤ h.began ∧ h.began ≤ 1000000) : h.ok := by
  refine ⟨hb, hr.bl, hr.hl, ?_⟩
  rcases hr.fin2 with h1 | ⟨p, hp, h1⟩
  · omega
  · have h2 := hr.fin1 p hp h1
    have h3 := (hr.wf p hp).2.2
    omega
theorem pool_swap {P S : List (He Nm)} {e e' : He Nm} {ck : Nat} (h : PoolOk (P ++ e :: S) ck) (hk : e'.k = e.k) (hb : e'.born = e.born) : PoolOk (P ++ e' :: S) ck := by
  refine ⟨?_, ?_, fun x hx => ?_⟩
  · have := h.keys
    simp only [List.map_append, List.map_cons, hk] at this ⊢
    exact this
  · have := h.borns
    simp only [List.map_append, List.map_cons, hb] at this ⊢
    exact this
  · rcases List.mem_append.1 hx with h1 | h1
    · exact h.low x (List.mem_append.2 (.inl h1))
    · rcases List.mem_cons.1 h1 with rfl | h1
      · rw [hb]
        exact h.low e (List.mem_append.2 (.inr (List.Mem.head _)))
      · exact h.low x (List.mem_append.2 (.inr (List.Mem.tail _ h1)))
theorem pool_out {P S : List (He Nm)} {e : He Nm} {ck : Nat} (h : PoolOk (P ++ e :: S) ck) : PoolOk (P ++ S) ck := by
  have hs : (P ++ S).Sublist (P ++ e :: S) := (List.sublist_cons_self e S).append_left P
  exact ⟨h.keys.sublist (hs.map _), h.borns.sublist (hs.map _), fun x hx => h.low x (hs.subset hx)⟩
theorem mem_swap {α : Type} {P S : List α} {e e' x : α} (h : x ∈ P ++ e' :: S) : x = e' ∨ x ∈ P ++ e :: S := by
  rcases List.mem_append.1 h with h | h
  · exact .inr (List.mem_append.2 (.inl h))
  · rcases List.mem_cons.1 h with rfl | h
    · exact .inl rfl
    · exact .inr (List.mem_append.2 (.inr (List.Mem.tail _ h)))
theorem mem_out {α : Type} {P S : List α} {e x : α} (h : x ∈ P ++ S) : x ∈ P ++ e :: S := ((List.sublist_cons_self e S).append_left P).subset h
/-- What both answer. -/
def Alike (W : World) (cnt : Nat) (x : Pk) (now : Int) (ck : Nat) (E : List (He Nm)) (RL : List Rh) (z z2 : Ans) (cx cx2 : Ch) : Prop :=
  Inv W cnt now ck E RL ∧ z.b = z2.b ∧ z.e = z2.e ∧ Same z.p z2.p ∧ RowOf cx x z.p ∧ RowOf cx2 x z2.p
theorem row_P0 {cx : Ch} {x : Pk} : RowOf cx x P0 := fun _ _ _ => IsRow.nil
theorem same_self {p : Pk} : Same p p := ⟨rfl, rfl, rfl, rfl, rfl, rfl, rfl, rfl⟩
theorem agree_in {W : World} {cnt : Nat} {x : Pk} {u : Int} {ck : Nat} {P S : List (He Nm)} {P2 S2 : List Rh} {e : He Nm} {y : Rh} {z z2 : Ans} {E' : List (He Nm)} {RL' : List Rh} {cx cx2 : Ch} (hx : IsRow W .u8 x.A x.n x.c x.l) (hfit : x.fit) (hu : 0 ≤ u ∧ u ≤ 1000000) (hcnt : cnt + 1 ≤ 50000)
    (hpo : PoolOk (P ++ e :: S) ck) (hP : RelL P P2) (hS : RelL S S2) (hk : e.k = y.key) (hbg : e.h.began = y.began) (hbad : e.h.bad = y.bad) (hrel : e.h.bad = false → HeapR e.h (y.all.map Pk.pc) ∧ (y.all = [] → e.h.ttl = x.t))
    (heok : ∀ e' ∈ P ++ e :: S, e'.h.ok) (hrok : ∀ y' ∈ P2 ++ y :: S2, y'.ok) (hn : ∀ y' ∈ P2 ++ y :: S2, y'.n ≤ cnt) (hlen : (P ++ e :: S).length ≤ 8) (hbod : ∀ y' ∈ P2 ++ y :: S2, ∀ p ∈ y'.all, IsRow W .u8 p.A p.n p.c p.l)
    (h1 : InP P S e x z E' cx) (h2 : RInP P2 S2 y e.h x z2 RL' cx2) : Alike W (cnt + 1) x u ck E' RL' z z2 cx cx2 := by
  have hem : e ∈ P ++ e :: S := List.mem_append.2 (.inr (List.Mem.head _))
  have hym : y ∈ P2 ++ y :: S2 := List.mem_append.2 (.inr (List.Mem.head _))
  have hl2 : (P ++ S).length ≤ 8 := by rw [List.length_append, List.length_cons] at hlen; rw [List.length_append]; omega
  rcases h1 with ⟨a1, rfl, rfl, rfl⟩ | ⟨a1, a2, rfl, rfl, rfl⟩ | ⟨a1, a2, a3, rfl, rfl, rfl⟩ | ⟨a1, a2, a3, rfl, rfl, rfl⟩
  · rcases h2 with ⟨b1, rfl, rfl, rfl⟩ | ⟨b1, _⟩ | ⟨b1, _⟩ | ⟨b1, _⟩
    · exact ⟨⟨hpo, hP.app ⟨⟨hk, hbg, hbad, fun h => by rw [← hbad, a1] at h; cases h⟩, hS⟩, heok, hrok, fun y' hy' => Nat.le_succ_of_le (hn y' hy'), hlen, hu, hbod⟩, rfl, rfl, same_self, row_P0, row_P0⟩
    all_goals (rw [a1] at b1; cases b1)
  · rcases h2 with ⟨b1, _⟩ | ⟨b1, b2, rfl, rfl, rfl⟩ | ⟨b1, b2, _⟩ | ⟨b1, b2, _⟩
    · rw [a1] at b1; cases b1
    · refine ⟨⟨pool_swap hpo rfl rfl, hP.app ⟨⟨hk, hbg, rfl, fun h => by cases h⟩, hS⟩, fun e' he' => ?_, fun y' hy' => ?_, fun y' hy' => ?_, ?_, hu, fun y' hy' => ?_⟩, rfl, rfl, same_self, row_P0, row_P0⟩
      · rcases mem_swap (e := e) he' with rfl | h
        · exact heok e hem
        · exact heok e' h
      · rcases mem_swap (e := y) hy' with rfl | h
        · exact hrok y hym
        · exact hrok y' h
      · rcases mem_swap (e := y) hy' with rfl | h
        · exact Nat.le_succ_of_le (hn y hym)
        · exact Nat.le_succ_of_le (hn y' h)
      · rw [List.length_append, List.length_cons] at hlen ⊢; exact hlen
      · rcases mem_swap (e := y) hy' with rfl | h
        · exact hbod y hym
        · exact hbod y' h
    · rw [a2] at b2; cases b2
    · rw [a2] at b2; cases b2
  · rcases h2 with ⟨b1, _⟩ | ⟨b1, b2, _⟩ | ⟨b1, b2, b3, rfl, rfl, A', cap', c', b4, rfl⟩ | ⟨b1, b2, b3, _⟩
    · rw [a1] at b1; cases b1
    · rw [a2] at b2; cases b2
    · obtain ⟨hr1, hr2⟩ := hrel a1
      have hput : HeapR (putX e.h x) ((y.all ++ [x]).map Pk.pc) := by
        rw [List.map_append]
        exact hr1.put a2 hfit.1.1 (fun h => hr2 (List.map_eq_nil_iff.1 h))
      have hye := hrok y hym
      refine ⟨⟨pool_swap hpo rfl rfl, hP.app ⟨⟨hk, hbg, hbad, fun _ => ⟨hput, by simp⟩⟩, hS⟩, fun e' he' => ?_, fun y' hy' => ?_, fun y' hy' => ?_, ?_, hu, fun y' hy' => ?_⟩, rfl, rfl, same_self, row_P0, row_P0⟩
      · rcases mem_swap (e := e) he' with rfl | h
        · exact heap_okay hput (heok e hem).1
        · exact heok e' h
      · rcases mem_swap (e := y) hy' with rfl | h
        · refine ⟨b4, ?_, ?_, fun p hp => ?_, hye.2.2.2.2⟩
          · show y.n + 1 = (y.all ++ [x]).length
            rw [List.length_append, List.length_singleton, hye.2.1]
          · show y.n + 1 ≤ 50000
            have := hn y hym
            omega
          · rcases List.mem_append.1 hp with hp | hp
            · exact hye.2.2.2.1 p hp
            · obtain rfl : p = x := by simpa using hp
              exact hfit
        · exact hrok y' h
      · rcases mem_swap (e := y) hy' with rfl | h
        · exact Nat.succ_le_succ (hn y hym)
        · exact Nat.le_succ_of_le (hn y' h)
      · rw [List.length_append, List.length_cons] at hlen ⊢; exact hlen
      · rcases mem_swap (e := y) hy' with rfl | h
        · intro p hp
          rcases List.mem_append.1 hp with hp | hp
          · exact hbod y hym p hp
          · obtain rfl : p = x := by simpa using hp
            exact hx
        · exact hbod y' h
    · rw [a3] at b3; cases b3
  · rcases h2 with ⟨b1, _⟩ | ⟨b1, b2, _⟩ | ⟨b1, b2, b3, _⟩ | ⟨b1, b2, b3, rfl, A, cap, rfl, b4⟩
    · rw [a1] at b1; cases b1
    · rw [a2] at b2; cases b2
    · rw [a3] at b3; cases b3
    · obtain ⟨hr1, hr2⟩ := hrel a1
      have hput : HeapR (putX e.h x) ((y.all ++ [x]).map Pk.pc) := by
        rw [List.map_append]
        exact hr1.put a2 hfit.1.1 (fun h => hr2 (List.map_eq_nil_iff.1 h))
      have hpo2 := heap_okay hput (heok e hem).1
      have hlt : ((putX e.h x).body.take (putX e.h x).fin.toNat).length = (putX e.h x).fin.toNat := by
        rw [List.length_take, hpo2.2.1]
        have := hpo2.2.2.2
        omega
      refine ⟨⟨pool_out hpo, hP.app hS, fun e' he' => heok e' (mem_out he'), fun y' hy' => hrok y' (mem_out hy'), fun y' hy' => Nat.le_succ_of_le (hn y' (mem_out hy')), hl2, hu, fun y' hy' => hbod y' (mem_out hy')⟩, rfl, rfl, ⟨rfl, rfl, rfl, rfl, rfl, rfl, rfl, rfl⟩, fun w hw _ => ?_, fun w hw _ => (b4.sees hw).1⟩
      have h3 := done_row (l := (putX e.h x).body.take (putX e.h x).fin.toNat) hw (by rw [hlt])
      rw [hlt] at h3
      exact h3
theorem Inv.more {W : World} {cnt : Nat} {now : Int} {ck : Nat} {E : List (He Nm)} {RL : List Rh} (h : Inv W cnt now ck E RL) : Inv W (cnt + 1) now ck E RL := ⟨h.pool, h.rel, h.eok, h.rok, fun y hy => Nat.le_succ_of_le (h.cnt y hy), h.len, h.now, h.bod⟩
theorem Inv.tick {W : World} {cnt : Nat} {now u life : Int} {ck : Nat} {E : List (He Nm)} {RL : List Rh} (h : Inv W cnt now ck E RL) (hu : 0 ≤ u ∧ u ≤ 1000000) : Inv W cnt u ck (liveH life u E) (liveR life u RL) :=
  ⟨h.pool.filter _, h.rel.live, fun e he => h.eok e (List.mem_filter.1 he).1, fun y hy => h.rok y (List.mem_filter.1 hy).1, fun y hy => h.cnt y (List.mem_filter.1 hy).1, Nat.le_trans (List.length_filter_le _ _) h.len, hu, fun y hy => h.bod y (List.mem_filter.1 hy).1⟩
theorem agree {W : World} {cnt : Nat} {x : Pk} {life now u : Int} {ck : Nat} {E : List (He Nm)} {RL : List Rh} {z z2 : Ans} {now' now2 : Int} {ck' : Nat} {E' : List (He Nm)} {RL' : List Rh} {cx cx2 : Ch} (hI : Inv W cnt now ck E RL) (hx : IsRow W .u8 x.A x.n x.c x.l) (hxn : x.n = x.l.length) (hcnt : cnt + 1 ≤ 50000)
    (h1 : AddP life now u ck E x z now' ck' E' cx) (h2 : RAddP life now u RL (hOf E x.key) x z2 now2 RL' cx2) : now2 = now' ∧ Alike W (cnt + 1) x now' ck' E' RL' z z2 cx cx2 := by
  rcases h1 with ⟨a1, rfl, rfl, rfl, rfl, rfl⟩ | ⟨a1, e, a2, rfl, rfl, rfl, rfl, rfl⟩ | ⟨a1, a2, rfl, h1⟩
  · rcases h2 with ⟨b1, rfl, rfl, rfl, rfl⟩ | ⟨b1, _⟩ | ⟨b1, _⟩
    · exact ⟨rfl, hI.more, rfl, rfl, same_self, row_P0, row_P0⟩
    · exact absurd b1 a1
    · exact absurd b1 a1
  · rcases h2 with ⟨b1, _⟩ | ⟨b1, e', b2, rfl, rfl, rfl, rfl⟩ | ⟨b1, b2, _⟩
    · exact absurd a1 b1
    · have he : e = e' := by unfold TimeE at a2 b2; omega
      subst he
      exact ⟨rfl, hI.more, rfl, rfl, same_self, row_P0, row_P0⟩
    · unfold TimeE at a2; omega
  rcases h2 with ⟨b1, _⟩ | ⟨b1, e', b2, _⟩ | ⟨b1, b2, rfl, h2⟩
  · exact absurd a1 b1
  · unfold TimeE at b2; omega
  have hT := hI.tick (life := life) ⟨a2.1, a2.2.1⟩
  have hll := hT.rel.len
  have hkk := hT.rel.keys
  have hfit : x.fit := by
    have := pkt_bd a1
    exact ⟨⟨this.2.2.1, this.2.2.2⟩, hxn, by omega⟩
  have hno : (∀ y ∈ liveH life now2 E, y.k ≠ x.key) → ∀ y ∈ liveR life now2 RL, y.key ≠ x.key := fun h y hy => by
    obtain ⟨e, he, hr⟩ := hT.rel.find hy
    rw [← hr.1]
    exact h e he
  refine ⟨rfl, ?_⟩
  rcases h1 with ⟨a3, a4, rfl, rfl, A, cap, rfl, a5⟩ | ⟨a3, a4, a5, rfl, rfl, rfl, rfl⟩ | ⟨a3, a4, a5, rfl, hb, bb, sb, h1⟩ | ⟨a3, rfl, P, S, y, a4, a5, h1⟩
  · rcases h2 with ⟨b3, b4, rfl, rfl, rfl⟩ | ⟨b3, _⟩ | ⟨b3, _⟩ | ⟨b3, _⟩
    · exact ⟨hT.more, rfl, rfl, ⟨rfl, rfl, rfl, rfl, rfl, rfl, rfl, rfl⟩, fun w hw _ => (a5.sees hw).1, fun w _ h => h⟩
    all_goals exact absurd ⟨a3, a4⟩ b3
  · rcases h2 with ⟨b3, b4, _⟩ | ⟨b3, b4, b5, rfl, rfl, rfl⟩ | ⟨b3, b4, b5, _⟩ | ⟨b3, P2, S2, y2, b4, b5, _⟩
    · exact absurd ⟨b3, b4⟩ a3
    · exact ⟨hT.more, rfl, rfl, same_self, row_P0, row_P0⟩
    · omega
    · exact absurd b5 (hno a4 y2 (by rw [b4]; exact List.mem_append.2 (.inr (List.Mem.head _))))
  · rcases h2 with ⟨b3, b4, _⟩ | ⟨b3, b4, b5, _⟩ | ⟨b3, b4, b5, h2⟩ | ⟨b3, P2, S2, y2, b4, b5, _⟩
    · exact absurd ⟨b3, b4⟩ a3
    · omega
    · have hy0 : Rh.ok ⟨x, now2, false, none, 0, 0, [], []⟩ := ⟨OwnS.nil _ _, rfl, (show (0 : Nat) ≤ 50000 by decide), (fun p hp => by cases hp), a2.1, a2.2.1⟩
      refine agree_in (u := now2) hx hfit ⟨a2.1, a2.2.1⟩ hcnt (ok_new hT.pool a4 rfl) hT.rel (show RelL [] [] from trivial) rfl rfl rfl (fun _ => ⟨HeapR.new, fun _ => rfl⟩) (fun e' he' => ?_) (fun y' hy' => ?_) (fun y' hy' => ?_) ?_ (fun y' hy' => ?_) h1 h2
      · rcases List.mem_append.1 he' with h | h
        · exact hT.eok e' h
        · obtain rfl := List.mem_singleton.1 h
          exact heap_okay HeapR.new ⟨a2.1, a2.2.1⟩
      · rcases List.mem_append.1 hy' with h | h
        · exact hT.rok y' h
        · obtain rfl := List.mem_singleton.1 h
          exact hy0
      · rcases List.mem_append.1 hy' with h | h
        · exact hT.cnt y' h
        · obtain rfl := List.mem_singleton.1 h
          exact Nat.zero_le _
      · rw [List.length_append, List.length_singleton]
        omega
      · rcases List.mem_append.1 hy' with h | h
        · exact hT.bod y' h
        · obtain rfl := List.mem_singleton.1 h
          intro p hp
          cases hp
    · exact absurd b5 (hno a4 y2 (by rw [b4]; exact List.mem_append.2 (.inr (List.Mem.head _))))
  · have hR := hT.rel
    rw [a4] at hR
    obtain ⟨P', y', S', e1, e2, e3, e4⟩ := hR.split
    have hym : y ∈ liveH life now2 E := by rw [a4]; exact List.mem_append.2 (.inr (List.Mem.head _))
    have hym' : y' ∈ liveR life now2 RL := by rw [e1]; exact List.mem_append.2 (.inr (List.Mem.head _))
    have hyk : y'.key = x.key := by rw [← e3.1]; exact a5
    rcases h2 with ⟨b3, b4, _⟩ | ⟨b3, b4, b5, _⟩ | ⟨b3, b4, b5, h2⟩ | ⟨b3, P2, S2, y2, b4, b5, h2⟩
    · exact absurd ⟨b3, b4⟩ a3
    · exact absurd hyk (b4 y' hym')
    · exact absurd hyk (b4 y' hym')
    · have hnd : ((P' ++ y' :: S').map Rh.key).Nodup := by
        rw [← e1, ← hkk]
        exact hT.pool.keys
      obtain ⟨rfl, rfl, rfl⟩ := split_one hnd (e1.symm.trans b4) (hyk.trans b5.symm)
      have hho : hOf E x.key = y.h := hOf_eq hI.pool (List.mem_filter.1 hym).1 a5
      rw [hho] at h2
      refine agree_in (u := now2) hx hfit ⟨a2.1, a2.2.1⟩ hcnt (a4 ▸ hT.pool) e2 e4 e3.1 e3.2.1 e3.2.2.1 (fun h => ?_) (a4 ▸ hT.eok) (e1 ▸ hT.rok) (e1 ▸ hT.cnt) (a4 ▸ hT.len) (e1 ▸ hT.bod) h1 h2
      obtain ⟨h3, h4⟩ := e3.2.2.2 (e3.2.2.1.symm.trans h)
      exact ⟨h3, fun h5 => absurd h5 h4⟩
end Go.Proofs.YtlpdapfihgpheaaDoor
