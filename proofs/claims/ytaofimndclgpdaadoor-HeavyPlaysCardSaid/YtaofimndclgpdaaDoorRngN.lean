/- Loops over functions that go over a map: the block of the map's iterator is made behind the loop's beginning. No program here. -/
import Derived.Test.YtaofimndclgpdaaDoorRngC
set_option linter.unusedSimpArgs false
set_option linter.unusedVariables false
namespace Go.Port
open Go.RowKit
/-- An iterator over a map. -/
def isIt : Obj → Bool
  | .mapIter _ _ _ _ => true
  | _ => false
def ItAt (w : World) (k : Nat) : Prop := ∃ o, w.heap[k]? = some o ∧ isIt o = true
/-- What an iterator may turn: its own blocks, new ones, and iterators over maps that are not older than b. -/
structure MovedN (Ws : Nat → Prop) (b : Nat) (A B : World) : Prop where
  os : B.os = A.os
  tape : B.tape = A.tape
  output : B.output = A.output
  size : A.heap.size ≤ B.heap.size
  block : ∀ k, k < A.heap.size → ¬ Ws k → ¬ (b ≤ k ∧ ItAt A k) → B.heap[k]? = A.heap[k]?
theorem Mem.movedN {w0 w w' : World} {D : List Nat} {L : List Ch} {Ws : Nat → Prop} {b : Nat} (h : Mem w0 w D L) (hm : MovedN Ws b w w') (hL : ∀ e ∈ L.flatten, ¬ Ws e.1 ∧ (b ≤ e.1 → isIt e.2 = false)) (hold : ∀ k, k < w0.heap.size → k ∉ D → ¬ Ws k) (hb : w0.heap.size ≤ b) : Mem w0 w' D L :=
  ⟨hm.os.trans h.os, hm.tape.trans h.tape, hm.output.trans h.output, Nat.le_trans h.size hm.size, fun k hk hD => (hm.block k (Nat.lt_of_lt_of_le hk h.size) (hold k hk hD) (fun ⟨h1, _⟩ => by omega)).trans (h.old k hk hD),
    fun e he => (hm.block e.1 (h.lt he) (hL e he).1 (fun ⟨h1, o, h2, h3⟩ => by
      rw [h.has e he] at h2
      cases h2
      rw [(hL e he).2 h1] at h3
      cases h3)).trans (h.has e he), h.own, h.nodup⟩
theorem Mem.goesN {Ws : Nat → Prop} {b : Nat} {w w' : World} (h : Mem w w' [] []) : MovedN Ws b w w' := ⟨h.os, h.tape, h.output, h.size, fun k hk _ _ => h.old k hk (by simp)⟩
/-- What an iterator keeps to: it hands on S, one by one; of a round it asks that Ks and Ws lie as they lay; it turns Ws alone. -/
def IterN {α : Type} (P : Program) (gf : Nat) (lb : Array Value) (encs : α → Array Value) (Ks Ws : Nat → Prop) (S Sp : List α → Prop) (N : Nat) (w : World) : Prop :=
  ∀ (l : Nat) (J Jx : List α → World → Prop) (W : World), (w.heap.size ≤ W.heap.size ∧ ∀ k, Ks k ∨ Ws k → W.heap[k]? = w.heap[k]?) →
    (∀ s A B, J s A → MovedN Ws W.heap.size A B → J s B) → (∀ s A B, Jx s A → MovedN Ws W.heap.size A B → Jx s B) →
    (∀ pre x W1, J pre W1 → pre.length < N → YieldAt (fR none) 1 P l (encs x) W1 fun e W' =>
      (e = .returned (.bool true) ∧ J (pre ++ [x]) W' ∧ W1.heap.size ≤ W'.heap.size ∧ ∀ k, Ks k ∨ Ws k ∨ (W.heap.size ≤ k ∧ ItAt W1 k) → W'.heap[k]? = W1.heap[k]?) ∨ (e = .returned (.bool false) ∧ Jx (pre ++ [x]) W')) →
    J [] W →
    CallsIn (fR none) 2 P gf (#[.func (.yield l) #[] #[]] ++ lb) W (iterPost S Sp J Jx)
section
variable {P : Program} {w0 : World} {D : List Nat} {n : Nat} {d : List Deferred} {Q : Exit → Act → World → Prop} {g : Nat → Value} {F : List (Nat × Value)} {K0 c0 : Ch} {Lr : List Ch}
theorem ci_rangeN {α : Type} {gop : Operand} {ps : Array Tmp} {assign body : Code} {Q' : Nat → Exit → Act → World → Prop} [hP : ∀ b, Push (markD b :: d) Q (Q' b)] {gf : Nat} {lb : Array Value} {encs : α → Array Value} {S Sp : List α → Prop} {N : Nat}
    (Ks Ws : Nat → Prop) (Inv : List α → Ch → Prop) (InvX : Code → List α → Ch → Prop) (Fp : α → List (Nat × Value))
    (hv : (Fr n (get g F)).eval gop = .func (.func gf) #[] lb) (eg : ∀ args w, (callFunc gf args).run P w = .ok (.enter gf args) w)
    (hKs : ∀ k, Ks k → (k < w0.heap.size ∧ k ∉ D) ∨ k ∈ K0.map (·.1)) (hWs : ∀ k, Ws k → k ∈ K0.map (·.1))
    (hit : ∀ w, Mem w0 w D (K0 :: c0 :: Lr) → IterN P gf lb encs Ks Ws S Sp N w) (hps : ∀ x, (encs x).size = ps.size)
    (hFp : ∀ x, (ps.zip (encs x)).foldl (fun t (p, v) => t.setIfInBounds p v) (Fr n (get g F)).tmps = (Fr n (get g (Fp x))).tmps) (h0 : Inv [] c0) (hnw : ∀ pre c, Inv pre c → ∀ e ∈ c, isIt e.2 = false) (hnx : ∀ j pre c, InvX j pre c → ∀ e ∈ c, isIt e.2 = false)
    (hround : ∀ (l : Nat) (rdy bsy : Obj) (pre : List α) (x : α) (W : World) (c : Ch), Inv pre c → pre.length < N → Mem w0 W D (((l, rdy) :: c) :: Lr) → (∀ w, w.heap[l]? = some rdy → (Instr.beginRound l).run P w = .ok () (w.putObj l bsy)) →
      CI P W (l :: c.map (·.1)) n (some l) 1 [] (Begin P l body (roundEnd W (l :: c.map (·.1)) l bsy (Inv (pre ++ [x])) (fun j => InvX j (pre ++ [x])))) assign g (Fp x) [c, [(l, rdy)]])
    (hdone : ∀ (b : Nat) (xs : List α) (c : Ch), S xs → Inv xs c → QX w0 D n (Q' b) .normal g F ([(b, .deferred (some []))] :: c :: Lr))
    (hstop : ∀ (b : Nat) (j : Code) (pre : List α) (c : Ch), Sp pre → InvX j pre c → CI P w0 D n none 3 (markD b :: d) Q j g F ([(b, .deferred (some []))] :: c :: Lr)) :
    CI P w0 D n none 3 d Q (.rangeFunc gop ps assign body) g F (K0 :: c0 :: Lr) := by
  refine .mk fun w hm => wpIn_rangeFunc ?_
  intro fn hfn
  obtain ⟨rec, hrec⟩ : ∃ rec : LoopState → Option Code → Loop, rec = fun st pe => { state := st, pending := pe, fn, tmps := (Dn d (Fr n (get g F))).tmps, params := ps, assign, body, defers := w.heap.size } := ⟨_, rfl⟩
  obtain ⟨W1, hW1⟩ : ∃ W1, (w.alloc (.deferred (some []))).alloc (.loop (rec .ready none)) = W1 := ⟨_, rfl⟩
  obtain ⟨l, hl⟩ : ∃ l, l = w.heap.size + 1 := ⟨_, rfl⟩
  obtain ⟨dB, hdB⟩ : ∃ b, b = w.heap.size := ⟨_, rfl⟩
  have hM1 : Mem w0 W1 D ([(l, .loop (rec .ready none))] :: [(dB, .deferred (some []))] :: K0 :: c0 :: Lr) := by
    have h := (hm.new (.deferred (some []))).new (.loop (rec .ready none))
    rw [World.size_alloc, hW1, ← hl, ← hdB] at h
    exact h
  have hWs1 : W1.heap.size = w.heap.size + 2 := by rw [← hW1, World.size_alloc, World.size_alloc]
  have hkeep1 : ∀ k, k < w.heap.size → W1.heap[k]? = w.heap[k]? := fun k hk => by
    rw [← hW1]
    exact (Below.heap_alloc _ _ _ (by simp; omega)).trans (Below.heap_alloc _ _ _ hk)
  have hKK : ∀ k, Ks k ∨ Ws k → (k < w0.heap.size ∧ k ∉ D) ∨ k ∈ K0.map (·.1) := fun k hk => hk.elim (hKs k) (fun h => .inr (hWs k h))
  have hKlt : ∀ k, Ks k ∨ Ws k → k < w.heap.size := fun k hk => by
    rcases hKK k hk with ⟨h, _⟩ | h
    · exact Nat.lt_of_lt_of_le h hm.size
    · obtain ⟨e, he, rfl⟩ := List.mem_map.1 h
      exact hm.lt (by simp [he])
  have hnd := hm.nodup
  simp only [List.flatten_cons, List.map_append] at hnd
  have hdis : ∀ k, k ∈ K0.map (·.1) → k ∉ c0.map (·.1) ∧ ∀ e ∈ Lr.flatten, e.1 ≠ k := fun k hk => by
    have h1 := (List.nodup_append.1 hnd).2.2 k hk
    refine ⟨fun hx => h1 k (List.mem_append_left _ hx) rfl, fun e he hx => h1 e.1 (List.mem_append_right _ (List.mem_map_of_mem he)) hx.symm⟩
  have hownK : ∀ k, k ∈ K0.map (·.1) → w0.heap.size ≤ k ∨ k ∈ D := fun k hk => by
    obtain ⟨e, he, rfl⟩ := List.mem_map.1 hk
    exact hm.own e (by simp [he])
  have hc0 : ∀ k, Ks k ∨ Ws k → k ∉ c0.map (·.1) := fun k hk => by
    rcases hKK k hk with ⟨h, h'⟩ | h
    · intro hx
      obtain ⟨e, he, rfl⟩ := List.mem_map.1 hx
      rcases hm.own e (by simp [he]) with h2 | h2
      · omega
      · exact h' h2
    · exact (hdis k h).1
  obtain ⟨Kw, hKw⟩ : ∃ Kw : World → Ch → Prop, Kw = fun W c => ∀ k, Ks k ∨ Ws k → k < W.heap.size ∧ k ≠ l ∧ k ≠ dB ∧ k ∉ c.map (·.1) := ⟨_, rfl⟩
  have hmove : ∀ {A B : World} {o : Obj} {c : Ch}, isIt o = false → (∀ e ∈ c, isIt e.2 = false) → Mem w0 A D ([(l, o)] :: [(dB, .deferred (some []))] :: c :: Lr) → Kw A c → MovedN Ws W1.heap.size A B → Mem w0 B D ([(l, o)] :: [(dB, .deferred (some []))] :: c :: Lr) ∧ Kw B c := fun {A B o c} ho hci hM hk hmv => by
    rw [hKw] at hk ⊢
    refine ⟨hM.movedN hmv (fun e he => ⟨fun hx => ?_, fun hb => ?_⟩) (fun k h1 h2 hx => ?_) (by have := hm.size; omega), fun k hx => ⟨Nat.lt_of_lt_of_le (hk k hx).1 hmv.size, (hk k hx).2⟩⟩
    · have h1 := hk e.1 (.inr hx)
      simp only [List.flatten_cons, List.singleton_append, List.mem_cons, List.mem_append] at he
      rcases he with rfl | rfl | he | he
      · exact h1.2.1 rfl
      · exact h1.2.2.1 rfl
      · exact h1.2.2.2 (List.mem_map_of_mem he)
      · exact (hdis _ (hWs _ hx)).2 e he rfl
    · simp only [List.flatten_cons, List.singleton_append, List.mem_cons, List.mem_append] at he
      rcases he with rfl | rfl | he | he
      · exact ho
      · rfl
      · exact hci e he
      · have := hm.lt (e := e) (by simp [he])
        omega
    · rcases hownK k (hWs k hx) with h3 | h3
      · omega
      · exact h2 h3
  refine ⟨l, [markD dB], W1, { target := .fn (.func gf) lb, args := #[.func (.yield l) #[] #[]] }, W1, gf, #[.func (.yield l) #[] #[]] ++ lb, W1, ?_, ?_, ?_, ?_, fun h => (by cases h), ?_⟩
  · rw [hl, hdB, ← hW1, hrec]; exact run_enterLoop_outer _ _ _ _ _
  · have hv' : (Dn d (Fr n (get g F))).eval gop = .func (.func gf) #[] lb := hv
    simp only [resolve, hv']
    simp [go_sem]
  · intro f' hf'
    exact trivial
  · simp [invoke, go_sem, eg]
  refine (hit w hm l (fun pre W => ∃ c, Inv pre c ∧ Mem w0 W D ([(l, .loop (rec .ready none))] :: [(dB, .deferred (some []))] :: c :: Lr) ∧ Kw W c)
    (fun pre W => ∃ j c, InvX j pre c ∧ Mem w0 W D ([(l, .loop (rec .done (some j)))] :: [(dB, .deferred (some []))] :: c :: Lr) ∧ Kw W c) W1 ⟨by omega, fun k hk => hkeep1 k (hKlt k hk)⟩
    (fun s A B ⟨c, hc, hM, hk⟩ hmv => ⟨c, hc, hmove rfl (hnw _ _ hc) hM hk hmv⟩) (fun s A B ⟨j, c, hc, hM, hk⟩ hmv => ⟨j, c, hc, hmove rfl (hnx _ _ _ hc) hM hk hmv⟩) ?_ ⟨c0, h0, hM1.sub (by simp), ?_⟩).mono ?_
  · rintro pre x W ⟨c, hc, hM, hk⟩ hlen
    have hlW : W.heap[l]? = some (.loop (rec .ready none)) := hM.head (l, _) (by simp)
    have hy := run_yield (P := P) (args := encs x) hlW (by rw [hrec]; exact hps x)
    rw [hrec] at hy
    refine ⟨fn, _, assign, body, hy, roundIn_of_wpIn hfn ?_⟩
    have hMc : Mem w0 W D (((l, .loop (rec .ready none)) :: c) :: [(dB, .deferred (some []))] :: Lr) := hM.perm (by simp only [List.flatten_cons, List.singleton_append, List.cons_append]; exact .cons _ (List.perm_middle).symm.symm)
    have hWW : Mem W W (l :: c.map (·.1)) [c, [(l, .loop (rec .ready none))]] := (Mem.self hMc).perm (by simp only [List.flatten_cons, List.flatten_nil, List.append_nil]; exact List.perm_append_singleton _ _)
    have h := (hround l (.loop (rec .ready none)) (.loop { rec .ready none with state := .busy }) pre x W c hc hlen (hMc.sub (by simp)) (fun w' hw' => run_beginRound hw' (by rw [hrec]))).out W hWW
    rw [dn_fr] at h
    have hact : ({ tmps := (ps.zip (encs x)).foldl (fun t (p, v) => t.setIfInBounds p v) (Dn d (Fr n (get g F))).tmps, defers := [] } : Act) = Fr n (get g (Fp x)) := by
      have h2 := hFp x
      show (⟨_, []⟩ : Act) = _
      rw [show (Dn d (Fr n (get g F))).tmps = (Fr n (get g F)).tmps from rfl, h2]
      exact Fr.eta
    rw [hact]
    refine Code.wpIn_mono (fun e a w' q => ?_) h
    cases e with
    | normal =>
      obtain ⟨w2, hb, hbody⟩ := q
      refine ⟨w2, hb, Code.wpIn_mono (fun e a W3 q => ?_) hbody⟩
      rw [hKw] at hk
      have fin : ∀ (jump : Option Code) (c' : Ch), Mem W W3 (l :: c.map (·.1)) [c', [(l, .loop { rec .ready none with state := .busy })]] → (Instr.endRound l jump).run P W3 = .ok (.bool jump.isNone) (W3.putObj l (.loop (rec (if jump.isNone then .ready else .done) jump))) ∧
          Mem w0 (W3.putObj l (.loop (rec (if jump.isNone then .ready else .done) jump))) D ([(l, .loop (rec (if jump.isNone then .ready else .done) jump))] :: [(dB, .deferred (some []))] :: c' :: Lr) ∧
          (∀ k, Ks k ∨ Ws k ∨ (W1.heap.size ≤ k ∧ ItAt W k) → (W3.putObj l (.loop (rec (if jump.isNone then .ready else .done) jump))).heap[k]? = W.heap[k]?) ∧ W.heap.size ≤ W3.heap.size ∧ Kw (W3.putObj l (.loop (rec (if jump.isNone then .ready else .done) jump))) c' := fun jump c' hM3 => by
        have hl3 : W3.heap[l]? = some (.loop { rec .ready none with state := .busy }) := hM3.at 1 rfl (l, _) (by simp)
        have hlt := heap_lt hl3
        have hM4 : Mem W (W3.putObj l (.loop (rec (if jump.isNone then .ready else .done) jump))) (l :: c.map (·.1)) ([(l, .loop (rec (if jump.isNone then .ready else .done) jump))] :: [c']) :=
          Mem.upd (hM3.permL (.swap _ _ _)) rfl rfl rfl (by simp) (World.putObj_heap_same hlt) (fun k hk _ => World.putObj_heap_other hk)
        have hM5 := Mem.call hMc hM4
        have hkx : ∀ k, Ks k ∨ Ws k ∨ (W1.heap.size ≤ k ∧ ItAt W k) → k < W.heap.size ∧ k ≠ l ∧ k ∉ c.map (·.1) := fun k hx => by
          rcases hx with hx | hx | ⟨_, o, ho, hi⟩
          · exact ⟨(hk k (.inl hx)).1, (hk k (.inl hx)).2.1, (hk k (.inl hx)).2.2.2⟩
          · exact ⟨(hk k (.inr hx)).1, (hk k (.inr hx)).2.1, (hk k (.inr hx)).2.2.2⟩
          · refine ⟨heap_lt ho, fun e => ?_, fun hy => ?_⟩
            · rw [e, hlW] at ho
              cases ho
              cases hi
            · obtain ⟨e, he, rfl⟩ := List.mem_map.1 hy
              have h6 := hM.has e (by simp [he])
              rw [h6] at ho
              cases ho
              rw [hnw _ _ hc e he] at hi
              cases hi
        refine ⟨?_, hM5.permL (.cons _ (.swap _ _ _)), fun k hx => hM4.old k (hkx k hx).1 (fun hy => ?_), hM3.size, ?_⟩
        · have h5 := run_endRound (P := P) jump hl3
          rw [hrec] at h5 ⊢
          exact h5
        · rcases List.mem_cons.1 hy with rfl | hy
          · exact (hkx _ hx).2.1 rfl
          · exact (hkx _ hx).2.2 hy
        · rw [hKw]
          refine fun k hx => ⟨by rw [World.putObj_size]; exact Nat.lt_of_lt_of_le (hk k hx).1 hM3.size, (hk k hx).2.1, (hk k hx).2.2.1, fun hy => ?_⟩
          obtain ⟨e, he, rfl⟩ := List.mem_map.1 hy
          rcases hM3.own e (by simp [he]) with h6 | h6
          · exact absurd (hk e.1 hx).1 (by omega)
          · rcases List.mem_cons.1 h6 with h6 | h6
            · exact (hk e.1 hx).2.1 h6
            · exact (hk e.1 hx).2.2.2 h6
      cases e with
      | normal =>
        obtain ⟨c', hM3, hI⟩ := q
        obtain ⟨hr, hM5, hkeep, hsz, hkw⟩ := fin none c' hM3
        exact ⟨_, _, hr, .inl ⟨rfl, ⟨c', hI, hM5, hkw⟩, by rw [World.putObj_size]; exact hsz, hkeep⟩⟩
      | ret =>
        obtain ⟨c', hM3, hI⟩ := q
        obtain ⟨hr, hM5, hkeep, hsz, hkw⟩ := fin (some .ret) c' hM3
        exact ⟨_, _, hr, .inr ⟨rfl, .ret, c', hI, hM5, hkw⟩⟩
      | exit i =>
        obtain ⟨c', hM3, hI⟩ := q
        obtain ⟨hr, hM5, hkeep, hsz, hkw⟩ := fin (some (.exit i)) c' hM3
        exact ⟨_, _, hr, .inr ⟨rfl, .exit i, c', hI, hM5, hkw⟩⟩
      | goto i =>
        obtain ⟨c', hM3, hI⟩ := q
        obtain ⟨hr, hM5, hkeep, hsz, hkw⟩ := fin (some (.goto i)) c' hM3
        exact ⟨_, _, hr, .inr ⟨rfl, .goto i, c', hI, hM5, hkw⟩⟩
      | panic v => exact q.elim
      | outgrown => exact q.elim
    | _ => exact q.elim
  · rw [hKw]
    exact fun k hx => ⟨by have := hKlt k hx; omega, by have := hKlt k hx; omega, by have := hKlt k hx; omega, hc0 k hx⟩
  · have e1 : ∀ dd, dd = [markD dB] ++ (Dn d (Fr n (get g F))).defers → ({ (Dn d (Fr n (get g F))) with defers := dd } : Act) = Dn (markD dB :: d) (Fr n (get g F)) := fun dd h => by rw [h]; exact dn_cons
    have hend : ∀ {W2 : World} {st : LoopState} {pe : Option Code} {c : Ch}, st ≠ .busy → Mem w0 W2 D ([(l, .loop (rec st pe))] :: [(dB, .deferred (some []))] :: c :: Lr) →
        ∃ w4, (Instr.endLoop l).run P W2 = .ok pe w4 ∧ Mem w0 w4 D ([(dB, .deferred (some []))] :: c :: Lr) := fun {W2 st pe c} hst hM => by
      have hl2 : W2.heap[l]? = some (.loop (rec st pe)) := hM.head (l, _) (by simp)
      have h := run_endLoop (P := P) hl2 (by rw [hrec]; exact hst)
      have hp : (rec st pe).pending = pe := by rw [hrec]
      rw [hp] at h
      exact ⟨_, h, (Mem.upd (w' := W2.putObj l (.loop { rec st pe with state := .exhausted, pending := pe })) hM rfl rfl rfl (by simp) (World.putObj_heap_same (heap_lt hl2)) (fun k hk _ => World.putObj_heap_other hk)).tail⟩
    rintro e W2 ⟨⟨v, rfl⟩, (⟨xs, hS, c, hc, hM, _⟩ | ⟨pre, hSp, j, c, hc, hM, _⟩)⟩
    · obtain ⟨w4, hr, hM4⟩ := hend (by simp) hM
      refine ⟨none, w4, hr, ?_⟩
      show Q .normal _ w4
      rw [e1 _ rfl]
      exact (hP dB).push _ _ _ ((hdone dB xs c hS hc).out w4 hM4)
    · obtain ⟨w4, hr, hM4⟩ := hend (by simp) hM
      refine ⟨some j, w4, hr, ?_⟩
      show j.wpIn _ _ _ _ _ w4
      rw [e1 _ rfl]
      exact (hstop dB j pre c hSp hc).out w4 hM4
end
end Go.Port
