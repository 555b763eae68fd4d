/- Loops over functions: the rule of the loop; a function that holds one, entered and left. No program here. -/
import Derived.Test.YtaofimndclgpdaaDoorRng
set_option linter.unusedSimpArgs false
set_option linter.unusedVariables false
namespace Go.Port
open Go.RowKit
/-- The mark of a loop over a function. -/
def markD (b : Nat) : Deferred := { target := .collected b, args := #[] }
/-- What an iterator may turn: its own blocks, new ones. -/
structure Moved (Ws : Nat → Prop) (A B : World) : Prop where
  os : B.os = A.os
  tape : B.tape = A.tape
  output : B.output = A.output
  size : A.heap.size ≤ B.heap.size
  block : ∀ k, k < A.heap.size → ¬ Ws k → B.heap[k]? = A.heap[k]?
theorem Mem.moved {w0 w w' : World} {D : List Nat} {L : List Ch} {Ws : Nat → Prop} (h : Mem w0 w D L) (hm : Moved Ws w w') (hL : ∀ e ∈ L.flatten, ¬ Ws e.1) (hold : ∀ k, k < w0.heap.size → k ∉ D → ¬ Ws k) : Mem w0 w' D L :=
  ⟨hm.os.trans h.os, hm.tape.trans h.tape, hm.output.trans h.output, Nat.le_trans h.size hm.size, fun k hk hD => (hm.block k (Nat.lt_of_lt_of_le hk h.size) (hold k hk hD)).trans (h.old k hk hD),
    fun e he => (hm.block e.1 (h.lt he) (hL e he)).trans (h.has e he), h.own, h.nodup⟩
theorem dn_cons {n : Nat} {f : Nat → Value} {d : List Deferred} {x : Deferred} : ({ (Dn d (Fr n f)) with defers := x :: (Dn d (Fr n f)).defers } : Act) = Dn (x :: d) (Fr n f) := by
  unfold Dn
  rw [Fr.defers]
  rfl
/-- How an iterator ends. -/
def iterPost {α : Type} (S Sp : List α → Prop) (J Jx : List α → World → Prop) (e : Ending) (W' : World) : Prop := (∃ v, e = .returned v) ∧ ((∃ xs, S xs ∧ J xs W') ∨ (∃ pre, Sp pre ∧ Jx pre W'))
/-- What an iterator keeps to: it hands on S, one by one; of a round it asks that Ks and Ws lie as they lay; it turns Ws alone. -/
def Iter {α : Type} (P : Program) (gf : Nat) (lb : Array Value) (encs : α → Array Value) (Ks Ws : Nat → Prop) (S Sp : List α → Prop) (N : Nat) (w : World) : Prop :=
  ∀ (l : Nat) (J Jx : List α → World → Prop) (W : World), (w.heap.size ≤ W.heap.size ∧ ∀ k, Ks k ∨ Ws k → W.heap[k]? = w.heap[k]?) →
    (∀ s A B, J s A → Moved Ws A B → J s B) → (∀ s A B, Jx s A → Moved Ws A B → Jx s B) →
    (∀ pre x W1, J pre W1 → pre.length < N → YieldAt (fR none) 1 P l (encs x) W1 fun e W' =>
      (e = .returned (.bool true) ∧ J (pre ++ [x]) W' ∧ W1.heap.size ≤ W'.heap.size ∧ ∀ k, Ks k ∨ Ws k → W'.heap[k]? = W1.heap[k]?) ∨ (e = .returned (.bool false) ∧ Jx (pre ++ [x]) W')) →
    J [] W →
    CallsIn (fR none) 2 P gf (#[.func (.yield l) #[] #[]] ++ lb) W (iterPost S Sp J Jx)
/-- Between the assignments and the body. -/
def Begin (P : Program) (l : Nat) (body : Code) (Q : Exit → Act → World → Prop) : Exit → Act → World → Prop :=
  Exit.then (fun a w => ∃ w', (Instr.beginRound l).run P w = .ok () w' ∧ body.wpIn (fR (some l)) 1 P Q a w') (fun _ _ _ => False)
instance {P : Program} {l : Nat} {body : Code} {Q : Exit → Act → World → Prop} : NoOut (Begin P l body Q) := ⟨fun _ _ h => h⟩
instance {P : Program} {l : Nat} {body : Code} {Q : Exit → Act → World → Prop} : Push [] (Begin P l body Q) (Begin P l body Q) := ⟨fun e a w h => by
  have e1 : Dn [] a = a := by unfold Dn; rw [List.append_nil]
  rw [e1]; exact h⟩
/-- How a round is left: the piece that it has turned, the loop's record as it is. -/
def roundEnd (W : World) (B : List Nat) (l : Nat) (bsy : Obj) (R : Ch → Prop) (X : Code → Ch → Prop) : Exit → Act → World → Prop
  | .normal, _, W' => ∃ c, Mem W W' B [c, [(l, bsy)]] ∧ R c
  | .ret, _, W' => ∃ c, Mem W W' B [c, [(l, bsy)]] ∧ X .ret c
  | .exit i, _, W' => ∃ c, Mem W W' B [c, [(l, bsy)]] ∧ X (.exit i) c
  | .goto i, _, W' => ∃ c, Mem W W' B [c, [(l, bsy)]] ∧ X (.goto i) c
  | _, _, _ => False
instance {W : World} {B : List Nat} {l : Nat} {bsy : Obj} {R : Ch → Prop} {X : Code → Ch → Prop} : NoOut (roundEnd W B l bsy R X) := ⟨fun _ _ h => h⟩
instance {d : List Deferred} {W : World} {B : List Nat} {l : Nat} {bsy : Obj} {R : Ch → Prop} {X : Code → Ch → Prop} : Push d (roundEnd W B l bsy R X) (roundEnd W B l bsy R X) := ⟨fun e a w => by cases e <;> exact id⟩
section
variable {P : Program} {w0 : World} {D : List Nat} {n : Nat} {d : List Deferred} {Q : Exit → Act → World → Prop} {g : Nat → Value} {F : List (Nat × Value)} {K0 c0 : Ch} {Lr : List Ch}
theorem ci_range {α : Type} {gop : Operand} {ps : Array Tmp} {assign body : Code} {Q' : Nat → Exit → Act → World → Prop} [hP : ∀ b, Push (markD b :: d) Q (Q' b)] {gf : Nat} {lb : Array Value} {encs : α → Array Value} {S Sp : List α → Prop} {N : Nat}
    (Ks Ws : Nat → Prop) (Inv : List α → Ch → Prop) (InvX : Code → List α → Ch → Prop) (Fp : α → List (Nat × Value))
    (hv : (Fr n (get g F)).eval gop = .func (.func gf) #[] lb) (eg : ∀ args w, (callFunc gf args).run P w = .ok (.enter gf args) w)
    (hKs : ∀ k, Ks k → (k < w0.heap.size ∧ k ∉ D) ∨ k ∈ K0.map (·.1)) (hWs : ∀ k, Ws k → k ∈ K0.map (·.1))
    (hit : ∀ w, Mem w0 w D (K0 :: c0 :: Lr) → Iter P gf lb encs Ks Ws S Sp N w) (hps : ∀ x, (encs x).size = ps.size)
    (hFp : ∀ x, (ps.zip (encs x)).foldl (fun t (p, v) => t.setIfInBounds p v) (Fr n (get g F)).tmps = (Fr n (get g (Fp x))).tmps) (h0 : Inv [] c0)
    (hround : ∀ (l : Nat) (rdy bsy : Obj) (pre : List α) (x : α) (W : World) (c : Ch), Inv pre c → pre.length < N → Mem w0 W D (((l, rdy) :: c) :: Lr) → (∀ w, w.heap[l]? = some rdy → (Instr.beginRound l).run P w = .ok () (w.putObj l bsy)) →
      CI P W (l :: c.map (·.1)) n (some l) 1 [] (Begin P l body (roundEnd W (l :: c.map (·.1)) l bsy (Inv (pre ++ [x])) (fun j => InvX j (pre ++ [x])))) assign g (Fp x) [c, [(l, rdy)]])
    (hdone : ∀ (b : Nat) (xs : List α) (c : Ch), S xs → Inv xs c → QX w0 D n (Q' b) .normal g F ([(b, .deferred (some []))] :: c :: Lr))
    (hstop : ∀ (b : Nat) (j : Code) (pre : List α) (c : Ch), Sp pre → InvX j pre c → CI P w0 D n none 3 (markD b :: d) Q j g F ([(b, .deferred (some []))] :: c :: Lr)) :
    CI P w0 D n none 3 d Q (.rangeFunc gop ps assign body) g F (K0 :: c0 :: Lr) := by
  refine .mk fun w hm => wpIn_rangeFunc ?_
  intro fn hfn
  obtain ⟨rec, hrec⟩ : ∃ rec : LoopState → Option Code → Loop, rec = fun st pe => { state := st, pending := pe, fn, tmps := (Dn d (Fr n (get g F))).tmps, params := ps, assign, body, defers := w.heap.size } := ⟨_, rfl⟩
  obtain ⟨W1, hW1⟩ : ∃ W1, (w.alloc (.deferred (some []))).alloc (.loop (rec .ready none)) = W1 := ⟨_, rfl⟩
  obtain ⟨l, hl⟩ : ∃ l, l = w.heap.size + 1 := ⟨_, rfl⟩
  obtain ⟨dB, hdB⟩ : ∃ b, b = w.heap.size := ⟨_, rfl⟩
  have hM1 : Mem w0 W1 D ([(l, .loop (rec .ready none))] :: [(dB, .deferred (some []))] :: K0 :: c0 :: Lr) := by
    have h := (hm.new (.deferred (some []))).new (.loop (rec .ready none))
    rw [World.size_alloc, hW1, ← hl, ← hdB] at h
    exact h
  have hWs1 : W1.heap.size = w.heap.size + 2 := by rw [← hW1, World.size_alloc, World.size_alloc]
  have hkeep1 : ∀ k, k < w.heap.size → W1.heap[k]? = w.heap[k]? := fun k hk => by
    rw [← hW1]
    exact (Below.heap_alloc _ _ _ (by simp; omega)).trans (Below.heap_alloc _ _ _ hk)
  have hKK : ∀ k, Ks k ∨ Ws k → (k < w0.heap.size ∧ k ∉ D) ∨ k ∈ K0.map (·.1) := fun k hk => hk.elim (hKs k) (fun h => .inr (hWs k h))
  have hKlt : ∀ k, Ks k ∨ Ws k → k < w.heap.size := fun k hk => by
    rcases hKK k hk with ⟨h, _⟩ | h
    · exact Nat.lt_of_lt_of_le h hm.size
    · obtain ⟨e, he, rfl⟩ := List.mem_map.1 h
      exact hm.lt (by simp [he])
  have hnd := hm.nodup
  simp only [List.flatten_cons, List.map_append] at hnd
  have hdis : ∀ k, k ∈ K0.map (·.1) → k ∉ c0.map (·.1) ∧ ∀ e ∈ Lr.flatten, e.1 ≠ k := fun k hk => by
    have h1 := (List.nodup_append.1 hnd).2.2 k hk
    refine ⟨fun hx => h1 k (List.mem_append_left _ hx) rfl, fun e he hx => h1 e.1 (List.mem_append_right _ (List.mem_map_of_mem he)) hx.symm⟩
  have hownK : ∀ k, k ∈ K0.map (·.1) → w0.heap.size ≤ k ∨ k ∈ D := fun k hk => by
    obtain ⟨e, he, rfl⟩ := List.mem_map.1 hk
    exact hm.own e (by simp [he])
  have hc0 : ∀ k, Ks k ∨ Ws k → k ∉ c0.map (·.1) := fun k hk => by
    rcases hKK k hk with ⟨h, h'⟩ | h
    · intro hx
      obtain ⟨e, he, rfl⟩ := List.mem_map.1 hx
      rcases hm.own e (by simp [he]) with h2 | h2
      · omega
      · exact h' h2
    · exact (hdis k h).1
  obtain ⟨Kw, hKw⟩ : ∃ Kw : World → Ch → Prop, Kw = fun W c => ∀ k, Ks k ∨ Ws k → k < W.heap.size ∧ k ≠ l ∧ k ≠ dB ∧ k ∉ c.map (·.1) := ⟨_, rfl⟩
  have hmove : ∀ {A B : World} {o : Obj} {c : Ch}, Mem w0 A D ([(l, o)] :: [(dB, .deferred (some []))] :: c :: Lr) → Kw A c → Moved Ws A B → Mem w0 B D ([(l, o)] :: [(dB, .deferred (some []))] :: c :: Lr) ∧ Kw B c := fun {A B o c} hM hk hmv => by
    rw [hKw] at hk ⊢
    refine ⟨hM.moved hmv (fun e he hx => ?_) (fun k h1 h2 hx => ?_), fun k hx => ⟨Nat.lt_of_lt_of_le (hk k hx).1 hmv.size, (hk k hx).2⟩⟩
    · have h1 := hk e.1 (.inr hx)
      simp only [List.flatten_cons, List.singleton_append, List.mem_cons, List.mem_append] at he
      rcases he with rfl | rfl | he | he
      · exact h1.2.1 rfl
      · exact h1.2.2.1 rfl
      · exact h1.2.2.2 (List.mem_map_of_mem he)
      · exact (hdis _ (hWs _ hx)).2 e he rfl
    · rcases hownK k (hWs k hx) with h3 | h3
      · omega
      · exact h2 h3
  refine ⟨l, [markD dB], W1, { target := .fn (.func gf) lb, args := #[.func (.yield l) #[] #[]] }, W1, gf, #[.func (.yield l) #[] #[]] ++ lb, W1, ?_, ?_, ?_, ?_, fun h => (by cases h), ?_⟩
  · rw [hl, hdB, ← hW1, hrec]; exact run_enterLoop_outer _ _ _ _ _
  · have hv' : (Dn d (Fr n (get g F))).eval gop = .func (.func gf) #[] lb := hv
    simp only [resolve, hv']
    simp [go_sem]
  · intro f' hf'
    exact trivial
  · simp [invoke, go_sem, eg]
  refine (hit w hm l (fun pre W => ∃ c, Inv pre c ∧ Mem w0 W D ([(l, .loop (rec .ready none))] :: [(dB, .deferred (some []))] :: c :: Lr) ∧ Kw W c)
    (fun pre W => ∃ j c, InvX j pre c ∧ Mem w0 W D ([(l, .loop (rec .done (some j)))] :: [(dB, .deferred (some []))] :: c :: Lr) ∧ Kw W c) W1 ⟨by omega, fun k hk => hkeep1 k (hKlt k hk)⟩
    (fun s A B ⟨c, hc, hM, hk⟩ hmv => ⟨c, hc, hmove hM hk hmv⟩) (fun s A B ⟨j, c, hc, hM, hk⟩ hmv => ⟨j, c, hc, hmove hM hk hmv⟩) ?_ ⟨c0, h0, hM1.sub (by simp), ?_⟩).mono ?_
  · rintro pre x W ⟨c, hc, hM, hk⟩ hlen
    have hlW : W.heap[l]? = some (.loop (rec .ready none)) := hM.head (l, _) (by simp)
    have hy := run_yield (P := P) (args := encs x) hlW (by rw [hrec]; exact hps x)
    rw [hrec] at hy
    refine ⟨fn, _, assign, body, hy, roundIn_of_wpIn hfn ?_⟩
    have hMc : Mem w0 W D (((l, .loop (rec .ready none)) :: c) :: [(dB, .deferred (some []))] :: Lr) := hM.perm (by simp only [List.flatten_cons, List.singleton_append, List.cons_append]; exact .cons _ (List.perm_middle).symm.symm)
    have hWW : Mem W W (l :: c.map (·.1)) [c, [(l, .loop (rec .ready none))]] := (Mem.self hMc).perm (by simp only [List.flatten_cons, List.flatten_nil, List.append_nil]; exact List.perm_append_singleton _ _)
    have h := (hround l (.loop (rec .ready none)) (.loop { rec .ready none with state := .busy }) pre x W c hc hlen (hMc.sub (by simp)) (fun w' hw' => run_beginRound hw' (by rw [hrec]))).out W hWW
    rw [dn_fr] at h
    have hact : ({ tmps := (ps.zip (encs x)).foldl (fun t (p, v) => t.setIfInBounds p v) (Dn d (Fr n (get g F))).tmps, defers := [] } : Act) = Fr n (get g (Fp x)) := by
      have h2 := hFp x
      show (⟨_, []⟩ : Act) = _
      rw [show (Dn d (Fr n (get g F))).tmps = (Fr n (get g F)).tmps from rfl, h2]
      exact Fr.eta
    rw [hact]
    refine Code.wpIn_mono (fun e a w' q => ?_) h
    cases e with
    | normal =>
      obtain ⟨w2, hb, hbody⟩ := q
      refine ⟨w2, hb, Code.wpIn_mono (fun e a W3 q => ?_) hbody⟩
      rw [hKw] at hk
      have fin : ∀ (jump : Option Code) (c' : Ch), Mem W W3 (l :: c.map (·.1)) [c', [(l, .loop { rec .ready none with state := .busy })]] → (Instr.endRound l jump).run P W3 = .ok (.bool jump.isNone) (W3.putObj l (.loop (rec (if jump.isNone then .ready else .done) jump))) ∧
          Mem w0 (W3.putObj l (.loop (rec (if jump.isNone then .ready else .done) jump))) D ([(l, .loop (rec (if jump.isNone then .ready else .done) jump))] :: [(dB, .deferred (some []))] :: c' :: Lr) ∧
          (∀ k, Ks k ∨ Ws k → (W3.putObj l (.loop (rec (if jump.isNone then .ready else .done) jump))).heap[k]? = W.heap[k]?) ∧ W.heap.size ≤ W3.heap.size ∧ Kw (W3.putObj l (.loop (rec (if jump.isNone then .ready else .done) jump))) c' := fun jump c' hM3 => by
        have hl3 : W3.heap[l]? = some (.loop { rec .ready none with state := .busy }) := hM3.at 1 rfl (l, _) (by simp)
        have hlt := heap_lt hl3
        have hM4 : Mem W (W3.putObj l (.loop (rec (if jump.isNone then .ready else .done) jump))) (l :: c.map (·.1)) ([(l, .loop (rec (if jump.isNone then .ready else .done) jump))] :: [c']) :=
          Mem.upd (hM3.permL (.swap _ _ _)) rfl rfl rfl (by simp) (World.putObj_heap_same hlt) (fun k hk _ => World.putObj_heap_other hk)
        have hM5 := Mem.call hMc hM4
        refine ⟨?_, hM5.permL (.cons _ (.swap _ _ _)), fun k hx => hM4.old k (hk k hx).1 (fun hy => ?_), hM3.size, ?_⟩
        · have h5 := run_endRound (P := P) jump hl3
          rw [hrec] at h5 ⊢
          exact h5
        · rcases List.mem_cons.1 hy with rfl | hy
          · exact (hk _ hx).2.1 rfl
          · exact (hk _ hx).2.2.2 hy
        · rw [hKw]
          refine fun k hx => ⟨by rw [World.putObj_size]; exact Nat.lt_of_lt_of_le (hk k hx).1 hM3.size, (hk k hx).2.1, (hk k hx).2.2.1, fun hy => ?_⟩
          obtain ⟨e, he, rfl⟩ := List.mem_map.1 hy
          rcases hM3.own e (by simp [he]) with h6 | h6
          · exact absurd (hk e.1 hx).1 (by omega)
          · rcases List.mem_cons.1 h6 with h6 | h6
            · exact (hk e.1 hx).2.1 h6
            · exact (hk e.1 hx).2.2.2 h6
      cases e with
      | normal =>
        obtain ⟨c', hM3, hI⟩ := q
        obtain ⟨hr, hM5, hkeep, hsz, hkw⟩ := fin none c' hM3
        exact ⟨_, _, hr, .inl ⟨rfl, ⟨c', hI, hM5, hkw⟩, by rw [World.putObj_size]; exact hsz, hkeep⟩⟩
      | ret =>
        obtain ⟨c', hM3, hI⟩ := q
        obtain ⟨hr, hM5, hkeep, hsz, hkw⟩ := fin (some .ret) c' hM3
        exact ⟨_, _, hr, .inr ⟨rfl, .ret, c', hI, hM5, hkw⟩⟩
      | exit i =>
        obtain ⟨c', hM3, hI⟩ := q
        obtain ⟨hr, hM5, hkeep, hsz, hkw⟩ := fin (some (.exit i)) c' hM3
        exact ⟨_, _, hr, .inr ⟨rfl, .exit i, c', hI, hM5, hkw⟩⟩
      | goto i =>
        obtain ⟨c', hM3, hI⟩ := q
        obtain ⟨hr, hM5, hkeep, hsz, hkw⟩ := fin (some (.goto i)) c' hM3
        exact ⟨_, _, hr, .inr ⟨rfl, .goto i, c', hI, hM5, hkw⟩⟩
      | panic v => exact q.elim
      | outgrown => exact q.elim
    | _ => exact q.elim
  · rw [hKw]
    exact fun k hx => ⟨by have := hKlt k hx; omega, by have := hKlt k hx; omega, by have := hKlt k hx; omega, hc0 k hx⟩
  · have e1 : ∀ dd, dd = [markD dB] ++ (Dn d (Fr n (get g F))).defers → ({ (Dn d (Fr n (get g F))) with defers := dd } : Act) = Dn (markD dB :: d) (Fr n (get g F)) := fun dd h => by rw [h]; exact dn_cons
    have hend : ∀ {W2 : World} {st : LoopState} {pe : Option Code} {c : Ch}, st ≠ .busy → Mem w0 W2 D ([(l, .loop (rec st pe))] :: [(dB, .deferred (some []))] :: c :: Lr) →
        ∃ w4, (Instr.endLoop l).run P W2 = .ok pe w4 ∧ Mem w0 w4 D ([(dB, .deferred (some []))] :: c :: Lr) := fun {W2 st pe c} hst hM => by
      have hl2 : W2.heap[l]? = some (.loop (rec st pe)) := hM.head (l, _) (by simp)
      have h := run_endLoop (P := P) hl2 (by rw [hrec]; exact hst)
      have hp : (rec st pe).pending = pe := by rw [hrec]
      rw [hp] at h
      exact ⟨_, h, (Mem.upd (w' := W2.putObj l (.loop { rec st pe with state := .exhausted, pending := pe })) hM rfl rfl rfl (by simp) (World.putObj_heap_same (heap_lt hl2)) (fun k hk _ => World.putObj_heap_other hk)).tail⟩
    rintro e W2 ⟨⟨v, rfl⟩, (⟨xs, hS, c, hc, hM, _⟩ | ⟨pre, hSp, j, c, hc, hM, _⟩)⟩
    · obtain ⟨w4, hr, hM4⟩ := hend (by simp) hM
      refine ⟨none, w4, hr, ?_⟩
      show Q .normal _ w4
      rw [e1 _ rfl]
      exact (hP dB).push _ _ _ ((hdone dB xs c hS hc).out w4 hM4)
    · obtain ⟨w4, hr, hM4⟩ := hend (by simp) hM
      refine ⟨some j, w4, hr, ?_⟩
      show j.wpIn _ _ _ _ _ w4
      rw [e1 _ rfl]
      exact (hstop dB j pre c hSp hc).out w4 hM4
end
section
variable {P : Program} {W : World} {B : List Nat} {n l : Nat} {body : Code} {g : Nat → Value} {F : List (Nat × Value)} {L : List Ch} {rdy bsy : Obj} {R : Ch → Prop} {X : Code → Ch → Prop}
/-- The assignments are behind us: the body. -/
theorem qi_begin {Q : Exit → Act → World → Prop} (L2 : List Ch) (hL : ∀ w, Mem W w B L → Mem W w B ([(l, rdy)] :: L2)) (hb : ∀ w, w.heap[l]? = some rdy → (Instr.beginRound l).run P w = .ok () (w.putObj l bsy)) (h : CI P W B n (some l) 1 [] Q body g F ([(l, bsy)] :: L2)) :
    QX W B n (Begin P l body Q) .normal g F L := .mk fun w hm => by
  have hM := hL w hm
  have hl : w.heap[l]? = some rdy := hM.head (l, _) (by simp)
  refine ⟨_, hb w hl, ?_⟩
  have h2 := h.out _ (Mem.upd (w' := w.putObj l bsy) hM rfl rfl rfl (by simp) (World.putObj_heap_same (heap_lt hl)) (fun k hk _ => World.putObj_heap_other hk))
  rw [dn_fr] at h2
  exact h2
theorem qx_end (c : Ch) (hR : R c) (hM : ∀ w, Mem W w B L → Mem W w B [c, [(l, bsy)]]) : QX W B n (roundEnd W B l bsy R X) .normal g F L := .mk fun w hm => ⟨c, hM w hm, hR⟩
theorem qx_endR (c : Ch) (hR : X .ret c) (hM : ∀ w, Mem W w B L → Mem W w B [c, [(l, bsy)]]) : QX W B n (roundEnd W B l bsy R X) .ret g F L := .mk fun w hm => ⟨c, hM w hm, hR⟩
theorem qx_endX {i : Nat} (c : Ch) (hR : X (.exit i) c) (hM : ∀ w, Mem W w B L → Mem W w B [c, [(l, bsy)]]) : QX W B n (roundEnd W B l bsy R X) (.exit i) g F L := .mk fun w hm => ⟨c, hM w hm, hR⟩
end
section
variable {P : Program} {w0 : World} {D : List Nat} {n m : Nat} {d : List Deferred} {g : Nat → Value} {F : List (Nat × Value)} {L : List Ch} {fn : Func} {R : Value → List Ch → Prop}
/-- Left, with no mark. -/
theorem qi_ret0 (h : QX w0 D n (bodyPost P fn (Ret w0 D R)) .ret g F L) : QX w0 D n (Un [] (bodyPostM (fR none) m P fn (Ret w0 D R))) .ret g F L := .mk fun w hm => by
  obtain ⟨_, h⟩ := h.out w hm
  show bodyPostM (fR none) m P fn (Ret w0 D R) .ret (Dn [] (Fr n (get g F))) w
  rw [dn_fr]
  show LeavesInM (fR none) m P fn _ _ (Fr n (get g F)).defers .returning w
  rw [Fr.defers]
  exact h
/-- Left, with a mark. -/
theorem qi_ret {b : Nat} (h : QX w0 D n (Un d (bodyPostM (fR none) m P fn (Ret w0 D R))) .ret g F ([(b, .deferred none)] :: L)) : QX w0 D n (Un (markD b :: d) (bodyPostM (fR none) m P fn (Ret w0 D R))) .ret g F ([(b, .deferred (some []))] :: L) := .mk fun w hm => by
  have hb : w.heap[b]? = some (.deferred (some [])) := hm.head (b, .deferred (some [])) (by simp)
  have hlt := heap_lt hb
  have h2 := h.out (w.putObj b (.deferred none)) (hm.upd rfl rfl rfl (by simp) (by simp [World.putObj, hlt]) (fun k hk _ => World.putObj_heap_other (fun e => hk (by first | exact e | exact e.symm))))
  show LeavesInM (fR none) m P fn _ _ ((Fr n (get g F)).defers ++ markD b :: d) .returning w
  have h3 : LeavesInM (fR none) m P fn (Fr n (get g F)).tmps (Ret w0 D R) ((Fr n (get g F)).defers ++ d) .returning (w.putObj b (.deferred none)) := h2
  rw [Fr.defers] at h3 ⊢
  exact ⟨by simp, .inl ⟨_, _, rfl, run_takeDeferred hb, h3⟩⟩
/-- A function that holds a loop over a function, entered. -/
theorem ci_enter {k : FuncId} {c : Code} {args : List Value} {w : World} (n : Nat) (L : List Ch)
    (hf : P.funcs[k]? = some fn) (hb : fn.body = some c) (hn : fn.ntmps = n) (ha : args.length ≤ n) (hF : (List.range args.length).zip args = F) (hm : Mem w w D L)
    (h : ∀ g, CI P w D n none 3 [] (bodyPostM (fR none) 3 P fn (Ret w D R)) c g F L) : Calls P k args.toArray w (Ret w D R) := by
  subst hF
  refine (callsIn_wide (n := 3)).1 ?_
  refine callsIn_of_wp_marks (F := fR none) hf hb trivial ?_ rfl
  rw [Fr.of_array]
  have hs : (args.toArray ++ Array.replicate (fn.ntmps - args.toArray.size) undef).size = n := by simp; omega
  rw [hs]
  obtain ⟨f, hf'⟩ : ∃ f : Nat → Value, f = fun i => (args.toArray ++ Array.replicate (fn.ntmps - args.toArray.size) undef).getD i undef := ⟨_, rfl⟩
  rw [← hf']
  have hfa : ∀ i, i < n → f i = args.toArray.getD i undef := fun i hi => by
    rw [hf']
    simp only [Array.getD_eq_getD_getElem?]
    by_cases h1 : i < args.toArray.size
    · rw [Array.getElem?_append_left h1]
    · rw [Array.getElem?_append_right (by omega), Array.getElem?_eq_none (xs := args.toArray) (by omega), Array.getElem?_replicate]
      split <;> rfl
  have hFF : FF f ((List.range args.length).zip args) := by
    have key : ∀ (l : List Value) (i : Nat), (∀ j, j < l.length → f (i + j) = l.getD j undef) → FF f ((List.range' i l.length).zip l) := by
      intro l
      induction l with
      | nil => intro i _; exact trivial
      | cons v l ih =>
        intro i hi
        rw [List.length_cons, List.range'_succ, List.zip_cons_cons]
        refine ⟨by simpa using hi 0 (by simp), ih (i + 1) fun j hj => ?_⟩
        have := hi (j + 1) (by simp; omega)
        rw [show i + 1 + j = i + (j + 1) by omega, this]
        simp
    rw [List.range_eq_range']
    refine key args 0 fun j hj => ?_
    rw [Nat.zero_add, hfa j (by omega)]
    simp
  have h1 := (h f).out w hm
  rw [← hFF.get, dn_fr] at h1
  exact h1
end
end Go.Port
