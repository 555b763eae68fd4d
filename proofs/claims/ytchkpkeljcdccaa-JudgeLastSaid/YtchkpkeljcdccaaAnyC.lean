/- Regions of any order: guarded operations that are wanted; several calls of values, in whatever order. No program here. -/
import Derived.Test.YtchkpkeljcdccaaAnyB
set_option linter.unusedSimpArgs false
set_option linter.unusedVariables false
namespace Go.Port
open Go.RowKit
section
variable {P : Program} {w0 : World} {D : List Nat} {n q : Nat} {ops : Array Oper} {Q : Exit → Act → World → Prop} {g : Nat → Value} {F : List (Nat × Value)} {L Ls : List Ch} {done : List Nat} {d : Nat}
theorem wanted_yes {o : Oper} {j t : Nat} {want b : Bool} (hg : o.guard = some (j, want)) (hd : (ops[j]?).bind (·.dst) = some t) (ht : Nat.blt t n = true) (hv : get g F t = .bool b) (hb : b = want) : Region.wanted o (yielded ops (Fr n (get g F)).tmps) = true := by
  simp only [Region.wanted, hg, yielded_fr hd ht, hv, hb]; cases want <;> rfl
/-- A guarded one that is wanted. -/
theorem ah_pureW (k : Nat) {j t : Nat} {want b : Bool} {o : Oper} (ht : takeH ops done k = true) (hi : ops[k]? = some o) (hval : valOpL o.op = true) (hg : o.guard = some (j, want)) (hd : o.dst = some d) (hdn : Nat.blt d n = true) (hgd : (ops[j]?).bind (·.dst) = some t) (htn : Nat.blt t n = true) (hv : get g F t = .bool b) (hb : b = want)
    (h : ∃ v, SX P w0 D n 2 ops (isF n g ((d, v) :: F)) [o] g F Ls ∧ AH P w0 D n ops Q Ls (k :: done) g ((d, v) :: F) L) : AH P w0 D n ops Q Ls done g F L := by
  have hw := wanted_yes hg hgd htn hv hb
  obtain ⟨v, h1, h2⟩ := h
  refine ah_take (v := v) ht hi hd (.inl ⟨hw, fun w hS => ?_⟩) h2
  have h3 := h1.out2 (q := 0) w hS
  unfold wpStill at h3
  rw [if_pos hw] at h3
  unfold Oper.still at h3
  have key : ∀ u, (Fr n (get g F)).put o.dst u = Fr n (get g ((d, v) :: F)) → u = v := by
    intro u hu
    rw [hd, Fr.put, get_put] at hu
    have hlt : d < n := Nat.le_of_ble_eq_true hdn
    have h4 := congrArg (fun a : Act => a.tmps.getD d undef) hu
    simp only [Fr.getD hlt] at h4
    have h5 : ∀ x, get g ((d, x) :: F) d = x := fun x => by show (bif Nat.beq d d then x else _) = x; rw [Nat.beq_refl]; rfl
    rwa [h5, h5] at h4
  rcases valOpL_run (P := P) (ρ := (Fr n (get g F)).eval) hval w with ⟨u, w', hr⟩ | ⟨x, w', hr⟩
  · rw [hr] at h3 ⊢
    obtain ⟨rfl, _, h4⟩ := h3
    rw [key u h4]
  · rw [hr] at h3; exact h3.elim
def notIn (k : Nat) : List Nat → Bool
  | [] => true
  | x :: l => !Nat.beq k x && notIn k l
def pureAt (ops : Array Oper) (k : Nat) : Bool := match ops[k]? with
  | some o => valOpL o.op || o.guard.isSome || (match o.op with | .nilCheck _ => true | _ => false)
  | none => false
theorem ah_at (k : Nat) (ht : takeH ops done k = true) (h : takeH ops done k = true → AH P w0 D n ops Q Ls done g F L) : AH P w0 D n ops Q Ls done g F L := h ht
theorem ah_not (k : Nat) (_ : notIn k done = true) (h : AH P w0 D n ops Q Ls done g F L) : AH P w0 D n ops Q Ls done g F L := h
theorem ah_isp (k : Nat) (_ : pureAt ops k = true) (h : AH P w0 D n ops Q Ls done g F L) : AH P w0 D n ops Q Ls done g F L := h
/-- Two pieces held. -/
theorem cx_held2 {id : Nat} {l : List Oper} {c c' : Ch} (hm : P.follows .mixedOrders = true) (h : AH P w0 D n l.toArray Q [c, c'] [] g F L) : CX P w0 D n Q (.region id l.toArray true) g F (c :: c' :: L) := cx_held [c, c'] L hm (fun _ hm => hm) h
/-- One of several calls: its number, its slot, its value. -/
structure Cv where
  k : Nat
  d : Nat
  v : Value
/-- It is a call of a value, in this frame. -/
def Cv.ok (P : Program) (w0 : World) (D : List Nat) (n : Nat) (ops : Array Oper) (L : List Ch) (f : Nat → Value) (e : Cv) : Prop :=
  ∃ o, ops[e.k]? = some o ∧ o.dst = some e.d ∧ (∀ cs b, o.op ≠ .select cs b) ∧ Region.wanted o (yielded ops (Fr n f).tmps) = true ∧
    ∃ (fid : FuncId) (args : Array Value), ∀ w, Mem w0 w D L → (execOp (Fr n f).eval o).run P w = .ok (.enter fid args) w ∧ Calls P fid args w fun x w' => x = .returned e.v ∧ Mem w0 w' D L
/-- No call looks at another one's slot; and whatever order they take, they alone may come, till all have come. -/
def freeCv (ops : Array Oper) : Nat → List Nat → List Nat → Bool
  | 0, _, S => S.isEmpty
  | m + 1, done, S => S.isEmpty || (Nat.blt done.length ops.size && decide (Region.ready .any ops (doneArr ops.size done) = S) && S.all fun k => freeCv ops m (k :: done) (S.erase k))
def apartCv (ops : Array Oper) (E : List Cv) : Bool := E.all fun e => E.all fun e' => e.k == e'.k || (e.d != e'.d && match ops[e'.k]? with | some o => !(o.looksAt ops).contains e.d | none => false)
def keysCv (E : List Cv) : Bool := decide (E.map (·.k)).Nodup
def putsCv (f : Nat → Value) : List Cv → Nat → Value
  | [] => f
  | e :: E => putsCv (upd f e.d e.v) E
theorem putsCv_at {f : Nat → Value} {E : List Cv} {s : Nat} (h : ∀ e ∈ E, e.d ≠ s) : putsCv f E s = f s := by
  induction E generalizing f with
  | nil => rfl
  | cons e E ih =>
    rw [putsCv, ih fun x hx => h x (by simp [hx])]
    show (if s = e.d then e.v else f s) = f s
    rw [if_neg fun hh => h e (by simp) hh.symm]
theorem putsCv_of {f : Nat → Value} {E : List Cv} {e : Cv} (he : e ∈ E) (h : ∀ e ∈ E, ∀ e' ∈ E, e.d = e'.d → e = e') : putsCv f E e.d = e.v := by
  induction E generalizing f with
  | nil => cases he
  | cons x E ih =>
    rw [putsCv]
    by_cases hx : e ∈ E
    · exact ih hx fun a ha b hb => h a (by simp [ha]) b (by simp [hb])
    · obtain rfl : e = x := by simpa [hx] using he
      rw [putsCv_at fun y hy hh => hx (by rw [← h y (by simp [hy]) e (by simp) hh]; exact hy)]
      show (if e.d = e.d then e.v else f e.d) = e.v
      rw [if_pos rfl]
theorem putsCv_erase {f : Nat → Value} {E E' : List Cv} {e : Cv} (hp : ∀ x, x ∈ E ↔ x = e ∨ x ∈ E') (h : ∀ e ∈ E, ∀ e' ∈ E, e.d = e'.d → e = e') : putsCv (upd f e.d e.v) E' = putsCv f E := by
  funext s
  by_cases hs : ∃ x ∈ E, x.d = s
  · obtain ⟨x, hx, rfl⟩ := hs
    rw [putsCv_of hx h]
    rcases (hp x).1 hx with rfl | hx'
    · by_cases h' : x ∈ E'
      · exact putsCv_of h' fun a ha b hb => h a ((hp a).2 (.inr ha)) b ((hp b).2 (.inr hb))
      · rw [putsCv_at fun y hy hh => h' (by rw [← h y ((hp y).2 (.inr hy)) x hx hh]; exact hy)]
        show (if x.d = x.d then x.v else f x.d) = x.v
        rw [if_pos rfl]
    · exact putsCv_of hx' fun a ha b hb => h a ((hp a).2 (.inr ha)) b ((hp b).2 (.inr hb))
  · have h1 : ∀ x ∈ E, x.d ≠ s := fun x hx hh => hs ⟨x, hx, hh⟩
    rw [putsCv_at h1, putsCv_at fun x hx => h1 x ((hp x).2 (.inr hx))]
    show (if s = e.d then e.v else f s) = f s
    rw [if_neg fun hh => h1 e ((hp e).2 (.inl rfl)) hh.symm]
theorem doneArr_size (m : Nat) : ∀ l, (doneArr m l).size = m
  | [] => by simp [doneArr]
  | k :: l => by rw [doneArr, Array.size_setIfInBounds, doneArr_size m l]
theorem doneArr_get (m : Nat) {i : Nat} (hi : i < m) : ∀ l, (doneArr m l)[i]? = some (decide (i ∈ l))
  | [] => by simp [doneArr, hi]
  | k :: l => by
    rw [doneArr, Array.getElem?_setIfInBounds, doneArr_get m hi l, doneArr_size]
    by_cases h : k = i
    · subst h; simp [hi]
    · rw [if_neg h]
      have : i ∈ k :: l ↔ i ∈ l := by simp [Ne.symm h]
      simp [this]
theorem doneArr_congr (m : Nat) {l l' : List Nat} (h : ∀ i, i ∈ l ↔ i ∈ l') : doneArr m l = doneArr m l' := by
  apply Array.ext_getElem?
  intro i
  by_cases hi : i < m
  · rw [doneArr_get m hi, doneArr_get m hi, decide_eq_decide.2 (h i)]
  · rw [Array.getElem?_eq_none (by rw [doneArr_size]; omega), Array.getElem?_eq_none (by rw [doneArr_size]; omega)]
theorem Cv.ok_put {f : Nat → Value} {e : Cv} {d' : Nat} {v' : Value} (h : e.ok P w0 D n ops L f) (hd : ∀ o, ops[e.k]? = some o → d' ∉ o.looksAt ops) : e.ok P w0 D n ops L (upd f d' v') := by
  obtain ⟨o, h1, h2, h3, h4, fid, args, h5⟩ := h
  have hl := hd o h1
  refine ⟨o, h1, h2, h3, ?_, fid, args, fun w hm => ?_⟩
  · rw [← Fr.put, wanted_put o _ _ _ (fun d e => by cases e; exact hl)]; exact h4
  · obtain ⟨h6, h7⟩ := h5 w hm
    exact ⟨by rw [← Fr.put, execOp_put o h3 _ _ _ (fun d e => by cases e; exact hl)]; exact h6, h7⟩
theorem mem_erase_map {E : List Cv} {k : Nat} : (E.map (·.k)).erase k = (E.eraseP (·.k == k)).map (·.k) := by
  induction E with
  | nil => rfl
  | cons x E ih =>
    rw [List.map_cons, List.erase_cons, List.eraseP_cons]
    by_cases h : x.k = k
    · simp [h]
    · have : (x.k == k) = false := by simpa using h
      simp [this, ih]
theorem calls_any {Sh : World → Prop} (hS : ∀ w, Mem w0 w D L → Sh w) (fin : Nat → Value) (all : List Nat) : ∀ (m : Nat) (E : List Cv) (done : List Nat) (f : Nat → Value), E.length ≤ m → freeCv ops m done (E.map (·.k)) = true → (E.map (·.k)).Nodup → (∀ e ∈ E, ∀ e' ∈ E, e.d = e'.d → e = e') →
    (∀ e ∈ E, ∀ e' ∈ E, e ≠ e' → ∀ o, ops[e'.k]? = some o → e.d ∉ o.looksAt ops) → (∀ e ∈ E, e.ok P w0 D n ops L f) → putsCv f E = fin → (∀ i, i ∈ E.map (·.k) ++ done ↔ i ∈ all) → all.length = E.length + done.length →
    (∀ w, Mem w0 w D L → wpAnyH P .any ops (np Q) Sh (ops.size - all.length) (doneArr ops.size all) (Fr n fin) w) →
    ∀ w, Mem w0 w D L → wpAnyH P .any ops (np Q) Sh (ops.size - done.length) (doneArr ops.size done) (Fr n f) w
  | m, [], done, f, _, _, _, _, _, _, hf, ha, hal, h, w, hm => by
    have e1 : doneArr ops.size done = doneArr ops.size all := doneArr_congr _ fun i => by simpa using ha i
    have e2 : all.length = done.length := by simpa using hal
    rw [e1, ← e2, show f = fin from hf]
    exact h w hm
  | 0, x :: E, _, _, hl, _, _, _, _, _, _, _, _, _, _, _ => by simp at hl
  | m + 1, x :: E, done, f, hl, hfree, hnd, hinj, hap, hok, hf, ha, hal, h, w, hm => by
    unfold freeCv at hfree
    have hne : (((x :: E).map (·.k)).isEmpty) = false := rfl
    rw [hne, Bool.false_or, Bool.and_eq_true, Bool.and_eq_true, decide_eq_true_eq, List.all_eq_true] at hfree
    obtain ⟨⟨hlt0, hr⟩, hall⟩ := hfree
    have hlt : done.length < ops.size := Nat.le_of_ble_eq_true hlt0
    have e : ∀ k : Nat, ops.size - done.length = (ops.size - (k :: done).length) + 1 := fun k => by rw [List.length_cons]; omega
    rw [e 0]
    refine wpAnyH_all hr (by simp) fun i hi => ?_
    obtain ⟨y, hy, rfl⟩ := List.mem_map.1 hi
    have hmem : ∀ z, z ∈ x :: E ↔ z = y ∨ z ∈ (x :: E).eraseP (·.k == y.k) := fun z => by
      have hne : ∀ a ∈ x :: E, a.k = y.k → a = y := fun a ha hk => by
        have hp := List.pairwise_map.1 hnd
        obtain ⟨i', hi', rfl⟩ := List.getElem_of_mem ha
        obtain ⟨j', hj', ey⟩ := List.getElem_of_mem hy
        rw [← ey] at hk ⊢
        rcases Nat.lt_trichotomy i' j' with h1 | h1 | h1
        · exact absurd hk (List.pairwise_iff_getElem.1 hp i' j' hi' hj' h1)
        · subst h1; rfl
        · exact absurd hk.symm (List.pairwise_iff_getElem.1 hp j' i' hj' hi' h1)
      constructor
      · intro hz
        by_cases hzy : z = y
        · exact .inl hzy
        · refine .inr ((List.mem_eraseP_of_neg ?_).2 hz)
          simpa using fun hh => hzy (hne z hz hh)
      · rintro (rfl | hz)
        · exact hy
        · exact List.mem_of_mem_eraseP hz
    have hnd' : y ∉ (x :: E).eraseP (·.k == y.k) := fun hin => by
      have h1 : y.k ∈ ((x :: E).map (·.k)).erase y.k := by rw [mem_erase_map]; exact List.mem_map.2 ⟨y, hin, rfl⟩
      exact (List.Nodup.mem_erase_iff hnd).1 h1 |>.1 rfl
    obtain ⟨o, h1, h2, h3, h4, fid, args, h5⟩ := hok y hy
    obtain ⟨h6, h7⟩ := h5 w hm
    have hlen : ((x :: E).eraseP (·.k == y.k)).length + 1 = (x :: E).length := by
      have := List.length_eraseP_of_mem (p := fun a : Cv => a.k == y.k) hy (by simp)
      have h0 : 0 < (x :: E).length := by simp
      omega
    unfold wpOp
    rw [h1]
    simp only []
    rw [if_pos h4]
    refine .inl ?_
    unfold Oper.wp
    rw [h6, Oper.upon_enter]
    refine h7.mono ?_
    rintro _ w' ⟨rfl, hm'⟩
    show Sh w' ∧ _
    rw [h2, Fr.put]
    refine ⟨hS w' hm', ?_⟩
    have := calls_any hS fin all m ((x :: E).eraseP (·.k == y.k)) (y.k :: done) (upd f y.d y.v) (by omega) (by rw [← mem_erase_map]; exact hall _ hi) (by rw [← mem_erase_map]; exact hnd.erase _) (fun a ha b hb => hinj a ((hmem a).2 (.inr ha)) b ((hmem b).2 (.inr hb)))
      (fun a ha b hb => hap a ((hmem a).2 (.inr ha)) b ((hmem b).2 (.inr hb))) (fun a ha => Cv.ok_put (hok a ((hmem a).2 (.inr ha))) fun o' ho' => hap y hy a ((hmem a).2 (.inr ha)) (fun hh => hnd' (hh ▸ ha)) o' ho')
      (by rw [← hf]; exact putsCv_erase hmem hinj) (fun i => by
        rw [← ha i, List.mem_append, List.mem_append, List.mem_cons, List.mem_map, List.mem_map]
        constructor
        · rintro (⟨a, ha, rfl⟩ | rfl | hi)
          · exact .inl ⟨a, (hmem a).2 (.inr ha), rfl⟩
          · exact .inl ⟨y, hy, rfl⟩
          · exact .inr hi
        · rintro (⟨a, ha, rfl⟩ | hi)
          · rcases (hmem a).1 ha with rfl | ha'
            · exact .inr (.inl rfl)
            · exact .inl ⟨a, ha', rfl⟩
          · exact .inr (.inr hi)) (by rw [List.length_cons]; omega) h w' hm'
    exact this
def CvAll (P : Program) (w0 : World) (D : List Nat) (n : Nat) (ops : Array Oper) (L : List Ch) (f : Nat → Value) : List Cv → Prop
  | [] => True
  | e :: E => e.ok P w0 D n ops L f ∧ CvAll P w0 D n ops L f E
theorem CvAll.all {f : Nat → Value} : ∀ {E : List Cv}, CvAll P w0 D n ops L f E → ∀ e ∈ E, e.ok P w0 D n ops L f
  | [], _, e, h => by cases h
  | x :: E, h, e, he => by
    rcases List.mem_cons.1 he with rfl | he
    · exact h.1
    · exact h.2.all e he
def addCv : List Cv → List (Nat × Value) → List (Nat × Value)
  | [], F => F
  | e :: E, F => addCv E ((e.d, e.v) :: F)
def addK : List Cv → List Nat → List Nat
  | [], l => l
  | e :: E, l => addK E (e.k :: l)
theorem addK_mem {E : List Cv} {l : List Nat} {i : Nat} : i ∈ E.map (·.k) ++ l ↔ i ∈ addK E l := by
  induction E generalizing l with
  | nil => exact Iff.rfl
  | cons e E ih =>
    rw [addK, ← ih]
    simp only [List.map_cons, List.cons_append, List.mem_cons, List.mem_append]
    constructor
    · rintro (h | h | h)
      · exact .inr (.inl h)
      · exact .inl h
      · exact .inr (.inr h)
    · rintro (h | h | h)
      · exact .inr (.inl h)
      · exact .inl h
      · exact .inr (.inr h)
theorem addK_len {E : List Cv} {l : List Nat} : (addK E l).length = E.length + l.length := by
  induction E generalizing l with
  | nil => simp [addK]
  | cons e E ih => rw [addK, ih, List.length_cons, List.length_cons]; omega
theorem addCv_get {E : List Cv} : ∀ F, putsCv (get g F) E = get g (addCv E F) := by
  induction E with
  | nil => intro F; rfl
  | cons e E ih => intro F; rw [putsCv, get_put, ih, addCv]
/-- Several calls of values, in whatever order they come. -/
theorem ah_calls (E : List Cv) (hfree : (freeCv ops E.length done (E.map (·.k)) && apartCv ops E && keysCv E) = true) (hok : CvAll P w0 D n ops (Ls ++ L) (get g F) E) (h : AH P w0 D n ops Q Ls (addK E done) g (addCv E F) L) : AH P w0 D n ops Q Ls done g F L := .mk fun w hm => by
  simp only [Bool.and_eq_true, keysCv, decide_eq_true_eq] at hfree
  obtain ⟨⟨h1, h2⟩, h3⟩ := hfree
  unfold apartCv at h2
  simp only [List.all_eq_true, Bool.or_eq_true, beq_iff_eq, Bool.and_eq_true, bne_iff_ne] at h2
  have hk : ∀ e ∈ E, ∀ e' ∈ E, e.k = e'.k → e = e' := fun a ha b hb hk => by
    have hp := List.pairwise_map.1 h3
    obtain ⟨i, hi, rfl⟩ := List.getElem_of_mem ha
    obtain ⟨j, hj, rfl⟩ := List.getElem_of_mem hb
    rcases Nat.lt_trichotomy i j with h1 | h1 | h1
    · exact absurd hk (List.pairwise_iff_getElem.1 hp i j hi hj h1)
    · subst h1; rfl
    · exact absurd hk.symm (List.pairwise_iff_getElem.1 hp j i hj hi h1)
  refine calls_any (fun w hm => hm.drop (L' := Ls)) (get g (addCv E F)) (addK E done) E.length E done (get g F) (Nat.le_refl _) h1 h3 (fun a ha b hb hd => ?_) (fun a ha b hb hne o ho => ?_) hok.all (addCv_get F) (fun i => addK_mem) addK_len (fun w hm => h.out w hm) w hm
  · rcases h2 a ha b hb with hh | hh
    · exact hk a ha b hb hh
    · exact absurd hd hh.1
  · rcases h2 a ha b hb with hh | hh
    · exact absurd (hk a ha b hb hh) hne
    · have := hh.2
      rw [ho] at this
      simpa using this
/-- A call is one of these. -/
theorem cv_ok {k d f : Nat} [CalT P f] {la : List Operand} {ats : Array TypeId} {v : Value} {ty : TypeId} {pos : String} {af : Array Edge} (hi : ops[k]? = some { dst := some d, op := .call { callee := .value (.func f), args := la.toArray, argTypes := ats }, type := ty, pos := pos, after := af, guard := none })
    (hc : ∀ w, Mem w0 w D L → Calls P f (evs n (get g F) la).toArray w (Ret w [] (isV v))) : (Cv.mk k d v).ok P w0 D n ops L (get g F) :=
  ⟨_, hi, rfl, (by intro cs b e; cases e), by simp [Region.wanted], f, (evs n (get g F) la).toArray, fun w hm => ⟨by rw [Fr.evn]; exact run_call, (hc w hm).mono (by
    rintro e w' ⟨v', L', rfl, hm', rfl, rfl⟩
    exact ⟨rfl, hm.call0 hm'⟩)⟩⟩
theorem cv_okG {k d f j t : Nat} {want b : Bool} [CalT P f] {la : List Operand} {ats : Array TypeId} {v : Value} {ty : TypeId} {pos : String} {af : Array Edge} (hi : ops[k]? = some { dst := some d, op := .call { callee := .value (.func f), args := la.toArray, argTypes := ats }, type := ty, pos := pos, after := af, guard := some (j, want) })
    (hgd : (ops[j]?).bind (·.dst) = some t) (htn : Nat.blt t n = true) (hv : get g F t = .bool b) (hb : b = want)
    (hc : ∀ w, Mem w0 w D L → Calls P f (evs n (get g F) la).toArray w (Ret w [] (isV v))) : (Cv.mk k d v).ok P w0 D n ops L (get g F) :=
  ⟨_, hi, rfl, (by intro cs b e; cases e), wanted_yes rfl hgd htn hv hb, f, (evs n (get g F) la).toArray, fun w hm => ⟨by rw [Fr.evn]; exact run_call (dst := some d) (pos := pos) (af := af), (hc w hm).mono (by
    rintro e w' ⟨v', L', rfl, hm', rfl, rfl⟩
    exact ⟨rfl, hm.call0 hm'⟩)⟩⟩
end
end Go.Port
