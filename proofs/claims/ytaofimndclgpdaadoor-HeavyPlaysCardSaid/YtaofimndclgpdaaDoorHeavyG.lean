/- heavy: Add. -/
import Derived.Test.YtaofimndclgpdaaDoorHeavyF
import Derived.Test.YtaofimndclgpdaaDoorHeavyC
set_option linter.unusedSimpArgs false
set_option linter.unusedVariables false
set_option maxRecDepth 100000
namespace Go.Port
open Go.RowKit
theorem minOf_le : ∀ (zs : List Int), (∀ z ∈ zs, Lib.minOf zs ≤ z) ∧ (zs ≠ [] → Lib.minOf zs ∈ zs) := by
  have key : ∀ (l : List Int) (a : Int), l.foldl min a ≤ a ∧ (∀ z ∈ l, l.foldl min a ≤ z) ∧ (l.foldl min a = a ∨ l.foldl min a ∈ l) := by
    intro l
    induction l with
    | nil => intro a; exact ⟨Int.le_refl _, fun _ h => (nomatch h), .inl rfl⟩
    | cons x l ih =>
      intro a
      obtain ⟨h1, h2, h3⟩ := ih (min a x)
      rw [List.foldl_cons]
      refine ⟨by omega, fun z hz => ?_, ?_⟩
      · rcases List.mem_cons.1 hz with rfl | hz
        · omega
        · exact h2 z hz
      · rcases h3 with h3 | h3
        · rcases (by omega : min a x = a ∨ min a x = x) with h4 | h4
          · exact .inl (h3.trans h4)
          · exact .inr (by rw [h3, h4]; exact List.Mem.head _)
        · exact .inr (List.Mem.tail _ h3)
  intro zs
  unfold Lib.minOf
  cases zs with
  | nil => exact ⟨fun _ h => (nomatch h), fun h => absurd rfl h⟩
  | cons x l =>
    obtain ⟨h1, h2, h3⟩ := key (x :: l) ((x :: l).headD 0)
    refine ⟨h2, fun _ => ?_⟩
    rcases h3 with h3 | h3
    · rw [h3]; exact List.Mem.head _
    · exact h3
/-- What is counted, whole. -/
structure HvS (n : Nat) (C : Cn) (ck : Nat) (less all key mine : Int) : Prop where
  ok : CnOk C ck
  len : C.length ≤ n
  inv : HvI n (hl C) less all key mine
  num : 1 ≤ n ∧ n ≤ 20
  most : all ≤ 1099511627776
  sm : less * (n + 1) + smH (hl C) = all
theorem HvS.new {n : Nat} (h : 1 ≤ n ∧ n ≤ 20) (key : Int) : HvS n [] 0 0 0 key 0 :=
  ⟨⟨List.nodup_nil, List.nodup_nil, fun _ h => nomatch h⟩, Nat.zero_le _, HvI.new n key, h, by omega, by rw [Int.zero_mul]; rfl⟩
theorem sm_take_eq {m : Int} : ∀ {l : List (Int × Int)}, (∀ e ∈ l, m ≤ e.2) → smH (takH m l) + m * l.length = smH l
  | [], _ => by show (0 : Int) + m * ((0 : Nat) : Int) = 0; simp
  | e :: l, h => by
    have ih := sm_take_eq fun x hx => h x (List.Mem.tail _ hx)
    have h1 := h e (List.Mem.head _)
    have hc : m * ((l.length + 1 : Nat) : Int) = m * l.length + m := by rw [Int.natCast_add, Int.mul_add]; simp
    rw [takH, List.length_cons, hc, smH]
    split
    · omega
    · rw [smH]; dsimp only; omega
theorem sm_mem : ∀ {l : List (Int × Int)} {e : Int × Int}, OkH l → e ∈ l → e.2 ≤ smH l
  | [], _, _, h => nomatch h
  | x :: l, e, hk, h => by
    obtain ⟨h1, h2, _⟩ := hk.tail
    rw [smH]
    rcases List.mem_cons.1 h with rfl | h
    · have := sm_0 h1; omega
    · have := sm_mem h1 h; omega
theorem HvS.bd {n : Nat} {C : Cn} {ck : Nat} {less all key mine : Int} (h : HvS n C ck less all key mine) : (∀ e ∈ C, 1 ≤ e.2.1 ∧ e.2.1 ≤ 1099511627776) ∧ (0 ≤ less ∧ less ≤ 1099511627776) ∧ 0 ≤ all := by
  have h1 := h.inv.sum
  have h2 := sm_0 h.inv.ok
  have h3 := h.most
  have h4 := h.inv.pos
  have h5 : less ≤ less * (n + 1) := by
    have h6 : less * 1 ≤ less * (n + 1) := Int.mul_le_mul_of_nonneg_left (by omega) h4
    rw [Int.mul_one] at h6
    exact h6
  refine ⟨fun e he => ?_, ⟨h4, by omega⟩, by omega⟩
  have hm : (e.1, e.2.1) ∈ hl C := List.mem_map_of_mem (f := fun e : Int × Int × Nat => (e.1, e.2.1)) he
  have h6 := sm_mem h.inv.ok hm
  have h7 := h.inv.ok.2 _ hm
  have h8 : e.2.1 ≤ smH (hl C) := h6
  exact ⟨h7, by omega⟩
theorem hM_none : ∀ {C : Cn} {k : Int}, lkK (hM C) k = none → (∀ x ∈ C, x.1 ≠ k) ∧ ∀ v ck, hl (C ++ [(k, v, ck)]) = putH k v (hl C)
  | [], k, _ => ⟨fun _ h => (nomatch h), fun _ _ => rfl⟩
  | e :: C, k, h => by
    change lkK ((e.1, Value.int .i64 e.2.1, e.2.2) :: hM C) k = none at h
    rw [lkK] at h
    by_cases he : e.1 = k
    · rw [if_pos he] at h; cases h
    · rw [if_neg he, Option.map_eq_none_iff] at h
      obtain ⟨h1, h2⟩ := hM_none h
      refine ⟨fun x hx => ?_, fun v ck => ?_⟩
      · rcases List.mem_cons.1 hx with rfl | hx
        · exact he
        · exact h1 x hx
      · show (e.1, e.2.1) :: hl (C ++ [(k, v, ck)]) = putH k v ((e.1, e.2.1) :: hl C)
        rw [putH, if_neg he, h2]
theorem hM_some : ∀ {C : Cn} {k : Int} {j : Nat} {u : Value}, lkK (hM C) k = some (j, u) → ∃ x, C[j]? = some x ∧ x.1 = k ∧ u = .int .i64 x.2.1 ∧ (hM C)[j]? = some (k, u, x.2.2) ∧ lkH (hl C) k = x.2.1 ∧ ∀ v, hl (C.set j (k, x.2.1 + v, x.2.2)) = putH k v (hl C)
  | [], k, _, _, h => by cases h
  | e :: C, k, j, u, h => by
    change lkK ((e.1, Value.int .i64 e.2.1, e.2.2) :: hM C) k = some (j, u) at h
    rw [lkK] at h
    by_cases he : e.1 = k
    · rw [if_pos he] at h
      obtain ⟨rfl, rfl⟩ := Prod.mk.inj (Option.some.inj h)
      refine ⟨e, rfl, he, rfl, by rw [← he]; rfl, ?_, fun v => ?_⟩
      · show lkH ((e.1, e.2.1) :: hl C) k = _
        rw [lkH, if_pos he]
      · show (k, e.2.1 + v) :: hl C = putH k v ((e.1, e.2.1) :: hl C)
        rw [putH, if_pos he]
    · rw [if_neg he] at h
      obtain ⟨⟨j', u'⟩, h1, h2⟩ := Option.map_eq_some_iff.1 h
      obtain ⟨rfl, rfl⟩ := Prod.mk.inj h2
      obtain ⟨x, hx, hxk, hu, hm, hlk, hs⟩ := hM_some h1
      refine ⟨x, hx, hxk, hu, hm, ?_, fun v => ?_⟩
      · show lkH ((e.1, e.2.1) :: hl C) k = _
        rw [lkH, if_neg he, hlk]
      · show (e.1, e.2.1) :: hl (C.set j' _) = putH k v ((e.1, e.2.1) :: hl C)
        rw [putH, if_neg he, hs]
theorem ok_set {C : Cn} {ck j : Nat} {x : Int × Int × Nat} (h : CnOk C ck) (hj : C[j]? = some x) (v : Int) : CnOk (C.set j (x.1, v, x.2.2)) ck ∧ (C.set j (x.1, v, x.2.2)).length = C.length := by
  have hlt := (List.getElem?_eq_some_iff.1 hj).1
  have e1 : ∀ {β : Type} (f : Int × Int × Nat → β), f (x.1, v, x.2.2) = f x → (C.set j (x.1, v, x.2.2)).map f = C.map f := fun f hf => by
    rw [List.map_set, hf]
    refine List.ext_getElem? fun i => ?_
    rw [List.getElem?_set, List.length_map]
    by_cases hi : j = i
    · subst hi
      rw [if_pos rfl, if_pos hlt, List.getElem?_map, hj]
      rfl
    · rw [if_neg hi]
  refine ⟨⟨by rw [e1 _ rfl]; exact h.keys, by rw [e1 _ rfl]; exact h.borns, fun e he => ?_⟩, List.length_set⟩
  rcases List.mem_or_eq_of_mem_set he with h1 | rfl
  · exact h.low e h1
  · exact h.low x (List.mem_of_getElem? hj)
theorem ok_snoc {C : Cn} {ck : Nat} {k : Int} (h : CnOk C ck) (hk : ∀ x ∈ C, x.1 ≠ k) (v : Int) : CnOk (C ++ [(k, v, ck)]) (ck + 1) := by
  refine ⟨?_, ?_, fun e he => ?_⟩
  · rw [List.map_append]
    refine List.nodup_append.2 ⟨h.keys, by simp, fun a ha b hb => ?_⟩
    obtain ⟨x, hx, rfl⟩ := List.mem_map.1 ha
    have e : b = k := by simpa using hb
    rw [e]
    exact hk x hx
  · rw [List.map_append]
    refine List.nodup_append.2 ⟨h.borns, by simp, fun a ha b hb => ?_⟩
    obtain ⟨x, hx, rfl⟩ := List.mem_map.1 ha
    have e : b = ck := by simpa using hb
    have := h.low x hx
    omega
  · rcases List.mem_append.1 he with h1 | h1
    · have := h.low e h1; omega
    · have e1 : e = (k, v, ck) := by simpa using h1
      rw [e1]
      exact Nat.lt_succ_self _
/-- Counted: a key that is there, or for which there is room. -/
theorem HvS.set {n : Nat} {C : Cn} {ck j : Nat} {less all key mine k v : Int} {u : Value} (h : HvS n C ck less all key mine) (hk : lkK (hM C) k = some (j, u)) (hv : 1 ≤ v) (ha : all + v ≤ 1099511627776) :
    ∃ x, C[j]? = some x ∧ (hM C)[j]? = some (k, u, x.2.2) ∧ lkH (hl C) k = x.2.1 ∧ (hM C).set j (k, .int .i64 (x.2.1 + v), x.2.2) = hM (C.set j (k, x.2.1 + v, x.2.2)) ∧ HvS n (C.set j (k, x.2.1 + v, x.2.2)) ck less (all + v) key (if k = key then mine + v else mine) := by
  obtain ⟨x, hx, rfl, _, hm, hlk, hs⟩ := hM_some hk
  obtain ⟨h1, h2⟩ := ok_set h.ok hx (x.2.1 + v)
  refine ⟨x, hx, hm, hlk, ?_, h1, by rw [h2]; exact h.len, by rw [hs]; exact h.inv.put hv, h.num, ha, by rw [hs, sm_put]; have := h.sm; omega⟩
  unfold hM
  rw [List.map_set]
theorem HvS.snoc {n : Nat} {C : Cn} {ck : Nat} {less all key mine k v : Int} (h : HvS n C ck less all key mine) (hk : lkK (hM C) k = none) (hlen : C.length < n) (hv : 1 ≤ v) (ha : all + v ≤ 1099511627776) :
    hM C ++ [(k, .int .i64 v, ck)] = hM (C ++ [(k, v, ck)]) ∧ HvS n (C ++ [(k, v, ck)]) (ck + 1) less (all + v) key (if k = key then mine + v else mine) := by
  obtain ⟨h1, h2⟩ := hM_none hk
  refine ⟨by unfold hM; rw [List.map_append]; rfl, ok_snoc h.ok h1 v, by rw [List.length_append]; exact hlen, by rw [h2]; exact h.inv.put hv, h.num, ha, by rw [h2, sm_put]; have := h.sm; omega⟩
theorem HvS.to {n : Nat} {C : Cn} {ck : Nat} {less all all' key mine mine' : Int} (h : HvS n C ck less all key mine) (h1 : all = all') (h2 : mine = mine') : HvS n C ck less all' key mine' := by
  rw [← h1, ← h2]
  exact h
theorem len_takeC (m : Int) (C : Cn) : (takeC m C).length ≤ C.length := by
  unfold takeC
  exact Nat.le_trans (List.length_filter_le _ _) (Nat.le_of_eq (List.length_map _))
/-- Taken away from all. -/
theorem HvS.take {n : Nat} {C : Cn} {ck : Nat} {less all key mine k m : Int} (h : HvS n C ck less all key mine) (hk : lkK (hM C) k = none) (hlen : C.length = n) (hm : 0 ≤ m) (hle : ∀ e ∈ C, m ≤ e.2.1) (ha : all + m ≤ 1099511627776) :
    HvS n (takeC m C) ck (less + m) (all + m) key (if k = key then mine + m else mine) := by
  obtain ⟨h1, _⟩ := hM_none hk
  have hll : (hl C).length = n := by unfold hl; rw [List.length_map]; exact hlen
  refine ⟨take_ok h.ok m, Nat.le_trans (len_takeC m C) h.len, ?_, h.num, ha, ?_⟩
  rotate_left
  · have h3 := sm_take_eq (m := m) (l := hl C) (fun e he => by
      obtain ⟨x, hx, rfl⟩ := List.mem_map.1 he
      exact hle x hx)
    rw [take_plain]
    rw [hll] at h3
    have h4 := h.sm
    have e : (less + m) * (n + 1) = less * (n + 1) + (m * n + m) := by rw [Int.add_mul, Int.mul_add m, Int.mul_one]
    rw [e]
    omega
  rw [take_plain]
  refine h.inv.take hm (by unfold hl; rw [List.length_map]; exact hlen) (fun e he => ?_) (lk_out fun e he => ?_)
  · obtain ⟨x, hx, rfl⟩ := List.mem_map.1 he
    exact hle x hx
  · obtain ⟨x, hx, rfl⟩ := List.mem_map.1 he
    exact h1 x hx
section
variable {P : Program} {w0 : World} {D : List Nat} {n q : Nat} {ops : Array Oper} {Q : Exit → Act → World → Prop} {g : Nat → Value} {F : List (Nat × Value)} {L Ls : List Ch} {done : List Nat} {d : Nat}
/-- A guarded test for nil that is wanted. -/
theorem ah_nilW (k : Nat) {j t : Nat} {want b : Bool} {x : Operand} {ty : TypeId} {pos : String} {af : Array Edge} {p : Addr} (ht : takeH ops done k = true) (hi : ops[k]? = some { dst := some d, op := .nilCheck x, type := ty, pos := pos, after := af, guard := some (j, want) }) (hgd : (ops[j]?).bind (·.dst) = some t) (htn : Nat.blt t n = true) (hv : get g F t = .bool b) (hb : b = want) (hx : evn n (get g F) x = .pointer (some p))
    (h : AH P w0 D n ops Q Ls (k :: done) g ((d, .pointer (some p)) :: F) L) : AH P w0 D n ops Q Ls done g F L :=
  ah_take ht hi rfl (.inl ⟨wanted_yes rfl hgd htn hv hb, fun w _ => by rw [Fr.evn]; simp only [execOp, hx]; rfl⟩) h
end
end Go.Port
namespace Go.Proofs.YtaofimndclgpdaaDoor
open Go.RowKit Go.Port
attribute [local irreducible] Calls
/-- How an Add ends. -/
def AddH (n : Nat) (all key mine k many : Int) (hb r : Nat) (less : Int) (C : Cn) (ck : Nat) (v : Value) (L : List Ch) : Prop :=
  ((many < 1 ∨ 1000000 < many) ∧ v = er 1 ∧ L = [hvC n less all hb r ck C]) ∨
  ((1 ≤ many ∧ many ≤ 1000000) ∧ 1099511627776 < all + many ∧ v = er 4 ∧ L = [hvC n less all hb r ck C]) ∨
  ((1 ≤ many ∧ many ≤ 1000000) ∧ all + many ≤ 1099511627776 ∧ v = .nilIface ∧ ∃ less' C' ck', L = [hvC n less' (all + many) hb r ck' C'] ∧ HvS n C' ck' less' (all + many) key (if k = key then mine + many else mine))
set_option maxHeartbeats 8000000 in
theorem heavy_Add {n : Nat} {less all key mine : Int} (k many : Int) {hb r ck : Nat} {C : Cn} {w : World} {D : List Nat} (hS : HvS n C ck less all key mine) (hD : D = (hvC n less all hb r ck C).map (·.1)) (hM0 : Mem w w D [hvC n less all hb r ck C]) :
    Calls Tryd.prog 6 #[.pointer (some ⟨hb, 0, none⟩), .int .i64 k, .int .i64 many] w (Ret w D (AddH n all key mine k many hb r less C ck)) := by
  refine cx_enter (args := [.pointer (some ⟨hb, 0, none⟩), .int .i64 k, .int .i64 many]) (F := [(0, .pointer (some ⟨hb, 0, none⟩)), (1, .int .i64 k), (2, .int .i64 many)]) _ [hvC n less all hb r ck C] Tryd.func6 rfl Tryd.ntmps6 (by simp) rfl hM0 (fun g => ?_)
  obtain ⟨hbd, hls, hal⟩ := hS.bd
  have hmost := hS.most
  have hnum := hS.num
  clear hM0
  refine cx_mem (L' := [[(hb, .cells [.int .i64 n, .int .i64 less, .int .i64 all, .map (some r)].toArray 50 (0, 0))], [(r, kObj kvI (hM C) ck)]]) ?_ (fun w hm => hm.perm (.refl _))
  by_cases h1 : many < 1
  · repeat' (first | ((with_reducible refine at_op ?_); first | ((with_reducible refine at_guard ?_); first | refine sx_skip rfl rfl rfl ras ?_ | refine sx_lit true rfl rfl rfl dec ?_) | ((with_reducible refine at_move ?_); refine sx_move _ vf ?_) | ((with_reducible refine at_bin ?_); refine sx_lss rfl rfl ?_) | ((with_reducible refine at_assign ?_); refine sx_assign _ vf ?_) | ((with_reducible refine at_pick ?_); refine sx_pickT (.bool _) rfl dec rfl ?_) | ((with_reducible refine at_iface ?_); refine sx_iface _ vf ?_)) | refine sx_nil ?_ | ((with_reducible refine at_code ?_); first | refine cx_seq ?_ | refine cx_region ?_ | refine cx_ret ?_ | refine cx_block ?_ | refine cx_true rfl ?_) | ((with_reducible refine at_exit ?_); first | refine qx_then ?_ | refine qx_in_ret ?_ | refine qx_then_ret ?_))
    all_goals try (exfalso; omega)
    all_goals exact qx_ret1 (v := .iface _ _) [hvC n less all hb r ck C] rfl rfl (.inl ⟨.inl h1, by rw [er, errV_ne (by decide)], rfl⟩) (fun w hm => hm.perm (.refl _))
  by_cases h2 : 1000000 < many
  · repeat' (first | ((with_reducible refine at_op ?_); first | ((with_reducible refine at_guard ?_); first | refine sx_want rfl rfl rfl ras ?_ | refine sx_lit false rfl rfl rfl dec ?_) | ((with_reducible refine at_move ?_); refine sx_move _ vf ?_) | ((with_reducible refine at_bin ?_); first | refine sx_lss rfl rfl ?_ | refine sx_gtr rfl rfl ?_) | ((with_reducible refine at_assign ?_); refine sx_assign _ vf ?_) | ((with_reducible refine at_pick ?_); refine sx_pickF (.bool _) rfl dec rfl ?_) | ((with_reducible refine at_iface ?_); refine sx_iface _ vf ?_)) | refine sx_nil ?_ | ((with_reducible refine at_code ?_); first | refine cx_seq ?_ | refine cx_region ?_ | refine cx_ret ?_ | refine cx_block ?_ | (refine cx_cond rfl (fun h => ?_) (fun h => ?_) <;> (try simp only [decide_eq_true_eq, decide_eq_false_iff_not, Bool.and_eq_true, Bool.or_eq_true, Bool.and_eq_false_iff, Bool.or_eq_false_iff, Bool.not_eq_true', Bool.not_eq_false', Bool.not_true, Bool.not_false, Bool.true_or, Bool.or_true, Bool.false_or, Bool.or_false, Bool.and_true, Bool.true_and, Bool.false_and, Bool.and_false, reduceCtorEq, Classical.not_not, beq_self_eq_true, bne_self_eq_false, not_true_eq_false, not_false_eq_true, or_false, false_or, or_true, true_or, and_true, true_and, and_false, false_and, or_self, and_self] at h) <;> (try (exfalso; omega)))) | ((with_reducible refine at_exit ?_); first | refine qx_then ?_ | refine qx_in_ret ?_ | refine qx_then_ret ?_))
    all_goals try (exfalso; omega)
    all_goals exact qx_ret1 (v := .iface _ _) [hvC n less all hb r ck C] rfl rfl (.inl ⟨.inr h2, by rw [er, errV_ne (by decide)], rfl⟩) (fun w hm => hm.perm (.refl _))
  by_cases h3 : 1099511627776 < all + many
  · repeat' (first | ((with_reducible refine at_op ?_); first | ((with_reducible refine at_guard ?_); first | refine sx_want rfl rfl rfl ras ?_ | refine sx_lit false rfl rfl rfl dec ?_) | ((with_reducible refine at_move ?_); refine sx_move _ vf ?_) | ((with_reducible refine at_bin ?_); first | refine sx_lss rfl rfl ?_ | refine sx_gtr rfl rfl ?_ | refine sx_add rfl rfl bnd ?_) | ((with_reducible refine at_assign ?_); refine sx_assign _ vf ?_) | ((with_reducible refine at_load ?_); refine sx_loadE rfl pc gv ?_) | refine sx_nilCheck rfl ?_ | refine sx_fieldAddr rfl ?_ | ((with_reducible refine at_pick ?_); refine sx_pickF (.bool _) rfl dec rfl ?_) | ((with_reducible refine at_iface ?_); refine sx_iface _ vf ?_)) | refine sx_nil ?_ | ((with_reducible refine at_code ?_); first | refine cx_seq ?_ | refine cx_region ?_ | refine cx_ret ?_ | refine cx_block ?_ | (refine cx_cond rfl (fun h => ?_) (fun h => ?_) <;> (try simp only [decide_eq_true_eq, decide_eq_false_iff_not, Bool.and_eq_true, Bool.or_eq_true, Bool.and_eq_false_iff, Bool.or_eq_false_iff, Bool.not_eq_true', Bool.not_eq_false', Bool.not_true, Bool.not_false, Bool.true_or, Bool.or_true, Bool.false_or, Bool.or_false, Bool.and_true, Bool.true_and, Bool.false_and, Bool.and_false, reduceCtorEq, Classical.not_not, beq_self_eq_true, bne_self_eq_false, not_true_eq_false, not_false_eq_true, or_false, false_or, or_true, true_or, and_true, true_and, and_false, false_and, or_self, and_self] at h) <;> (try (exfalso; omega)))) | ((with_reducible refine at_exit ?_); first | refine qx_then ?_ | refine qx_in_ret ?_ | refine qx_then_ret ?_))
    all_goals try (exfalso; omega)
    all_goals exact qx_ret1 (v := .iface _ _) [hvC n less all hb r ck C] rfl rfl (.inr (.inl ⟨by omega, h3, by rw [er, errV_ne (by decide)], rfl⟩)) (fun w hm => hm.perm (.refl _))
  repeat' (first | ((with_reducible refine at_op ?_); first | ((with_reducible refine at_guard ?_); first | refine sx_want rfl rfl rfl ras ?_ | refine sx_lit false rfl rfl rfl dec ?_) | ((with_reducible refine at_move ?_); refine sx_move _ vf ?_) | ((with_reducible refine at_bin ?_); first | refine sx_lss rfl rfl ?_ | refine sx_gtr rfl rfl ?_ | refine sx_add rfl rfl bnd ?_) | ((with_reducible refine at_assign ?_); refine sx_assign _ vf ?_) | ((with_reducible refine at_load ?_); refine sx_loadE rfl pc gv ?_) | ((with_reducible refine at_stores ?_); first | refine sx_stval _ vf ?_ | (apply sx_store rfl rfl rfl rfl; (repeat (first | exact set_z rfl | apply set_succ)))) | refine sx_nilCheck rfl ?_ | refine sx_fieldAddr rfl ?_ | ((with_reducible refine at_pick ?_); refine sx_pickF (.bool _) rfl dec rfl ?_)) | refine sx_nil ?_ | ((with_reducible refine at_code ?_); first | refine cx_seq ?_ | refine cx_region ?_ | refine cx_skip ?_ | refine cx_block ?_ | (refine cx_cond rfl (fun h => ?_) (fun h => ?_) <;> (try simp only [decide_eq_true_eq, decide_eq_false_iff_not, Bool.and_eq_true, Bool.or_eq_true, Bool.and_eq_false_iff, Bool.or_eq_false_iff, Bool.not_eq_true', Bool.not_eq_false', Bool.not_true, Bool.not_false, Bool.true_or, Bool.or_true, Bool.false_or, Bool.or_false, Bool.and_true, Bool.true_and, Bool.false_and, Bool.and_false, reduceCtorEq, Classical.not_not, beq_self_eq_true, bne_self_eq_false, not_true_eq_false, not_false_eq_true, or_false, false_or, or_true, true_or, and_true, true_and, and_false, false_and, or_self, and_self] at h) <;> (try (exfalso; omega)))) | ((with_reducible refine at_exit ?_); first | refine qx_then ?_ | refine qx_in_normal ?_))
  all_goals try (exfalso; omega)
  refine cx_loop (fun mm fr L => ∃ (C' : Cn) (ck' : Nat) (less' m : Int), FF fr [(0, .pointer (some ⟨hb, 0, none⟩)), (1, .int .i64 k), (2, .int .i64 m), (6, .nilIface)] ∧ L = [[(hb, .cells [.int .i64 n, .int .i64 less', .int .i64 (all + many), .map (some r)].toArray 50 (0, 0))], [(r, kObj kvI (hM C') ck')]] ∧ mm = m.toNat ∧ 0 ≤ m ∧ m ≤ many ∧ HvS n C' ck' less' (all + (many - m)) key (if k = key then mine + (many - m) else mine)) many.toNat ?_ ?_
  · refine ⟨C, ck, less, many, ffr, rfl, rfl, by omega, Int.le_refl _, ?_⟩
    rw [Int.sub_self, Int.add_zero, Int.add_zero, ite_self]
    exact hS
  clear hS hbd hls
  rintro mm fr L ⟨C, ck, less', m, hF, rfl, rfl, hm0, hmm, hS⟩ K hK
  refine cx_use hF fun g => ?_
  clear hF
  obtain ⟨hbd, hls, _⟩ := hS.bd
  by_cases h0 : m = 0
  · subst h0
    repeat' (first | ((with_reducible refine at_op ?_); first | ((with_reducible refine at_move ?_); refine sx_move _ vf ?_) | ((with_reducible refine at_bin ?_); refine sx_gtr rfl rfl ?_) | ((with_reducible refine at_assign ?_); refine sx_assign _ vf ?_)) | refine sx_nil ?_ | ((with_reducible refine at_code ?_); first | refine cx_seq ?_ | refine cx_region ?_ | refine cx_ret ?_ | refine cx_exit ?_ | refine cx_false rfl ?_) | ((with_reducible refine at_exit ?_); first | refine qx_then ?_ | refine qx_in_here ?_ | refine qx_then_exit ?_))
    all_goals try (exfalso; omega)
    all_goals exact qx_ret1 (v := .nilIface) [hvC n less' (all + many) hb r ck C] rfl rfl (.inr (.inr ⟨by omega, by omega, rfl, less', C, ck, rfl, hS.to (by omega) (by rw [Int.sub_zero])⟩)) (fun w hm => hm.perm (.refl _))
  obtain ⟨lk, hlk⟩ : ∃ lk, lkK (hM C) k = lk := ⟨_, rfl⟩
  cases lk with
  | some ju =>
    obtain ⟨j, u⟩ := ju
    obtain ⟨x, hx1, hx2, hx3, hx4, hS2⟩ := hS.set (v := m) hlk (by omega) (by omega)
    have hxb := hbd x (List.mem_of_getElem? hx1)
    have hlv : ((lkK (hM C) k).map (·.2)).getD (.int .i64 0) = .int .i64 x.2.1 := hM_lk.trans (congrArg _ hx3)
    repeat' (first | (refine sx_lookKC (kv := kvI) (k := k) 1 rfl rfl rfl hlv (b := true) (by simp [hlk]) ?_) | (refine sx_lookK (kv := kvI) (k := k) 1 rfl rfl rfl hlv ?_) | ((with_reducible refine at_reg 8 ?_); refine cx_held2 dk ?_) | (refine sx_mem ?_ (fun w hm => rot1.mem hm); refine sx_putYK (kv := kvI) (k := k) (v := .int .i64 (x.2.1 + m)) rfl rfl rfl hlk hx2 ?_) | ((with_reducible refine at_held ?_); first | (refine ah_pk tk (fun hT => ?_); first | (refine ah_pure _ (o := ⟨_, _, _, _, _, _⟩) hT rfl rfl rfl rfl rfl ?_; apply Exists.intro; refine And.intro ?_ ?_) | refine ah_nil _ hT rfl rfl ?_ | refine ah_skip _ (o := ⟨_, _, _, _, _, _⟩) hT rfl rfl rfl rfl rfl rfl ras ?_ | (refine ah_pureW _ (o := ⟨_, _, _, _, _, _⟩) hT rfl rfl rfl rfl rfl rfl rfl rfl ras ?_; apply Exists.intro; refine And.intro ?_ ?_)) | refine ah_over2 dk ?_) | ((with_reducible refine at_op ?_); first | ((with_reducible refine at_move ?_); refine sx_move _ vf ?_) | ((with_reducible refine at_bin ?_); first | refine sx_gtr rfl rfl ?_ | refine sx_add rfl rfl bnd ?_) | ((with_reducible refine at_assign ?_); refine sx_assign _ vf ?_) | ((with_reducible refine at_load ?_); refine sx_loadE rfl pc gv ?_) | refine sx_nilCheck rfl ?_ | refine sx_fieldAddr rfl ?_ | refine sx_extract rfl rfl ?_ | ((with_reducible refine at_pick ?_); refine sx_pickT (.bool _) rfl dec rfl ?_)) | refine sx_nil ?_ | ((with_reducible refine at_code ?_); first | refine cx_seq ?_ | refine cx_region ?_ | refine cx_skip ?_ | refine cx_ret ?_ | refine cx_exit ?_ | refine cx_block ?_ | refine cx_true rfl ?_ | (refine cx_cond rfl (fun h => ?_) (fun h => ?_) <;> (try simp only [decide_eq_true_eq, decide_eq_false_iff_not, Bool.and_eq_true, Bool.or_eq_true, Bool.and_eq_false_iff, Bool.or_eq_false_iff, Bool.not_eq_true', Bool.not_eq_false', Bool.not_true, Bool.not_false, Bool.true_or, Bool.or_true, Bool.false_or, Bool.or_false, Bool.and_true, Bool.true_and, Bool.false_and, Bool.and_false, reduceCtorEq, Classical.not_not, beq_self_eq_true, bne_self_eq_false, not_true_eq_false, not_false_eq_true, or_false, false_or, or_true, true_or, and_true, true_and, and_false, false_and, or_self, and_self] at h) <;> (try (exfalso; omega)))) | ((with_reducible refine at_exit ?_); first | refine qx_then ?_ | exact qx_isF | refine qx_in_here ?_ | refine qx_in_out rfl ?_ | refine qx_then_exit ?_))
    all_goals try (exfalso; omega)
    all_goals
      rw [hx4]
      exact qx_ret1 (v := .nilIface) [hvC n less' (all + many) hb r ck (C.set j (k, x.2.1 + m, x.2.2))] rfl rfl (.inr (.inr ⟨by omega, by omega, rfl, less', _, ck, rfl, hS2.to (by omega) (by split <;> omega)⟩)) (fun w hm => (hm.picks [1, 0]).perm (.refl _))
  | none =>
    have hlv : ((lkK (hM C) k).map (·.2)).getD (.int .i64 0) = .int .i64 0 := by rw [hlk]; rfl
    have hcl : (hM C).length = C.length := List.length_map _
    by_cases hroom : C.length < n
    · obtain ⟨hx4, hS2⟩ := hS.snoc (v := m) hlk hroom (by omega) (by omega)
      repeat' (first | ((with_reducible refine at_held ?_); first | (refine ah_not 3 rfl ?_; refine ah_at 3 dk (fun hT => ?_); refine ah_nilW 3 hT rfl rfl rfl rfl ras rfl ?_) | (refine ah_not 8 rfl ?_; refine ah_at 8 dk (fun hT => ?_); refine ah_nilW 8 hT rfl rfl rfl rfl ras rfl ?_)) | ((with_reducible refine at_held ?_); first | (refine ah_not 0 rfl ?_; refine ah_isp 0 rfl ?_; refine ah_at 0 dk (fun hT => ?_); first | (refine ah_pure 0 (o := ⟨_, _, _, _, _, _⟩) hT rfl rfl rfl rfl rfl ?_; apply Exists.intro; refine And.intro ?_ ?_) | refine ah_nil 0 hT rfl rfl ?_ | refine ah_skip 0 (o := ⟨_, _, _, _, _, _⟩) hT rfl rfl rfl rfl rfl rfl ras ?_ | (refine ah_pureW 0 (o := ⟨_, _, _, _, _, _⟩) hT rfl rfl rfl rfl rfl rfl rfl rfl ras ?_; apply Exists.intro; refine And.intro ?_ ?_)) | (refine ah_not 1 rfl ?_; refine ah_isp 1 rfl ?_; refine ah_at 1 dk (fun hT => ?_); first | (refine ah_pure 1 (o := ⟨_, _, _, _, _, _⟩) hT rfl rfl rfl rfl rfl ?_; apply Exists.intro; refine And.intro ?_ ?_) | refine ah_nil 1 hT rfl rfl ?_ | refine ah_skip 1 (o := ⟨_, _, _, _, _, _⟩) hT rfl rfl rfl rfl rfl rfl ras ?_ | (refine ah_pureW 1 (o := ⟨_, _, _, _, _, _⟩) hT rfl rfl rfl rfl rfl rfl rfl rfl ras ?_; apply Exists.intro; refine And.intro ?_ ?_)) | (refine ah_not 2 rfl ?_; refine ah_isp 2 rfl ?_; refine ah_at 2 dk (fun hT => ?_); first | (refine ah_pure 2 (o := ⟨_, _, _, _, _, _⟩) hT rfl rfl rfl rfl rfl ?_; apply Exists.intro; refine And.intro ?_ ?_) | refine ah_nil 2 hT rfl rfl ?_ | refine ah_skip 2 (o := ⟨_, _, _, _, _, _⟩) hT rfl rfl rfl rfl rfl rfl ras ?_ | (refine ah_pureW 2 (o := ⟨_, _, _, _, _, _⟩) hT rfl rfl rfl rfl rfl rfl rfl rfl ras ?_; apply Exists.intro; refine And.intro ?_ ?_)) | (refine ah_not 4 rfl ?_; refine ah_isp 4 rfl ?_; refine ah_at 4 dk (fun hT => ?_); first | (refine ah_pure 4 (o := ⟨_, _, _, _, _, _⟩) hT rfl rfl rfl rfl rfl ?_; apply Exists.intro; refine And.intro ?_ ?_) | refine ah_nil 4 hT rfl rfl ?_ | refine ah_skip 4 (o := ⟨_, _, _, _, _, _⟩) hT rfl rfl rfl rfl rfl rfl ras ?_ | (refine ah_pureW 4 (o := ⟨_, _, _, _, _, _⟩) hT rfl rfl rfl rfl rfl rfl rfl rfl ras ?_; apply Exists.intro; refine And.intro ?_ ?_)) | (refine ah_not 5 rfl ?_; refine ah_isp 5 rfl ?_; refine ah_at 5 dk (fun hT => ?_); first | (refine ah_pure 5 (o := ⟨_, _, _, _, _, _⟩) hT rfl rfl rfl rfl rfl ?_; apply Exists.intro; refine And.intro ?_ ?_) | refine ah_nil 5 hT rfl rfl ?_ | refine ah_skip 5 (o := ⟨_, _, _, _, _, _⟩) hT rfl rfl rfl rfl rfl rfl ras ?_ | (refine ah_pureW 5 (o := ⟨_, _, _, _, _, _⟩) hT rfl rfl rfl rfl rfl rfl rfl rfl ras ?_; apply Exists.intro; refine And.intro ?_ ?_)) | (refine ah_not 11 rfl ?_; refine ah_isp 11 rfl ?_; refine ah_at 11 dk (fun hT => ?_); first | (refine ah_pure 11 (o := ⟨_, _, _, _, _, _⟩) hT rfl rfl rfl rfl rfl ?_; apply Exists.intro; refine And.intro ?_ ?_) | refine ah_nil 11 hT rfl rfl ?_ | refine ah_skip 11 (o := ⟨_, _, _, _, _, _⟩) hT rfl rfl rfl rfl rfl rfl ras ?_ | (refine ah_pureW 11 (o := ⟨_, _, _, _, _, _⟩) hT rfl rfl rfl rfl rfl rfl rfl rfl ras ?_; apply Exists.intro; refine And.intro ?_ ?_)) | (refine ah_not 12 rfl ?_; refine ah_isp 12 rfl ?_; refine ah_at 12 dk (fun hT => ?_); first | (refine ah_pure 12 (o := ⟨_, _, _, _, _, _⟩) hT rfl rfl rfl rfl rfl ?_; apply Exists.intro; refine And.intro ?_ ?_) | refine ah_nil 12 hT rfl rfl ?_ | refine ah_skip 12 (o := ⟨_, _, _, _, _, _⟩) hT rfl rfl rfl rfl rfl rfl ras ?_ | (refine ah_pureW 12 (o := ⟨_, _, _, _, _, _⟩) hT rfl rfl rfl rfl rfl rfl rfl rfl ras ?_; apply Exists.intro; refine And.intro ?_ ?_)) | (refine ah_not 6 rfl ?_; refine ah_not 7 rfl ?_; refine ah_both 6 7 (o := ⟨_, _, _, _, _, _⟩) (o' := ⟨_, _, _, _, _, _⟩) dk rfl rfl ?_ ?_) | (refine ah_not 6 rfl ?_; refine ah_lone 6 (o := ⟨_, _, _, _, _, _⟩) dk rfl ?_) | (refine ah_not 7 rfl ?_; refine ah_lone 7 (o := ⟨_, _, _, _, _, _⟩) dk rfl ?_) | (refine ah_not 6 rfl ?_; refine ah_not 9 rfl ?_; refine ah_both 6 9 (o := ⟨_, _, _, _, _, _⟩) (o' := ⟨_, _, _, _, _, _⟩) dk rfl rfl ?_ ?_) | (refine ah_not 9 rfl ?_; refine ah_lone 9 (o := ⟨_, _, _, _, _, _⟩) dk rfl ?_) | (refine ah_not 6 rfl ?_; refine ah_not 10 rfl ?_; refine ah_both 6 10 (o := ⟨_, _, _, _, _, _⟩) (o' := ⟨_, _, _, _, _, _⟩) dk rfl rfl ?_ ?_) | (refine ah_not 10 rfl ?_; refine ah_lone 10 (o := ⟨_, _, _, _, _, _⟩) dk rfl ?_) | refine ah_over2 dk ?_) | (refine sx_lookKC (kv := kvI) (k := k) 1 rfl rfl rfl hlv (b := false) (by simp [hlk]) ?_) | (refine sx_lookK (kv := kvI) (k := k) 1 rfl rfl rfl hlv ?_) | ((with_reducible refine at_reg 8 ?_); refine cx_held2 dk ?_) | (refine sx_lenK (kv := kvI) 1 rfl rfl ?_) | (refine sx_mem ?_ (fun w hm => rot1.mem hm); refine sx_putK (kv := kvI) (k := k) (v := .int .i64 (0 + m)) rfl rfl rfl hlk ?_) | ((with_reducible refine at_exit ?_); refine qx_held (fun w hm => hm) ?_) | ((with_reducible refine at_op ?_); first | ((with_reducible refine at_guard ?_); refine sx_want rfl rfl rfl ras ?_) | ((with_reducible refine at_move ?_); refine sx_move _ vf ?_) | ((with_reducible refine at_bin ?_); first | refine sx_lss rfl rfl ?_ | refine sx_gtr rfl rfl ?_ | refine sx_add rfl rfl bnd ?_) | ((with_reducible refine at_assign ?_); refine sx_assign _ vf ?_) | ((with_reducible refine at_load ?_); refine sx_loadE rfl pc gv ?_) | refine sx_nilCheck rfl ?_ | refine sx_fieldAddr rfl ?_ | refine sx_extract rfl rfl ?_ | ((with_reducible refine at_pick ?_); refine sx_pickF (.bool _) rfl dec rfl ?_)) | refine sx_nil ?_ | ((with_reducible refine at_code ?_); first | refine cx_seq ?_ | refine cx_region ?_ | refine cx_skip ?_ | refine cx_ret ?_ | refine cx_exit ?_ | refine cx_block ?_ | (refine cx_cond rfl (fun h => ?_) (fun h => ?_) <;> (try simp only [decide_eq_true_eq, decide_eq_false_iff_not, Bool.and_eq_true, Bool.or_eq_true, Bool.and_eq_false_iff, Bool.or_eq_false_iff, Bool.not_eq_true', Bool.not_eq_false', Bool.not_true, Bool.not_false, Bool.true_or, Bool.or_true, Bool.false_or, Bool.or_false, Bool.and_true, Bool.true_and, Bool.false_and, Bool.and_false, reduceCtorEq, Classical.not_not, beq_self_eq_true, bne_self_eq_false, not_true_eq_false, not_false_eq_true, or_false, false_or, or_true, true_or, and_true, true_and, and_false, false_and, or_self, and_self] at h) <;> (try (exfalso; omega)))) | ((with_reducible refine at_exit ?_); first | refine qx_then ?_ | exact qx_isF | refine qx_in_here ?_ | refine qx_in_out rfl ?_ | refine qx_then_exit ?_))
      all_goals try (exfalso; omega)
      all_goals
        have e0 : (0 : Int) + m = m := Int.zero_add m
        rw [e0, hx4]
        exact qx_ret1 (v := .nilIface) [hvC n less' (all + many) hb r (ck + 1) (C ++ [(k, m, ck)])] rfl rfl (.inr (.inr ⟨by omega, by omega, rfl, less', _, ck + 1, rfl, hS2.to (by omega) (by split <;> omega)⟩)) (fun w hm => (hm.picks [1, 0]).perm (.refl _))
    · have hlen : C.length = n := by have := hS.len; omega
      repeat' (first | (with_reducible refine stop_rs 11 ?_) | ((with_reducible refine at_held ?_); first | (refine ah_not 3 rfl ?_; refine ah_at 3 dk (fun hT => ?_); refine ah_nilW 3 hT rfl rfl rfl rfl ras rfl ?_) | (refine ah_not 8 rfl ?_; refine ah_at 8 dk (fun hT => ?_); refine ah_nilW 8 hT rfl rfl rfl rfl ras rfl ?_)) | ((with_reducible refine at_held ?_); first | (refine ah_not 0 rfl ?_; refine ah_isp 0 rfl ?_; refine ah_at 0 dk (fun hT => ?_); first | (refine ah_pure 0 (o := ⟨_, _, _, _, _, _⟩) hT rfl rfl rfl rfl rfl ?_; apply Exists.intro; refine And.intro ?_ ?_) | refine ah_nil 0 hT rfl rfl ?_ | refine ah_skip 0 (o := ⟨_, _, _, _, _, _⟩) hT rfl rfl rfl rfl rfl rfl ras ?_ | (refine ah_pureW 0 (o := ⟨_, _, _, _, _, _⟩) hT rfl rfl rfl rfl rfl rfl rfl rfl ras ?_; apply Exists.intro; refine And.intro ?_ ?_)) | (refine ah_not 1 rfl ?_; refine ah_isp 1 rfl ?_; refine ah_at 1 dk (fun hT => ?_); first | (refine ah_pure 1 (o := ⟨_, _, _, _, _, _⟩) hT rfl rfl rfl rfl rfl ?_; apply Exists.intro; refine And.intro ?_ ?_) | refine ah_nil 1 hT rfl rfl ?_ | refine ah_skip 1 (o := ⟨_, _, _, _, _, _⟩) hT rfl rfl rfl rfl rfl rfl ras ?_ | (refine ah_pureW 1 (o := ⟨_, _, _, _, _, _⟩) hT rfl rfl rfl rfl rfl rfl rfl rfl ras ?_; apply Exists.intro; refine And.intro ?_ ?_)) | (refine ah_not 2 rfl ?_; refine ah_isp 2 rfl ?_; refine ah_at 2 dk (fun hT => ?_); first | (refine ah_pure 2 (o := ⟨_, _, _, _, _, _⟩) hT rfl rfl rfl rfl rfl ?_; apply Exists.intro; refine And.intro ?_ ?_) | refine ah_nil 2 hT rfl rfl ?_ | refine ah_skip 2 (o := ⟨_, _, _, _, _, _⟩) hT rfl rfl rfl rfl rfl rfl ras ?_ | (refine ah_pureW 2 (o := ⟨_, _, _, _, _, _⟩) hT rfl rfl rfl rfl rfl rfl rfl rfl ras ?_; apply Exists.intro; refine And.intro ?_ ?_)) | (refine ah_not 4 rfl ?_; refine ah_isp 4 rfl ?_; refine ah_at 4 dk (fun hT => ?_); first | (refine ah_pure 4 (o := ⟨_, _, _, _, _, _⟩) hT rfl rfl rfl rfl rfl ?_; apply Exists.intro; refine And.intro ?_ ?_) | refine ah_nil 4 hT rfl rfl ?_ | refine ah_skip 4 (o := ⟨_, _, _, _, _, _⟩) hT rfl rfl rfl rfl rfl rfl ras ?_ | (refine ah_pureW 4 (o := ⟨_, _, _, _, _, _⟩) hT rfl rfl rfl rfl rfl rfl rfl rfl ras ?_; apply Exists.intro; refine And.intro ?_ ?_)) | (refine ah_not 5 rfl ?_; refine ah_isp 5 rfl ?_; refine ah_at 5 dk (fun hT => ?_); first | (refine ah_pure 5 (o := ⟨_, _, _, _, _, _⟩) hT rfl rfl rfl rfl rfl ?_; apply Exists.intro; refine And.intro ?_ ?_) | refine ah_nil 5 hT rfl rfl ?_ | refine ah_skip 5 (o := ⟨_, _, _, _, _, _⟩) hT rfl rfl rfl rfl rfl rfl ras ?_ | (refine ah_pureW 5 (o := ⟨_, _, _, _, _, _⟩) hT rfl rfl rfl rfl rfl rfl rfl rfl ras ?_; apply Exists.intro; refine And.intro ?_ ?_)) | (refine ah_not 11 rfl ?_; refine ah_isp 11 rfl ?_; refine ah_at 11 dk (fun hT => ?_); first | (refine ah_pure 11 (o := ⟨_, _, _, _, _, _⟩) hT rfl rfl rfl rfl rfl ?_; apply Exists.intro; refine And.intro ?_ ?_) | refine ah_nil 11 hT rfl rfl ?_ | refine ah_skip 11 (o := ⟨_, _, _, _, _, _⟩) hT rfl rfl rfl rfl rfl rfl ras ?_ | (refine ah_pureW 11 (o := ⟨_, _, _, _, _, _⟩) hT rfl rfl rfl rfl rfl rfl rfl rfl ras ?_; apply Exists.intro; refine And.intro ?_ ?_)) | (refine ah_not 12 rfl ?_; refine ah_isp 12 rfl ?_; refine ah_at 12 dk (fun hT => ?_); first | (refine ah_pure 12 (o := ⟨_, _, _, _, _, _⟩) hT rfl rfl rfl rfl rfl ?_; apply Exists.intro; refine And.intro ?_ ?_) | refine ah_nil 12 hT rfl rfl ?_ | refine ah_skip 12 (o := ⟨_, _, _, _, _, _⟩) hT rfl rfl rfl rfl rfl rfl ras ?_ | (refine ah_pureW 12 (o := ⟨_, _, _, _, _, _⟩) hT rfl rfl rfl rfl rfl rfl rfl rfl ras ?_; apply Exists.intro; refine And.intro ?_ ?_)) | (refine ah_not 6 rfl ?_; refine ah_not 7 rfl ?_; refine ah_both 6 7 (o := ⟨_, _, _, _, _, _⟩) (o' := ⟨_, _, _, _, _, _⟩) dk rfl rfl ?_ ?_) | (refine ah_not 6 rfl ?_; refine ah_lone 6 (o := ⟨_, _, _, _, _, _⟩) dk rfl ?_) | (refine ah_not 7 rfl ?_; refine ah_lone 7 (o := ⟨_, _, _, _, _, _⟩) dk rfl ?_) | (refine ah_not 6 rfl ?_; refine ah_not 9 rfl ?_; refine ah_both 6 9 (o := ⟨_, _, _, _, _, _⟩) (o' := ⟨_, _, _, _, _, _⟩) dk rfl rfl ?_ ?_) | (refine ah_not 9 rfl ?_; refine ah_lone 9 (o := ⟨_, _, _, _, _, _⟩) dk rfl ?_) | (refine ah_not 6 rfl ?_; refine ah_not 10 rfl ?_; refine ah_both 6 10 (o := ⟨_, _, _, _, _, _⟩) (o' := ⟨_, _, _, _, _, _⟩) dk rfl rfl ?_ ?_) | (refine ah_not 10 rfl ?_; refine ah_lone 10 (o := ⟨_, _, _, _, _, _⟩) dk rfl ?_) | refine ah_over2 dk ?_) | (refine sx_lookKC (kv := kvI) (k := k) 1 rfl rfl rfl hlv (b := false) (by simp [hlk]) ?_) | ((with_reducible refine at_reg 8 ?_); refine cx_held2 dk ?_) | (refine sx_lenK (kv := kvI) 1 rfl rfl ?_) | ((with_reducible refine at_call 19 ?_); refine sx_call0 (fun w hm => vals_make r _) ?_; rintro _ _ ⟨bb, T, fr', rfl, rfl⟩; refine sx_app1 ?_) | ((with_reducible refine at_call 18 ?_); refine sx_call0 (fun w hm => vals_collect hS.ok (by omega) (hm.blk 0 rfl) (hm.blk 2 rfl)) ?_; rintro _ _ ⟨es, Ae, cape, ce, hp, rfl, rfl, hoe⟩; have hlp := hp.length_eq; rw [cnV_ints] at hoe; refine sx_app1 ?_) | ((with_reducible refine at_call 17 ?_); refine sx_callv (fun w hm => min_ints (hoe.sees (hm.at 0 rfl)).1 (List.length_map _).symm (by omega) (by omega)) ?_ rfl) | ((with_reducible refine at_exit ?_); refine qx_held (fun w hm => hm) ?_) | ((with_reducible refine at_op ?_); first | ((with_reducible refine at_guard ?_); refine sx_want rfl rfl rfl ras ?_) | ((with_reducible refine at_move ?_); refine sx_move _ vf ?_) | ((with_reducible refine at_bin ?_); first | refine sx_lss rfl rfl ?_ | refine sx_gtr rfl rfl ?_) | ((with_reducible refine at_assign ?_); refine sx_assign _ vf ?_) | ((with_reducible refine at_load ?_); refine sx_loadE rfl pc gv ?_) | refine sx_nilCheck rfl ?_ | refine sx_fieldAddr rfl ?_ | refine sx_extract rfl rfl ?_ | ((with_reducible refine at_pick ?_); refine sx_pickF (.bool _) rfl dec rfl ?_) | refine sx_min rfl rfl ?_) | refine sx_nil ?_ | ((with_reducible refine at_code ?_); first | refine cx_seq ?_ | refine cx_region ?_ | refine cx_skip ?_ | refine cx_block ?_ | (refine cx_cond rfl (fun h => ?_) (fun h => ?_) <;> (try simp only [decide_eq_true_eq, decide_eq_false_iff_not, Bool.and_eq_true, Bool.or_eq_true, Bool.and_eq_false_iff, Bool.or_eq_false_iff, Bool.not_eq_true', Bool.not_eq_false', Bool.not_true, Bool.not_false, Bool.true_or, Bool.or_true, Bool.false_or, Bool.or_false, Bool.and_true, Bool.true_and, Bool.false_and, Bool.and_false, reduceCtorEq, Classical.not_not, beq_self_eq_true, bne_self_eq_false, not_true_eq_false, not_false_eq_true, or_false, false_or, or_true, true_or, and_true, true_and, and_false, false_and, or_self, and_self] at h) <;> (try (exfalso; omega)))) | ((with_reducible refine at_exit ?_); first | refine qx_then ?_ | exact qx_isF))
      all_goals try (exfalso; omega)
      all_goals
        refine halt_go ?_
        obtain ⟨hq1, hq2⟩ := minOf_le (es.map (fun e : Int × Int × Nat => e.2.1))
        have hq3 := hq2 (fun e => by rw [List.map_eq_nil_iff] at e; rw [e] at hlp; simp at hlp; omega)
        obtain ⟨mn, hmn⟩ : ∃ mn, mn = Lib.minOf (es.map (fun e : Int × Int × Nat => e.2.1)) := ⟨_, rfl⟩
        rw [← hmn] at hq1 hq3 ⊢
        obtain ⟨ex, hex1, hex2⟩ := List.mem_map.1 hq3
        have hexb := hbd ex (hp.mem_iff.1 hex1)
        obtain ⟨q, hq⟩ : ∃ q, q = min m mn := ⟨_, rfl⟩
        rw [← hq]
        have hqb : 1 ≤ q ∧ q ≤ m ∧ q ≤ 1099511627776 := by omega
        have hle : ∀ e ∈ C, q ≤ e.2.1 := fun e he => by
          have := hq1 e.2.1 (List.mem_map_of_mem (f := fun e : Int × Int × Nat => e.2.1) (hp.mem_iff.2 he))
          omega
        have hS2 := hS.take hlk hlen (by omega) hle (by omega)
        refine cx_mem (L' := [hvC n less' (all + many) hb r ck C]) ?_ (fun w hm => (hm.picks [2, 2]).perm (.refl _))
        repeat' (first | ((with_reducible refine at_call 20 ?_); (first | (refine sx_rot rot0 ?_; refine sx_call (fun w hm => heavy_take hS.ok (fun e he => by have := hbd e he; omega) (by omega) (by omega) rfl hm.self) ?_) | (refine sx_rot rot1 ?_; refine sx_call (fun w hm => heavy_take hS.ok (fun e he => by have := hbd e he; omega) (by omega) (by omega) rfl hm.self) ?_) | (refine sx_rot rot2 ?_; refine sx_call (fun w hm => heavy_take hS.ok (fun e he => by have := hbd e he; omega) (by omega) (by omega) rfl hm.self) ?_) | (refine sx_rot rot3 ?_; refine sx_call (fun w hm => heavy_take hS.ok (fun e he => by have := hbd e he; omega) (by omega) (by omega) rfl hm.self) ?_) | (refine sx_rot rot4 ?_; refine sx_call (fun w hm => heavy_take hS.ok (fun e he => by have := hbd e he; omega) (by omega) (by omega) rfl hm.self) ?_) | (refine sx_rot rot5 ?_; refine sx_call (fun w hm => heavy_take hS.ok (fun e he => by have := hbd e he; omega) (by omega) (by omega) rfl hm.self) ?_)); rintro _ _ ⟨rfl, rfl⟩; refine sx_app1 ?_) | ((with_reducible refine at_op ?_); first | ((with_reducible refine at_move ?_); refine sx_move _ vf ?_) | ((with_reducible refine at_bin ?_); refine sx_sub rfl rfl bnd ?_) | ((with_reducible refine at_assign ?_); refine sx_assign _ vf ?_)) | refine sx_nil ?_ | ((with_reducible refine at_code ?_); first | refine cx_seq ?_ | refine cx_region ?_) | ((with_reducible refine at_exit ?_); first | refine qx_then ?_ | refine qx_in_normal ?_))
        refine qx_mem (L' := [[(hb, .cells [.int .i64 n, .int .i64 (less' + q), .int .i64 (all + many), .map (some r)].toArray 50 (0, 0))], [(r, kObj kvI (hM (takeC q C)) ck)]]) ?_ (fun w hm => hm.perm (.refl _))
        exact hK _ _ _ _ (by omega) ⟨takeC q C, ck, less' + q, m - q, ffr, rfl, rfl, by omega, by omega, hS2.to (by omega) (by split <;> omega)⟩
end Go.Proofs.YtaofimndclgpdaaDoor
