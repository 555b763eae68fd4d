/- table: Offer. -/
import Derived.Test.YtghnjmjdaggopaaGreatDoorTabA
import Derived.Test.YtghnjmjdaggopaaGreatDoorTabY
import Derived.Test.YtghnjmjdaggopaaGreatDoorTrackF
set_option linter.unusedSimpArgs false
set_option linter.unusedVariables false
set_option maxRecDepth 100000
namespace Go.Port
open Go.RowKit
theorem settle_key (x : Fl) : x.settle.key = x.key := by
  unfold Fl.settle
  split
  · rfl
  split
  · rfl
  split <;> rfl
theorem stream0_key {x z : Fl} {q a wn y : Int} {n : Nat} (h : streamS0 x q a wn y n = some z) : z.key = x.key := by
  unfold streamS0 at h
  repeat' (split at h)
  all_goals (try cases h)
  all_goals first | rfl | exact settle_key _
theorem stream1_key {x z : Fl} {q a wn y : Int} {n : Nat} (h : streamS1 x q a wn y n = some z) : z.key = x.key := by
  unfold streamS1 at h
  repeat' (split at h)
  all_goals (try cases h)
  all_goals first | rfl | exact settle_key _
end Go.Port
namespace Go.Proofs.YtghnjmjdaggopaaGreatDoor
open Go.RowKit Go.Port
attribute [local irreducible] Calls
theorem goOn_key {x z : Fl} {q a wn y side : Int} {n : Nat} (h : goOn x q a wn y n side = some z) : z.key = x.key := by
  unfold goOn at h
  split at h
  · split at h
    · exact stream0_key h
    · exact stream1_key h
  · split at h <;> cases h <;> rfl
theorem stepR_key {x z : Fl} {sf sto q a wn y side now : Int} {n : Nat} (h : stepR x sf sto q a wn y n side now = (0, z)) : z.key = x.key := by
  unfold stepR at h
  split at h
  · exact absurd (Prod.mk.inj h).1 (by decide)
  split at h
  · rename_i hc
    exact absurd (Prod.mk.inj h).1 hc
  split at h
  · exact absurd (Prod.mk.inj h).1 (by decide)
  split at h
  · rename_i hc
    exact absurd (Prod.mk.inj h).1 hc
  split at h
  · exact absurd (Prod.mk.inj h).1 (by decide)
  split at h
  · exact absurd (Prod.mk.inj h).1 (by decide)
  split at h
  · exact absurd (Prod.mk.inj h).1 (by decide)
  · rename_i z' hz
    rw [← (Prod.mk.inj h).2]
    exact (goOn_key hz : z'.key = x.key)
theorem beginR_key {k s f d t sf sto q a wn y rule now : Int} {n : Nat} {z : Fl} (h : beginR k s f d t sf sto q a wn y n rule now = (0, z)) : z.key = ⟨k, s, f, d, t⟩ := by
  unfold beginR at h
  split at h
  · exact absurd (Prod.mk.inj h).1 (by decide)
  split at h
  · rename_i hc
    exact absurd (Prod.mk.inj h).1 hc
  split at h
  · exact absurd (Prod.mk.inj h).1 (by decide)
  split at h
  · exact absurd (Prod.mk.inj h).1 (by decide)
  · rw [← (Prod.mk.inj h).2]
    rfl
/-- What the map holds of a key, as the row that is not over tells it. -/
theorem find_yes {max now : Int} {C : Tb} {ck : Nat} {A : List Fl} {κ : K5} {z : Fl} (hT : TRel max C ck A) (hf : findF κ (stayL now A) = some z) : lkG C κ.first = some z ∧ now < z.un ∧ z.fk = κ.first := by
  obtain ⟨i, hi, hk, _⟩ := findF_some hf
  obtain ⟨h1, h2⟩ := List.mem_filter.1 (List.mem_of_getElem? hi)
  obtain ⟨x, _, _, _, h3⟩ := hT.look h1 hk
  exact ⟨h3, of_decide_eq_true h2, hk⟩
theorem find_no {max now : Int} {C : Tb} {ck : Nat} {A : List Fl} {κ : K5} (hT : TRel max C ck A) (hf : findF κ (stayL now A) = none) : ∀ z, lkG C κ.first = some z → z.un ≤ now := fun z hz => by
  obtain ⟨x, hx, h1, h2⟩ := lkG_some hz
  have hzA : z ∈ A := hT.perm.mem_iff.2 (by rw [← h2]; exact List.mem_map_of_mem (f := fun e : K5 × Fl × Nat => e.2.1) hx)
  have hzk : z.fk = κ.first := by rw [← h1, ← h2]; exact (hT.key x hx).symm
  apply Classical.byContradiction
  intro hn
  exact findF_none hf z (List.mem_filter.2 ⟨hzA, decide_eq_true (by omega)⟩) hzk
def OffT (max tnow now : Int) (tb r ck : Nat) (C : Tb) (A : List Fl) (oe : Int) (oz : Fl) (v : Value) (L : List Ch) : Prop :=
  (¬ oe = 0 ∧ v = .tuple #[.agg Fl.zero.row.toArray, er oe] ∧ L = [tbC max tnow tb r ck C]) ∨ (oe = 0 ∧ v = .tuple #[.agg oz.row.toArray, .nilIface] ∧ ∃ (ck' : Nat) (C' : Tb), L = [tbC max now tb r ck' C'] ∧ TRel max C' ck' (putL oz (stayL now A)))
set_option maxHeartbeats 8000000 in
/-- Who is over is forgotten, and the new one put in its place. -/
theorem toffer_15 {max tnow now k s f d t : Int} {tb r ck kb fb zb : Nat} {C : Tb} {A : List Fl} {z oz : Fl} {w : World} {D : List Nat} (g : Nat → Value) (hT : TRel max C ck A) (hlen : C.length ≤ 100) (ht : timE tnow now = 0) (hf : findF ⟨k, s, f, d, t⟩ (stayL now A) = some z) (hk : oz.key = z.key) :
    CX Tryz.prog w D 91 (bodyPost Tryz.prog Tryz.f11 (Ret w D (OffT max tnow now tb r ck C A 0 oz))) (tailOf 9 (Tryz.f11.body.getD .skip)) g [(0, .pointer (some ⟨tb, 0, none⟩)), (3, .int .i64 now), (5, .pointer (some ⟨kb, 0, none⟩)), (8, .pointer (some ⟨zb, 0, none⟩)), (11, .pointer (some ⟨fb, 0, none⟩))] [tbC max tnow tb r ck C, [(kb, .cells [.int .i64 k, .int .i64 s, .int .i64 f, .int .i64 d, .int .i64 t].toArray 37 (0, 0))], [(fb, .cells oz.row.toArray 45 (0, 0))], [(zb, .cells Fl.zero.row.toArray 45 (0, 0))]] := by
  conv => arg 6; whnf
  have htt := timE_ok ht
  obtain ⟨hlk, x, hx, hxk, hxz⟩ := look_yes (hT.tick now) hf
  obtain ⟨i, hi, hzk, _⟩ := findF_some hf
  obtain ⟨j, hj1, hj2, hj3, _⟩ := gM_some (val := fval) (hT.tick now).ok.keys hx
  have hset := (hT.tick now).set (f := oz) hj1 (by rw [hxk, ← hzk]; unfold Fl.fk; rw [hk])
  obtain ⟨kf, hkf⟩ : ∃ kf, K5.first ⟨k, s, f, d, t⟩ = kf := ⟨_, rfl⟩
  have hfirst := fun (w' : World) => seg_First k s f d t w'
  rw [hkf] at hfirst hxk
  rw [hxk] at hj2 hj3 hset
  repeat' (first | (with_reducible refine stop_rs 18 ?_) | ((with_reducible refine at_call 17 ?_); (first | (refine sx_rot rot0 ?_; refine sx_call (fun w hm => table_Tick now hT.ok hlen htt rfl hm.self) ?_) | (refine sx_rot rot1 ?_; refine sx_call (fun w hm => table_Tick now hT.ok hlen htt rfl hm.self) ?_) | (refine sx_rot rot2 ?_; refine sx_call (fun w hm => table_Tick now hT.ok hlen htt rfl hm.self) ?_) | (refine sx_rot rot3 ?_; refine sx_call (fun w hm => table_Tick now hT.ok hlen htt rfl hm.self) ?_) | (refine sx_rot rot4 ?_; refine sx_call (fun w hm => table_Tick now hT.ok hlen htt rfl hm.self) ?_) | (refine sx_rot rot5 ?_; refine sx_call (fun w hm => table_Tick now hT.ok hlen htt rfl hm.self) ?_)); rintro _ _ ⟨gs, Ag, cg, cgs, rfl, rfl, _, _, _⟩; refine sx_app2 ?_) | ((with_reducible refine at_op ?_); first | ((with_reducible refine at_move ?_); refine sx_move _ vf ?_) | ((with_reducible refine at_bin ?_); refine sx_errn_ne rfl ?_) | ((with_reducible refine at_assign ?_); refine sx_assign _ vf ?_) | refine sx_extract rfl rfl ?_) | refine sx_nil ?_ | ((with_reducible refine at_code ?_); first | refine cx_seq ?_ | refine cx_region ?_ | refine cx_skip ?_ | refine cx_false rfl ?_) | ((with_reducible refine at_exit ?_); refine qx_then ?_))
  all_goals try (exfalso; omega)
  refine halt_go ?_
  have hP2 : ∀ {w' : World}, Has w' [(tb, Obj.cells [.int .i64 max, .int .i64 now, .map (some r)].toArray 74 (0, 0)), (kb, Obj.cells [.int .i64 k, .int .i64 s, .int .i64 f, .int .i64 d, .int .i64 t].toArray 37 (0, 0)), (fb, Obj.cells oz.row.toArray 45 (0, 0))] → w'.cell? ⟨tb, 0 + 2, none⟩ = some (.map (some r)) := fun hh => cell_of_cells (cs := [.int .i64 max, .int .i64 now, .map (some r)]) (k := 2) (hh _ (List.Mem.head _)) rfl
  have hPk : ∀ {w' : World}, Has w' [(tb, Obj.cells [.int .i64 max, .int .i64 now, .map (some r)].toArray 74 (0, 0)), (kb, Obj.cells [.int .i64 k, .int .i64 s, .int .i64 f, .int .i64 d, .int .i64 t].toArray 37 (0, 0)), (fb, Obj.cells oz.row.toArray 45 (0, 0))] → ∀ j v, ([.int .i64 k, .int .i64 s, .int .i64 f, .int .i64 d, .int .i64 t] : List Value)[j]? = some v → w'.cell? ⟨kb, 0 + j, none⟩ = some v := fun hh j v hj => by
    rw [Nat.zero_add]
    exact cell_of_cells (hh _ (List.Mem.tail _ (List.Mem.head _))) hj
  have hPf : ∀ {w' : World}, Has w' [(tb, Obj.cells [.int .i64 max, .int .i64 now, .map (some r)].toArray 74 (0, 0)), (kb, Obj.cells [.int .i64 k, .int .i64 s, .int .i64 f, .int .i64 d, .int .i64 t].toArray 37 (0, 0)), (fb, Obj.cells oz.row.toArray 45 (0, 0))] → ∀ j v, oz.row[j]? = some v → w'.cell? ⟨fb, 0 + j, none⟩ = some v := fun hh j v hj => by
    rw [Nat.zero_add]
    exact cell_of_cells (hh _ (List.Mem.tail _ (List.Mem.tail _ (List.Mem.head _)))) hj
  refine cx_mem (L' := [[(tb, Obj.cells [.int .i64 max, .int .i64 now, .map (some r)].toArray 74 (0, 0)), (kb, Obj.cells [.int .i64 k, .int .i64 s, .int .i64 f, .int .i64 d, .int .i64 t].toArray 37 (0, 0)), (fb, Obj.cells oz.row.toArray 45 (0, 0))], [(r, kObj kv5 (gM fval (stayT now C)) ck)], [(zb, .cells Fl.zero.row.toArray 45 (0, 0))]]) ?_ (fun w hm => Mem.perm (L := [[(tb, Obj.cells [.int .i64 max, .int .i64 now, .map (some r)].toArray 74 (0, 0))], [(kb, Obj.cells [.int .i64 k, .int .i64 s, .int .i64 f, .int .i64 d, .int .i64 t].toArray 37 (0, 0))], [(fb, Obj.cells oz.row.toArray 45 (0, 0))], [(r, kObj kv5 (gM fval (stayT now C)) ck)], [(zb, Obj.cells Fl.zero.row.toArray 45 (0, 0))]]) (by exact (Mem.perm (L' := [[(tb, Obj.cells [.int .i64 max, .int .i64 now, .map (some r)].toArray 74 (0, 0))], [(r, kObj kv5 (gM fval (stayT now C)) ck)], cgs, [(kb, Obj.cells [.int .i64 k, .int .i64 s, .int .i64 f, .int .i64 d, .int .i64 t].toArray 37 (0, 0))], [(fb, Obj.cells oz.row.toArray 45 (0, 0))], [(zb, Obj.cells Fl.zero.row.toArray 45 (0, 0))]]) hm (.refl _)).picks [0, 2, 2, 0, 1]) (.refl _))
  repeat' (first | ((with_reducible refine at_reg 18 ?_); refine cx_heldA dk ?_) | ((with_reducible refine at_held ?_); first | (refine ah_not 0 rfl ?_; refine ah_isp 0 rfl ?_; refine ah_at 0 dk (fun hT => ?_); (refine ah_pure 0 (o := ⟨_, _, _, _, _, _⟩) hT rfl rfl rfl rfl rfl ?_; apply Exists.intro; refine And.intro ?_ ?_)) | (refine ah_not 1 rfl ?_; refine ah_isp 1 rfl ?_; refine ah_at 1 dk (fun hT => ?_); refine ah_nil 1 hT rfl rfl ?_) | (refine ah_not 2 rfl ?_; refine ah_isp 2 rfl ?_; refine ah_at 2 dk (fun hT => ?_); (refine ah_pure 2 (o := ⟨_, _, _, _, _, _⟩) hT rfl rfl rfl rfl rfl ?_; apply Exists.intro; refine And.intro ?_ ?_)) | (refine ah_not 3 rfl ?_; refine ah_isp 3 rfl ?_; refine ah_at 3 dk (fun hT => ?_); (refine ah_pure 3 (o := ⟨_, _, _, _, _, _⟩) hT rfl rfl rfl rfl rfl ?_; apply Exists.intro; refine And.intro ?_ ?_)) | (refine ah_not 4 rfl ?_; refine ah_isp 4 rfl ?_; refine ah_at 4 dk (fun hT => ?_); (refine ah_pure 4 (o := ⟨_, _, _, _, _, _⟩) hT rfl rfl rfl rfl rfl ?_; apply Exists.intro; refine And.intro ?_ ?_)) | (refine ah_not 6 rfl ?_; refine ah_isp 6 rfl ?_; refine ah_at 6 dk (fun hT => ?_); (refine ah_pure 6 (o := ⟨_, _, _, _, _, _⟩) hT rfl rfl rfl rfl rfl ?_; apply Exists.intro; refine And.intro ?_ ?_)) | (refine ah_not 5 rfl ?_; refine ah_lone 5 (o := ⟨_, _, _, _, _, _⟩) dk rfl ?_) | (refine ah_not 7 rfl ?_; refine ah_lone 7 (o := ⟨_, _, _, _, _, _⟩) dk rfl ?_) | refine ah_over1 dk ?_) | ((with_reducible refine at_call 32 ?_); refine sx_callv (fun w hm => hfirst _) ?_ rfl) | ((with_reducible refine at_load ?_); first | refine sx_loadM rfl (fun w hm => hP2 (hm.at 0 rfl)) ?_ | refine sx_loadMA (vs := [.int .i64 k, .int .i64 s, .int .i64 f, .int .i64 d, .int .i64 t]) rfl rfl (fun w hm => hPk (hm.at 0 rfl)) ?_ | refine sx_loadMA (vs := oz.row) rfl rfl (fun w hm => hPf (hm.at 0 rfl)) ?_) | ((with_reducible refine at_stores ?_); refine sx_rot rot2 ?_; refine sx_storeW (vs := oz.row) rfl rfl rfl rfl ?_) | (refine sx_mem ?_ (fun w hm => rot1.mem hm); refine sx_putYW (kv := kv5) (k := kf) (v := .agg oz.row.toArray) rfl rfl rfl hj2 hj3 ?_) | ((with_reducible refine at_exit ?_); first | refine qx_held (fun w hm => hm) ?_ | refine qx_held (fun w hm => held_mid1 hm) ?_) | ((with_reducible refine at_op ?_); first | ((with_reducible refine at_move ?_); refine sx_move _ vf ?_) | ((with_reducible refine at_assign ?_); refine sx_assign _ vf ?_) | ((with_reducible refine at_stores ?_); refine sx_stval _ vf ?_) | refine sx_fieldAddr rfl ?_) | refine sx_nil ?_ | ((with_reducible refine at_code ?_); first | refine cx_seq ?_ | refine cx_region ?_ | refine cx_ret ?_) | ((with_reducible refine at_exit ?_); first | refine qx_then ?_ | exact qx_isF))
  all_goals try (exfalso; omega)
  have hg : (gM fval (stayT now C)).set j (kf, Value.agg oz.row.toArray, x.2.2) = gM fval ((stayT now C).set j (kf, oz, x.2.2)) := gM_set (val := fval)
  rw [hg]
  exact qx_retD2 (x := .nilIface) 0 [tbC max now tb r ck ((stayT now C).set j (kf, oz, x.2.2))] rfl rfl rfl rfl rfl (.inr ⟨rfl, rfl, ck, _, rfl, hset⟩) (fun w hm => Mem.perm (L := [[(tb, Obj.cells [.int .i64 max, .int .i64 now, .map (some r)].toArray 74 (0, 0))], [(r, kObj kv5 (gM fval ((stayT now C).set j (kf, oz, x.2.2))) ck)]]) (by exact (Mem.perm (L' := [[(zb, Obj.cells oz.row.toArray 45 (0, 0))], [(tb, Obj.cells [.int .i64 max, .int .i64 now, .map (some r)].toArray 74 (0, 0))], [(kb, Obj.cells [.int .i64 k, .int .i64 s, .int .i64 f, .int .i64 d, .int .i64 t].toArray 37 (0, 0))], [(fb, Obj.cells oz.row.toArray 45 (0, 0))], [(r, kObj kv5 (gM fval ((stayT now C).set j (kf, oz, x.2.2))) ck)]]) hm (.refl _)).picks [1, 3]) (.refl _))
set_option maxHeartbeats 8000000 in
theorem table_Offer {max tnow : Int} {tb r ck : Nat} {C : Tb} {A : List Fl} (k s f d t sf sto q a wn y now : Int) (A0 : Option Addr) (len cap0 : Nat) (hsd : ¬ s = d) {w : World} {D : List Nat} (hT : TRel max C ck A) (hmx : max ≤ 100) (hD : D = (tbC max tnow tb r ck C).map (·.1)) (hM0 : Mem w w D [tbC max tnow tb r ck C]) {oe : Int} {oz : Fl} (hb : offR tnow now A ⟨k, s, f, d, t⟩ (fun z sd => stepR z sf sto q a wn y len sd now) = (oe, oz)) :
    Calls Tryz.prog 11 #[.pointer (some ⟨tb, 0, none⟩), .agg #[.int .i64 k, .int .i64 s, .int .i64 f, .int .i64 d, .int .i64 t], .agg #[.int .i64 sf, .int .i64 sto, .int .i64 q, .int .i64 a, .int .i64 wn, .int .i64 y, .slice A0 len cap0], .int .i64 now] w (Ret w D (OffT max tnow now tb r ck C A oe oz)) := by
  have hlen : C.length ≤ 100 := by have := hT.len; omega
  unfold offR at hb
  refine cx_enter (args := [.pointer (some ⟨tb, 0, none⟩), .agg #[.int .i64 k, .int .i64 s, .int .i64 f, .int .i64 d, .int .i64 t], .agg #[.int .i64 sf, .int .i64 sto, .int .i64 q, .int .i64 a, .int .i64 wn, .int .i64 y, .slice A0 len cap0], .int .i64 now]) (F := [(0, .pointer (some ⟨tb, 0, none⟩)), (1, .agg #[.int .i64 k, .int .i64 s, .int .i64 f, .int .i64 d, .int .i64 t]), (2, .agg #[.int .i64 sf, .int .i64 sto, .int .i64 q, .int .i64 a, .int .i64 wn, .int .i64 y, .slice A0 len cap0]), (3, .int .i64 now)]) _ [tbC max tnow tb r ck C] Tryz.func11 rfl Tryz.ntmps11 (by simp) rfl hM0 (fun g => ?_)
  clear hM0
  by_cases ht : timE tnow now = 0
  rotate_left
  · rw [if_pos (by simpa using ht)] at hb
    obtain ⟨rfl, rfl⟩ := Prod.mk.inj hb
    repeat' (first | ((with_reducible refine at_build ?_); refine sx_build Fl.zero.row rfl ?_) | ((with_reducible refine at_stores ?_); refine sx_storeW (vs := Fl.zero.row) rfl rfl rfl rfl ?_) | ((with_reducible refine at_call 30 ?_); refine sx_callv (fun w hm => table_time now (hm.at 3 rfl)) ?_ rfl) | ((with_reducible refine at_op ?_); first | ((with_reducible refine at_move ?_); refine sx_move _ vf ?_) | ((with_reducible refine at_bin ?_); refine sx_err_ne rfl ?_) | ((with_reducible refine at_assign ?_); refine sx_assign _ vf ?_) | ((with_reducible refine at_stores ?_); refine sx_stval _ vf ?_) | (refine sx_box rfl ?_; intro b) | (refine sx_alloc ?_; intro b)) | refine sx_nil ?_ | ((with_reducible refine at_code ?_); first | refine cx_seq ?_ | refine cx_region ?_ | refine cx_ret ?_ | (refine cx_cond rfl (fun h => ?_) (fun h => ?_) <;> (try simp only [decide_eq_true_eq, decide_eq_false_iff_not, Bool.and_eq_true, Bool.or_eq_true, Bool.and_eq_false_iff, Bool.or_eq_false_iff, Bool.not_eq_true', Bool.not_eq_false', Bool.not_true, Bool.not_false, Bool.true_or, Bool.or_true, Bool.false_or, Bool.or_false, Bool.and_true, Bool.true_and, Bool.false_and, Bool.and_false, reduceCtorEq, Classical.not_not, beq_self_eq_true, bne_self_eq_false, not_true_eq_false, not_false_eq_true, or_false, false_or, or_true, true_or, and_true, true_and, and_false, false_and, or_self, and_self] at h) <;> (try (exfalso; omega)))) | ((with_reducible refine at_exit ?_); first | refine qx_then ?_ | refine qx_then_ret ?_))
    all_goals try (exfalso; omega)
    exact qx_retD2 0 [tbC max tnow tb r ck C] rfl rfl rfl rfl rfl (.inl ⟨ht, rfl, rfl⟩) (fun w hm => by exact hm.picks [3])
  rw [if_neg (by simp [ht])] at hb
  have htm : ∀ (w' : World), Has w' (tbC max tnow tb r ck C) → Calls Tryz.prog 30 #[.pointer (some ⟨tb, 0, none⟩), .int .i64 now] w' (Ret w' [] (isV .nilIface)) := fun w' hh => by
    have h1 := table_time now hh
    rw [ht, er, errV_zero] at h1
    exact h1
  repeat' (first | (with_reducible refine stop_rs 4 ?_) | ((with_reducible refine at_call 30 ?_); refine sx_callv (fun w hm => htm _ (hm.at 3 rfl)) ?_ rfl) | ((with_reducible refine at_op ?_); first | ((with_reducible refine at_move ?_); refine sx_move _ vf ?_) | ((with_reducible refine at_bin ?_); refine sx_errn_ne rfl ?_) | ((with_reducible refine at_assign ?_); refine sx_assign _ vf ?_) | (refine sx_box rfl ?_; intro b) | (refine sx_alloc ?_; intro b)) | refine sx_nil ?_ | ((with_reducible refine at_code ?_); first | refine cx_seq ?_ | refine cx_region ?_ | refine cx_skip ?_ | refine cx_false rfl ?_) | ((with_reducible refine at_exit ?_); refine qx_then ?_))
  all_goals try (exfalso; omega)
  refine halt_go ?_
  revert b
  intro zb
  revert b
  intro sb
  revert b
  intro kb
  obtain ⟨kf, hkf⟩ : ∃ kf, K5.first ⟨k, s, f, d, t⟩ = kf := ⟨_, rfl⟩
  have hfirst := fun (w' : World) => seg_First k s f d t w'
  rw [hkf] at hfirst
  have hTm : ∀ {w' : World}, Has w' (tbC max tnow tb r ck C) → w'.cell? ⟨tb, 0 + 2, none⟩ = some (.map (some r)) := fun hh => cell_of_cells (cs := [.int .i64 max, .int .i64 tnow, .map (some r)]) (k := 2) (hh _ (List.Mem.head _)) rfl
  have hTr : ∀ {w' : World}, Has w' (tbC max tnow tb r ck C) → w'.heap[r]? = some (kObj kv5 (gM fval C) ck) := fun hh => hh _ (List.Mem.tail _ (List.Mem.head _))
  refine cx_mem (L' := [tbC max tnow tb r ck C, [(kb, .cells [.int .i64 k, .int .i64 s, .int .i64 f, .int .i64 d, .int .i64 t].toArray 37 (0, 0))], [(sb, .cells [.int .i64 sf, .int .i64 sto, .int .i64 q, .int .i64 a, .int .i64 wn, .int .i64 y, .slice A0 len cap0].toArray 41 (0, 0))], [(zb, .cells Fl.zero.row.toArray 45 (0, 0))]]) ?_ (fun w hm => by exact hm.picks [3, 2, 1, 0])
  refine cx_cut (fun fr' L => ∃ (fb : Nat) (z : Fl) (has : Bool), FF fr' [(0, .pointer (some ⟨tb, 0, none⟩)), (3, .int .i64 now), (5, .pointer (some ⟨kb, 0, none⟩)), (6, .pointer (some ⟨sb, 0, none⟩)), (8, .pointer (some ⟨zb, 0, none⟩)), (11, .pointer (some ⟨fb, 0, none⟩)), (12, .bool has)] ∧ L = [tbC max tnow tb r ck C, [(kb, .cells [.int .i64 k, .int .i64 s, .int .i64 f, .int .i64 d, .int .i64 t].toArray 37 (0, 0))], [(fb, .cells z.row.toArray 45 (0, 0))], [(sb, .cells [.int .i64 sf, .int .i64 sto, .int .i64 q, .int .i64 a, .int .i64 wn, .int .i64 y, .slice A0 len cap0].toArray 41 (0, 0))], [(zb, .cells Fl.zero.row.toArray 45 (0, 0))]] ∧ ((has = true ∧ now < z.un ∧ findF ⟨k, s, f, d, t⟩ (stayL now A) = some z) ∨ ((has = false ∨ z.un ≤ now) ∧ findF ⟨k, s, f, d, t⟩ (stayL now A) = none))) (fun K hK => ?_) ?_
  · cases hlk : lkG C kf with
    | some z =>
      obtain ⟨x, hx, hxk, hxz⟩ := lkG_some hlk
      obtain ⟨j, _, hk1, _, _⟩ := gM_some (val := fval) hT.ok.keys hx
      rw [hxk, hxz] at hk1
      have hv1 : ((lkK (gM fval C) kf).map (·.2)).getD (.agg Fl.zero.row.toArray) = .agg z.row.toArray := by rw [hk1]; rfl
      have hv2 : (lkK (gM fval C) kf).isSome = true := by rw [hk1]; rfl
      have hcase : (true = true ∧ now < z.un ∧ findF ⟨k, s, f, d, t⟩ (stayL now A) = some z) ∨ ((true = false ∨ z.un ≤ now) ∧ findF ⟨k, s, f, d, t⟩ (stayL now A) = none) := by
        cases hf : findF ⟨k, s, f, d, t⟩ (stayL now A) with
        | some z' =>
          obtain ⟨h1, h2, _⟩ := find_yes hT hf
          rw [hkf, hlk] at h1
          obtain rfl := Option.some.inj h1
          exact .inl ⟨rfl, h2, rfl⟩
        | none => exact .inr ⟨.inr (find_no hT hf z (by rw [hkf]; exact hlk)), rfl⟩
      repeat' (first | ((with_reducible refine at_reg 4 ?_); refine cx_held2 dk ?_) | ((with_reducible refine at_held ?_); first | (refine ah_not 0 rfl ?_; refine ah_isp 0 rfl ?_; refine ah_at 0 dk (fun hT => ?_); (refine ah_pure 0 (o := ⟨_, _, _, _, _, _⟩) hT rfl rfl rfl rfl rfl ?_; apply Exists.intro; refine And.intro ?_ ?_)) | (refine ah_not 1 rfl ?_; refine ah_isp 1 rfl ?_; refine ah_at 1 dk (fun hT => ?_); refine ah_nil 1 hT rfl rfl ?_) | (refine ah_not 2 rfl ?_; refine ah_isp 2 rfl ?_; refine ah_at 2 dk (fun hT => ?_); (refine ah_pure 2 (o := ⟨_, _, _, _, _, _⟩) hT rfl rfl rfl rfl rfl ?_; apply Exists.intro; refine And.intro ?_ ?_)) | (refine ah_not 3 rfl ?_; refine ah_isp 3 rfl ?_; refine ah_at 3 dk (fun hT => ?_); (refine ah_pure 3 (o := ⟨_, _, _, _, _, _⟩) hT rfl rfl rfl rfl rfl ?_; apply Exists.intro; refine And.intro ?_ ?_)) | (refine ah_not 4 rfl ?_; refine ah_isp 4 rfl ?_; refine ah_at 4 dk (fun hT => ?_); (refine ah_pure 4 (o := ⟨_, _, _, _, _, _⟩) hT rfl rfl rfl rfl rfl ?_; apply Exists.intro; refine And.intro ?_ ?_)) | (refine ah_not 7 rfl ?_; refine ah_isp 7 rfl ?_; refine ah_at 7 dk (fun hT => ?_); (refine ah_pure 7 (o := ⟨_, _, _, _, _, _⟩) hT rfl rfl rfl rfl rfl ?_; apply Exists.intro; refine And.intro ?_ ?_)) | (refine ah_not 8 rfl ?_; refine ah_isp 8 rfl ?_; refine ah_at 8 dk (fun hT => ?_); (refine ah_pure 8 (o := ⟨_, _, _, _, _, _⟩) hT rfl rfl rfl rfl rfl ?_; apply Exists.intro; refine And.intro ?_ ?_)) | (refine ah_not 9 rfl ?_; refine ah_isp 9 rfl ?_; refine ah_at 9 dk (fun hT => ?_); (refine ah_pure 9 (o := ⟨_, _, _, _, _, _⟩) hT rfl rfl rfl rfl rfl ?_; apply Exists.intro; refine And.intro ?_ ?_)) | (refine ah_not 12 rfl ?_; refine ah_isp 12 rfl ?_; refine ah_at 12 dk (fun hT => ?_); (refine ah_pure 12 (o := ⟨_, _, _, _, _, _⟩) hT rfl rfl rfl rfl rfl ?_; apply Exists.intro; refine And.intro ?_ ?_)) | (refine ah_not 5 rfl ?_; refine ah_not 10 rfl ?_; refine ah_both 5 10 (o := ⟨_, _, _, _, _, _⟩) (o' := ⟨_, _, _, _, _, _⟩) dk rfl rfl ?_ ?_) | (refine ah_not 5 rfl ?_; refine ah_lone 5 (o := ⟨_, _, _, _, _, _⟩) dk rfl ?_) | (refine ah_not 10 rfl ?_; refine ah_lone 10 (o := ⟨_, _, _, _, _, _⟩) dk rfl ?_) | (refine ah_not 6 rfl ?_; refine ah_not 10 rfl ?_; refine ah_both 6 10 (o := ⟨_, _, _, _, _, _⟩) (o' := ⟨_, _, _, _, _, _⟩) dk rfl rfl ?_ ?_) | (refine ah_not 6 rfl ?_; refine ah_lone 6 (o := ⟨_, _, _, _, _, _⟩) dk rfl ?_) | (refine ah_not 11 rfl ?_; refine ah_lone 11 (o := ⟨_, _, _, _, _, _⟩) dk rfl ?_) | refine ah_over2 dk ?_) | ((with_reducible refine at_call 32 ?_); refine sx_callv (fun w hm => hfirst _) ?_ rfl) | ((with_reducible refine at_load ?_); refine sx_loadM rfl (fun w hm => hTm (hm.at 0 rfl)) ?_) | (refine sx_lookKCW (kv := kv5) (k := kf) rfl rfl (fun w hm => hTr (hm.at 0 rfl)) hv1 hv2 ?_) | ((with_reducible refine at_exit ?_); first | refine qx_held (fun w hm => hm) ?_ | refine qx_held (fun w hm => held_mid1 hm) ?_) | ((with_reducible refine at_op ?_); first | ((with_reducible refine at_move ?_); refine sx_move _ vf ?_) | ((with_reducible refine at_assign ?_); refine sx_assign _ vf ?_) | ((with_reducible refine at_load ?_); refine sx_loadWE rfl pc gl ?_) | ((with_reducible refine at_stores ?_); first | refine sx_stval _ vf ?_ | (refine sx_rot rot2 ?_; refine sx_storeW rfl rfl rfl rfl ?_)) | refine sx_fieldAddr rfl ?_ | refine sx_extract rfl rfl ?_ | (refine sx_alloc ?_; intro b)) | refine sx_nil ?_ | ((with_reducible refine at_exit ?_); exact qx_isF))
      all_goals try (exfalso; omega)
      all_goals exact qx_mem (hK _ _ _ ⟨_, z, true, ffr, rfl, hcase⟩) (fun w hm => hm)
    | none =>
      have hk1 : lkK (gM fval C) kf = none := (gM_none (val := fval) (lkG_none hT.ok hlk)).1
      have hv1 : ((lkK (gM fval C) kf).map (·.2)).getD (.agg Fl.zero.row.toArray) = .agg Fl.zero.row.toArray := by rw [hk1]; rfl
      have hv2 : (lkK (gM fval C) kf).isSome = false := by rw [hk1]; rfl
      have hf : findF ⟨k, s, f, d, t⟩ (stayL now A) = none := by
        cases hf : findF ⟨k, s, f, d, t⟩ (stayL now A) with
        | some z' =>
          obtain ⟨h1, _, _⟩ := find_yes hT hf
          rw [hkf, hlk] at h1
          cases h1
        | none => rfl
      repeat' (first | ((with_reducible refine at_reg 4 ?_); refine cx_held2 dk ?_) | ((with_reducible refine at_held ?_); first | (refine ah_not 0 rfl ?_; refine ah_isp 0 rfl ?_; refine ah_at 0 dk (fun hT => ?_); (refine ah_pure 0 (o := ⟨_, _, _, _, _, _⟩) hT rfl rfl rfl rfl rfl ?_; apply Exists.intro; refine And.intro ?_ ?_)) | (refine ah_not 1 rfl ?_; refine ah_isp 1 rfl ?_; refine ah_at 1 dk (fun hT => ?_); refine ah_nil 1 hT rfl rfl ?_) | (refine ah_not 2 rfl ?_; refine ah_isp 2 rfl ?_; refine ah_at 2 dk (fun hT => ?_); (refine ah_pure 2 (o := ⟨_, _, _, _, _, _⟩) hT rfl rfl rfl rfl rfl ?_; apply Exists.intro; refine And.intro ?_ ?_)) | (refine ah_not 3 rfl ?_; refine ah_isp 3 rfl ?_; refine ah_at 3 dk (fun hT => ?_); (refine ah_pure 3 (o := ⟨_, _, _, _, _, _⟩) hT rfl rfl rfl rfl rfl ?_; apply Exists.intro; refine And.intro ?_ ?_)) | (refine ah_not 4 rfl ?_; refine ah_isp 4 rfl ?_; refine ah_at 4 dk (fun hT => ?_); (refine ah_pure 4 (o := ⟨_, _, _, _, _, _⟩) hT rfl rfl rfl rfl rfl ?_; apply Exists.intro; refine And.intro ?_ ?_)) | (refine ah_not 7 rfl ?_; refine ah_isp 7 rfl ?_; refine ah_at 7 dk (fun hT => ?_); (refine ah_pure 7 (o := ⟨_, _, _, _, _, _⟩) hT rfl rfl rfl rfl rfl ?_; apply Exists.intro; refine And.intro ?_ ?_)) | (refine ah_not 8 rfl ?_; refine ah_isp 8 rfl ?_; refine ah_at 8 dk (fun hT => ?_); (refine ah_pure 8 (o := ⟨_, _, _, _, _, _⟩) hT rfl rfl rfl rfl rfl ?_; apply Exists.intro; refine And.intro ?_ ?_)) | (refine ah_not 9 rfl ?_; refine ah_isp 9 rfl ?_; refine ah_at 9 dk (fun hT => ?_); (refine ah_pure 9 (o := ⟨_, _, _, _, _, _⟩) hT rfl rfl rfl rfl rfl ?_; apply Exists.intro; refine And.intro ?_ ?_)) | (refine ah_not 12 rfl ?_; refine ah_isp 12 rfl ?_; refine ah_at 12 dk (fun hT => ?_); (refine ah_pure 12 (o := ⟨_, _, _, _, _, _⟩) hT rfl rfl rfl rfl rfl ?_; apply Exists.intro; refine And.intro ?_ ?_)) | (refine ah_not 5 rfl ?_; refine ah_not 10 rfl ?_; refine ah_both 5 10 (o := ⟨_, _, _, _, _, _⟩) (o' := ⟨_, _, _, _, _, _⟩) dk rfl rfl ?_ ?_) | (refine ah_not 5 rfl ?_; refine ah_lone 5 (o := ⟨_, _, _, _, _, _⟩) dk rfl ?_) | (refine ah_not 10 rfl ?_; refine ah_lone 10 (o := ⟨_, _, _, _, _, _⟩) dk rfl ?_) | (refine ah_not 6 rfl ?_; refine ah_not 10 rfl ?_; refine ah_both 6 10 (o := ⟨_, _, _, _, _, _⟩) (o' := ⟨_, _, _, _, _, _⟩) dk rfl rfl ?_ ?_) | (refine ah_not 6 rfl ?_; refine ah_lone 6 (o := ⟨_, _, _, _, _, _⟩) dk rfl ?_) | (refine ah_not 11 rfl ?_; refine ah_lone 11 (o := ⟨_, _, _, _, _, _⟩) dk rfl ?_) | refine ah_over2 dk ?_) | ((with_reducible refine at_call 32 ?_); refine sx_callv (fun w hm => hfirst _) ?_ rfl) | ((with_reducible refine at_load ?_); refine sx_loadM rfl (fun w hm => hTm (hm.at 0 rfl)) ?_) | (refine sx_lookKCW (kv := kv5) (k := kf) rfl rfl (fun w hm => hTr (hm.at 0 rfl)) hv1 hv2 ?_) | ((with_reducible refine at_exit ?_); first | refine qx_held (fun w hm => hm) ?_ | refine qx_held (fun w hm => held_mid1 hm) ?_) | ((with_reducible refine at_op ?_); first | ((with_reducible refine at_move ?_); refine sx_move _ vf ?_) | ((with_reducible refine at_assign ?_); refine sx_assign _ vf ?_) | ((with_reducible refine at_load ?_); refine sx_loadWE rfl pc gl ?_) | ((with_reducible refine at_stores ?_); first | refine sx_stval _ vf ?_ | (refine sx_rot rot2 ?_; refine sx_storeW rfl rfl rfl rfl ?_)) | refine sx_fieldAddr rfl ?_ | refine sx_extract rfl rfl ?_ | (refine sx_alloc ?_; intro b)) | refine sx_nil ?_ | ((with_reducible refine at_exit ?_); exact qx_isF))
      all_goals try (exfalso; omega)
      all_goals exact qx_mem (hK _ _ _ ⟨_, Fl.zero, false, ffr, rfl, .inr ⟨.inl rfl, hf⟩⟩) (fun w hm => hm)
  rintro f' L ⟨fb, z, has, hF, rfl, hcase⟩
  refine cx_use hF fun g => ?_
  clear hF
  have hun : z.row[6]? = some (.int .i64 z.un) := rfl
  rcases hcase with ⟨rfl, hz, hf⟩ | ⟨hno, hf⟩
  rotate_left
  · rw [hf] at hb
    obtain ⟨rfl, rfl⟩ := Prod.mk.inj hb
    cases has with
    | false =>
      repeat' (first | ((with_reducible refine at_build ?_); refine sx_build Fl.zero.row rfl ?_) | ((with_reducible refine at_stores ?_); refine sx_rot rot4 ?_; refine sx_storeW (vs := Fl.zero.row) rfl rfl rfl rfl ?_) | ((with_reducible refine at_op ?_); first | ((with_reducible refine at_guard ?_); refine sx_skip rfl rfl rfl ras ?_) | ((with_reducible refine at_move ?_); refine sx_move _ vf ?_) | ((with_reducible refine at_assign ?_); refine sx_assign _ vf ?_) | ((with_reducible refine at_stores ?_); refine sx_stval _ vf ?_) | refine sx_not rfl ?_ | ((with_reducible refine at_pick ?_); refine sx_pickT (.bool _) rfl dec rfl ?_) | ((with_reducible refine at_iface ?_); refine sx_iface _ vf ?_)) | refine sx_nil ?_ | ((with_reducible refine at_code ?_); first | refine cx_seq ?_ | refine cx_region ?_ | refine cx_ret ?_ | refine cx_true rfl ?_) | ((with_reducible refine at_exit ?_); first | refine qx_then ?_ | refine qx_then_ret ?_))
      all_goals try (exfalso; omega)
      all_goals exact qx_retD2 (x := .iface _ _) 0 [tbC max tnow tb r ck C] rfl rfl rfl rfl rfl (.inl ⟨by decide, by rw [er, errV_ne (by decide)], rfl⟩) (fun w hm => by exact hm.picks [1])
    | true =>
      have hzle : z.un ≤ now := by
        rcases hno with h | h
        · cases h
        · exact h
      have hzd : decide (z.un ≤ now) = true := decide_eq_true hzle
      repeat' (first | ((with_reducible refine at_load ?_); refine sx_loadX1 2 rfl rfl hun ?_) | ((with_reducible refine at_build ?_); refine sx_build Fl.zero.row rfl ?_) | ((with_reducible refine at_stores ?_); refine sx_rot rot4 ?_; refine sx_storeW (vs := Fl.zero.row) rfl rfl rfl rfl ?_) | ((with_reducible refine at_op ?_); first | ((with_reducible refine at_guard ?_); refine sx_want rfl rfl rfl ras ?_) | ((with_reducible refine at_move ?_); refine sx_move _ vf ?_) | ((with_reducible refine at_bin ?_); refine sx_leq rfl rfl ?_) | ((with_reducible refine at_assign ?_); refine sx_assign _ vf ?_) | ((with_reducible refine at_stores ?_); refine sx_stval _ vf ?_) | refine sx_fieldAddr rfl ?_ | refine sx_not rfl ?_ | ((with_reducible refine at_pick ?_); refine sx_pickF (.bool _) rfl dec rfl ?_) | ((with_reducible refine at_iface ?_); refine sx_iface _ vf ?_)) | refine sx_nil ?_ | ((with_reducible refine at_code ?_); first | refine cx_seq ?_ | refine cx_region ?_ | refine cx_ret ?_ | (refine cx_cond rfl (fun h => ?_) (fun h => ?_) <;> (try simp only [decide_eq_true_eq, decide_eq_false_iff_not, Bool.and_eq_true, Bool.or_eq_true, Bool.and_eq_false_iff, Bool.or_eq_false_iff, Bool.not_eq_true', Bool.not_eq_false', Bool.not_true, Bool.not_false, Bool.true_or, Bool.or_true, Bool.false_or, Bool.or_false, Bool.and_true, Bool.true_and, Bool.false_and, Bool.and_false, reduceCtorEq, Classical.not_not, beq_self_eq_true, bne_self_eq_false, not_true_eq_false, not_false_eq_true, or_false, false_or, or_true, true_or, and_true, true_and, and_false, false_and, or_self, and_self] at h) <;> (try (exfalso; omega)))) | ((with_reducible refine at_exit ?_); first | refine qx_then ?_ | refine qx_then_ret ?_))
      all_goals try (exfalso; omega)
      all_goals exact qx_retD2 (x := .iface _ _) 0 [tbC max tnow tb r ck C] rfl rfl rfl rfl rfl (.inl ⟨by decide, by rw [er, errV_ne (by decide)], rfl⟩) (fun w hm => by exact hm.picks [1])
  · rw [hf] at hb
    dsimp only at hb
    have hzd : decide (z.un ≤ now) = false := decide_eq_false (by omega)
    obtain ⟨sd, hsdd⟩ : ∃ sd, sideF z ⟨k, s, f, d, t⟩ = sd := ⟨_, rfl⟩
    rw [hsdd] at hb
    unfold sideF at hsdd
    have hstep : ∀ w' : World, Calls Tryz.prog 35 #[.agg z.row.toArray, .agg #[.int .i64 sf, .int .i64 sto, .int .i64 q, .int .i64 a, .int .i64 wn, .int .i64 y, .slice A0 len cap0], .int .i64 sd, .int .i64 now] w' (Ret w' [] (isV (.tuple #[.agg oz.row.toArray, er oe]))) := fun w' => by
      have h1 : Calls Tryz.prog 35 #[.agg z.row.toArray, .agg #[.int .i64 sf, .int .i64 sto, .int .i64 q, .int .i64 a, .int .i64 wn, .int .i64 y, .slice A0 len cap0], .int .i64 sd, .int .i64 now] w' (Ret w' [] (StepR (stepR z sf sto q a wn y len sd now))) := track_Step z.k z.s z.f z.d z.t z.st z.un z.sp z.h0 z.h1 z.w0 z.w1 z.d0 z.d1 z.nm sf sto q a wn y sd now A0 len cap0
      rw [hb] at h1
      exact h1
    have hsd2 : decide (s = d) = false := decide_eq_false hsd
    have hzk : ∀ j v, [Value.int .i64 z.k, .int .i64 z.s, .int .i64 z.f, .int .i64 z.d, .int .i64 z.t][j]? = some v → z.row[0 + j]? = some v := fun j v hj => by
      rw [Nat.zero_add]
      have h1 : z.row = [Value.int .i64 z.k, .int .i64 z.s, .int .i64 z.f, .int .i64 z.d, .int .i64 z.t] ++ z.row.drop 5 := rfl
      rw [h1, List.getElem?_append_left (List.getElem?_eq_some_iff.1 hj).1]
      exact hj
    by_cases hkk : z.key = ⟨k, s, f, d, t⟩
    · have he : decide ((⟨k, s, f, d, t⟩ : K5) = z.key) = true := decide_eq_true hkk.symm
      rw [if_pos hkk] at hsdd
      subst hsdd
      by_cases hoe : oe = 0
      · subst hoe
        have hkey := stepR_key hb
        rw [er, errV_zero] at hstep
        by_cases hk3 : k = 3
        · have hk3' : decide (k = 3) = true := decide_eq_true hk3
          repeat' (first | (with_reducible refine stop_rss 15 ?_) | ((with_reducible refine at_load ?_); first | refine sx_loadX1 2 rfl rfl hun ?_ | refine sx_loadX 2 rfl rfl hzk rfl ?_) | ((with_reducible refine at_bin ?_); refine sx_eqlK5 ⟨k, s, f, d, t⟩ z.key he rfl rfl ?_) | ((with_reducible refine at_stores ?_); (refine sx_rot rot2 ?_; refine sx_storeW (vs := oz.row) rfl rfl rfl rfl ?_)) | ((with_reducible refine at_call 35 ?_); refine sx_callv (fun w hm => hstep _) ?_ rfl) | ((with_reducible refine at_op ?_); first | ((with_reducible refine at_guard ?_); refine sx_want rfl rfl rfl ras ?_) | ((with_reducible refine at_move ?_); refine sx_move _ vf ?_) | ((with_reducible refine at_bin ?_); first | refine sx_leq rfl rfl ?_ | refine sx_eql rfl rfl ?_ | refine sx_errn_ne rfl ?_) | ((with_reducible refine at_assign ?_); refine sx_assign _ vf ?_) | ((with_reducible refine at_load ?_); first | refine sx_loadE rfl pc gv ?_ | refine sx_loadWE rfl pc gl ?_) | ((with_reducible refine at_stores ?_); refine sx_stval _ vf ?_) | refine sx_fieldAddr rfl ?_ | refine sx_not rfl ?_ | refine sx_extract rfl rfl ?_ | ((with_reducible refine at_pick ?_); first | refine sx_pickT (.bool _) rfl dec rfl ?_ | refine sx_pickF (.bool _) rfl dec rfl ?_)) | refine sx_nil ?_ | ((with_reducible refine at_code ?_); first | refine cx_seq ?_ | refine cx_region ?_ | refine cx_skip ?_ | refine cx_true rfl ?_ | refine cx_false rfl ?_ | (refine cx_cond rfl (fun h => ?_) (fun h => ?_) <;> (try simp only [decide_eq_true_eq, decide_eq_false_iff_not, Bool.and_eq_true, Bool.or_eq_true, Bool.and_eq_false_iff, Bool.or_eq_false_iff, Bool.not_eq_true', Bool.not_eq_false', Bool.not_true, Bool.not_false, Bool.true_or, Bool.or_true, Bool.false_or, Bool.or_false, Bool.and_true, Bool.true_and, Bool.false_and, Bool.and_false, reduceCtorEq, Classical.not_not, beq_self_eq_true, bne_self_eq_false, not_true_eq_false, not_false_eq_true, or_false, false_or, or_true, true_or, and_true, true_and, and_false, false_and, or_self, and_self] at h) <;> (try (exfalso; omega)))) | ((with_reducible refine at_exit ?_); refine qx_then ?_))
          all_goals try (exfalso; omega)
          all_goals (refine halt_go ?_; exact cx_mem (cx_fold (cx_use ffr fun g => toffer_15 (kb := kb) (fb := fb) (zb := zb) g hT hlen ht hf hkey)) (fun w hm => by exact hm.picks [1, 1, 0, 1]))
        · have hk3' : decide (k = 3) = false := decide_eq_false hk3
          repeat' (first | (with_reducible refine stop_rss 15 ?_) | ((with_reducible refine at_load ?_); first | refine sx_loadX1 2 rfl rfl hun ?_ | refine sx_loadX 2 rfl rfl hzk rfl ?_) | ((with_reducible refine at_bin ?_); refine sx_eqlK5 ⟨k, s, f, d, t⟩ z.key he rfl rfl ?_) | ((with_reducible refine at_stores ?_); (refine sx_rot rot2 ?_; refine sx_storeW (vs := oz.row) rfl rfl rfl rfl ?_)) | ((with_reducible refine at_call 35 ?_); refine sx_callv (fun w hm => hstep _) ?_ rfl) | ((with_reducible refine at_op ?_); first | ((with_reducible refine at_guard ?_); first | refine sx_want rfl rfl rfl ras ?_ | refine sx_skip rfl rfl rfl ras ?_) | ((with_reducible refine at_move ?_); refine sx_move _ vf ?_) | ((with_reducible refine at_bin ?_); first | refine sx_leq rfl rfl ?_ | refine sx_eql rfl rfl ?_ | refine sx_errn_ne rfl ?_) | ((with_reducible refine at_assign ?_); refine sx_assign _ vf ?_) | ((with_reducible refine at_load ?_); first | refine sx_loadE rfl pc gv ?_ | refine sx_loadWE rfl pc gl ?_) | ((with_reducible refine at_stores ?_); refine sx_stval _ vf ?_) | refine sx_fieldAddr rfl ?_ | refine sx_not rfl ?_ | refine sx_extract rfl rfl ?_ | ((with_reducible refine at_pick ?_); refine sx_pickF (.bool _) rfl dec rfl ?_)) | refine sx_nil ?_ | ((with_reducible refine at_code ?_); first | refine cx_seq ?_ | refine cx_region ?_ | refine cx_skip ?_ | refine cx_true rfl ?_ | refine cx_false rfl ?_ | (refine cx_cond rfl (fun h => ?_) (fun h => ?_) <;> (try simp only [decide_eq_true_eq, decide_eq_false_iff_not, Bool.and_eq_true, Bool.or_eq_true, Bool.and_eq_false_iff, Bool.or_eq_false_iff, Bool.not_eq_true', Bool.not_eq_false', Bool.not_true, Bool.not_false, Bool.true_or, Bool.or_true, Bool.false_or, Bool.or_false, Bool.and_true, Bool.true_and, Bool.false_and, Bool.and_false, reduceCtorEq, Classical.not_not, beq_self_eq_true, bne_self_eq_false, not_true_eq_false, not_false_eq_true, or_false, false_or, or_true, true_or, and_true, true_and, and_false, false_and, or_self, and_self] at h) <;> (try (exfalso; omega)))) | ((with_reducible refine at_exit ?_); refine qx_then ?_))
          all_goals try (exfalso; omega)
          all_goals (refine halt_go ?_; exact cx_mem (cx_fold (cx_use ffr fun g => toffer_15 (kb := kb) (fb := fb) (zb := zb) g hT hlen ht hf hkey)) (fun w hm => by exact hm.picks [1, 1, 0, 1]))
      · by_cases hk3 : k = 3
        · have hk3' : decide (k = 3) = true := decide_eq_true hk3
          repeat' (first | ((with_reducible refine at_load ?_); first | refine sx_loadX1 2 rfl rfl hun ?_ | refine sx_loadX 2 rfl rfl hzk rfl ?_) | ((with_reducible refine at_bin ?_); refine sx_eqlK5 ⟨k, s, f, d, t⟩ z.key he rfl rfl ?_) | ((with_reducible refine at_build ?_); refine sx_build Fl.zero.row rfl ?_) | ((with_reducible refine at_stores ?_); first | (refine sx_rot rot2 ?_; refine sx_storeW (vs := oz.row) rfl rfl rfl rfl ?_) | (refine sx_rot rot4 ?_; refine sx_storeW (vs := Fl.zero.row) rfl rfl rfl rfl ?_)) | ((with_reducible refine at_call 35 ?_); refine sx_callv (fun w hm => hstep _) ?_ rfl) | ((with_reducible refine at_op ?_); first | ((with_reducible refine at_guard ?_); refine sx_want rfl rfl rfl ras ?_) | ((with_reducible refine at_move ?_); refine sx_move _ vf ?_) | ((with_reducible refine at_bin ?_); first | refine sx_leq rfl rfl ?_ | refine sx_eql rfl rfl ?_ | refine sx_err_ne rfl ?_) | ((with_reducible refine at_assign ?_); refine sx_assign _ vf ?_) | ((with_reducible refine at_load ?_); first | refine sx_loadE rfl pc gv ?_ | refine sx_loadWE rfl pc gl ?_) | ((with_reducible refine at_stores ?_); refine sx_stval _ vf ?_) | refine sx_fieldAddr rfl ?_ | refine sx_not rfl ?_ | refine sx_extract rfl rfl ?_ | ((with_reducible refine at_pick ?_); first | refine sx_pickT (.bool _) rfl dec rfl ?_ | refine sx_pickF (.bool _) rfl dec rfl ?_)) | refine sx_nil ?_ | ((with_reducible refine at_code ?_); first | refine cx_seq ?_ | refine cx_region ?_ | refine cx_skip ?_ | refine cx_ret ?_ | refine cx_true rfl ?_ | (refine cx_cond rfl (fun h => ?_) (fun h => ?_) <;> (try simp only [decide_eq_true_eq, decide_eq_false_iff_not, Bool.and_eq_true, Bool.or_eq_true, Bool.and_eq_false_iff, Bool.or_eq_false_iff, Bool.not_eq_true', Bool.not_eq_false', Bool.not_true, Bool.not_false, Bool.true_or, Bool.or_true, Bool.false_or, Bool.or_false, Bool.and_true, Bool.true_and, Bool.false_and, Bool.and_false, reduceCtorEq, Classical.not_not, beq_self_eq_true, bne_self_eq_false, not_true_eq_false, not_false_eq_true, or_false, false_or, or_true, true_or, and_true, true_and, and_false, false_and, or_self, and_self] at h) <;> (try (exfalso; omega)))) | ((with_reducible refine at_exit ?_); first | refine qx_then ?_ | refine qx_then_ret ?_))
          all_goals try (exfalso; omega)
          all_goals exact qx_retD2 0 [tbC max tnow tb r ck C] rfl rfl rfl rfl rfl (.inl ⟨hoe, rfl, rfl⟩) (fun w hm => by exact hm.picks [2])
        · have hk3' : decide (k = 3) = false := decide_eq_false hk3
          repeat' (first | ((with_reducible refine at_load ?_); first | refine sx_loadX1 2 rfl rfl hun ?_ | refine sx_loadX 2 rfl rfl hzk rfl ?_) | ((with_reducible refine at_bin ?_); refine sx_eqlK5 ⟨k, s, f, d, t⟩ z.key he rfl rfl ?_) | ((with_reducible refine at_build ?_); refine sx_build Fl.zero.row rfl ?_) | ((with_reducible refine at_stores ?_); first | (refine sx_rot rot2 ?_; refine sx_storeW (vs := oz.row) rfl rfl rfl rfl ?_) | (refine sx_rot rot4 ?_; refine sx_storeW (vs := Fl.zero.row) rfl rfl rfl rfl ?_)) | ((with_reducible refine at_call 35 ?_); refine sx_callv (fun w hm => hstep _) ?_ rfl) | ((with_reducible refine at_op ?_); first | ((with_reducible refine at_guard ?_); first | refine sx_want rfl rfl rfl ras ?_ | refine sx_skip rfl rfl rfl ras ?_) | ((with_reducible refine at_move ?_); refine sx_move _ vf ?_) | ((with_reducible refine at_bin ?_); first | refine sx_leq rfl rfl ?_ | refine sx_eql rfl rfl ?_ | refine sx_err_ne rfl ?_) | ((with_reducible refine at_assign ?_); refine sx_assign _ vf ?_) | ((with_reducible refine at_load ?_); first | refine sx_loadE rfl pc gv ?_ | refine sx_loadWE rfl pc gl ?_) | ((with_reducible refine at_stores ?_); refine sx_stval _ vf ?_) | refine sx_fieldAddr rfl ?_ | refine sx_not rfl ?_ | refine sx_extract rfl rfl ?_ | ((with_reducible refine at_pick ?_); refine sx_pickF (.bool _) rfl dec rfl ?_)) | refine sx_nil ?_ | ((with_reducible refine at_code ?_); first | refine cx_seq ?_ | refine cx_region ?_ | refine cx_skip ?_ | refine cx_ret ?_ | refine cx_true rfl ?_ | refine cx_false rfl ?_ | (refine cx_cond rfl (fun h => ?_) (fun h => ?_) <;> (try simp only [decide_eq_true_eq, decide_eq_false_iff_not, Bool.and_eq_true, Bool.or_eq_true, Bool.and_eq_false_iff, Bool.or_eq_false_iff, Bool.not_eq_true', Bool.not_eq_false', Bool.not_true, Bool.not_false, Bool.true_or, Bool.or_true, Bool.false_or, Bool.or_false, Bool.and_true, Bool.true_and, Bool.false_and, Bool.and_false, reduceCtorEq, Classical.not_not, beq_self_eq_true, bne_self_eq_false, not_true_eq_false, not_false_eq_true, or_false, false_or, or_true, true_or, and_true, true_and, and_false, false_and, or_self, and_self] at h) <;> (try (exfalso; omega)))) | ((with_reducible refine at_exit ?_); first | refine qx_then ?_ | refine qx_then_ret ?_))
          all_goals try (exfalso; omega)
          all_goals exact qx_retD2 0 [tbC max tnow tb r ck C] rfl rfl rfl rfl rfl (.inl ⟨hoe, rfl, rfl⟩) (fun w hm => by exact hm.picks [2])
    · have he : decide ((⟨k, s, f, d, t⟩ : K5) = z.key) = false := decide_eq_false (fun h => hkk h.symm)
      rw [if_neg hkk] at hsdd
      subst hsdd
      by_cases hoe : oe = 0
      · subst hoe
        have hkey := stepR_key hb
        rw [er, errV_zero] at hstep
        by_cases hk3 : k = 3
        · have hk3' : decide (k = 3) = true := decide_eq_true hk3
          repeat' (first | (with_reducible refine stop_rss 15 ?_) | ((with_reducible refine at_load ?_); first | refine sx_loadX1 2 rfl rfl hun ?_ | refine sx_loadX 2 rfl rfl hzk rfl ?_) | ((with_reducible refine at_bin ?_); refine sx_eqlK5 ⟨k, s, f, d, t⟩ z.key he rfl rfl ?_) | ((with_reducible refine at_stores ?_); (refine sx_rot rot2 ?_; refine sx_storeW (vs := oz.row) rfl rfl rfl rfl ?_)) | ((with_reducible refine at_call 35 ?_); refine sx_callv (fun w hm => hstep _) ?_ rfl) | ((with_reducible refine at_op ?_); first | ((with_reducible refine at_guard ?_); refine sx_want rfl rfl rfl ras ?_) | ((with_reducible refine at_move ?_); refine sx_move _ vf ?_) | ((with_reducible refine at_bin ?_); first | refine sx_leq rfl rfl ?_ | refine sx_eql rfl rfl ?_ | refine sx_errn_ne rfl ?_) | ((with_reducible refine at_assign ?_); refine sx_assign _ vf ?_) | ((with_reducible refine at_load ?_); first | refine sx_loadE rfl pc gv ?_ | refine sx_loadWE rfl pc gl ?_) | ((with_reducible refine at_stores ?_); refine sx_stval _ vf ?_) | refine sx_fieldAddr rfl ?_ | refine sx_not rfl ?_ | refine sx_extract rfl rfl ?_ | ((with_reducible refine at_pick ?_); first | refine sx_pickT (.bool _) rfl dec rfl ?_ | refine sx_pickF (.bool _) rfl dec rfl ?_)) | refine sx_nil ?_ | ((with_reducible refine at_code ?_); first | refine cx_seq ?_ | refine cx_region ?_ | refine cx_skip ?_ | refine cx_false rfl ?_ | (refine cx_cond rfl (fun h => ?_) (fun h => ?_) <;> (try simp only [decide_eq_true_eq, decide_eq_false_iff_not, Bool.and_eq_true, Bool.or_eq_true, Bool.and_eq_false_iff, Bool.or_eq_false_iff, Bool.not_eq_true', Bool.not_eq_false', Bool.not_true, Bool.not_false, Bool.true_or, Bool.or_true, Bool.false_or, Bool.or_false, Bool.and_true, Bool.true_and, Bool.false_and, Bool.and_false, reduceCtorEq, Classical.not_not, beq_self_eq_true, bne_self_eq_false, not_true_eq_false, not_false_eq_true, or_false, false_or, or_true, true_or, and_true, true_and, and_false, false_and, or_self, and_self] at h) <;> (try (exfalso; omega)))) | ((with_reducible refine at_exit ?_); refine qx_then ?_))
          all_goals try (exfalso; omega)
          all_goals (refine halt_go ?_; exact cx_mem (cx_fold (cx_use ffr fun g => toffer_15 (kb := kb) (fb := fb) (zb := zb) g hT hlen ht hf hkey)) (fun w hm => by exact hm.picks [1, 1, 0, 1]))
        · have hk3' : decide (k = 3) = false := decide_eq_false hk3
          repeat' (first | (with_reducible refine stop_rss 15 ?_) | ((with_reducible refine at_load ?_); first | refine sx_loadX1 2 rfl rfl hun ?_ | refine sx_loadX 2 rfl rfl hzk rfl ?_) | ((with_reducible refine at_bin ?_); refine sx_eqlK5 ⟨k, s, f, d, t⟩ z.key he rfl rfl ?_) | ((with_reducible refine at_stores ?_); (refine sx_rot rot2 ?_; refine sx_storeW (vs := oz.row) rfl rfl rfl rfl ?_)) | ((with_reducible refine at_call 35 ?_); refine sx_callv (fun w hm => hstep _) ?_ rfl) | ((with_reducible refine at_op ?_); first | ((with_reducible refine at_guard ?_); first | refine sx_want rfl rfl rfl ras ?_ | refine sx_skip rfl rfl rfl ras ?_) | ((with_reducible refine at_move ?_); refine sx_move _ vf ?_) | ((with_reducible refine at_bin ?_); first | refine sx_leq rfl rfl ?_ | refine sx_eql rfl rfl ?_ | refine sx_errn_ne rfl ?_) | ((with_reducible refine at_assign ?_); refine sx_assign _ vf ?_) | ((with_reducible refine at_load ?_); first | refine sx_loadE rfl pc gv ?_ | refine sx_loadWE rfl pc gl ?_) | ((with_reducible refine at_stores ?_); refine sx_stval _ vf ?_) | refine sx_fieldAddr rfl ?_ | refine sx_not rfl ?_ | refine sx_extract rfl rfl ?_ | ((with_reducible refine at_pick ?_); refine sx_pickF (.bool _) rfl dec rfl ?_)) | refine sx_nil ?_ | ((with_reducible refine at_code ?_); first | refine cx_seq ?_ | refine cx_region ?_ | refine cx_skip ?_ | refine cx_false rfl ?_ | (refine cx_cond rfl (fun h => ?_) (fun h => ?_) <;> (try simp only [decide_eq_true_eq, decide_eq_false_iff_not, Bool.and_eq_true, Bool.or_eq_true, Bool.and_eq_false_iff, Bool.or_eq_false_iff, Bool.not_eq_true', Bool.not_eq_false', Bool.not_true, Bool.not_false, Bool.true_or, Bool.or_true, Bool.false_or, Bool.or_false, Bool.and_true, Bool.true_and, Bool.false_and, Bool.and_false, reduceCtorEq, Classical.not_not, beq_self_eq_true, bne_self_eq_false, not_true_eq_false, not_false_eq_true, or_false, false_or, or_true, true_or, and_true, true_and, and_false, false_and, or_self, and_self] at h) <;> (try (exfalso; omega)))) | ((with_reducible refine at_exit ?_); refine qx_then ?_))
          all_goals try (exfalso; omega)
          all_goals (refine halt_go ?_; exact cx_mem (cx_fold (cx_use ffr fun g => toffer_15 (kb := kb) (fb := fb) (zb := zb) g hT hlen ht hf hkey)) (fun w hm => by exact hm.picks [1, 1, 0, 1]))
      · by_cases hk3 : k = 3
        · have hk3' : decide (k = 3) = true := decide_eq_true hk3
          repeat' (first | ((with_reducible refine at_load ?_); first | refine sx_loadX1 2 rfl rfl hun ?_ | refine sx_loadX 2 rfl rfl hzk rfl ?_) | ((with_reducible refine at_bin ?_); refine sx_eqlK5 ⟨k, s, f, d, t⟩ z.key he rfl rfl ?_) | ((with_reducible refine at_build ?_); refine sx_build Fl.zero.row rfl ?_) | ((with_reducible refine at_stores ?_); first | (refine sx_rot rot2 ?_; refine sx_storeW (vs := oz.row) rfl rfl rfl rfl ?_) | (refine sx_rot rot4 ?_; refine sx_storeW (vs := Fl.zero.row) rfl rfl rfl rfl ?_)) | ((with_reducible refine at_call 35 ?_); refine sx_callv (fun w hm => hstep _) ?_ rfl) | ((with_reducible refine at_op ?_); first | ((with_reducible refine at_guard ?_); refine sx_want rfl rfl rfl ras ?_) | ((with_reducible refine at_move ?_); refine sx_move _ vf ?_) | ((with_reducible refine at_bin ?_); first | refine sx_leq rfl rfl ?_ | refine sx_eql rfl rfl ?_ | refine sx_err_ne rfl ?_) | ((with_reducible refine at_assign ?_); refine sx_assign _ vf ?_) | ((with_reducible refine at_load ?_); first | refine sx_loadE rfl pc gv ?_ | refine sx_loadWE rfl pc gl ?_) | ((with_reducible refine at_stores ?_); refine sx_stval _ vf ?_) | refine sx_fieldAddr rfl ?_ | refine sx_not rfl ?_ | refine sx_extract rfl rfl ?_ | ((with_reducible refine at_pick ?_); first | refine sx_pickT (.bool _) rfl dec rfl ?_ | refine sx_pickF (.bool _) rfl dec rfl ?_)) | refine sx_nil ?_ | ((with_reducible refine at_code ?_); first | refine cx_seq ?_ | refine cx_region ?_ | refine cx_skip ?_ | refine cx_ret ?_ | refine cx_false rfl ?_ | (refine cx_cond rfl (fun h => ?_) (fun h => ?_) <;> (try simp only [decide_eq_true_eq, decide_eq_false_iff_not, Bool.and_eq_true, Bool.or_eq_true, Bool.and_eq_false_iff, Bool.or_eq_false_iff, Bool.not_eq_true', Bool.not_eq_false', Bool.not_true, Bool.not_false, Bool.true_or, Bool.or_true, Bool.false_or, Bool.or_false, Bool.and_true, Bool.true_and, Bool.false_and, Bool.and_false, reduceCtorEq, Classical.not_not, beq_self_eq_true, bne_self_eq_false, not_true_eq_false, not_false_eq_true, or_false, false_or, or_true, true_or, and_true, true_and, and_false, false_and, or_self, and_self] at h) <;> (try (exfalso; omega)))) | ((with_reducible refine at_exit ?_); first | refine qx_then ?_ | refine qx_then_ret ?_))
          all_goals try (exfalso; omega)
          all_goals exact qx_retD2 0 [tbC max tnow tb r ck C] rfl rfl rfl rfl rfl (.inl ⟨hoe, rfl, rfl⟩) (fun w hm => by exact hm.picks [2])
        · have hk3' : decide (k = 3) = false := decide_eq_false hk3
          repeat' (first | ((with_reducible refine at_load ?_); first | refine sx_loadX1 2 rfl rfl hun ?_ | refine sx_loadX 2 rfl rfl hzk rfl ?_) | ((with_reducible refine at_bin ?_); refine sx_eqlK5 ⟨k, s, f, d, t⟩ z.key he rfl rfl ?_) | ((with_reducible refine at_build ?_); refine sx_build Fl.zero.row rfl ?_) | ((with_reducible refine at_stores ?_); first | (refine sx_rot rot2 ?_; refine sx_storeW (vs := oz.row) rfl rfl rfl rfl ?_) | (refine sx_rot rot4 ?_; refine sx_storeW (vs := Fl.zero.row) rfl rfl rfl rfl ?_)) | ((with_reducible refine at_call 35 ?_); refine sx_callv (fun w hm => hstep _) ?_ rfl) | ((with_reducible refine at_op ?_); first | ((with_reducible refine at_guard ?_); first | refine sx_want rfl rfl rfl ras ?_ | refine sx_skip rfl rfl rfl ras ?_) | ((with_reducible refine at_move ?_); refine sx_move _ vf ?_) | ((with_reducible refine at_bin ?_); first | refine sx_leq rfl rfl ?_ | refine sx_eql rfl rfl ?_ | refine sx_err_ne rfl ?_) | ((with_reducible refine at_assign ?_); refine sx_assign _ vf ?_) | ((with_reducible refine at_load ?_); first | refine sx_loadE rfl pc gv ?_ | refine sx_loadWE rfl pc gl ?_) | ((with_reducible refine at_stores ?_); refine sx_stval _ vf ?_) | refine sx_fieldAddr rfl ?_ | refine sx_not rfl ?_ | refine sx_extract rfl rfl ?_ | ((with_reducible refine at_pick ?_); refine sx_pickF (.bool _) rfl dec rfl ?_)) | refine sx_nil ?_ | ((with_reducible refine at_code ?_); first | refine cx_seq ?_ | refine cx_region ?_ | refine cx_skip ?_ | refine cx_ret ?_ | refine cx_false rfl ?_ | (refine cx_cond rfl (fun h => ?_) (fun h => ?_) <;> (try simp only [decide_eq_true_eq, decide_eq_false_iff_not, Bool.and_eq_true, Bool.or_eq_true, Bool.and_eq_false_iff, Bool.or_eq_false_iff, Bool.not_eq_true', Bool.not_eq_false', Bool.not_true, Bool.not_false, Bool.true_or, Bool.or_true, Bool.false_or, Bool.or_false, Bool.and_true, Bool.true_and, Bool.false_and, Bool.and_false, reduceCtorEq, Classical.not_not, beq_self_eq_true, bne_self_eq_false, not_true_eq_false, not_false_eq_true, or_false, false_or, or_true, true_or, and_true, true_and, and_false, false_and, or_self, and_self] at h) <;> (try (exfalso; omega)))) | ((with_reducible refine at_exit ?_); first | refine qx_then ?_ | refine qx_then_ret ?_))
          all_goals try (exfalso; omega)
          all_goals exact qx_retD2 0 [tbC max tnow tb r ck C] rfl rfl rfl rfl rfl (.inl ⟨hoe, rfl, rfl⟩) (fun w hm => by exact hm.picks [2])
end Go.Proofs.YtghnjmjdaggopaaGreatDoor
