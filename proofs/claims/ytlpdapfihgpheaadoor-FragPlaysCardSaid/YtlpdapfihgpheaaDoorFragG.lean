/- frag: the pieces of one packet come to a pool. -/
import Derived.Test.YtlpdapfihgpheaaDoorFragZ
import Derived.Test.YtlpdapfihgpheaaDoorFragB
set_option linter.unusedSimpArgs false
set_option linter.unusedVariables false
set_option maxRecDepth 100000
namespace Go.Port
open Go.RowKit
section
variable {P : Program} {w0 : World} {D : List Nat} {n q : Nat} {ops : Array Oper} {Q : Exit → Act → World → Prop} {g : Nat → Value} {F : List (Nat × Value)} {L : List Ch}
variable {rest : List Oper} {ty : TypeId} {pos : String} {af : Array Edge} {d : Nat} {κ : Type} {kv : κ → Value}
/-- How many keys a map has, as the world tells. -/
theorem sx_lenKM {T K E : Nat} [MpK P T K E] {x : Operand} {r ck : Nat} {M : MK κ} (hx : evn n (get g F) x = .map (some r)) (hv : ∀ w, Mem w0 w D L → w.heap[r]? = some (kObj kv M ck)) (h : SX P w0 D n q ops Q rest g ((d, .int .i64 M.length) :: F) L) :
    SX P w0 D n q ops Q ({ dst := some d, op := .call { callee := .builtin .len, args := #[x], argTypes := #[T] }, type := ty, pos := pos, after := af, guard := none } :: rest) g F L :=
  sx_run _ rfl rfl (fun w hm => by
    have h1 := MpK.und (P := P) (T := T) (K := K) (E := E)
    have hb : w.heap[r]? = some (.map (M.map (kEnt kv)).toArray ck) := hv w hm
    simp only [execOp, resolve]
    simp [hx, invoke, builtin, Builtin.len_, run_underlying h1, mget hb, goInt, go_sem]) h
end
/-- What a pool holds of a packet of which some pieces came. -/
def PoolS (u t : Int) (l : List Int) (q j : Nat) (key : Nm) (bs : List Bool) (E : List (He Nm)) : Prop :=
  ((true ∉ bs ∨ false ∉ bs) ∧ E = []) ∨ ((true ∈ bs ∧ false ∈ bs) ∧ ∃ y, E = [y] ∧ y.k = key ∧ OfP u t l q j bs y.h)
theorem OfP.ok {u t : Int} {l : List Int} {q j : Nat} {bs : List Bool} {h : Hp} (hc : CutL l q j) (ho : OfP u t l q j bs h) (hu : 0 ≤ u ∧ u ≤ 1000000) : h.ok := by
  have h1 := ho.fin
  have h2 := hc.hi
  refine ⟨by rw [ho.began]; exact hu, ho.bl, ho.hl, ?_⟩
  split at h1 <;> omega
theorem ok_one {y : He Nm} {ck : Nat} (h : y.born < ck) : PoolOk [y] ck := ⟨by simp, by simp, fun x hx => by obtain rfl : x = y := (by simpa using hx); exact h⟩
theorem ok_none {ck : Nat} : PoolOk ([] : List (He Nm)) ck := ⟨by simp, by simp, fun x hx => by cases hx⟩
theorem all_false {bs : List Bool} (h : true ∉ bs) : bs = List.replicate bs.length false := by
  refine List.eq_replicate_iff.2 ⟨rfl, fun b hb => ?_⟩
  cases b with
  | true => exact absurd hb h
  | false => rfl
end Go.Port
namespace Go.Proofs.YtlpdapfihgpheaaDoor
open Go.RowKit Go.Port
attribute [local irreducible] Calls
theorem pool_Len {life now : Int} {pb r ck : Nat} {E : List (He Nm)} {w : World} (h : Has w (poolP life now pb r ck E)) : Calls Tryd.prog 15 #[.pointer (some ⟨pb, 0, none⟩)] w (Ret w [] (isV (.int .i64 E.length))) := by
  have h0 : w.heap[pb]? = some (.cells [.int .i64 life, .int .i64 now, .map (some r)].toArray 62 (0, 0)) := h _ (List.Mem.head _)
  have h1 : w.heap[r]? = some (kObj kvN (E.map He.ent) ck) := h _ (List.Mem.tail _ (List.Mem.head _))
  refine cx_enter (args := [.pointer (some ⟨pb, 0, none⟩)]) (F := [(0, .pointer (some ⟨pb, 0, none⟩))]) _ [] Tryd.func15 rfl Tryd.ntmps15 (by simp) rfl (Mem.refl _) (fun g => ?_)
  repeat' (first | ((with_reducible refine at_load ?_); refine sx_loadB rfl h0 rfl ?_) | (refine sx_lenKM (kv := kvN) rfl (fun w hm => hm.old0 h1) ?_) | ((with_reducible refine at_any ?_); first | (refine ax_pure (o := ⟨_, _, _, _, _, _⟩) rfl dk rfl rfl rfl rfl ?_; apply Exists.intro; refine And.intro (fun w => ?_) ?_) | refine ax_skip (o := ⟨_, _, _, _, _, _⟩) dk rfl rfl rfl rfl rfl rfl ras ?_ | refine ax_lone (o := ⟨_, _, _, _, _, _⟩) dk rfl ?_ | refine ax_over dk ?_) | ((with_reducible refine at_op ?_); first | ((with_reducible refine at_guard ?_); first | refine sx_want rfl rfl rfl ras ?_ | refine sx_skip rfl rfl rfl ras ?_ | refine sx_skipu rfl rfl rfl ?_ | refine sx_skip' rfl rfl rfl ras ?_ | refine sx_lit true rfl rfl rfl dec ?_ | refine sx_lit false rfl rfl rfl dec ?_ | (refine sx_orG rfl rfl rfl rfl rfl rfl ?_ (fun hb K hK => ?_); apply Exists.intro; refine And.intro (fun hb K hK => ?_) (fun g => ?_)) | (refine sx_andG rfl rfl rfl rfl rfl rfl ?_ (fun hb K hK => ?_); apply Exists.intro; refine And.intro (fun hb K hK => ?_) (fun g => ?_))) | ((with_reducible refine at_move ?_); first | refine sx_move _ vf ?_) | ((with_reducible refine at_bin ?_); first | refine sx_lss rfl rfl ?_ | refine sx_leq rfl rfl ?_ | refine sx_gtr rfl rfl ?_ | refine sx_geq rfl rfl ?_ | refine sx_eql rfl rfl ?_ | refine sx_neq rfl rfl ?_ | refine sx_add rfl rfl bnd ?_ | refine sx_sub rfl rfl bnd ?_ | refine sx_mul rfl rfl bnd ?_ | refine sx_quo rfl rfl bnd ?_ | refine sx_rem rfl rfl bnd ?_ | refine sx_subU8 rfl rfl bnd ?_ | refine sx_shr rfl rfl bnd ?_ | refine sx_shl8 rfl rfl bnd ?_ | refine sx_or8 rfl rfl bnd ?_ | refine sx_or15 rfl rfl bnd ?_ | refine sx_not15 rfl rfl bnd ?_ | refine sx_andI rfl rfl bnd ?_ | refine sx_remT rfl rfl bnd ?_ | refine sx_err_ne rfl ?_ | refine sx_err_eq rfl ?_ | refine sx_errn_ne rfl ?_ | refine sx_errn_eq rfl ?_ | refine sx_pure (v := .bool _) rfl ?_ | refine sx_pure (v := .int _ _) rfl ?_) | ((with_reducible refine at_assign ?_); first | refine sx_assign _ vf ?_) | ((with_reducible refine at_load ?_); first | refine sx_loadE rfl pc gv ?_ | refine sx_loadWE rfl pc gl ?_ | (apply sx_loadB rfl; assumption; rfl) | (apply sx_loadBW rfl; assumption; rfl)) | ((with_reducible refine at_stores ?_); first | refine sx_stval _ vf ?_ | (apply sx_store rfl rfl rfl rfl; (repeat (first | exact set_z rfl | apply set_succ))) | (refine sx_rot rot1 ?_; (apply sx_store rfl rfl rfl rfl; (repeat (first | exact set_z rfl | apply set_succ)))) | (refine sx_rot rot2 ?_; (apply sx_store rfl rfl rfl rfl; (repeat (first | exact set_z rfl | apply set_succ)))) | (refine sx_rot rot3 ?_; (apply sx_store rfl rfl rfl rfl; (repeat (first | exact set_z rfl | apply set_succ)))) | (refine sx_rot rot4 ?_; (apply sx_store rfl rfl rfl rfl; (repeat (first | exact set_z rfl | apply set_succ)))) | (refine sx_rot rot5 ?_; (apply sx_store rfl rfl rfl rfl; (repeat (first | exact set_z rfl | apply set_succ)))) | (refine sx_rot rot6 ?_; (apply sx_store rfl rfl rfl rfl; (repeat (first | exact set_z rfl | apply set_succ)))) | (refine sx_rot rot7 ?_; (apply sx_store rfl rfl rfl rfl; (repeat (first | exact set_z rfl | apply set_succ)))) | refine sx_storeW rfl rfl rfl rfl ?_ | (refine sx_rot rot1 ?_; refine sx_storeW rfl rfl rfl rfl ?_) | (refine sx_rot rot2 ?_; refine sx_storeW rfl rfl rfl rfl ?_) | (refine sx_rot rot3 ?_; refine sx_storeW rfl rfl rfl rfl ?_) | (refine sx_rot rot4 ?_; refine sx_storeW rfl rfl rfl rfl ?_) | (refine sx_rot rot5 ?_; refine sx_storeW rfl rfl rfl rfl ?_) | (refine sx_rot rot6 ?_; refine sx_storeW rfl rfl rfl rfl ?_) | (refine sx_rot rot7 ?_; refine sx_storeW rfl rfl rfl rfl ?_)) | refine sx_nilCheck rfl ?_ | refine sx_fieldAddr rfl ?_ | refine sx_not rfl ?_ | refine sx_neg rfl bnd ?_ | ((with_reducible refine at_build ?_); first | refine sx_build _ blds ?_) | refine sx_extract rfl rfl ?_ | ((with_reducible refine at_pick ?_); first | refine sx_pickT (.int _ _) rfl dec rfl ?_ | refine sx_pickT (.bool _) rfl dec rfl ?_ | refine sx_pickF (.int _ _) rfl dec rfl ?_ | refine sx_pickF (.bool _) rfl dec rfl ?_) | ((with_reducible refine at_iface ?_); first | refine sx_iface _ vf ?_) | refine sx_index rfl rfl bnd ?_ | ((with_reducible refine at_ixaddr ?_); first | refine sx_place _ rfl rfl bnd plc ?_) | refine sx_sliceFrom rfl rfl bnd ?_ | refine sx_sliceTo rfl rfl bnd ?_ | refine sx_sliceBoth rfl rfl rfl bnd ?_ | refine sx_sliceFull rfl rfl rfl bnd ?_ | ((with_reducible refine at_conv ?_); first | refine sx_convIn rfl bnd ?_ | refine sx_convU8 rfl bnd ?_ | refine sx_convU8m rfl ?_ | refine sx_convU32m rfl ?_ | refine sx_convU64m rfl ?_) | ((with_reducible refine at_buildS ?_); first | (refine sx_buildS _ rfl rfl rfl bcs rfl ?_; intro b)) | ((with_reducible refine at_append ?_); first | (refine sx_append1 (v := .slice _ _ _) rfl rfl rotN (OwnS.nil _ _) rfl bnd rfl bnd ?_; intro v c ho; obtain ⟨A, cp, rfl, hcp⟩ := ho.len) | (refine sx_append1 (v := .slice _ _ _) rfl rfl rot0 asm rfl bnd rfl bnd ?_; intro v c ho; obtain ⟨A, cp, rfl, hcp⟩ := ho.len) | (refine sx_append1 (v := .slice _ _ _) rfl rfl rot1 asm rfl bnd rfl bnd ?_; intro v c ho; obtain ⟨A, cp, rfl, hcp⟩ := ho.len) | (refine sx_append1 (v := .slice _ _ _) rfl rfl rot2 asm rfl bnd rfl bnd ?_; intro v c ho; obtain ⟨A, cp, rfl, hcp⟩ := ho.len) | (refine sx_append1 (v := .slice _ _ _) rfl rfl rot3 asm rfl bnd rfl bnd ?_; intro v c ho; obtain ⟨A, cp, rfl, hcp⟩ := ho.len) | (refine sx_append1 (v := .slice _ _ _) rfl rfl rot4 asm rfl bnd rfl bnd ?_; intro v c ho; obtain ⟨A, cp, rfl, hcp⟩ := ho.len) | (refine sx_append1 (v := .slice _ _ _) rfl rfl rot5 asm rfl bnd rfl bnd ?_; intro v c ho; obtain ⟨A, cp, rfl, hcp⟩ := ho.len) | (refine sx_append1 (v := .slice _ _ _) rfl rfl rot6 asm rfl bnd rfl bnd ?_; intro v c ho; obtain ⟨A, cp, rfl, hcp⟩ := ho.len) | (refine sx_append1 (v := .slice _ _ _) rfl rfl rot7 asm rfl bnd rfl bnd ?_; intro v c ho; obtain ⟨A, cp, rfl, hcp⟩ := ho.len) | (refine sx_append1 (v := .slice _ _ _) rfl rfl rot8 asm rfl bnd rfl bnd ?_; intro v c ho; obtain ⟨A, cp, rfl, hcp⟩ := ho.len)) | refine sx_len rfl ?_ | refine sx_min rfl rfl ?_ | refine sx_max rfl rfl ?_ | refine sx_field rfl rfl ?_ | (refine sx_box rfl ?_; intro b) | (refine sx_box1 rfl rfl ?_; intro b) | (refine sx_alloc ?_; intro b) | (refine sx_alloc1 rfl ?_; intro b) | refine sx_pure vfs ?_) | refine sx_nil ?_ | ((with_reducible refine at_grp ?_); first | refine sx_grpN rfl ?_ | refine sx_grpC rfl ?_) | ((with_reducible refine at_aft ?_); first | refine sx_aftN rfl ?_ | refine sx_aftC rfl ?_) | ((with_reducible refine at_code ?_); first | refine cx_seq ?_ | refine cx_quiet rfl dk dk ?_ | refine cx_any dk ?_ | refine cx_region ?_ | refine cx_skip ?_ | refine cx_ret ?_ | refine cx_exit ?_ | refine cx_block ?_ | refine cx_true rfl ?_ | refine cx_false rfl ?_ | (refine cx_cond rfl (fun h => ?_) (fun h => ?_) <;> (try simp only [decide_eq_true_eq, decide_eq_false_iff_not, Bool.and_eq_true, Bool.or_eq_true, Bool.and_eq_false_iff, Bool.or_eq_false_iff, Bool.not_eq_true', Bool.not_eq_false', Bool.not_true, Bool.not_false, Bool.true_or, Bool.or_true, Bool.false_or, Bool.or_false, Bool.and_true, Bool.true_and, Bool.false_and, Bool.and_false, reduceCtorEq, Classical.not_not, beq_self_eq_true, bne_self_eq_false, not_true_eq_false, not_false_eq_true, or_false, false_or, or_true, true_or, and_true, true_and, and_false, false_and, or_self, and_self] at h) <;> (try (exfalso; omega)))) | ((with_reducible refine at_exit ?_); first | refine qx_then ?_ | exact qx_isF | refine qx_any ?_ | ((with_reducible refine at_K ?_); first | exact hK _ _ _ rfl ⟨rfl, rfl⟩ rfl | exact hK _ _ _ rfl rfl ⟨rfl, rfl⟩ rfl) | refine qx_in_here ?_ | refine qx_in_normal ?_ | refine qx_in_ret ?_ | refine qx_in_out rfl ?_ | refine qx_then_ret ?_ | refine qx_then_exit ?_))
  exact qx_ret1 (v := .int _ _) [] rfl rfl ⟨by rw [List.length_map], rfl⟩ (fun w hm => hm.nil)
theorem pkt_part {k t i s d : Int} {l : List Int} {q j x : Nat} (hc : CutL l q j) (hp : pktE k t i s d 0 l.length = 0) (hx : x ≤ j) : pktE k t i s d ((x * q : Nat) : Int) (pcB l q j x).length = 0 := by
  obtain ⟨h1, h2, _, _⟩ := pkt_bd hp
  have h3 := (hc.len hx).1
  have h4 := hc.lo
  have h5 : x * q ≤ j * q := Nat.mul_le_mul_right _ hx
  have h6 : j * (q * 8) = j * q * 8 := (Nat.mul_assoc _ _ _).symm
  have hb : pktB k t i s d ((x * q : Nat) : Int) = false := by
    unfold pktB at h1 ⊢
    simp only [decide_eq_true_eq, decide_eq_false_iff_not, Bool.and_eq_true, Bool.or_eq_true, Bool.and_eq_false_iff, Bool.or_eq_false_iff, Bool.not_eq_true', Bool.not_eq_false', Bool.not_true, Bool.not_false, Bool.true_or, Bool.or_true, Bool.false_or, Bool.or_false, Bool.and_true, Bool.true_and, Bool.false_and, Bool.and_false, reduceCtorEq, Classical.not_not, beq_self_eq_true, bne_self_eq_false, not_true_eq_false, not_false_eq_true, or_false, false_or, or_true, true_or, and_true, true_and, and_false, false_and, or_self, and_self] at h1 ⊢
    omega
  unfold pktE
  rw [hb, if_neg (by decide), if_neg (by omega)]
/-- What comes of a piece. -/
def StepR (u t : Int) (l : List Int) (q j : Nat) (k i s d : Int) (bs : List Bool) (pb r : Nat) (v : Value) (L : List Ch) : Prop :=
  ∃ ck' E', PoolOk E' ck' ∧ PoolS u t l q j (k, s, d, i) bs E' ∧
    ((false ∈ bs ∧ v = .tuple #[.agg #[.int .i64 0, .int .i64 0, .int .i64 0, .int .i64 0, .int .i64 0, .int .i64 0, .bool false, .slice none 0 0], .bool false, .nilIface] ∧ L = [poolP 60 u pb r ck' E']) ∨
     (false ∉ bs ∧ ∃ (bb : Nat) (zs : List Int), v = .tuple #[.agg #[.int .i64 k, .int .i64 t, .int .i64 i, .int .i64 s, .int .i64 d, .int .i64 0, .bool false, .slice (some ⟨bb, 0, none⟩) l.length l.length], .bool true, .nilIface] ∧ zs.take l.length = l ∧ zs.length = 4000 ∧ L = [poolP 60 u pb r ck' E', [(bb, .cells (zs.map (Value.int .u8)).toArray 5 (0, 0))]]))
theorem in_step {u t : Int} {l : List Int} {q j x : Nat} {k i s d : Int} {bs : List Bool} {pb r ck : Nat} {y : He Nm} {v : Value} {L : List Ch} (hc : CutL l q j) (hbs : bs.length = j + 1) (hx : x ≤ j) (hxb : bs[x]? = some false) (hb : y.born < ck) (hk : y.k = (k, s, d, i)) (ho : OfP u t l q j bs y.h)
    (h : InR 60 u pb r ck [] [] y k t i s d ((x * q : Nat) : Int) (decide (x ≠ j)) (pcB l q j x) v L) : StepR u t l q j k i s d (bs.set x true) pb r v L := by
  have hw := ho.fits hc hx hxb
  have hp := ho.put hc hbs hx
  have hl2 : (bs.set x true).length = j + 1 := by rw [List.length_set]; exact hbs
  have hwh := hp.whole hc hl2
  have htr : true ∈ bs.set x true := List.mem_of_getElem? (List.getElem?_set_self (by omega))
  have hbad := ho.bad
  rcases h with ⟨h1, _⟩ | ⟨_, h1, _⟩ | ⟨_, _, h1, rfl, rfl⟩ | ⟨_, _, h1, rfl, rfl⟩
  · rw [hbad] at h1; cases h1
  · rw [hw] at h1; cases h1
  · have hf : false ∈ bs.set x true := by
      rw [hwh] at h1
      simpa using h1
    exact ⟨ck, [{ y with h := putH y.h ((x * q : Nat) : Int) (decide (x ≠ j)) t (pcB l q j x) }], ok_one hb, .inr ⟨⟨htr, hf⟩, { y with h := putH y.h ((x * q : Nat) : Int) (decide (x ≠ j)) t (pcB l q j x) }, rfl, hk, hp⟩, .inl ⟨hf, rfl, rfl⟩⟩
  · have hf : false ∉ bs.set x true := by
      rw [hwh] at h1
      simpa using h1
    obtain ⟨h2, h3⟩ := hp.done hc hl2 hf
    refine ⟨ck, [], ok_none, .inl ⟨.inr hf, rfl⟩, .inr ⟨hf, y.bb, _, ?_, h3, hp.bl, rfl⟩⟩
    rw [h2, hp.ttl, Int.toNat_natCast]
theorem live_all {u : Int} {E : List (He Nm)} (h : ∀ x ∈ E, u - x.h.began < 60) : liveH 60 u E = E := List.filter_eq_self.2 fun x hx => by
  have := h x hx
  rw [decide_eq_false (by omega)]
  rfl
theorem add_piece {k t i s d : Int} {l : List Int} {q j x : Nat} {A : Option Addr} {cap : Nat} {u now : Int} {pb r ck : Nat} {E : List (He Nm)} {bs : List Bool} {w : World} {D : List Nat} (hc : CutL l q j) (hj : 1 ≤ j) (hp : pktE k t i s d 0 l.length = 0) (hx : x ≤ j) (hbs : bs.length = j + 1) (hxb : bs[x]? = some false) (hu : 0 ≤ u ∧ u ≤ 100) (hnow : 0 ≤ now ∧ now ≤ u) (hE : PoolOk E ck) (hS : PoolS u t l q j (k, s, d, i) bs E)
    (hD : D = (poolP 60 now pb r ck E).map (·.1)) (hM : Mem w w D [poolP 60 now pb r ck E]) (hcap : (pcB l q j x).length ≤ cap) (hA : ∃ z o, 0 < (pcB l q j x).length → A = some ⟨z, o, none⟩ ∧ z < w.heap.size ∧ z ∉ D ∧ CellsAt w z o ((pcB l q j x).map (Value.int .u8))) :
    Calls Tryd.prog 14 #[.pointer (some ⟨pb, 0, none⟩), .agg #[.int .i64 k, .int .i64 t, .int .i64 i, .int .i64 s, .int .i64 d, .int .i64 ((x * q : Nat) : Int), .bool (decide (x ≠ j)), .slice A (pcB l q j x).length cap], .int .i64 u] w (Ret w D (StepR u t l q j k i s d (bs.set x true) pb r)) := by
  have hel : E.length ≤ 1 := by
    rcases hS with ⟨_, rfl⟩ | ⟨_, y, rfl, _⟩ <;> simp
  have hok : ∀ z ∈ E, z.h.ok ∧ z.h.began = u := fun z hz => by
    rcases hS with ⟨_, rfl⟩ | ⟨_, y, rfl, _, ho⟩
    · cases hz
    · obtain rfl : z = y := by simpa using hz
      exact ⟨ho.ok hc (by omega), ho.began⟩
  have hlive : liveH 60 u E = E := live_all fun z hz => by rw [(hok z hz).2]; omega
  refine (frag_Add k t i s d ((x * q : Nat) : Int) (decide (x ≠ j)) (life := 60) (u := u) hE (by omega) (by omega) (by omega) (fun z hz => (hok z hz).1) hD hM hcap hA).mono fun e W' hR => hR.mono fun v L h => ?_
  have hpe := pkt_part hc hp hx
  rcases h with ⟨h1, _⟩ | ⟨_, e, h1, _⟩ | ⟨_, _, h⟩
  · exact absurd hpe h1
  · omega
  rw [hlive] at h
  rcases h with ⟨h1, h2, _⟩ | ⟨_, _, h1, _⟩ | ⟨_, h1, _, hb, bb, sb, h2⟩ | ⟨_, P, S, y, h1, h2, h3⟩
  · have : x = j := by simpa using h2
    subst this
    have h3 : x * q = 0 := by omega
    have := hc.q0
    rcases Nat.mul_eq_zero.1 h3 with h4 | h4 <;> omega
  · omega
  · rcases hS with ⟨h3, rfl⟩ | ⟨_, y, rfl, h3, _⟩
    · have h4 : true ∉ bs := by
        rcases h3 with h3 | h3
        · exact h3
        · exact absurd (List.mem_of_getElem? hxb) h3
      have h5 := all_false h4
      rw [hbs] at h5
      refine in_step (y := ⟨(k, s, d, i), hb, bb, sb, ck, newH u t⟩) hc hbs hx hxb (Nat.lt_succ_self ck) rfl ?_ h2
      rw [h5]
      exact OfP.new hc
    · exact absurd h3 (h1 y (List.Mem.head _))
  · rcases hS with ⟨_, rfl⟩ | ⟨_, y', rfl, _, ho⟩
    · cases P <;> cases h1
    · cases P with
      | cons p P => cases P <;> cases h1
      | nil =>
        simp only [List.nil_append, List.cons.injEq] at h1
        obtain ⟨rfl, rfl⟩ := h1
        exact in_step hc hbs hx hxb (hE.low _ (List.Mem.head _)) h2 ho h3
/-- A piece that came already. -/
theorem add_again {k t i s d : Int} {l : List Int} {q j x : Nat} {A : Option Addr} {cap : Nat} {pb r ck : Nat} {y : He Nm} {bs : List Bool} {w : World} {D : List Nat} (hc : CutL l q j) (hj : 1 ≤ j) (hp : pktE k t i s d 0 l.length = 0) (hx : x ≤ j) (hxb : bs[x]? = some true) (hE : PoolOk [y] ck) (hk : y.k = (k, s, d, i)) (ho : OfP 1 t l q j bs y.h)
    (hD : D = (poolP 60 1 pb r ck [y]).map (·.1)) (hM : Mem w w D [poolP 60 1 pb r ck [y]]) (hcap : (pcB l q j x).length ≤ cap) (hA : ∃ z o, 0 < (pcB l q j x).length → A = some ⟨z, o, none⟩ ∧ z < w.heap.size ∧ z ∉ D ∧ CellsAt w z o ((pcB l q j x).map (Value.int .u8))) :
    Calls Tryd.prog 14 #[.pointer (some ⟨pb, 0, none⟩), .agg #[.int .i64 k, .int .i64 t, .int .i64 i, .int .i64 s, .int .i64 d, .int .i64 ((x * q : Nat) : Int), .bool (decide (x ≠ j)), .slice A (pcB l q j x).length cap], .int .i64 2] w (Ret w D (fun v L => v = .tuple #[.agg #[.int .i64 0, .int .i64 0, .int .i64 0, .int .i64 0, .int .i64 0, .int .i64 0, .bool false, .slice none 0 0], .bool false, er 3] ∧ L = [poolP 60 2 pb r ck [{ y with h := { y.h with bad := true } }]])) := by
  have hlive : liveH 60 2 [y] = [y] := live_all fun z hz => by
    obtain rfl : z = y := by simpa using hz
    rw [ho.began]; omega
  refine (frag_Add k t i s d ((x * q : Nat) : Int) (decide (x ≠ j)) (life := 60) (u := 2) hE (by simp) (by omega) (by omega) (fun z hz => by obtain rfl : z = y := (by simpa using hz); exact ho.ok hc (by omega)) hD hM hcap hA).mono fun e W' hR => hR.mono fun v L h => ?_
  have hpe := pkt_part hc hp hx
  have hw := ho.again hc hx hxb (decide (x ≠ j))
  have hbad := ho.bad
  rcases h with ⟨h1, _⟩ | ⟨_, e, h1, _⟩ | ⟨_, _, h⟩
  · exact absurd hpe h1
  · omega
  rw [hlive] at h
  rcases h with ⟨h1, h2, _⟩ | ⟨_, _, h1, _⟩ | ⟨_, h1, _⟩ | ⟨_, P, S, y', h1, h2, h3⟩
  · have : x = j := by simpa using h2
    subst this
    have h3 : x * q = 0 := by omega
    have := hc.q0
    rcases Nat.mul_eq_zero.1 h3 with h4 | h4 <;> omega
  · simp at h1
  · exact absurd hk (h1 y (List.Mem.head _))
  · cases P with
    | cons p P => cases P <;> cases h1
    | nil =>
      simp only [List.nil_append, List.cons.injEq] at h1
      obtain ⟨rfl, rfl⟩ := h1
      rcases h3 with ⟨h1, _⟩ | ⟨_, _, rfl, rfl⟩ | ⟨_, h1, _⟩ | ⟨_, h1, _⟩
      · rw [hbad] at h1; cases h1
      · exact ⟨rfl, rfl⟩
      · rw [hw] at h1; cases h1
      · rw [hw] at h1; cases h1
/-- .. and any one then. -/
theorem add_bad {k t i s d : Int} {l : List Int} {q j x : Nat} {A : Option Addr} {cap : Nat} {pb r ck : Nat} {y : He Nm} {w : World} {D : List Nat} (hc : CutL l q j) (hj : 1 ≤ j) (hp : pktE k t i s d 0 l.length = 0) (hx : x ≤ j) (hE : PoolOk [y] ck) (hk : y.k = (k, s, d, i)) (hok : y.h.ok) (hbg : y.h.began = 1) (hbad : y.h.bad = true)
    (hD : D = (poolP 60 2 pb r ck [y]).map (·.1)) (hM : Mem w w D [poolP 60 2 pb r ck [y]]) (hcap : (pcB l q j x).length ≤ cap) (hA : ∃ z o, 0 < (pcB l q j x).length → A = some ⟨z, o, none⟩ ∧ z < w.heap.size ∧ z ∉ D ∧ CellsAt w z o ((pcB l q j x).map (Value.int .u8))) :
    Calls Tryd.prog 14 #[.pointer (some ⟨pb, 0, none⟩), .agg #[.int .i64 k, .int .i64 t, .int .i64 i, .int .i64 s, .int .i64 d, .int .i64 ((x * q : Nat) : Int), .bool (decide (x ≠ j)), .slice A (pcB l q j x).length cap], .int .i64 3] w (Ret w D (fun v L => v = .tuple #[.agg #[.int .i64 0, .int .i64 0, .int .i64 0, .int .i64 0, .int .i64 0, .int .i64 0, .bool false, .slice none 0 0], .bool false, er 6] ∧ L = [poolP 60 3 pb r ck [y]])) := by
  have hlive : liveH 60 3 [y] = [y] := live_all fun z hz => by
    obtain rfl : z = y := by simpa using hz
    rw [hbg]; omega
  refine (frag_Add k t i s d ((x * q : Nat) : Int) (decide (x ≠ j)) (life := 60) (u := 3) hE (by simp) (by omega) (by omega) (fun z hz => by obtain rfl : z = y := (by simpa using hz); exact hok) hD hM hcap hA).mono fun e W' hR => hR.mono fun v L h => ?_
  have hpe := pkt_part hc hp hx
  rcases h with ⟨h1, _⟩ | ⟨_, e, h1, _⟩ | ⟨_, _, h⟩
  · exact absurd hpe h1
  · omega
  rw [hlive] at h
  rcases h with ⟨h1, h2, _⟩ | ⟨_, _, h1, _⟩ | ⟨_, h1, _⟩ | ⟨_, P, S, y', h1, h2, h3⟩
  · have : x = j := by simpa using h2
    subst this
    have h3 : x * q = 0 := by omega
    have := hc.q0
    rcases Nat.mul_eq_zero.1 h3 with h4 | h4 <;> omega
  · simp at h1
  · exact absurd hk (h1 y (List.Mem.head _))
  · cases P with
    | cons p P => cases P <;> cases h1
    | nil =>
      simp only [List.nil_append, List.cons.injEq] at h1
      obtain ⟨rfl, rfl⟩ := h1
      rcases h3 with ⟨_, rfl, rfl⟩ | ⟨h1, _⟩ | ⟨h1, _⟩ | ⟨h1, _⟩
      · exact ⟨rfl, rfl⟩
      all_goals (rw [hbad] at h1; cases h1)
end Go.Proofs.YtlpdapfihgpheaaDoor
