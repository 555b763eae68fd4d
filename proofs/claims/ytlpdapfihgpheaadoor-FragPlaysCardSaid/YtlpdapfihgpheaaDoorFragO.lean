/- portref2: a pool's Add: pieces one behind the other. -/
import Derived.Test.YtlpdapfihgpheaaDoorFragM
set_option linter.unusedSimpArgs false
set_option linter.unusedVariables false
set_option maxRecDepth 100000
namespace Go.Proofs.YtlpdapfihgpheaaDoor
open Go.RowKit Go.Port
attribute [local irreducible] Calls
theorem bytes_one' {l : List Int} : ∀ u ∈ l.map (Value.int .u8), u.oneCell' = true := fun u hu => by obtain ⟨x, _, rfl⟩ := List.mem_map.1 hu; rfl
theorem rp_mem {w w' : World} {D : List Nat} {life u : Int} {mb cap : Nat} {A : Option Addr} {cL : Ch} {P S : List Rh} {y : Rh} (hm : Mem w w' D [[(mb, .cells [.int .i64 life, .int .i64 u, .slice A (P ++ y :: S).length cap].toArray 42 (0, 0))], cL, y.c, (P ++ S).flatMap (·.c)]) : Mem w w' D [rpC life u mb A cap cL (P ++ y :: S)] := hm.perm (by
  simp only [rpC, List.flatten_cons, List.flatten_nil, List.append_nil, List.flatMap_append, List.flatMap_cons]
  exact ((List.perm_append_comm_assoc _ _ _).append_left _).cons _)
set_option maxHeartbeats 16000000 in
theorem rchain {mb xb rb cap len capx : Nat} {life u k t i s d a : Int} {m : Bool} {A Ax : Option Addr} {cL : Ch} {P S : List Rh} {y : Rh} {h0 : Hp} {D : List Nat} {w : World} {R : Value → List Ch → Prop} (hlen : (P ++ y :: S).length ≤ 100) (hL : OwnS 65 11 (.slice A (P ++ y :: S).length cap) (P ++ y :: S).length ((P ++ y :: S).flatMap Rh.row) cL)
    (ha : OwnS 24 8 (.slice y.A y.n y.cap) y.n (y.all.flatMap Pk.row) y.c) (hna : y.n = y.all.length) (hna2 : y.n ≤ 100000) (hfit : ∀ p ∈ y.all, p.fit) (hbod : ∀ p ∈ y.all, ∀ {w' : World}, Mem w w' D [] → IsSl w' 1 p.A p.n p.c (p.l.map (Value.int .u8)))
    (hr : HeapR h0 (y.all.map Pk.pc)) (hx : ∃ p ∈ y.all, p.t = t)
    (hR0 : wholeH h0 = false → R (.tuple #[.agg #[.int .i64 0, .int .i64 0, .int .i64 0, .int .i64 0, .int .i64 0, .int .i64 0, .bool false, .slice none 0 0], .bool false, .int .i64 0]) [rpC life u mb A cap cL (P ++ y :: S)])
    (hR1 : wholeH h0 = true → ∀ A2 cap2 c2 Ab capb cB, OwnS 65 11 (.slice A2 (P ++ S).length cap2) (P ++ S).length ((P ++ S).flatMap Rh.row) c2 → OwnS 5 1 (.slice Ab h0.fin.toNat capb) h0.fin.toNat ((h0.body.take h0.fin.toNat).map (Value.int .u8)) cB → R (.tuple #[.agg #[.int .i64 k, .int .i64 h0.ttl, .int .i64 i, .int .i64 s, .int .i64 d, .int .i64 0, .bool false, .slice Ab h0.fin.toNat capb], .bool true, .int .i64 0]) [rpC life u mb A2 cap2 c2 (P ++ S), cB]) (g : Nat → Value) :
    CX Tryd.prog w D 254 (bodyPost Tryd.prog Tryd.f13 (Ret w D R)) (tailOf 13 (Tryd.f13.body.getD .skip)) g [(0, .pointer (some ⟨mb, 0, none⟩)), (4, .pointer (some ⟨xb, 0, none⟩)), (6, .pointer (some ⟨rb, 0, none⟩)), (10, .int .i64 (P.length : Nat))] [[(mb, .cells [.int .i64 life, .int .i64 u, .slice A (P ++ y :: S).length cap].toArray 42 (0, 0))], cL, [(xb, .cells [.int .i64 k, .int .i64 t, .int .i64 i, .int .i64 s, .int .i64 d, .int .i64 a, .bool m, .slice Ax len capx].toArray 24 (0, 0))], [(rb, .cells [.int .i64 0, .int .i64 0, .int .i64 0, .int .i64 0, .int .i64 0, .int .i64 0, .bool false, .slice none 0 0].toArray 24 (0, 0))], y.c, (P ++ S).flatMap (·.c)] := by
  conv => arg 6; whnf
  have hll : (P ++ y :: S).length = P.length + (S.length + 1) := by rw [List.length_append, List.length_cons]
  have hy : (P ++ y :: S)[P.length]? = some y := by rw [List.getElem?_append_right (Nat.le_refl _), Nat.sub_self]; rfl
  have hv : ((P ++ y :: S).flatMap Rh.row)[(P.length : Int).toNat * 11 + 10]? = some (.slice y.A y.n y.cap) := by rw [Int.toNat_natCast]; exact flat_get (f := Rh.row) (q := 11) rows11 hy rfl
  obtain ⟨bL, hbL⟩ := hL.base'
  have hAL := hbL (by omega)
  obtain ⟨bA, hbA⟩ := ha.base'
  repeat' (first | (with_reducible refine stop_rs 32 ?_) | ((with_reducible refine at_ixaddr ?_); refine sx_indexQ rfl hAL rfl (by omega) ?_) | ((with_reducible refine at_load ?_); refine sx_loadS1 1 ((P.length : Int).toNat * 11 + 10) rfl hL hAL (by omega) (by omega) rfl hv ?_) | ((with_reducible refine at_op ?_); first | ((with_reducible refine at_move ?_); refine sx_move _ vf ?_) | ((with_reducible refine at_assign ?_); refine sx_assign _ vf ?_) | ((with_reducible refine at_load ?_); refine sx_loadE rfl pc gv ?_) | refine sx_nilCheck rfl ?_ | refine sx_fieldAddr rfl ?_) | refine sx_nil ?_ | ((with_reducible refine at_code ?_); first | refine cx_seq ?_ | refine cx_region ?_) | ((with_reducible refine at_exit ?_); refine qx_then ?_))
  refine halt_go ?_
  refine cx_mem (L' := [[(mb, .cells [.int .i64 life, .int .i64 u, .slice A (P ++ y :: S).length cap].toArray 42 (0, 0))], cL, [], [(xb, .cells [.int .i64 k, .int .i64 t, .int .i64 i, .int .i64 s, .int .i64 d, .int .i64 a, .bool m, .slice Ax len capx].toArray 24 (0, 0))], [(rb, .cells [.int .i64 0, .int .i64 0, .int .i64 0, .int .i64 0, .int .i64 0, .int .i64 0, .bool false, .slice none 0 0].toArray 24 (0, 0))], y.c, (P ++ S).flatMap (·.c)]) ?_ (fun w hm => hm.perm (by simp))
  repeat' (first | ((with_reducible refine at_op ?_); ((with_reducible refine at_assign ?_); refine sx_assign _ vf ?_)) | refine sx_nil ?_ | ((with_reducible refine at_code ?_); first | refine cx_seq ?_ | refine cx_region ?_ | refine cx_block ?_) | ((with_reducible refine at_exit ?_); refine qx_then ?_))
  refine cx_loop (fun mm fr L => ∃ (c : Nat) (dn mo : Bool) (Ab : Option Addr) (capb : Nat) (cB : Ch), FF fr [(0, .pointer (some ⟨mb, 0, none⟩)), (4, .pointer (some ⟨xb, 0, none⟩)), (6, .pointer (some ⟨rb, 0, none⟩)), (10, .int .i64 (P.length : Nat)), (15, .slice y.A y.n y.cap), (16, .int .i64 t), (14, .slice Ab c capb), (17, .bool dn), (18, .bool mo)] ∧ L = [[(mb, .cells [.int .i64 life, .int .i64 u, .slice A (P ++ y :: S).length cap].toArray 42 (0, 0))], cL, cB, [(xb, .cells [.int .i64 k, .int .i64 t, .int .i64 i, .int .i64 s, .int .i64 d, .int .i64 a, .bool m, .slice Ax len capx].toArray 24 (0, 0))], [(rb, .cells [.int .i64 0, .int .i64 0, .int .i64 0, .int .i64 0, .int .i64 0, .int .i64 0, .bool false, .slice none 0 0].toArray 24 (0, 0))], y.c, (P ++ S).flatMap (·.c)] ∧ OwnS 5 1 (.slice Ab c capb) c ((h0.body.take c).map (Value.int .u8)) cB ∧ Chain h0 (y.all.map Pk.pc) c dn ∧ (mo = false → dn = false → ∀ p ∈ y.all.map Pk.pc, p.lo ≠ c) ∧ mm = (4000 - c) + (if mo = true then 1 else 0)) 4001 ⟨0, false, true, none, 0, [], ffr, rfl, OwnS.nil _ _, Chain.zero, (fun h => by cases h), rfl⟩ ?_
  rintro mm fr L ⟨c, dn, mo, Ab, capb, cB, hF, rfl, hob, hch, hstk, hmm⟩ K hK
  refine cx_use hF fun g => ?_
  clear hF
  cases dn with
  | true =>
    clear hK
    obtain ⟨hw, hfc⟩ := hch.whole
    have hc' : h0.fin.toNat = c := by omega
    have hT : ∀ tt, (∀ p ∈ y.all, tt ≤ p.t) → (tt = t ∨ ∃ p ∈ y.all, tt = p.t) → tt = h0.ttl := fun tt h1 h2 => by
      obtain ⟨q0, hq0, hq1⟩ := hx
      rcases hr.ttl2 with h3 | ⟨p', hp', h3⟩
      · rw [List.map_eq_nil_iff.1 h3] at hq0; cases hq0
      · obtain ⟨p, hp, rfl⟩ := List.mem_map.1 hp'
        have h4 := h1 p hp
        have h5 : h0.ttl = p.t := h3
        have h6 : ∀ q ∈ y.all, h0.ttl ≤ q.t := fun q hq => hr.ttl1 q.pc (List.mem_map_of_mem hq)
        rcases h2 with h7 | ⟨q, hq, h7⟩
        · have := h6 q0 hq0; omega
        · have := h6 q hq; omega
    have hR1' := hR1 hw
    rw [hc'] at hR1'
    cases mo <;> (
      repeat' (first | (with_reducible refine stop_rss 44 ?_) | ((with_reducible refine at_op ?_); first | ((with_reducible refine at_guard ?_); first | refine sx_want rfl rfl rfl ras ?_ | refine sx_skip rfl rfl rfl ras ?_) | ((with_reducible refine at_move ?_); refine sx_move _ vf ?_) | refine sx_not rfl ?_ | ((with_reducible refine at_pick ?_); first | refine sx_pickT (.bool _) rfl dec rfl ?_ | refine sx_pickF (.bool _) rfl dec rfl ?_)) | refine sx_nil ?_ | ((with_reducible refine at_code ?_); first | refine cx_seq ?_ | refine cx_region ?_ | refine cx_skip ?_ | refine cx_exit ?_ | refine cx_false rfl ?_) | ((with_reducible refine at_exit ?_); first | refine qx_then ?_ | refine qx_in_here ?_ | refine qx_then_exit ?_))
      all_goals try (exfalso; omega)
      refine halt_go ?_
      exact cx_fold (cx_use ffr fun g => rttl hlen hL ha hna hna2 hT (fun A2 cap2 c2 h => hR1' A2 cap2 c2 Ab capb cB h hob) g))
  | false =>
  cases mo with
  | false =>
    clear hK
    have hw := hch.stuck hr (hstk rfl rfl)
    repeat' (first | ((with_reducible refine at_op ?_); first | ((with_reducible refine at_guard ?_); refine sx_skip rfl rfl rfl ras ?_) | ((with_reducible refine at_move ?_); refine sx_move _ vf ?_) | ((with_reducible refine at_assign ?_); refine sx_assign _ vf ?_) | ((with_reducible refine at_stores ?_); first | refine sx_stval _ vf ?_ | (refine sx_rot rot4 ?_; refine sx_storeW rfl rfl rfl rfl ?_)) | refine sx_not rfl ?_ | ((with_reducible refine at_build ?_); refine sx_build _ blds ?_) | ((with_reducible refine at_pick ?_); refine sx_pickF (.bool _) rfl dec rfl ?_)) | refine sx_nil ?_ | ((with_reducible refine at_code ?_); first | refine cx_seq ?_ | refine cx_region ?_ | refine cx_ret ?_ | refine cx_exit ?_ | refine cx_true rfl ?_ | refine cx_false rfl ?_) | ((with_reducible refine at_exit ?_); first | refine qx_then ?_ | refine qx_in_here ?_ | refine qx_then_ret ?_ | refine qx_then_exit ?_))
    all_goals try (exfalso; omega)
    refine qx_retC3 0 [rpC life u mb A cap cL (P ++ y :: S)] rfl rfl rfl rfl rfl rfl (hR0 hw) (fun w hm => rp_mem (hm.picks [1, 1, 3, 3]))
  | true =>
  repeat' (first | ((with_reducible refine at_op ?_); first | ((with_reducible refine at_guard ?_); refine sx_want rfl rfl rfl ras ?_) | ((with_reducible refine at_move ?_); refine sx_move _ vf ?_) | ((with_reducible refine at_assign ?_); refine sx_assign _ vf ?_) | refine sx_not rfl ?_ | ((with_reducible refine at_pick ?_); refine sx_pickT (.bool _) rfl dec rfl ?_)) | refine sx_nil ?_ | ((with_reducible refine at_code ?_); first | refine cx_seq ?_ | refine cx_region ?_ | refine cx_skip ?_ | refine cx_block ?_ | refine cx_true rfl ?_) | ((with_reducible refine at_exit ?_); refine qx_then ?_))
  all_goals try (exfalso; omega)
  refine cx_loop (fun m2 fr L => ∃ (ii : Nat), FF fr [(0, .pointer (some ⟨mb, 0, none⟩)), (4, .pointer (some ⟨xb, 0, none⟩)), (6, .pointer (some ⟨rb, 0, none⟩)), (10, .int .i64 (P.length : Nat)), (15, .slice y.A y.n y.cap), (16, .int .i64 t), (14, .slice Ab c capb), (17, .bool false), (18, .bool false), (19, .int .i64 ii)] ∧ L = [[(mb, .cells [.int .i64 life, .int .i64 u, .slice A (P ++ y :: S).length cap].toArray 42 (0, 0))], cL, cB, [(xb, .cells [.int .i64 k, .int .i64 t, .int .i64 i, .int .i64 s, .int .i64 d, .int .i64 a, .bool m, .slice Ax len capx].toArray 24 (0, 0))], [(rb, .cells [.int .i64 0, .int .i64 0, .int .i64 0, .int .i64 0, .int .i64 0, .int .i64 0, .bool false, .slice none 0 0].toArray 24 (0, 0))], y.c, (P ++ S).flatMap (·.c)] ∧ (∀ jj, jj < ii → ∀ p, y.all[jj]? = some p → p.pc.lo ≠ c) ∧ ii ≤ y.n ∧ m2 = y.n - ii) y.n ⟨0, ffr, rfl, fun jj hj => by omega, by omega, rfl⟩ ?_
  rintro m2 fr L ⟨ii, hF, rfl, hno, hii, rfl⟩ K2 hK2
  refine cx_use hF fun g => ?_
  clear hF
  by_cases hin : ii < y.n
  rotate_left
  · repeat' (first | ((with_reducible refine at_op ?_); first | ((with_reducible refine at_move ?_); refine sx_move _ vf ?_) | ((with_reducible refine at_bin ?_); refine sx_lss rfl rfl ?_) | refine sx_len rfl ?_) | refine sx_nil ?_ | ((with_reducible refine at_code ?_); first | refine cx_seq ?_ | refine cx_region ?_ | refine cx_exit ?_ | (refine cx_cond rfl (fun h => ?_) (fun h => ?_) <;> (try simp only [decide_eq_true_eq, decide_eq_false_iff_not, Bool.and_eq_true, Bool.or_eq_true, Bool.and_eq_false_iff, Bool.or_eq_false_iff, Bool.not_eq_true', Bool.not_eq_false', Bool.not_true, Bool.not_false, Bool.true_or, Bool.or_true, Bool.false_or, Bool.or_false, Bool.and_true, Bool.true_and, Bool.false_and, Bool.and_false, reduceCtorEq, Classical.not_not, beq_self_eq_true, bne_self_eq_false, not_true_eq_false, not_false_eq_true, or_false, false_or, or_true, true_or, and_true, true_and, and_false, false_and, or_self, and_self] at h) <;> (try (exfalso; omega)))) | ((with_reducible refine at_exit ?_); first | refine qx_then ?_ | refine qx_in_here ?_ | refine qx_in_normal ?_ | refine qx_then_exit ?_))
    all_goals try (exfalso; omega)
    refine hK (4000 - c + 0) _ _ _ (by simp at hmm; omega) ⟨c, false, false, Ab, capb, cB, ffr, rfl, hob, hch, fun _ _ p hp => ?_, rfl⟩
    obtain ⟨q, hq, rfl⟩ := List.mem_map.1 hp
    obtain ⟨jj, hj⟩ := List.getElem?_of_mem hq
    have := (List.getElem?_eq_some_iff.1 hj).1
    exact hno jj (by omega) q hj
  obtain ⟨p, hp⟩ : ∃ p, y.all[ii]? = some p := ⟨_, List.getElem?_eq_getElem (by omega)⟩
  have hpm := List.mem_of_getElem? hp
  obtain ⟨hpa, hpn, hp4⟩ := hfit p hpm
  have hlo : (p.pc.lo : Int) = 8 * p.a := by show (((8 * p.a).toNat : Nat) : Int) = _; omega
  have hhi : p.pc.hi = p.pc.lo + p.n := by show p.pc.lo + p.l.length = _; omega
  have hvp : ∀ jj v, p.row[jj]? = some v → (y.all.flatMap Pk.row)[(ii : Int).toNat * 8 + jj]? = some v := fun jj v h => by rw [Int.toNat_natCast]; exact flat_get (f := Pk.row) (q := 8) rows8 hp h
  have hA := hbA (by omega)
  have hcle := hch.le
  have hbl := hr.bl
  by_cases hat : 8 * p.a = (c : Int)
  · have hd : decide (8 * p.a = (c : Int)) = true := decide_eq_true hat
    obtain ⟨hs1, hs2, hs3⟩ := hch.step hr (List.mem_map_of_mem hpm) (by omega : p.pc.lo = c)
    have hwf := hr.wf p.pc (List.mem_map_of_mem hpm)
    repeat' (first | (with_reducible refine stop_rs 40 ?_) | ((with_reducible refine at_ixaddr ?_); refine sx_indexQ rfl hA rfl (by omega) ?_) | ((with_reducible refine at_load ?_); first | refine sx_loadS1 5 ((ii : Int).toNat * 8 + 5) rfl ha hA (by omega) (by omega) rfl (hvp 5 _ rfl) ?_ | refine sx_loadS1 5 ((ii : Int).toNat * 8 + 7) rfl ha hA (by omega) (by omega) rfl (hvp 7 _ rfl) ?_) | ((with_reducible refine at_append ?_); refine sx_append (v := .slice Ab _ _) (ys := p.l.map (Value.int .u8)) rfl rfl rot2 hob (fun w hm => hbod p hpm hm.nil) bytes_one' (by omega) ?_; intro v c2 ho; obtain ⟨A2, cp2, rfl, hcp2⟩ := ho.len) | ((with_reducible refine at_op ?_); first | ((with_reducible refine at_move ?_); refine sx_move _ vf ?_) | ((with_reducible refine at_bin ?_); first | refine sx_lss rfl rfl ?_ | refine sx_eql rfl rfl ?_ | refine sx_mul rfl rfl bnd ?_) | ((with_reducible refine at_assign ?_); refine sx_assign _ vf ?_) | refine sx_fieldAddr rfl ?_ | refine sx_len rfl ?_) | refine sx_nil ?_ | ((with_reducible refine at_code ?_); first | refine cx_seq ?_ | refine cx_region ?_ | refine cx_skip ?_ | refine cx_block ?_ | (refine cx_cond rfl (fun h => ?_) (fun h => ?_) <;> (try simp only [decide_eq_true_eq, decide_eq_false_iff_not, Bool.and_eq_true, Bool.or_eq_true, Bool.and_eq_false_iff, Bool.or_eq_false_iff, Bool.not_eq_true', Bool.not_eq_false', Bool.not_true, Bool.not_false, Bool.true_or, Bool.or_true, Bool.false_or, Bool.or_false, Bool.and_true, Bool.true_and, Bool.false_and, Bool.and_false, reduceCtorEq, Classical.not_not, beq_self_eq_true, bne_self_eq_false, not_true_eq_false, not_false_eq_true, or_false, false_or, or_true, true_or, and_true, true_and, and_false, false_and, or_self, and_self] at h) <;> (try (exfalso; omega)))) | ((with_reducible refine at_exit ?_); refine qx_then ?_))
    all_goals try (exfalso; omega)
    refine halt_go ?_
    have e : p.pc.hi = c + p.n := by omega
    rw [e] at hs1 hs2 hs3
    have ho2 : OwnS 5 1 (.slice A2 (c + p.n) cp2) (c + p.n) ((h0.body.take (c + p.n)).map (Value.int .u8)) c2 := by
      rw [hs2, List.map_append]
      exact ho
    repeat' (first | ((with_reducible refine at_ixaddr ?_); refine sx_indexQ rfl hA rfl (by omega) ?_) | ((with_reducible refine at_load ?_); refine sx_loadS1 5 ((ii : Int).toNat * 8 + 6) rfl ha hA (by omega) (by omega) rfl (hvp 6 _ rfl) ?_) | ((with_reducible refine at_op ?_); first | ((with_reducible refine at_move ?_); refine sx_move _ vf ?_) | ((with_reducible refine at_assign ?_); refine sx_assign _ vf ?_) | refine sx_fieldAddr rfl ?_ | refine sx_not rfl ?_) | refine sx_nil ?_ | ((with_reducible refine at_code ?_); first | refine cx_seq ?_ | refine cx_region ?_ | refine cx_exit ?_) | ((with_reducible refine at_exit ?_); first | refine qx_then ?_ | refine qx_in_here ?_ | refine qx_in_normal ?_ | refine qx_in_out rfl ?_ | refine qx_then_exit ?_))
    all_goals try (exfalso; omega)
    refine qx_mem (L' := [_, _, _, _, _, _, _]) ?_ (fun w hm => hm.picks [1, 1, 0, 0, 0, 0, 0])
    have hc4 := hs1.le
    exact hK (4000 - (c + p.n) + 1) _ _ _ (by simp at hmm; omega) ⟨c + p.n, !p.m, true, A2, cp2, c2, ffr, rfl, ho2, hs1, (fun h => by cases h), rfl⟩
  · have hd : decide (8 * p.a = (c : Int)) = false := decide_eq_false hat
    repeat' (first | ((with_reducible refine at_ixaddr ?_); refine sx_indexQ rfl hA rfl (by omega) ?_) | ((with_reducible refine at_load ?_); refine sx_loadS1 5 ((ii : Int).toNat * 8 + 5) rfl ha hA (by omega) (by omega) rfl (hvp 5 _ rfl) ?_) | ((with_reducible refine at_op ?_); first | ((with_reducible refine at_move ?_); refine sx_move _ vf ?_) | ((with_reducible refine at_bin ?_); first | refine sx_lss rfl rfl ?_ | refine sx_eql rfl rfl ?_ | refine sx_add rfl rfl bnd ?_ | refine sx_mul rfl rfl bnd ?_) | ((with_reducible refine at_assign ?_); refine sx_assign _ vf ?_) | refine sx_fieldAddr rfl ?_ | refine sx_len rfl ?_) | refine sx_nil ?_ | ((with_reducible refine at_code ?_); first | refine cx_seq ?_ | refine cx_region ?_ | refine cx_skip ?_ | refine cx_block ?_ | (refine cx_cond rfl (fun h => ?_) (fun h => ?_) <;> (try simp only [decide_eq_true_eq, decide_eq_false_iff_not, Bool.and_eq_true, Bool.or_eq_true, Bool.and_eq_false_iff, Bool.or_eq_false_iff, Bool.not_eq_true', Bool.not_eq_false', Bool.not_true, Bool.not_false, Bool.true_or, Bool.or_true, Bool.false_or, Bool.or_false, Bool.and_true, Bool.true_and, Bool.false_and, Bool.and_false, reduceCtorEq, Classical.not_not, beq_self_eq_true, bne_self_eq_false, not_true_eq_false, not_false_eq_true, or_false, false_or, or_true, true_or, and_true, true_and, and_false, false_and, or_self, and_self] at h) <;> (try (exfalso; omega)))) | ((with_reducible refine at_exit ?_); first | refine qx_then ?_ | refine qx_in_normal ?_))
    all_goals try (exfalso; omega)
    refine hK2 (y.n - (ii + 1)) _ _ _ (by omega) ⟨ii + 1, ffr, rfl, fun jj hj p' hp' => ?_, by omega, rfl⟩
    by_cases hjj : jj = ii
    · rw [hjj, hp] at hp'
      obtain rfl := Option.some.inj hp'
      omega
    · exact hno jj (by omega) p' hp'
end Go.Proofs.YtlpdapfihgpheaaDoor
