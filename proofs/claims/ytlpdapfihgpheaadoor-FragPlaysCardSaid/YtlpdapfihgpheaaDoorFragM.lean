/- portref2: a pool's Add, from its end: the heap that is whole goes. -/
import Derived.Test.YtlpdapfihgpheaaDoorFragL
set_option linter.unusedSimpArgs false
set_option linter.unusedVariables false
set_option maxRecDepth 100000
namespace Go.Proofs.YtlpdapfihgpheaaDoor
open Go.RowKit Go.Port
attribute [local irreducible] Calls
theorem rows_one11 {l : List Rh} : ∀ u ∈ l.flatMap Rh.row, u.oneCell' = true := fun u hu => by
  obtain ⟨x, _, hx⟩ := List.mem_flatMap.1 hu
  simp only [Rh.row, Pk.row, List.cons_append, List.nil_append, List.mem_cons, List.not_mem_nil, or_false] at hx
  rcases hx with rfl | rfl | rfl | rfl | rfl | rfl | rfl | rfl | rfl | rfl | rfl <;> rfl
set_option maxHeartbeats 8000000 in
theorem rdel {mb xb rb cap len capx nb capb : Nat} {life u k t i s d a tt : Int} {m : Bool} {A Ax Ab : Option Addr} {cL cB : Ch} {P S : List Rh} {y : Rh} {D : List Nat} {w : World} {R : Value → List Ch → Prop} (hlen : (P ++ y :: S).length ≤ 100) (hL : OwnS 65 11 (.slice A (P ++ y :: S).length cap) (P ++ y :: S).length ((P ++ y :: S).flatMap Rh.row) cL)
    (hR : ∀ A2 cap2 c2, OwnS 65 11 (.slice A2 (P ++ S).length cap2) (P ++ S).length ((P ++ S).flatMap Rh.row) c2 → R (.tuple #[.agg #[.int .i64 k, .int .i64 tt, .int .i64 i, .int .i64 s, .int .i64 d, .int .i64 0, .bool false, .slice Ab nb capb], .bool true, .int .i64 0]) [rpC life u mb A2 cap2 c2 (P ++ S), cB]) (g : Nat → Value) :
    CX Tryd.prog w D 254 (bodyPost Tryd.prog Tryd.f13 (Ret w D R)) (tailOf 20 (Tryd.f13.body.getD .skip)) g [(0, .pointer (some ⟨mb, 0, none⟩)), (4, .pointer (some ⟨xb, 0, none⟩)), (6, .pointer (some ⟨rb, 0, none⟩)), (10, .int .i64 (P.length : Nat)), (14, .slice Ab nb capb), (16, .int .i64 tt)] [[(mb, .cells [.int .i64 life, .int .i64 u, .slice A (P ++ y :: S).length cap].toArray 42 (0, 0))], cL, cB, [(xb, .cells [.int .i64 k, .int .i64 t, .int .i64 i, .int .i64 s, .int .i64 d, .int .i64 a, .bool m, .slice Ax len capx].toArray 24 (0, 0))], [(rb, .cells [.int .i64 0, .int .i64 0, .int .i64 0, .int .i64 0, .int .i64 0, .int .i64 0, .bool false, .slice none 0 0].toArray 24 (0, 0))], (P ++ S).flatMap (·.c)] := by
  conv => arg 6; whnf
  have hll : (P ++ y :: S).length = P.length + (S.length + 1) := by rw [List.length_append, List.length_cons]
  have hsee : ∀ {w' : World}, Has w' cL → IsSl w' 11 A (P ++ y :: S).length cap ((P ++ y :: S).flatMap Rh.row) ∧ (P ++ y :: S).length ≤ cap := fun h => ⟨(hL.sees h).1, (hL.sees h).2.2⟩
  have hPs : ((P ++ y :: S).flatMap Rh.row).take (P.length * 11) = P.flatMap Rh.row := by
    rw [List.flatMap_append, List.take_append_of_le_length (by rw [flat_length rows11]; omega), List.take_of_length_le (by rw [flat_length rows11]; omega)]
  have hSs : ((P ++ y :: S).flatMap Rh.row).drop ((P.length + 1) * 11) = S.flatMap Rh.row := by
    rw [List.flatMap_append, List.flatMap_cons, List.drop_append, flat_length rows11, List.drop_of_length_le (by rw [flat_length rows11]; omega), List.nil_append, show (P.length + 1) * 11 - P.length * 11 = 11 by omega, List.drop_append, rows11, List.drop_of_length_le (by rw [rows11]; omega), Nat.sub_self, List.drop_zero, List.nil_append]
  obtain ⟨hcap⟩ : Nonempty ((P ++ y :: S).length ≤ cap) := by
    obtain ⟨A', cp', e, h⟩ := hL.len
    simp only [Value.slice.injEq] at e
    exact ⟨by omega⟩
  have h1 : ∀ {w' : World}, Has w' cL → IsSl w' 11 A (P.length : Int).toNat cap (P.flatMap Rh.row) := fun h => by
    rw [Int.toNat_natCast, ← hPs]
    exact (hsee h).1.to (by omega) (by omega)
  repeat' (first | (with_reducible refine stop_rs 51 ?_) | (refine sx_sliceToP rfl rfl (by omega) ?_) | ((with_reducible refine at_append ?_); refine sx_append (v := .slice none 0 0) (ys := P.flatMap Rh.row) rfl rfl rotN (OwnS.nil _ _) (fun w hm => h1 (hm.at 2 rfl)) rows_one11 (by omega) ?_; intro v c ho; obtain ⟨A1, cp1, rfl, hcp1⟩ := ho.len) | ((with_reducible refine at_op ?_); first | ((with_reducible refine at_move ?_); refine sx_move _ vf ?_) | ((with_reducible refine at_assign ?_); refine sx_assign _ vf ?_) | ((with_reducible refine at_load ?_); refine sx_loadE rfl pc gv ?_) | refine sx_nilCheck rfl ?_ | refine sx_fieldAddr rfl ?_) | refine sx_nil ?_ | ((with_reducible refine at_code ?_); first | refine cx_seq ?_ | refine cx_region ?_) | ((with_reducible refine at_exit ?_); refine qx_then ?_))
  refine halt_go ?_
  rw [Nat.zero_add, Int.toNat_natCast, List.nil_append] at ho
  rw [Nat.zero_add, Int.toNat_natCast]
  have h2 : ∀ {w' : World}, Has w' cL → IsSl w' 11 (shift A cap ((P.length : Int) + 1).toNat 11) ((P ++ y :: S).length - ((P.length : Int) + 1).toNat) (cap - ((P.length : Int) + 1).toNat) (S.flatMap Rh.row) := fun h => by
    rw [show ((P.length : Int) + 1).toNat = P.length + 1 by omega, ← hSs]
    exact (hsee h).1.from (by omega) (by omega)
  repeat' (first | (with_reducible refine stop_rs 52 ?_) | (refine sx_sliceFrom rfl rfl (by omega) ?_) | ((with_reducible refine at_append ?_); refine sx_append (v := .slice A1 _ _) (ys := S.flatMap Rh.row) rfl rfl rot0 ho (fun w hm => h2 (hm.at 2 rfl)) rows_one11 (by omega) ?_; intro v c2 ho2; obtain ⟨A2, cp2, rfl, hcp2⟩ := ho2.len) | ((with_reducible refine at_op ?_); first | ((with_reducible refine at_move ?_); refine sx_move _ vf ?_) | ((with_reducible refine at_bin ?_); refine sx_add rfl rfl bnd ?_) | ((with_reducible refine at_load ?_); refine sx_loadE rfl pc gv ?_) | ((with_reducible refine at_stores ?_); first | refine sx_stval _ vf ?_ | (refine sx_rot rot1 ?_; (apply sx_store rfl rfl rfl rfl; (repeat (first | exact set_z rfl | apply set_succ))))) | refine sx_nilCheck rfl ?_ | refine sx_fieldAddr rfl ?_) | refine sx_nil ?_ | ((with_reducible refine at_code ?_); first | refine cx_seq ?_ | refine cx_region ?_) | ((with_reducible refine at_exit ?_); refine qx_then ?_))
  refine halt_go ?_
  have e2 : P.length + ((P ++ y :: S).length - ((P.length : Int) + 1).toNat) = (P ++ S).length := by rw [hll, List.length_append]; omega
  rw [e2, ← List.flatMap_append] at ho2
  rw [e2]
  repeat' (first | ((with_reducible refine at_op ?_); first | ((with_reducible refine at_move ?_); refine sx_move _ vf ?_) | ((with_reducible refine at_assign ?_); refine sx_assign _ vf ?_) | ((with_reducible refine at_load ?_); refine sx_loadWE rfl pc gl ?_) | ((with_reducible refine at_stores ?_); first | refine sx_stval _ vf ?_ | (apply sx_store rfl rfl rfl rfl; (repeat (first | exact set_z rfl | apply set_succ))) | (refine sx_rot rot4 ?_; (apply sx_store rfl rfl rfl rfl; (repeat (first | exact set_z rfl | apply set_succ)))) | (refine sx_rot rot5 ?_; refine sx_storeW rfl rfl rfl rfl ?_)) | refine sx_fieldAddr rfl ?_) | refine sx_nil ?_ | ((with_reducible refine at_code ?_); first | refine cx_seq ?_ | refine cx_region ?_ | refine cx_ret ?_) | ((with_reducible refine at_exit ?_); refine qx_then ?_))
  exact qx_retC3 0 [rpC life u mb A2 cp2 c2 (P ++ S), cB] rfl rfl rfl rfl rfl rfl (hR A2 cp2 c2 ho2) (fun w hm => (hm.picks [2, 2, 4, 3]).perm (by simp [rpC, Port.picks]))
theorem rows8 (x : Pk) : x.row.length = 8 := rfl
set_option maxHeartbeats 8000000 in
theorem rttl {mb xb rb cap len capx nb capb na capa : Nat} {life u k t i s d a T : Int} {m : Bool} {A Ax Ab Aa : Option Addr} {cL cB ca : Ch} {P S : List Rh} {y : Rh} {all : List Pk} {D : List Nat} {w : World} {R : Value → List Ch → Prop} (hlen : (P ++ y :: S).length ≤ 100) (hL : OwnS 65 11 (.slice A (P ++ y :: S).length cap) (P ++ y :: S).length ((P ++ y :: S).flatMap Rh.row) cL)
    (ha : OwnS 24 8 (.slice Aa na capa) na (all.flatMap Pk.row) ca) (hna : na = all.length) (hna2 : na ≤ 100000) (hT : ∀ tt, (∀ p ∈ all, tt ≤ p.t) → (tt = t ∨ ∃ p ∈ all, tt = p.t) → tt = T)
    (hR : ∀ A2 cap2 c2, OwnS 65 11 (.slice A2 (P ++ S).length cap2) (P ++ S).length ((P ++ S).flatMap Rh.row) c2 → R (.tuple #[.agg #[.int .i64 k, .int .i64 T, .int .i64 i, .int .i64 s, .int .i64 d, .int .i64 0, .bool false, .slice Ab nb capb], .bool true, .int .i64 0]) [rpC life u mb A2 cap2 c2 (P ++ S), cB]) (g : Nat → Value) :
    CX Tryd.prog w D 254 (bodyPost Tryd.prog Tryd.f13 (Ret w D R)) (tailOf 19 (Tryd.f13.body.getD .skip)) g [(0, .pointer (some ⟨mb, 0, none⟩)), (4, .pointer (some ⟨xb, 0, none⟩)), (6, .pointer (some ⟨rb, 0, none⟩)), (10, .int .i64 (P.length : Nat)), (14, .slice Ab nb capb), (15, .slice Aa na capa), (16, .int .i64 t)] [[(mb, .cells [.int .i64 life, .int .i64 u, .slice A (P ++ y :: S).length cap].toArray 42 (0, 0))], cL, cB, [(xb, .cells [.int .i64 k, .int .i64 t, .int .i64 i, .int .i64 s, .int .i64 d, .int .i64 a, .bool m, .slice Ax len capx].toArray 24 (0, 0))], [(rb, .cells [.int .i64 0, .int .i64 0, .int .i64 0, .int .i64 0, .int .i64 0, .int .i64 0, .bool false, .slice none 0 0].toArray 24 (0, 0))], ca, (P ++ S).flatMap (·.c)] := by
  conv => arg 6; whnf
  repeat' (first | ((with_reducible refine at_op ?_); ((with_reducible refine at_assign ?_); refine sx_assign _ vf ?_)) | refine sx_nil ?_ | ((with_reducible refine at_code ?_); first | refine cx_seq ?_ | refine cx_region ?_ | refine cx_block ?_) | ((with_reducible refine at_exit ?_); refine qx_then ?_))
  refine cx_loop (fun mm fr L => ∃ (ii : Nat) (tt : Int), FF fr [(0, .pointer (some ⟨mb, 0, none⟩)), (4, .pointer (some ⟨xb, 0, none⟩)), (6, .pointer (some ⟨rb, 0, none⟩)), (10, .int .i64 (P.length : Nat)), (14, .slice Ab nb capb), (15, .slice Aa na capa), (16, .int .i64 tt), (20, .int .i64 ii)] ∧ L = [[(mb, .cells [.int .i64 life, .int .i64 u, .slice A (P ++ y :: S).length cap].toArray 42 (0, 0))], cL, cB, [(xb, .cells [.int .i64 k, .int .i64 t, .int .i64 i, .int .i64 s, .int .i64 d, .int .i64 a, .bool m, .slice Ax len capx].toArray 24 (0, 0))], [(rb, .cells [.int .i64 0, .int .i64 0, .int .i64 0, .int .i64 0, .int .i64 0, .int .i64 0, .bool false, .slice none 0 0].toArray 24 (0, 0))], ca, (P ++ S).flatMap (·.c)] ∧ (∀ jj, jj < ii → ∀ p, all[jj]? = some p → tt ≤ p.t) ∧ (tt = t ∨ ∃ p ∈ all, tt = p.t) ∧ ii ≤ na ∧ mm = na - ii) na ⟨0, t, ffr, rfl, fun jj hj => by omega, .inl rfl, by omega, rfl⟩ ?_
  rintro mm fr L ⟨ii, tt, hF, rfl, h1, h2, hi, rfl⟩ K hK
  refine cx_use hF fun g => ?_
  clear hF
  by_cases hin : ii < na
  rotate_left
  · clear hK
    obtain rfl : tt = T := hT tt (fun p hp => by
      obtain ⟨jj, hj⟩ := List.getElem?_of_mem hp
      have := (List.getElem?_eq_some_iff.1 hj).1
      exact h1 jj (by omega) p hj) h2
    repeat' (first | (with_reducible refine stop_rs 49 ?_) | ((with_reducible refine at_op ?_); first | ((with_reducible refine at_move ?_); refine sx_move _ vf ?_) | ((with_reducible refine at_bin ?_); refine sx_lss rfl rfl ?_) | refine sx_len rfl ?_) | refine sx_nil ?_ | ((with_reducible refine at_code ?_); first | refine cx_seq ?_ | refine cx_region ?_ | refine cx_exit ?_ | (refine cx_cond rfl (fun h => ?_) (fun h => ?_) <;> (try simp only [decide_eq_true_eq, decide_eq_false_iff_not, Bool.and_eq_true, Bool.or_eq_true, Bool.and_eq_false_iff, Bool.or_eq_false_iff, Bool.not_eq_true', Bool.not_eq_false', Bool.not_true, Bool.not_false, Bool.true_or, Bool.or_true, Bool.false_or, Bool.or_false, Bool.and_true, Bool.true_and, Bool.false_and, Bool.and_false, reduceCtorEq, Classical.not_not, beq_self_eq_true, bne_self_eq_false, not_true_eq_false, not_false_eq_true, or_false, false_or, or_true, true_or, and_true, true_and, and_false, false_and, or_self, and_self] at h) <;> (try (exfalso; omega)))) | ((with_reducible refine at_exit ?_); first | refine qx_then ?_ | refine qx_in_here ?_ | refine qx_then_exit ?_))
    all_goals try (exfalso; omega)
    refine halt_go ?_
    refine cx_mem (L' := [_, _, _, _, _, _]) ?_ (fun w hm => hm.picks [0, 0, 0, 0, 0, 1])
    exact cx_fold (cx_use ffr fun g => rdel hlen hL hR g)
  obtain ⟨p, hp⟩ : ∃ p, all[ii]? = some p := ⟨_, List.getElem?_eq_getElem (by omega)⟩
  have hv : (all.flatMap Pk.row)[(ii : Int).toNat * 8 + 1]? = some (.int .i64 p.t) := by rw [Int.toNat_natCast]; exact flat_get (f := Pk.row) (q := 8) rows8 hp rfl
  obtain ⟨bA, hbA⟩ := ha.base'
  have hA := hbA (by omega)
  repeat' (first | ((with_reducible refine at_ixaddr ?_); refine sx_indexQ rfl hA rfl (by omega) ?_) | ((with_reducible refine at_load ?_); refine sx_loadS1 5 ((ii : Int).toNat * 8 + 1) rfl ha hA (by omega) (by omega) rfl hv ?_) | ((with_reducible refine at_op ?_); first | ((with_reducible refine at_move ?_); refine sx_move _ vf ?_) | ((with_reducible refine at_bin ?_); first | refine sx_lss rfl rfl ?_ | refine sx_add rfl rfl bnd ?_) | ((with_reducible refine at_assign ?_); refine sx_assign _ vf ?_) | refine sx_fieldAddr rfl ?_ | refine sx_len rfl ?_) | refine sx_nil ?_ | ((with_reducible refine at_code ?_); first | refine cx_seq ?_ | refine cx_region ?_ | refine cx_skip ?_ | refine cx_block ?_ | (refine cx_cond rfl (fun h => ?_) (fun h => ?_) <;> (try simp only [decide_eq_true_eq, decide_eq_false_iff_not, Bool.and_eq_true, Bool.or_eq_true, Bool.and_eq_false_iff, Bool.or_eq_false_iff, Bool.not_eq_true', Bool.not_eq_false', Bool.not_true, Bool.not_false, Bool.true_or, Bool.or_true, Bool.false_or, Bool.or_false, Bool.and_true, Bool.true_and, Bool.false_and, Bool.and_false, reduceCtorEq, Classical.not_not, beq_self_eq_true, bne_self_eq_false, not_true_eq_false, not_false_eq_true, or_false, false_or, or_true, true_or, and_true, true_and, and_false, false_and, or_self, and_self] at h) <;> (try (exfalso; omega)))) | ((with_reducible refine at_exit ?_); first | refine qx_then ?_ | refine qx_in_normal ?_))
  all_goals try (exfalso; omega)
  · exact hK (na - (ii + 1)) _ _ _ (by omega) ⟨ii + 1, p.t, ffr, rfl, fun jj hj p' hp' => by
      by_cases hjj : jj = ii
      · rw [hjj, hp] at hp'
        obtain rfl := Option.some.inj hp'
        exact Int.le_refl _
      · have := h1 jj (by omega) p' hp'
        omega, .inr ⟨p, List.mem_of_getElem? hp, rfl⟩, by omega, rfl⟩
  · exact hK (na - (ii + 1)) _ _ _ (by omega) ⟨ii + 1, tt, ffr, rfl, fun jj hj p' hp' => by
      by_cases hjj : jj = ii
      · rw [hjj, hp] at hp'
        obtain rfl := Option.some.inj hp'
        omega
      · exact h1 jj (by omega) p' hp', h2, by omega, rfl⟩
end Go.Proofs.YtlpdapfihgpheaaDoor
