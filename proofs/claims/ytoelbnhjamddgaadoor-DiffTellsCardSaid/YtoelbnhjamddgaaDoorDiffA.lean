/- diff: rules held against each other, rules cloned. -/
import Derived.Test.YtoelbnhjamddgaaDoorDiffP
import Derived.Test.YtoelbnhjamddgaaDoorEqPx
import Derived.Test.YtoelbnhjamddgaaDoorSxTx
set_option linter.unusedSimpArgs false
set_option linter.unusedVariables false
set_option maxRecDepth 100000
namespace Go.Port
open Go.RowKit
theorem con_iff {ps qk kp ps' qk' kp' : Bool} {way kind sa sl da dl way' kind' sa' sl' da' dl' : Int} {FA TA FA' TA' : Option Addr} {fl fc tl tc fl' fc' tl' tc' : Nat} {lf lt lf' lt' : List Sp} :
    Ru.con ⟨ps, qk, kp, way, kind, sa, sl, da, dl, FA, fl, fc, TA, tl, tc, lf, lt⟩ = Ru.con ⟨ps', qk', kp', way', kind', sa', sl', da', dl', FA', fl', fc', TA', tl', tc', lf', lt'⟩ ↔ ps = ps' ∧ qk = qk' ∧ kp = kp' ∧ way = way' ∧ kind = kind' ∧ (sa = sa' ∧ sl = sl') ∧ (da = da' ∧ dl = dl') ∧ lf = lf' ∧ lt = lt' := by
  unfold Ru.con
  simp only [Rc.mk.injEq]
  constructor
  · rintro ⟨h1, h2, h3, h4, h5, h6, h7, h8, h9, h10, h11⟩
    exact ⟨h1, h2, h3, h4, h5, ⟨h6, h7⟩, ⟨h8, h9⟩, h10, h11⟩
  · rintro ⟨h1, h2, h3, h4, h5, ⟨h6, h7⟩, ⟨h8, h9⟩, h10, h11⟩
    exact ⟨h1, h2, h3, h4, h5, h6, h7, h8, h9, h10, h11⟩
theorem Ru.ok.mem {r : Ru} {w0 w : World} (h : r.ok w0) {L : List Ch} (hm : Mem w0 w [] L) : r.ok w := ⟨⟨h.1.1.mem hm, h.1.2⟩, h.2.1.mem hm, h.2.2⟩
theorem first_bd : ∀ {l : List Ru}, firstE l = 0 → ∀ r ∈ l, r.lf.length ≤ 10 ∧ r.lt.length ≤ 10
  | [], _, r, hr => by cases hr
  | x :: l, h, r, hr => by
    rw [firstE] at h
    split at h
    · rename_i h1; exact absurd h h1
    · rename_i h1
      rcases List.mem_cons.1 hr with rfl | hr
      · have h2 : Ru.err r = 0 := Classical.not_not.1 h1
        unfold Ru.err ruE at h2
        split at h2
        · cases h2
        · split at h2
          · rename_i h3; exact absurd h2 h3
          · split at h2
            · rename_i h3; exact absurd h2 h3
            · split at h2
              · cases h2
              · omega
      · exact first_bd h r hr
theorem rc_bd {l : List Ru} (h : rcE l = 0) : l.length ≤ 20 ∧ ∀ r ∈ l, r.lf.length ≤ 10 ∧ r.lt.length ≤ 10 := by
  unfold rcE at h
  split at h
  · cases h
  · exact ⟨by omega, first_bd h⟩
theorem con_bd {l1 l2 : List Ru} (h : l1.map Ru.con = l2.map Ru.con) (h2 : rcE l2 = 0) : ∀ r ∈ l1, r.lf.length ≤ 4611686018427387904 ∧ r.lt.length ≤ 4611686018427387904 := fun r hr => by
  have h1 : r.con ∈ l1.map Ru.con := List.mem_map_of_mem hr
  rw [h] at h1
  obtain ⟨s, hs, hc⟩ := List.mem_map.1 h1
  have h4 : s.lf = r.lf := congrArg Rc.lf hc
  have h5 : s.lt = r.lt := congrArg Rc.lt hc
  have := (rc_bd h2).2 s hs
  rw [← h4, ← h5]
  omega
theorem con_len {l1 l2 : List Ru} (h : l1.map Ru.con = l2.map Ru.con) : l1.length = l2.length := by
  have := congrArg List.length h
  rw [List.length_map, List.length_map] at this
  exact this
end Go.Port
namespace Go.Proofs.YtoelbnhjamddgaaDoor
open Go.RowKit Go.Port
attribute [local irreducible] Calls
set_option maxHeartbeats 8000000 in
theorem diff_same (ps qk kp ps' qk' kp' : Bool) (way kind sa sl da dl way' kind' sa' sl' da' dl' : Int) {FA TA FA' TA' : Option Addr} {fl fc tl tc fl' fc' tl' tc' : Nat} {lf lt lf' lt' : List Sp} {w : World}
    (hf : IsSl w 2 FA fl fc (rowsS lf)) (hfl : fl = lf.length) (ht : IsSl w 2 TA tl tc (rowsS lt)) (htl : tl = lt.length) (hf' : IsSl w 2 FA' fl' fc' (rowsS lf')) (hfl' : fl' = lf'.length) (ht' : IsSl w 2 TA' tl' tc' (rowsS lt')) (htl' : tl' = lt'.length) (hbf : fl ≤ 4611686018427387904) (hbt : tl ≤ 4611686018427387904) :
    Calls Tryd.prog 38 #[.agg #[.bool ps, .bool qk, .bool kp, .int .i64 way, .int .i64 kind, .int .i64 sa, .int .i64 sl, .int .i64 da, .int .i64 dl, .slice FA fl fc, .slice TA tl tc], .agg #[.bool ps', .bool qk', .bool kp', .int .i64 way', .int .i64 kind', .int .i64 sa', .int .i64 sl', .int .i64 da', .int .i64 dl', .slice FA' fl' fc', .slice TA' tl' tc']] w (Ret w [] (isV (.bool (decide (Ru.con ⟨ps, qk, kp, way, kind, sa, sl, da, dl, FA, fl, fc, TA, tl, tc, lf, lt⟩ = Ru.con ⟨ps', qk', kp', way', kind', sa', sl', da', dl', FA', fl', fc', TA', tl', tc', lf', lt'⟩))))) := by
  refine cx_enter (args := [.agg #[.bool ps, .bool qk, .bool kp, .int .i64 way, .int .i64 kind, .int .i64 sa, .int .i64 sl, .int .i64 da, .int .i64 dl, .slice FA fl fc, .slice TA tl tc], .agg #[.bool ps', .bool qk', .bool kp', .int .i64 way', .int .i64 kind', .int .i64 sa', .int .i64 sl', .int .i64 da', .int .i64 dl', .slice FA' fl' fc', .slice TA' tl' tc']]) (F := [(0, .agg #[.bool ps, .bool qk, .bool kp, .int .i64 way, .int .i64 kind, .int .i64 sa, .int .i64 sl, .int .i64 da, .int .i64 dl, .slice FA fl fc, .slice TA tl tc]), (1, .agg #[.bool ps', .bool qk', .bool kp', .int .i64 way', .int .i64 kind', .int .i64 sa', .int .i64 sl', .int .i64 da', .int .i64 dl', .slice FA' fl' fc', .slice TA' tl' tc'])]) _ [] Tryd.func38 rfl Tryd.ntmps38 (by simp) rfl (Mem.refl _) (fun g => ?_)
  by_cases hall : ps = ps' ∧ qk = qk' ∧ kp = kp' ∧ way = way' ∧ kind = kind' ∧ (sa = sa' ∧ sl = sl') ∧ (da = da' ∧ dl = dl')
  rotate_left
  · have e : decide (Ru.con ⟨ps, qk, kp, way, kind, sa, sl, da, dl, FA, fl, fc, TA, tl, tc, lf, lt⟩ = Ru.con ⟨ps', qk', kp', way', kind', sa', sl', da', dl', FA', fl', fc', TA', tl', tc', lf', lt'⟩) = false := decide_eq_false fun h => by
      obtain ⟨h1, h2, h3, h4, h5, h6, h7, _⟩ := con_iff.1 h
      exact hall ⟨h1, h2, h3, h4, h5, h6, h7⟩
    have hc : (ps == ps') = false ∨ ((ps == ps') = true ∧ ((qk == qk') = false ∨ ((qk == qk') = true ∧ ((kp == kp') = false ∨ ((kp == kp') = true ∧ (decide (way = way') = false ∨ (decide (way = way') = true ∧ (decide (kind = kind') = false ∨ (decide (kind = kind') = true ∧ (decide (sa = sa' ∧ sl = sl') = false ∨ (decide (sa = sa' ∧ sl = sl') = true ∧ decide (da = da' ∧ dl = dl') = false))))))))))) := by
      simp only [beq_iff_eq, beq_eq_false_iff_ne, decide_eq_true_eq, decide_eq_false_iff_not, ne_eq]
      by_cases c1 : ps = ps'
      · by_cases c2 : qk = qk'
        · by_cases c3 : kp = kp'
          · by_cases c4 : way = way'
            · by_cases c5 : kind = kind'
              · by_cases c6 : sa = sa' ∧ sl = sl'
                · exact .inr ⟨c1, .inr ⟨c2, .inr ⟨c3, .inr ⟨c4, .inr ⟨c5, .inr ⟨c6, fun c7 => hall ⟨c1, c2, c3, c4, c5, c6, c7⟩⟩⟩⟩⟩⟩⟩
                · exact .inr ⟨c1, .inr ⟨c2, .inr ⟨c3, .inr ⟨c4, .inr ⟨c5, .inl c6⟩⟩⟩⟩⟩
              · exact .inr ⟨c1, .inr ⟨c2, .inr ⟨c3, .inr ⟨c4, .inl c5⟩⟩⟩⟩
            · exact .inr ⟨c1, .inr ⟨c2, .inr ⟨c3, .inl c4⟩⟩⟩
          · exact .inr ⟨c1, .inr ⟨c2, .inl c3⟩⟩
        · exact .inr ⟨c1, .inl c2⟩
      · exact .inl c1
    clear hall
    rcases hc with q1 | ⟨q1, q2 | ⟨q2, q3 | ⟨q3, q4 | ⟨q4, q5 | ⟨q5, q6 | ⟨q6, q7⟩⟩⟩⟩⟩⟩
    all_goals
      repeat' (first | ((with_reducible refine at_load ?_); first | refine sx_loadV 0 [_, _] rfl rfl rfl rfl ?_ | refine sx_loadV 1 [_, _] rfl rfl rfl rfl ?_) | ((with_reducible refine at_bin ?_); first | refine sx_eqlB rfl rfl ?_ | refine sx_eqlP rfl rfl ?_) | ((with_reducible refine at_op ?_); first | ((with_reducible refine at_guard ?_); first | refine sx_want rfl rfl rfl ras ?_ | refine sx_skip rfl rfl rfl ras ?_) | ((with_reducible refine at_move ?_); refine sx_move _ vf ?_) | ((with_reducible refine at_bin ?_); refine sx_eql rfl rfl ?_) | ((with_reducible refine at_assign ?_); refine sx_assign _ vf ?_) | ((with_reducible refine at_load ?_); refine sx_loadE rfl pc gv ?_) | refine sx_fieldAddr rfl ?_ | ((with_reducible refine at_pick ?_); first | refine sx_pickT (.bool _) rfl dec rfl ?_ | refine sx_pickF (.bool _) rfl dec rfl ?_) | (refine sx_box rfl ?_; intro b)) | refine sx_nil ?_ | ((with_reducible refine at_code ?_); first | refine cx_seq ?_ | refine cx_region ?_ | refine cx_ret ?_) | ((with_reducible refine at_exit ?_); refine qx_then ?_))
      all_goals first
        | exact qx_ret1 (v := .bool _) [] rfl rfl ⟨by rw [e], rfl⟩ (fun w hm => hm.nil)
  obtain ⟨rfl, rfl, rfl, rfl, rfl, ⟨rfl, rfl⟩, rfl, rfl⟩ := hall
  have q1 : (ps == ps) = true := beq_self_eq_true _
  have q2 : (qk == qk) = true := beq_self_eq_true _
  have q3 : (kp == kp) = true := beq_self_eq_true _
  have q4 : decide (way = way) = true := decide_eq_true rfl
  have q5 : decide (kind = kind) = true := decide_eq_true rfl
  have q6 : decide (sa = sa ∧ sl = sl) = true := decide_eq_true ⟨rfl, rfl⟩
  have q7 : decide (da = da ∧ dl = dl) = true := decide_eq_true ⟨rfl, rfl⟩
  have hcf : (decide (lf = lf') = false) ∨ (decide (lf = lf') = true) := by cases decide (lf = lf') <;> simp
  rcases hcf with q8 | q8
  all_goals
    repeat' (first | ((with_reducible refine at_load ?_); first | refine sx_loadV 0 [_, _] rfl rfl rfl rfl ?_ | refine sx_loadV 1 [_, _] rfl rfl rfl rfl ?_) | ((with_reducible refine at_bin ?_); first | refine sx_eqlB rfl rfl ?_ | refine sx_eqlP rfl rfl ?_) | ((with_reducible refine at_call 59 ?_); refine sx_callv (fun w hm => equal_spans (hf.mem hm.nil) (hf'.mem hm.nil) hfl hfl' hbf) ?_ rfl) | ((with_reducible refine at_call 59 ?_); refine sx_callv (fun w hm => equal_spans (ht.mem hm.nil) (ht'.mem hm.nil) htl htl' hbt) ?_ rfl) | ((with_reducible refine at_op ?_); first | ((with_reducible refine at_guard ?_); first | refine sx_want rfl rfl rfl ras ?_ | refine sx_skip rfl rfl rfl ras ?_) | ((with_reducible refine at_move ?_); refine sx_move _ vf ?_) | ((with_reducible refine at_bin ?_); refine sx_eql rfl rfl ?_) | ((with_reducible refine at_assign ?_); refine sx_assign _ vf ?_) | ((with_reducible refine at_load ?_); refine sx_loadE rfl pc gv ?_) | refine sx_fieldAddr rfl ?_ | ((with_reducible refine at_pick ?_); first | refine sx_pickT (.bool _) rfl dec rfl ?_ | refine sx_pickF (.bool _) rfl dec rfl ?_) | (refine sx_box rfl ?_; intro b)) | refine sx_nil ?_ | ((with_reducible refine at_code ?_); first | refine cx_seq ?_ | refine cx_region ?_ | refine cx_ret ?_) | ((with_reducible refine at_exit ?_); refine qx_then ?_))
  · have e : decide (Ru.con ⟨ps, qk, kp, way, kind, sa, sl, da, dl, FA, fl, fc, TA, tl, tc, lf, lt⟩ = Ru.con ⟨ps, qk, kp, way, kind, sa, sl, da, dl, FA', fl', fc', TA', tl', tc', lf', lt'⟩) = false := decide_eq_false fun h => by
      obtain ⟨_, _, _, _, _, _, _, h8, _⟩ := con_iff.1 h
      exact of_decide_eq_false q8 h8
    exact qx_ret1 (v := .bool _) [] rfl rfl ⟨by rw [e], rfl⟩ (fun w hm => hm.nil)
  · have h8 := of_decide_eq_true q8
    have e : decide (lt = lt') = decide (Ru.con ⟨ps, qk, kp, way, kind, sa, sl, da, dl, FA, fl, fc, TA, tl, tc, lf, lt⟩ = Ru.con ⟨ps, qk, kp, way, kind, sa, sl, da, dl, FA', fl', fc', TA', tl', tc', lf', lt'⟩) := by
      rw [decide_eq_decide]
      constructor
      · intro h9
        exact con_iff.2 ⟨rfl, rfl, rfl, rfl, rfl, ⟨rfl, rfl⟩, ⟨rfl, rfl⟩, h8, h9⟩
      · intro h
        exact (con_iff.1 h).2.2.2.2.2.2.2.2
    exact qx_ret1 (v := .bool _) [] rfl rfl ⟨by rw [← e], rfl⟩ (fun w hm => hm.nil)
set_option maxHeartbeats 8000000 in
theorem diff_clone (ps qk kp : Bool) (way kind sa sl da dl : Int) {FA TA : Option Addr} {fl fc tl tc : Nat} {lf lt : List Sp} {w : World}
    (hf : IsSl w 2 FA fl fc (rowsS lf)) (hfl : fl = lf.length) (ht : IsSl w 2 TA tl tc (rowsS lt)) (htl : tl = lt.length) (hbf : lf.length ≤ 100000) (hbt : lt.length ≤ 100000) :
    Calls Tryd.prog 39 #[.agg #[.bool ps, .bool qk, .bool kp, .int .i64 way, .int .i64 kind, .int .i64 sa, .int .i64 sl, .int .i64 da, .int .i64 dl, .slice FA fl fc, .slice TA tl tc]] w (Ret w [] (fun v L => ∃ (FB : Option Addr) (fd : Nat) (TB : Option Addr) (td : Nat) (c : Ch), v = .agg #[.bool ps, .bool qk, .bool kp, .int .i64 way, .int .i64 kind, .int .i64 sa, .int .i64 sl, .int .i64 da, .int .i64 dl, .slice FB fl fd, .slice TB tl td] ∧ L = [c] ∧ ∀ w', Has w' c → IsSl w' 2 FB fl fd (rowsS lf) ∧ IsSl w' 2 TB tl td (rowsS lt))) := by
  refine cx_enter (args := [.agg #[.bool ps, .bool qk, .bool kp, .int .i64 way, .int .i64 kind, .int .i64 sa, .int .i64 sl, .int .i64 da, .int .i64 dl, .slice FA fl fc, .slice TA tl tc]]) (F := [(0, .agg #[.bool ps, .bool qk, .bool kp, .int .i64 way, .int .i64 kind, .int .i64 sa, .int .i64 sl, .int .i64 da, .int .i64 dl, .slice FA fl fc, .slice TA tl tc])]) _ [] Tryd.func39 rfl Tryd.ntmps39 (by simp) rfl (Mem.refl _) (fun g => ?_)
  repeat' (first | ((with_reducible refine at_reg 1 ?_); refine cx_held0 dk ?_) | ((with_reducible refine at_held ?_); first | refine ah_both 1 4 (o := ⟨_, _, _, _, _, _⟩) (o' := ⟨_, _, _, _, _, _⟩) dk rfl rfl ?_ ?_ | refine ah_both 2 4 (o := ⟨_, _, _, _, _, _⟩) (o' := ⟨_, _, _, _, _, _⟩) dk rfl rfl ?_ ?_ | (refine ah_not 1 rfl ?_; refine ah_lone 1 (o := ⟨_, _, _, _, _, _⟩) dk rfl ?_) | (refine ah_not 4 rfl ?_; refine ah_lone 4 (o := ⟨_, _, _, _, _, _⟩) dk rfl ?_) | (refine ah_not 3 rfl ?_; refine ah_isp 3 rfl ?_; refine ah_at 3 dk (fun hT => ?_); refine ah_pure 3 (o := ⟨_, _, _, _, _, _⟩) hT rfl rfl rfl rfl rfl ?_; apply Exists.intro; refine And.intro ?_ ?_)) | ((with_reducible refine at_call 60 ?_); refine sx_call0 (fun w hm => clone_spans (hf.mem hm.nil) hfl (by omega)) ?_; rintro _ _ ⟨FB, fd, cf, rfl, rfl, hof⟩; refine sx_app1 ?_) | ((with_reducible refine at_call 60 ?_); refine sx_call0 (fun w hm => clone_spans (ht.mem hm.nil) htl (by omega)) ?_; rintro _ _ ⟨TB, td, ct, rfl, rfl, hot⟩; refine sx_app1 ?_) | ((with_reducible refine at_held ?_); first | (refine ah_not 0 rfl ?_; refine ah_isp 0 rfl ?_; refine ah_at 0 dk (fun hT => ?_); first | (refine ah_pure 0 (o := ⟨_, _, _, _, _, _⟩) hT rfl rfl rfl rfl rfl ?_; apply Exists.intro; refine And.intro ?_ ?_) | refine ah_nil 0 hT rfl rfl ?_ | refine ah_skip 0 (o := ⟨_, _, _, _, _, _⟩) hT rfl rfl rfl rfl rfl rfl ras ?_ | (refine ah_pureW 0 (o := ⟨_, _, _, _, _, _⟩) hT rfl rfl rfl rfl rfl rfl rfl rfl ras ?_; apply Exists.intro; refine And.intro ?_ ?_)) | (refine ah_not 6 rfl ?_; refine ah_isp 6 rfl ?_; refine ah_at 6 dk (fun hT => ?_); first | (refine ah_pure 6 (o := ⟨_, _, _, _, _, _⟩) hT rfl rfl rfl rfl rfl ?_; apply Exists.intro; refine And.intro ?_ ?_) | refine ah_nil 6 hT rfl rfl ?_ | refine ah_skip 6 (o := ⟨_, _, _, _, _, _⟩) hT rfl rfl rfl rfl rfl rfl ras ?_ | (refine ah_pureW 6 (o := ⟨_, _, _, _, _, _⟩) hT rfl rfl rfl rfl rfl rfl rfl rfl ras ?_; apply Exists.intro; refine And.intro ?_ ?_)) | (refine ah_not 8 rfl ?_; refine ah_isp 8 rfl ?_; refine ah_at 8 dk (fun hT => ?_); first | (refine ah_pure 8 (o := ⟨_, _, _, _, _, _⟩) hT rfl rfl rfl rfl rfl ?_; apply Exists.intro; refine And.intro ?_ ?_) | refine ah_nil 8 hT rfl rfl ?_ | refine ah_skip 8 (o := ⟨_, _, _, _, _, _⟩) hT rfl rfl rfl rfl rfl rfl ras ?_ | (refine ah_pureW 8 (o := ⟨_, _, _, _, _, _⟩) hT rfl rfl rfl rfl rfl rfl rfl rfl ras ?_; apply Exists.intro; refine And.intro ?_ ?_)) | (refine ah_not 2 rfl ?_; refine ah_lone 2 (o := ⟨_, _, _, _, _, _⟩) dk rfl ?_) | (refine ah_not 5 rfl ?_; refine ah_lone 5 (o := ⟨_, _, _, _, _, _⟩) dk rfl ?_) | (refine ah_not 7 rfl ?_; refine ah_lone 7 (o := ⟨_, _, _, _, _, _⟩) dk rfl ?_) | (refine ah_not 9 rfl ?_; refine ah_lone 9 (o := ⟨_, _, _, _, _, _⟩) dk rfl ?_) | refine ah_over0 dk ?_) | ((with_reducible refine at_exit ?_); refine qx_held (fun w hm => hm) ?_) | ((with_reducible refine at_op ?_); first | ((with_reducible refine at_load ?_); first | refine sx_loadE rfl pc gv ?_ | refine sx_loadWE rfl pc gl ?_) | ((with_reducible refine at_stores ?_); first | refine sx_stval _ vf ?_ | (apply sx_store rfl rfl rfl rfl; (repeat (first | exact set_z rfl | apply set_succ))) | (refine sx_rot rot3 ?_; (apply sx_store rfl rfl rfl rfl; (repeat (first | exact set_z rfl | apply set_succ)))) | (refine sx_rot rot3 ?_; refine sx_storeW rfl rfl rfl rfl ?_)) | refine sx_fieldAddr rfl ?_ | (refine sx_box rfl ?_; intro b) | (refine sx_alloc ?_; intro b)) | refine sx_nil ?_ | ((with_reducible refine at_code ?_); first | refine cx_seq ?_ | refine cx_region ?_ | refine cx_ret ?_) | ((with_reducible refine at_exit ?_); first | refine qx_then ?_ | exact qx_isF))
  all_goals
    refine qx_retC1 0 [ct ++ cf] rfl rfl rfl rfl ⟨FB, fd, TB, td, _, rfl, rfl, fun w' hw => ⟨(hof.sees (fun e he => hw e (List.mem_append_right _ he))).1, (hot.sees (fun e he => hw e (List.mem_append_left _ he))).1⟩⟩ (fun w hm => ?_)
    exact (hm.picks [2, 2]).perm (by simp [Port.picks])
theorem diff_sameR (ra rb : Ru) {w : World} (ha : ra.ok w) (hb : rb.ok w) (h1 : ra.fl ≤ 4611686018427387904) (h2 : ra.tl ≤ 4611686018427387904) :
    Calls Tryd.prog 38 #[.agg ra.row.toArray, .agg rb.row.toArray] w (Ret w [] (isV (.bool (decide (ra.con = rb.con))))) :=
  diff_same ra.ps ra.qk ra.kp rb.ps rb.qk rb.kp ra.way ra.kind ra.sa ra.sl ra.da ra.dl rb.way rb.kind rb.sa rb.sl rb.da rb.dl ha.1.1 ha.1.2 ha.2.1 ha.2.2 hb.1.1 hb.1.2 hb.2.1 hb.2.2 h1 h2
theorem diff_cloneR (r : Ru) {w : World} (h : r.ok w) (h1 : r.lf.length ≤ 100000) (h2 : r.lt.length ≤ 100000) :
    Calls Tryd.prog 39 #[.agg r.row.toArray] w (Ret w [] (fun v L => ∃ (r' : Ru) (c : Ch), v = .agg r'.row.toArray ∧ L = [c] ∧ r'.con = r.con ∧ ∀ w', Has w' c → r'.ok w')) :=
  (diff_clone r.ps r.qk r.kp r.way r.kind r.sa r.sl r.da r.dl h.1.1 h.1.2 h.2.1 h.2.2 h1 h2).mono fun e w' hR => hR.mono fun v L ⟨FB, fd, TB, td, c, hv, hL, hok⟩ =>
    ⟨⟨r.ps, r.qk, r.kp, r.way, r.kind, r.sa, r.sl, r.da, r.dl, FB, r.fl, fd, TB, r.tl, td, r.lf, r.lt⟩, c, hv, hL, rfl, fun w' hw => ⟨⟨(hok w' hw).1, h.1.2⟩, (hok w' hw).2, h.2.2⟩⟩
end Go.Proofs.YtoelbnhjamddgaaDoor
